/- Parts of the proof: Cod0 Cod1. -/
import Derived.Test.YtikpobembcgbfaaGreatDoorQ20
import Derived.Test.YtikpobembcgbfaaGreatDoorQ14
import Derived.Laws.BytesArg
import Derived.Laws.Externs
set_option linter.unusedVariables false
set_option linter.unusedSimpArgs false
set_option maxRecDepth 100000
set_option maxHeartbeats 40000000
namespace Go.Proofs.YtikpobembcgbfaaGreatDoor
open Go.RowKit Go.Lib
attribute [go_sem] Tryz.results116
theorem conv_by {w : World} {u : Value} {l : List UInt8} (hu : BY w u l) : (convert 22 9 u).run Tryz.prog w = .ok (.string (strOfNums (uI l))) w := by
 unfold BY at hu
 generalize uI l = zs at *
 by_cases hz : zs = []
 · subst hz
   obtain ⟨A, cap, rfl⟩ := hu.form
   cases A with
   | none => exact run_convert_bytes_nil (P := Tryz.prog) w 22 5 Tryz.underlying22 Tryz.underlying5 _ _ 9 Tryz.underlying9
   | some a => exact run_convert_bytes_back (P := Tryz.prog) w 22 9 5 a cap [] Tryz.underlying22 Tryz.underlying5 Tryz.underlying9 (fun j hj => by simp at hj)
 · obtain ⟨b, off, cap, rfl, h1, h2, h3, h4⟩ := hu.some hz
   exact run_convert_bytes_arg (P := Tryz.prog) w 22 5 Tryz.underlying22 Tryz.underlying5 b off zs.length cap zs rfl h4 9 Tryz.underlying9
theorem strN_size (zs : List Int) : (strOfNums zs).size = zs.length := by
 unfold strOfNums; simp [ByteArray.size]
def GiveBo (w : World) (e : Ending) (w' : World) : Prop := ∃ d, e = .returned (.bool d) ∧ w = w'
def GiveZk (w : World) (e : Ending) (w' : World) : Prop := ∃ k : Int, e = .returned (.int .i64 k) ∧ Below w.heap.size w w'
theorem haspre_q (s : ByteArray) (a b : UInt8) (w : World) : Calls Tryz.prog 143 #[.string s, .string ⟨#[a, b]⟩] w (GiveBo w) := by
 by_cases h : 2 ≤ s.size
 · have g1 : ¬ (s.size : Int) < 2 := by omega
   clear h
   go_enter Tryz.func143, Tryz.ntmps143
   go_wp2_with fail
   go_ret
   exact ⟨_, rfl, rfl⟩
 · have g1 : (s.size : Int) < 2 := by omega
   clear h
   go_enter Tryz.func143, Tryz.ntmps143
   go_wp2_with fail
   go_ret
   exact ⟨_, rfl, rfl⟩
theorem haspre (s : ByteArray) (a b : UInt8) (w : World) : Calls Tryz.prog 102 #[.string s, .string ⟨#[a, b]⟩] w (GiveBo w) := by
 have C := Hi (haspre_q s a b w)
 go_enter Tryz.func102, Tryz.ntmps102
 go_wp2_with fail
 refine C.out.mono ?_
 rintro e w1 ⟨d, rfl, rfl⟩
 go_wp2_with fail
 go_ret
 exact ⟨_, rfl, rfl⟩
theorem ckind_few (n : Nat) (A : Option Addr) (cap : Nat) (s : ByteArray) (w : World) (hs : (s.size : Int) = n) (h : (n : Int) < 30) (hn : n ≤ cap) (hc : (convert 22 9 (.slice A n cap)).run Tryz.prog w = .ok (.string s) w) :
 Calls Tryz.prog 172 #[.slice A n cap] w (GiveZk w) := by
 have h0 : (n : Int) ≤ 30 := by omega
 have H1 := Hi (fun w => haspre s 80 53 w)
 have H2 := Hi (fun w => haspre s 80 54 w)
 have H3 := Hi (fun w => haspre s 66 77 w)
 go_enter Tryz.func172, Tryz.ntmps172
 go_wp2_with (rw [hc])
 refine H1.out w |>.mono ?_
 rintro e w1 ⟨d1, rfl, rfl⟩
 cases d1 with
 | true =>
   go_wp2_with fail
   go_ret
   exact ⟨_, rfl, Below.refl _ _⟩
 | false =>
 go_wp2_with fail
 refine H2.out w |>.mono ?_
 rintro e w1 ⟨d1, rfl, rfl⟩
 cases d1 with
 | true =>
   go_wp2_with fail
   go_ret
   exact ⟨_, rfl, Below.refl _ _⟩
 | false =>
 go_wp2_with fail
 refine H3.out w |>.mono ?_
 rintro e w1 ⟨d1, rfl, rfl⟩
 cases d1 with
 | false =>
   go_wp2_with fail
   go_ret
   exact ⟨_, rfl, Below.refl _ _⟩
 | true =>
 go_wp2_with fail
 go_ret
 exact ⟨_, rfl, Below.refl _ _⟩
theorem ckind_30 (A : Option Addr) (cap : Nat) (s : ByteArray) (w : World) (hs : s.size = 30) (hn : 30 ≤ cap) (hc : (convert 22 9 (.slice A 30 cap)).run Tryz.prog w = .ok (.string s) w) :
 Calls Tryz.prog 172 #[.slice A 30 cap] w (GiveZk w) := by
 have H1 := Hi (fun w => haspre s 80 53 w)
 have H2 := Hi (fun w => haspre s 80 54 w)
 have H3 := Hi (fun w => haspre s 66 77 w)
 go_enter Tryz.func172, Tryz.ntmps172
 go_wp2_with (rw [hc])
 refine H1.out w |>.mono ?_
 rintro e w1 ⟨d1, rfl, rfl⟩
 cases d1 with
 | true =>
   go_wp2_with fail
   go_ret
   exact ⟨_, rfl, Below.refl _ _⟩
 | false =>
 go_wp2_with fail
 refine H2.out w |>.mono ?_
 rintro e w1 ⟨d1, rfl, rfl⟩
 cases d1 with
 | true =>
   go_wp2_with fail
   go_ret
   exact ⟨_, rfl, Below.refl _ _⟩
 | false =>
 go_wp2_with fail
 refine H3.out w |>.mono ?_
 rintro e w1 ⟨d1, rfl, rfl⟩
 cases d1 with
 | false =>
   go_wp2_with fail
   go_ret
   exact ⟨_, rfl, Below.refl _ _⟩
 | true =>
 go_wp2_with fail
 all_goals (go_ret; exact ⟨_, rfl, Below.refl _ _⟩)
theorem ckind_many (n : Nat) (A : Option Addr) (cap : Nat) (s : ByteArray) (w : World) (hs : s.size = 30) (h : 30 < (n : Int)) (hn : n ≤ cap) (hc : (convert 22 9 (.slice A 30 cap)).run Tryz.prog w = .ok (.string s) w) :
 Calls Tryz.prog 172 #[.slice A n cap] w (GiveZk w) := by
 have H1 := Hi (fun w => haspre s 80 53 w)
 have H2 := Hi (fun w => haspre s 80 54 w)
 have H3 := Hi (fun w => haspre s 66 77 w)
 go_enter Tryz.func172, Tryz.ntmps172
 go_wp2_with (rw [hc])
 refine H1.out w |>.mono ?_
 rintro e w1 ⟨d1, rfl, rfl⟩
 cases d1 with
 | true =>
   go_wp2_with fail
   go_ret
   exact ⟨_, rfl, Below.refl _ _⟩
 | false =>
 go_wp2_with fail
 refine H2.out w |>.mono ?_
 rintro e w1 ⟨d1, rfl, rfl⟩
 cases d1 with
 | true =>
   go_wp2_with fail
   go_ret
   exact ⟨_, rfl, Below.refl _ _⟩
 | false =>
 go_wp2_with fail
 refine H3.out w |>.mono ?_
 rintro e w1 ⟨d1, rfl, rfl⟩
 cases d1 with
 | false =>
   go_wp2_with fail
   go_ret
   exact ⟨_, rfl, Below.refl _ _⟩
 | true =>
 go_wp2_with fail
 all_goals (go_ret; exact ⟨_, rfl, Below.refl _ _⟩)
theorem ckind (v : Value) (l : List UInt8) (w : World) (h : BY w v l) : Calls Tryz.prog 172 #[v] w (GiveZk w) := by
 obtain ⟨A, cap, rfl⟩ := h.form
 by_cases hn : l.length < 30
 · have hc := conv_by h
   have hcap : l.length ≤ cap := by
    cases l with
    | nil => exact Nat.zero_le _
    | cons x t =>
      obtain ⟨b, off, c, e, h1, -⟩ := h.some (by simp)
      cases e
      exact h1
   exact ckind_few l.length A cap _ w (by rw [strN_size, uI_len]) (by omega) hcap hc
 · have hne : l ≠ [] := by rintro rfl; simp at hn
   obtain ⟨b, off, c, e, h1, h2, -⟩ := h.some hne
   cases e
   have hp := by_part h 0 30 (by omega) (by omega) (cap' := cap) (by omega) h2
   have hc := conv_by hp
   rw [show off + 0 = off from rfl] at hc
   have hz : (strOfNums (uI ((l.drop 0).take (30 - 0)))).size = 30 := by
    rw [strN_size, uI_len, List.length_take]
    simp; omega
   by_cases h3 : l.length = 30
   · rw [h3] at h1 ⊢
     exact ckind_30 _ cap _ w hz h1 hc
   · exact ckind_many l.length _ cap _ w hz (by omega) h1 hc
/-- What codec.Read gives: a kind besides. -/
def GiveCod (R : Nat × Nat × Nat × Nat × List UInt8) (w : World) (e : Ending) (w' : World) : Prop :=
 ∃ (X Y Z : Int) (v : Value) (k : Int), e = .returned (.tuple #[imv X Y Z v, .int .i64 k, .int .i64 (R.1 : Int)]) ∧ Below w.heap.size w w' ∧ (∃ A n cap, v = .slice A n cap) ∧ (R.1 ≠ 0 → X = 0 ∧ Y = 0 ∧ Z = 0 ∧ v = .slice none 0 0) ∧
   (R.1 = 0 → X = (R.2.1 : Int) ∧ Y = (R.2.2.1 : Int) ∧ Z = (R.2.2.2.1 : Int) ∧ w'.ownsRow w.heap.size U8T 1 v R.2.2.2.2.length (uV R.2.2.2.2))
theorem cread_none (n cap : Nat) (A : Option Addr) (w : World) (hn : n = 0) : Calls Tryz.prog 116 #[.slice A n cap] w (GiveCod (20, 0, 0, 0, []) w) := by
 subst hn
 go_enter Tryz.func116, Tryz.ntmps116
 go_upto_region 1 with fail
 obtain ⟨w0, e, BB, q0⟩ := en1 w #[.int .i64 0, .int .i64 0, .int .i64 0, .slice none 0 0] IT
 rw [e]; clear e
 obtain ⟨q1, q2, q3, q4, q5, q6, q7, q8⟩ := reads4 q0.out
 have q9 := q0.out.lt
 go_wp2_with fail
 clear q1 q2 q3 q4 q5 q6 q7 q8 q9
 have F := st4 q0 BB 0 (.int .i64 0) 1 (.int .i64 0) 2 (.int .i64 0) 3 (.slice none 0 0)
 clear q0 BB
 obtain ⟨w1, e, q0, BB, F⟩ := F
 rw [e]; clear e
 clear F
 go_wp2_with fail
 obtain ⟨q1, q2, q3, q4, q5, q6, q7, q8⟩ := reads4 q0.out
 have q9 := q0.out.lt
 refine bret (.tuple #[imv 0 0 0 (.slice none 0 0), .int .i64 0, .int .i64 20]) ?_
 exact ⟨0, 0, 0, _, _, rfl, BB.out, ⟨_, _, _, rfl⟩, fun _ => ⟨rfl, rfl, rfl, rfl⟩, fun e => absurd e (by simp)⟩
theorem cread_other (n cap : Nat) (b off : Nat) (x : Nat) (w : World) (hn : ((n : Int) == 0) = false) (hp : (0 : Int) < n) (h1 : ((x : Int) == 80) = false) (h2 : ((x : Int) == 66) = false)
 (hx : Hid (∀ w1, Below w.heap.size w w1 → w1.cell? ⟨b, off, none⟩ = some (.int .u8 (x : Int)))) : Calls Tryz.prog 116 #[.slice (some ⟨b, off, none⟩) n cap] w (GiveCod (21, 0, 0, 0, []) w) := by
 go_enter Tryz.func116, Tryz.ntmps116
 go_upto_region 1 with fail
 obtain ⟨w0, e, BB, q0⟩ := en1 w #[.int .i64 0, .int .i64 0, .int .i64 0, .slice none 0 0] IT
 rw [e]; clear e
 go_upto_region 4 with fail
 have qa := Hi (And.intro BB.out.size (And.intro q0.out.lt (True.intro)))
 obtain ⟨w1, g_m, e1, e2, hb, qb⟩ := bx w0 #[.int .i64 0, .int .i64 0, .int .i64 0, .slice none 0 0] IT
 rw [e2] at qa; rw [e1, e2]
 replace q0 := kp q0 hb
 replace BB := nx BB hb
 clear hb e1 e2
 have hx := hx.out _ BB.out
 obtain ⟨q1, q2, q3, q4, q5, q6, q7, q8⟩ := reads4 q0.out
 have q9 := q0.out.lt
 go_wp2_with fail
 clear q1 q2 q3 q4 q5 q6 q7 q8 q9
 have F := st4 q0 BB 0 (.int .i64 0) 1 (.int .i64 0) 2 (.int .i64 0) 3 (.slice none 0 0)
 clear q0 BB
 obtain ⟨w2, e, q0, BB, F⟩ := F
 rw [e]; clear e
 replace qb := F _ _ _ (by have dd_m := qa.out; omega) qb
 clear F
 go_wp2_with fail
 obtain ⟨q1, q2, q3, q4, q5, q6, q7, q8⟩ := reads4 q0.out
 have q9 := q0.out.lt
 refine bret (.tuple #[imv 0 0 0 (.slice none 0 0), .int .i64 0, .int .i64 21]) ?_
 exact ⟨0, 0, 0, _, _, rfl, BB.out, ⟨_, _, _, rfl⟩, fun _ => ⟨rfl, rfl, rfl, rfl⟩, fun e => absurd e (by simp)⟩
attribute [go_sem] Tryz.results116
/-- The two ways a reading ends. -/
def GiveNo (r : Nat) (w : World) (e : Ending) (w' : World) : Prop := e = .returned (.tuple #[imv 0 0 0 (.slice none 0 0), .int .i64 (r : Int)]) ∧ Below w.heap.size w w'
def GiveOk (x y z : Nat) (p : List UInt8) (w : World) (e : Ending) (w' : World) : Prop := ∃ v, e = .returned (.tuple #[imv x y z v, .int .i64 0]) ∧ Below w.heap.size w w' ∧ w'.ownsRow w.heap.size U8T 1 v p.length (uV p)
theorem give_no {R : Nat × Nat × Nat × Nat × List UInt8} {w : World} {e : Ending} {w' : World} (h0 : R.1 ≠ 0) (h : GiveImg R w e w') : GiveNo R.1 w e w' := by
 obtain ⟨X, Y, Z, v, rfl, hb, -, hk, -⟩ := h
 obtain ⟨rfl, rfl, rfl, rfl⟩ := hk h0
 exact ⟨rfl, hb⟩
theorem give_ok {R : Nat × Nat × Nat × Nat × List UInt8} {w : World} {e : Ending} {w' : World} (h0 : R.1 = 0) (h : GiveImg R w e w') : GiveOk R.2.1 R.2.2.1 R.2.2.2.1 R.2.2.2.2 w e w' := by
 obtain ⟨X, Y, Z, v, rfl, hb, -, -, hk⟩ := h
 obtain ⟨rfl, rfl, rfl, ho⟩ := hk h0
 exact ⟨v, by rw [h0]; rfl, hb, ho⟩
def GiveCodOk (x y z : Nat) (p : List UInt8) (w : World) (e : Ending) (w' : World) : Prop := ∃ v k, e = .returned (.tuple #[imv x y z v, .int .i64 k, .int .i64 0]) ∧ Below w.heap.size w w' ∧ w'.ownsRow w.heap.size U8T 1 v p.length (uV p)
theorem cread_pnm_bad (r : Nat) (n cap : Nat) (b off : Nat) (w : World) (hn : ((n : Int) == 0) = false) (hp : (0 : Int) < n) (h0 : r ≠ 0)
 (C : Hid (∀ w1, Below w.heap.size w w1 → Calls Tryz.prog 170 #[.slice (some ⟨b, off, none⟩) n cap] w1 (GiveNo r w1)))
 (hx : Hid (∀ w1, Below w.heap.size w w1 → w1.cell? ⟨b, off, none⟩ = some (.int .u8 80))) : Calls Tryz.prog 116 #[.slice (some ⟨b, off, none⟩) n cap] w (GiveCod (r, 0, 0, 0, []) w) := by
 have q1 := neq_t h0
 replace h0 := Hi h0
 go_enter Tryz.func116, Tryz.ntmps116
 go_upto_region 1 with fail
 obtain ⟨w0, e, BB, q0⟩ := en1 w #[.int .i64 0, .int .i64 0, .int .i64 0, .slice none 0 0] IT
 rw [e]; clear e
 go_upto_region 4 with fail
 have q3 := Hi (And.intro BB.out.size (And.intro q0.out.lt (True.intro)))
 obtain ⟨w1, q4, e1, e2, hb, q2⟩ := bx w0 #[.int .i64 0, .int .i64 0, .int .i64 0, .slice none 0 0] IT
 rw [e2] at q3; rw [e1, e2]
 replace q0 := kp q0 hb
 replace BB := nx BB hb
 clear hb e1 e2
 have hx := hx.out _ BB.out
 go_wp2_with fail
 refine (C.out _ BB.out).mono ?_
 rintro e w2 ⟨rfl, hb⟩
 replace q0 := kp q0 hb
 replace q2 := kp q2 hb
 replace BB := nx BB hb
 clear hb
 obtain ⟨qf, qg, qh, qi, qj, qk, ql, qm⟩ := reads4 q2.out
 have qn := q2.out.lt
 go_upto_region 10 with fail
 clear qf qg qh qi qj qk ql qm qn
 have F := st4 q2 BB 0 (.int .i64 0) 1 (.int .i64 0) 2 (.int .i64 0) 3 (.slice none 0 0) (hg := by have dd := q3.out; omega)
 clear q2 BB
 obtain ⟨w3, e, q2, BB, F⟩ := F
 rw [e]; clear e
 replace q0 := F _ _ _ (by have dd_m := q3.out; omega) q0
 clear F
 obtain ⟨q6, q7, q8, q9, qa, qb, qc, qd⟩ := reads4 q0.out
 have qe := q0.out.lt
 go_wp2_with fail
 clear q6 q7 q8 q9 qa qb qc qd qe
 have F := st4 q0 BB 0 (.int .i64 0) 1 (.int .i64 0) 2 (.int .i64 0) 3 (.slice none 0 0)
 clear q0 BB
 obtain ⟨w4, e, q0, BB, F⟩ := F
 rw [e]; clear e
 replace q2 := F _ _ _ (by have dd_m := q3.out; omega) q2
 clear F
 go_wp2_with fail
 obtain ⟨q6, q7, q8, q9, qa, qb, qc, qd⟩ := reads4 q0.out
 have qe := q0.out.lt
 refine bret (.tuple #[imv 0 0 0 (.slice none 0 0), .int .i64 0, .int .i64 (r : Int)]) ?_
 exact ⟨0, 0, 0, _, _, rfl, BB.out, ⟨_, _, _, rfl⟩, fun _ => ⟨rfl, rfl, rfl, rfl⟩, fun e => absurd e h0.out⟩
theorem cread_pnm (x y z : Nat) (p : List UInt8) (m : Nat) (hm : Hid (m = p.length)) (n cap : Nat) (b off : Nat) (w : World) (hn : ((n : Int) == 0) = false) (hp : (0 : Int) < n)
 (CK : Hid (∀ w1, Below w.heap.size w w1 → Calls Tryz.prog 172 #[.slice (some ⟨b, off, none⟩) n cap] w1 (GiveZk w1)))
 (C : Hid (∀ w1, Below w.heap.size w w1 → Calls Tryz.prog 170 #[.slice (some ⟨b, off, none⟩) n cap] w1 (GiveOk x y z p w1)))
 (hx : Hid (∀ w1, Below w.heap.size w w1 → w1.cell? ⟨b, off, none⟩ = some (.int .u8 80))) : Calls Tryz.prog 116 #[.slice (some ⟨b, off, none⟩) n cap] w (GiveCodOk x y z p w) := by
 go_enter Tryz.func116, Tryz.ntmps116
 go_upto_region 1 with fail
 obtain ⟨w0, e, BB, q0⟩ := en1 w #[.int .i64 0, .int .i64 0, .int .i64 0, .slice none 0 0] IT
 rw [e]; clear e
 go_upto_region 4 with fail
 have q3 := Hi (And.intro BB.out.size (And.intro q0.out.lt (True.intro)))
 obtain ⟨w1, q4, e1, e2, hb, q2⟩ := bx w0 #[.int .i64 0, .int .i64 0, .int .i64 0, .slice none 0 0] IT
 rw [e2] at q3; rw [e1, e2]
 replace q0 := kp q0 hb
 replace BB := nx BB hb
 clear hb e1 e2
 have hx := hx.out _ BB.out
 have nm := Hi (show w.heap.size < q4 ∧ q4 < w1.heap.size from ⟨q3.out.2.1, q2.out.lt⟩)
 have C2 := Hi (C.out _ BB.out)
 have hbase := Hi BB.out.size
 go_wp2_with fail
 refine (C2.out).mono ?_
 rintro e w2 ⟨s, rfl, hb, hv⟩
 replace q0 := kp q0 hb
 replace q2 := kp q2 hb
 replace BB := nx BB hb
 clear hb
 rw [← hm.out] at hv
 obtain ⟨A2, cap2, rfl⟩ := own_form hv
 have nv := fun b (e : (Value.slice A2 m cap2).ownBlock = some b) => (hv.lt b e).1
 have nv_m := Hi (show (Value.slice A2 m cap2).ownBlock ≠ some q4 from fun e => by have := nv _ e; have := nm.out; omega)
 have nv_res := Hi (show (Value.slice A2 m cap2).ownBlock ≠ some w.heap.size from fun e => by have := nv _ e; have := nm.out; omega)
 replace hv := Hi (own_base hv hbase.out)
 clear nv
 obtain ⟨qf, qg, qh, qi, qj, qk, ql, qm⟩ := reads4 q2.out
 have qn := q2.out.lt
 go_wp2_with fail
 clear qf qg qh qi qj qk ql qm qn
 replace q0 := Hi ((((q0.out.far (p := q4) (by have dd_m := q3.out; omega) 0 (.int .i64 (x : Int))).far (p := q4) (by have dd_m := q3.out; omega) 1 (.int .i64 (y : Int))).far (p := q4) (by have dd_m := q3.out; omega) 2 (.int .i64 (z : Int))).far (p := q4) (by have dd_m := q3.out; omega) 3 (.slice A2 m cap2))
 replace q2 := Hi ((((q2.out.sn 0 (.int .i64 (x : Int))).sn 1 (.int .i64 (y : Int))).sn 2 (.int .i64 (z : Int))).sn 3 (.slice A2 m cap2))
 replace BB := Hi (below_set (below_set (below_set (below_set BB.out (b := q4) (o := 0) (by have dd := q3.out; omega) (.int .i64 (x : Int))) (b := q4) (o := 1) (by have dd := q3.out; omega) (.int .i64 (y : Int))) (b := q4) (o := 2) (by have dd := q3.out; omega) (.int .i64 (z : Int))) (b := q4) (o := 3) (by have dd := q3.out; omega) (.slice A2 m cap2))
 replace hv := Hi (own_store nv_m.out (own_store nv_m.out (own_store nv_m.out (own_store nv_m.out hv.out 0 (.int .i64 (x : Int))) 1 (.int .i64 (y : Int))) 2 (.int .i64 (z : Int))) 3 (.slice A2 m cap2))
 generalize ((((w2.setCell ⟨q4, 0, none⟩ (.int .i64 (x : Int))).setCell ⟨q4, 1, none⟩ (.int .i64 (y : Int))).setCell ⟨q4, 2, none⟩ (.int .i64 (z : Int))).setCell ⟨q4, 3, none⟩ (.slice A2 m cap2)) = w3 at *
 go_wp2_with fail
 have CK := Hi (fun w9 (hb : Below w3.heap.size w3 w9) => CK.out w9 (below_next BB.out hb))
 have KK := Hi fun w9 (h : Below w3.heap.size w3 w9) => And.intro (cells4 (q2.out.keep h)) (cells4 (q0.out.keep h))
 have KD := kd KK
 refine g_bg KK 3 ?_
 refine g_tk 0 ?_
 refine g_tk 1 ?_
 refine g_sc 2 (fun K hK => ?_)
 go_simp
 go_at_call 172
 refine (CK.out _ ?_).mono ?_
 · repeat (first | with_reducible exact Below.refl _ _ | with_reducible apply below_drew | with_reducible apply below_new)
 rintro e w4 ⟨k, rfl, hb⟩
 have q5 := rn (w0 := w3) hb
 have qo := KK.out _ q5.out
 obtain ⟨qp, qq, qr, qs, qt, qu, qv, qw⟩ := reads4 (q0.out.keep q5.out)
 have qx := (q0.out.keep q5.out).lt
 clear hb
 refine hK.out _ _ (fun _ => qo) (fun hHeld => ?_)
 replace hHeld := hHeld (by decide)
 clear hK
 refine g_pt ?_
 refine g_ts 3 ?_
 refine g_ts 4 ?_
 refine g_ts 5 ?_
 refine g_dn ?_
 clear KK KD qo
 replace q0 := kp q0 q5.out
 replace q2 := kp q2 q5.out
 replace hv := Hi (own_below hv.out q5.out)
 replace BB := nx BB q5.out
 clear q5
 replace q0 := Hi ((((q0.out.sn 0 (.int .i64 (x : Int))).sn 1 (.int .i64 (y : Int))).sn 2 (.int .i64 (z : Int))).sn 3 (.slice A2 m cap2))
 replace q2 := Hi ((((q2.out.far (p := w.heap.size) (by have dd_m := q3.out; omega) 0 (.int .i64 (x : Int))).far (p := w.heap.size) (by have dd_m := q3.out; omega) 1 (.int .i64 (y : Int))).far (p := w.heap.size) (by have dd_m := q3.out; omega) 2 (.int .i64 (z : Int))).far (p := w.heap.size) (by have dd_m := q3.out; omega) 3 (.slice A2 m cap2))
 replace BB := Hi (below_set (below_set (below_set (below_set BB.out (b := w.heap.size) (o := 0) (by omega) (.int .i64 (x : Int))) (b := w.heap.size) (o := 1) (by omega) (.int .i64 (y : Int))) (b := w.heap.size) (o := 2) (by omega) (.int .i64 (z : Int))) (b := w.heap.size) (o := 3) (by omega) (.slice A2 m cap2))
 replace hv := Hi (own_store nv_res.out (own_store nv_res.out (own_store nv_res.out (own_store nv_res.out hv.out 0 (.int .i64 (x : Int))) 1 (.int .i64 (y : Int))) 2 (.int .i64 (z : Int))) 3 (.slice A2 m cap2))
 generalize ((((w4.setCell ⟨w.heap.size, 0, none⟩ (.int .i64 (x : Int))).setCell ⟨w.heap.size, 1, none⟩ (.int .i64 (y : Int))).setCell ⟨w.heap.size, 2, none⟩ (.int .i64 (z : Int))).setCell ⟨w.heap.size, 3, none⟩ (.slice A2 m cap2)) = w5 at *
 go_wp2_with fail
 obtain ⟨q6, q7, q8, q9, qa, qb, qc, qd⟩ := reads4 q0.out
 have qe := q0.out.lt
 refine bret (.tuple #[imv (x : Int) (y : Int) (z : Int) (.slice A2 m cap2), .int .i64 k, .int .i64 0]) ?_
 refine ⟨_, _, rfl, BB.out, ?_⟩
 rw [← hm.out]
 exact hv.out
theorem cread_bmp_bad (r : Nat) (n cap : Nat) (b off : Nat) (w : World) (hn : ((n : Int) == 0) = false) (hp : (0 : Int) < n) (h0 : r ≠ 0)
 (C : Hid (∀ w1, Below w.heap.size w w1 → Calls Tryz.prog 171 #[.slice (some ⟨b, off, none⟩) n cap] w1 (GiveNo r w1)))
 (hx : Hid (∀ w1, Below w.heap.size w w1 → w1.cell? ⟨b, off, none⟩ = some (.int .u8 66))) : Calls Tryz.prog 116 #[.slice (some ⟨b, off, none⟩) n cap] w (GiveCod (r, 0, 0, 0, []) w) := by
 have q1 := neq_t h0
 replace h0 := Hi h0
 go_enter Tryz.func116, Tryz.ntmps116
 go_upto_region 1 with fail
 obtain ⟨w0, e, BB, q0⟩ := en1 w #[.int .i64 0, .int .i64 0, .int .i64 0, .slice none 0 0] IT
 rw [e]; clear e
 go_upto_region 4 with fail
 have q3 := Hi (And.intro BB.out.size (And.intro q0.out.lt (True.intro)))
 obtain ⟨w1, q4, e1, e2, hb, q2⟩ := bx w0 #[.int .i64 0, .int .i64 0, .int .i64 0, .slice none 0 0] IT
 rw [e2] at q3; rw [e1, e2]
 replace q0 := kp q0 hb
 replace BB := nx BB hb
 clear hb e1 e2
 have hx := hx.out _ BB.out
 go_wp2_with fail
 refine (C.out _ BB.out).mono ?_
 rintro e w2 ⟨rfl, hb⟩
 replace q0 := kp q0 hb
 replace q2 := kp q2 hb
 replace BB := nx BB hb
 clear hb
 obtain ⟨qf, qg, qh, qi, qj, qk, ql, qm⟩ := reads4 q2.out
 have qn := q2.out.lt
 go_upto_region 10 with fail
 clear qf qg qh qi qj qk ql qm qn
 have F := st4 q2 BB 0 (.int .i64 0) 1 (.int .i64 0) 2 (.int .i64 0) 3 (.slice none 0 0) (hg := by have dd := q3.out; omega)
 clear q2 BB
 obtain ⟨w3, e, q2, BB, F⟩ := F
 rw [e]; clear e
 replace q0 := F _ _ _ (by have dd_m := q3.out; omega) q0
 clear F
 obtain ⟨q6, q7, q8, q9, qa, qb, qc, qd⟩ := reads4 q0.out
 have qe := q0.out.lt
 go_wp2_with fail
 clear q6 q7 q8 q9 qa qb qc qd qe
 have F := st4 q0 BB 0 (.int .i64 0) 1 (.int .i64 0) 2 (.int .i64 0) 3 (.slice none 0 0)
 clear q0 BB
 obtain ⟨w4, e, q0, BB, F⟩ := F
 rw [e]; clear e
 replace q2 := F _ _ _ (by have dd_m := q3.out; omega) q2
 clear F
 go_wp2_with fail
 obtain ⟨q6, q7, q8, q9, qa, qb, qc, qd⟩ := reads4 q0.out
 have qe := q0.out.lt
 refine bret (.tuple #[imv 0 0 0 (.slice none 0 0), .int .i64 0, .int .i64 (r : Int)]) ?_
 exact ⟨0, 0, 0, _, _, rfl, BB.out, ⟨_, _, _, rfl⟩, fun _ => ⟨rfl, rfl, rfl, rfl⟩, fun e => absurd e h0.out⟩
theorem cread_bmp (x y z : Nat) (p : List UInt8) (m : Nat) (hm : Hid (m = p.length)) (n cap : Nat) (b off : Nat) (w : World) (hn : ((n : Int) == 0) = false) (hp : (0 : Int) < n)
 (CK : Hid (∀ w1, Below w.heap.size w w1 → Calls Tryz.prog 172 #[.slice (some ⟨b, off, none⟩) n cap] w1 (GiveZk w1)))
 (C : Hid (∀ w1, Below w.heap.size w w1 → Calls Tryz.prog 171 #[.slice (some ⟨b, off, none⟩) n cap] w1 (GiveOk x y z p w1)))
 (hx : Hid (∀ w1, Below w.heap.size w w1 → w1.cell? ⟨b, off, none⟩ = some (.int .u8 66))) : Calls Tryz.prog 116 #[.slice (some ⟨b, off, none⟩) n cap] w (GiveCodOk x y z p w) := by
 go_enter Tryz.func116, Tryz.ntmps116
 go_upto_region 1 with fail
 obtain ⟨w0, e, BB, q0⟩ := en1 w #[.int .i64 0, .int .i64 0, .int .i64 0, .slice none 0 0] IT
 rw [e]; clear e
 go_upto_region 4 with fail
 have q3 := Hi (And.intro BB.out.size (And.intro q0.out.lt (True.intro)))
 obtain ⟨w1, q4, e1, e2, hb, q2⟩ := bx w0 #[.int .i64 0, .int .i64 0, .int .i64 0, .slice none 0 0] IT
 rw [e2] at q3; rw [e1, e2]
 replace q0 := kp q0 hb
 replace BB := nx BB hb
 clear hb e1 e2
 have hx := hx.out _ BB.out
 have nm := Hi (show w.heap.size < q4 ∧ q4 < w1.heap.size from ⟨q3.out.2.1, q2.out.lt⟩)
 have C2 := Hi (C.out _ BB.out)
 have hbase := Hi BB.out.size
 go_wp2_with fail
 refine (C2.out).mono ?_
 rintro e w2 ⟨s, rfl, hb, hv⟩
 replace q0 := kp q0 hb
 replace q2 := kp q2 hb
 replace BB := nx BB hb
 clear hb
 rw [← hm.out] at hv
 obtain ⟨A2, cap2, rfl⟩ := own_form hv
 have nv := fun b (e : (Value.slice A2 m cap2).ownBlock = some b) => (hv.lt b e).1
 have nv_m := Hi (show (Value.slice A2 m cap2).ownBlock ≠ some q4 from fun e => by have := nv _ e; have := nm.out; omega)
 have nv_res := Hi (show (Value.slice A2 m cap2).ownBlock ≠ some w.heap.size from fun e => by have := nv _ e; have := nm.out; omega)
 replace hv := Hi (own_base hv hbase.out)
 clear nv
 obtain ⟨qf, qg, qh, qi, qj, qk, ql, qm⟩ := reads4 q2.out
 have qn := q2.out.lt
 go_wp2_with fail
 clear qf qg qh qi qj qk ql qm qn
 replace q0 := Hi ((((q0.out.far (p := q4) (by have dd_m := q3.out; omega) 0 (.int .i64 (x : Int))).far (p := q4) (by have dd_m := q3.out; omega) 1 (.int .i64 (y : Int))).far (p := q4) (by have dd_m := q3.out; omega) 2 (.int .i64 (z : Int))).far (p := q4) (by have dd_m := q3.out; omega) 3 (.slice A2 m cap2))
 replace q2 := Hi ((((q2.out.sn 0 (.int .i64 (x : Int))).sn 1 (.int .i64 (y : Int))).sn 2 (.int .i64 (z : Int))).sn 3 (.slice A2 m cap2))
 replace BB := Hi (below_set (below_set (below_set (below_set BB.out (b := q4) (o := 0) (by have dd := q3.out; omega) (.int .i64 (x : Int))) (b := q4) (o := 1) (by have dd := q3.out; omega) (.int .i64 (y : Int))) (b := q4) (o := 2) (by have dd := q3.out; omega) (.int .i64 (z : Int))) (b := q4) (o := 3) (by have dd := q3.out; omega) (.slice A2 m cap2))
 replace hv := Hi (own_store nv_m.out (own_store nv_m.out (own_store nv_m.out (own_store nv_m.out hv.out 0 (.int .i64 (x : Int))) 1 (.int .i64 (y : Int))) 2 (.int .i64 (z : Int))) 3 (.slice A2 m cap2))
 generalize ((((w2.setCell ⟨q4, 0, none⟩ (.int .i64 (x : Int))).setCell ⟨q4, 1, none⟩ (.int .i64 (y : Int))).setCell ⟨q4, 2, none⟩ (.int .i64 (z : Int))).setCell ⟨q4, 3, none⟩ (.slice A2 m cap2)) = w3 at *
 go_wp2_with fail
 have CK := Hi (fun w9 (hb : Below w3.heap.size w3 w9) => CK.out w9 (below_next BB.out hb))
 have KK := Hi fun w9 (h : Below w3.heap.size w3 w9) => And.intro (cells4 (q2.out.keep h)) (cells4 (q0.out.keep h))
 have KD := kd KK
 refine g_bg KK 3 ?_
 refine g_tk 0 ?_
 refine g_tk 1 ?_
 refine g_sc 2 (fun K hK => ?_)
 go_simp
 go_at_call 172
 refine (CK.out _ ?_).mono ?_
 · repeat (first | with_reducible exact Below.refl _ _ | with_reducible apply below_drew | with_reducible apply below_new)
 rintro e w4 ⟨k, rfl, hb⟩
 have q5 := rn (w0 := w3) hb
 have qo := KK.out _ q5.out
 obtain ⟨qp, qq, qr, qs, qt, qu, qv, qw⟩ := reads4 (q0.out.keep q5.out)
 have qx := (q0.out.keep q5.out).lt
 clear hb
 refine hK.out _ _ (fun _ => qo) (fun hHeld => ?_)
 replace hHeld := hHeld (by decide)
 clear hK
 refine g_pt ?_
 refine g_ts 3 ?_
 refine g_ts 4 ?_
 refine g_ts 5 ?_
 refine g_dn ?_
 clear KK KD qo
 replace q0 := kp q0 q5.out
 replace q2 := kp q2 q5.out
 replace hv := Hi (own_below hv.out q5.out)
 replace BB := nx BB q5.out
 clear q5
 replace q0 := Hi ((((q0.out.sn 0 (.int .i64 (x : Int))).sn 1 (.int .i64 (y : Int))).sn 2 (.int .i64 (z : Int))).sn 3 (.slice A2 m cap2))
 replace q2 := Hi ((((q2.out.far (p := w.heap.size) (by have dd_m := q3.out; omega) 0 (.int .i64 (x : Int))).far (p := w.heap.size) (by have dd_m := q3.out; omega) 1 (.int .i64 (y : Int))).far (p := w.heap.size) (by have dd_m := q3.out; omega) 2 (.int .i64 (z : Int))).far (p := w.heap.size) (by have dd_m := q3.out; omega) 3 (.slice A2 m cap2))
 replace BB := Hi (below_set (below_set (below_set (below_set BB.out (b := w.heap.size) (o := 0) (by omega) (.int .i64 (x : Int))) (b := w.heap.size) (o := 1) (by omega) (.int .i64 (y : Int))) (b := w.heap.size) (o := 2) (by omega) (.int .i64 (z : Int))) (b := w.heap.size) (o := 3) (by omega) (.slice A2 m cap2))
 replace hv := Hi (own_store nv_res.out (own_store nv_res.out (own_store nv_res.out (own_store nv_res.out hv.out 0 (.int .i64 (x : Int))) 1 (.int .i64 (y : Int))) 2 (.int .i64 (z : Int))) 3 (.slice A2 m cap2))
 generalize ((((w4.setCell ⟨w.heap.size, 0, none⟩ (.int .i64 (x : Int))).setCell ⟨w.heap.size, 1, none⟩ (.int .i64 (y : Int))).setCell ⟨w.heap.size, 2, none⟩ (.int .i64 (z : Int))).setCell ⟨w.heap.size, 3, none⟩ (.slice A2 m cap2)) = w5 at *
 go_wp2_with fail
 obtain ⟨q6, q7, q8, q9, qa, qb, qc, qd⟩ := reads4 q0.out
 have qe := q0.out.lt
 refine bret (.tuple #[imv (x : Int) (y : Int) (z : Int) (.slice A2 m cap2), .int .i64 k, .int .i64 0]) ?_
 refine ⟨_, _, rfl, BB.out, ?_⟩
 rw [← hm.out]
 exact hv.out
theorem cod_ok {R : Nat × Nat × Nat × Nat × List UInt8} {w : World} {e : Ending} {w' : World} (h0 : R.1 = 0) (h : GiveCodOk R.2.1 R.2.2.1 R.2.2.2.1 R.2.2.2.2 w e w') : GiveCod R w e w' := by
 obtain ⟨v, k, rfl, hb, ho⟩ := h
 obtain ⟨A, cap, rfl⟩ := own_form ho
 exact ⟨_, _, _, _, k, by rw [h0]; rfl, hb, ⟨_, _, _, rfl⟩, fun e => absurd h0 e, fun _ => ⟨rfl, rfl, rfl, ho⟩⟩
theorem cod_no {R : Nat × Nat × Nat × Nat × List UInt8} {w : World} {e : Ending} {w' : World} (h0 : R.1 ≠ 0) (h : GiveCod (R.1, 0, 0, 0, []) w e w') : GiveCod R w e w' := by
 obtain ⟨X, Y, Z, v, k, r1, r2, r3, r4, r5⟩ := h
 exact ⟨X, Y, Z, v, k, r1, r2, r3, r4, fun e => absurd e h0⟩
/-- codec.Read at any bytes. -/
theorem cread (v : Value) (l : List UInt8) (hl : l.length ≤ 1000000) (w : World) (h : BY w v l) : Calls Tryz.prog 116 #[v] w (GiveCod (imgR l) w) := by
 have h' := h
 obtain ⟨A, cap, rfl⟩ := h.form
 unfold imgR
 cases l with
 | nil => rw [if_pos (by rfl)]; exact cread_none 0 cap A w rfl
 | cons x t =>
   obtain ⟨b, off, e, hc⟩ := by_at rfl h 0 (by simp)
   subst e
   rw [if_neg (by simp)]
   have hx : ∀ w1, Below w.heap.size w w1 → w1.cell? ⟨b, off, none⟩ = some (.int .u8 (x.toNat : Int)) := hc
   clear hc
   have hn : (((x :: t).length : Int) == 0) = false := by simp <;> omega
   have hp : (0 : Int) < ((x :: t).length : Int) := by simp <;> omega
   have CP := fun w1 (hb : Below w.heap.size w w1) => pread _ _ (by omega) w1 (h.below hb)
   have CB := fun w1 (hb : Below w.heap.size w w1) => bread _ _ hl w1 (h.below hb)
   have CK := Hi (fun w1 (hb : Below w.heap.size w w1) => ckind _ _ w1 (h.below hb))
   by_cases h80 : x = 80
   · subst h80
     rw [if_pos (by rfl)]
     by_cases h0 : (pnmR (80 :: t)).1 = 0
     · exact (cread_pnm _ _ _ _ _ rfl _ _ _ _ w hn hp CK (Hi fun w1 hb => (CP w1 hb).mono fun e w' => give_ok h0) (Hi hx)).mono fun e w' => cod_ok h0
     · exact (cread_pnm_bad _ _ _ _ _ w hn hp h0 (Hi fun w1 hb => (CP w1 hb).mono fun e w' => give_no h0) (Hi hx)).mono fun e w' => cod_no h0
   · rw [if_neg (by simpa using h80)]
     by_cases h66 : x = 66
     · subst h66
       rw [if_pos (by rfl)]
       by_cases h0 : (bmpR (66 :: t)).1 = 0
       · exact (cread_bmp _ _ _ _ _ rfl _ _ _ _ w hn hp CK (Hi fun w1 hb => (CB w1 hb).mono fun e w' => give_ok h0) (Hi hx)).mono fun e w' => cod_ok h0
       · exact (cread_bmp_bad _ _ _ _ _ w hn hp h0 (Hi fun w1 hb => (CB w1 hb).mono fun e w' => give_no h0) (Hi hx)).mono fun e w' => cod_no h0
     · rw [if_neg (by simpa using h66)]
       have g1 : ((x.toNat : Int) == 80) = false := by
        simp only [beq_eq_false_iff_ne, ne_eq]
        intro e
        exact h80 (UInt8.toNat_inj.1 (by show x.toNat = 80; omega))
       have g2 : ((x.toNat : Int) == 66) = false := by
        simp only [beq_eq_false_iff_ne, ne_eq]
        intro e
        exact h66 (UInt8.toNat_inj.1 (by show x.toNat = 66; omega))
       exact cread_other _ _ _ _ x.toNat w hn hp g1 g2 (Hi hx)
end Go.Proofs.YtikpobembcgbfaaGreatDoor
