/- Parts of the proof: Rr20. -/
import Derived.Test.YtikpobembcgbfaaGreatDoorQ27
import Derived.Test.YtikpobembcgbfaaGreatDoorQ26
import Derived.Test.YtikpobembcgbfaaGreatDoorQ14
set_option linter.unusedVariables false
set_option linter.unusedSimpArgs false
set_option maxRecDepth 100000
set_option maxHeartbeats 40000000
namespace Go.Proofs.YtikpobembcgbfaaGreatDoor
open Go.RowKit Go.Lib
attribute [go_sem] Tryz.results7
/-- An image, its kind, the code; the pixels lie anywhere. -/
def GiveCodY (R : Nat × Nat × Nat × Nat × List UInt8) (w : World) (e : Ending) (w' : World) : Prop :=
 ∃ (X Y Z : Int) (v : Value) (k : Int), e = .returned (.tuple #[imv X Y Z v, .int .i64 k, .int .i64 (R.1 : Int)]) ∧ Below w.heap.size w w' ∧ (∃ A n cap, v = .slice A n cap) ∧ (R.1 ≠ 0 → X = 0 ∧ Y = 0 ∧ Z = 0 ∧ v = .slice none 0 0) ∧
   (R.1 = 0 → X = (R.2.1 : Int) ∧ Y = (R.2.2.1 : Int) ∧ Z = (R.2.2.2.1 : Int) ∧ BY w' v R.2.2.2.2)
/-- The bytes do not lie in a block of other cells. -/
theorem by_ne {w : World} {g n cap : Nat} {A : Option Addr} {cs : Array Value} {T : TypeId} {l : List UInt8} (h : BY w (.slice A n cap) l) (hc : AtB w g cs T) (hcs : ∀ (i : Nat) (x : Int), cs[i]? ≠ some (Value.int .u8 x)) : l ≠ [] → ∀ b off, A = some ⟨b, off, none⟩ → b ≠ g := by
 rintro hl b off rfl rfl
 obtain ⟨b', off', e, -, hcell⟩ := h.cells hl
 simp only [Addr.mk.injEq] at e
 obtain ⟨rfl, rfl, -⟩ := e
 have h0 := hcell 0 (List.length_pos_iff.2 hl)
 have hh : w.heap[b]? = _ := hc
 simp only [World.cell?, hh, Nat.add_zero] at h0
 exact hcs off _ (by simpa using h0)
theorem by_far {w : World} {g n cap : Nat} {A : Option Addr} {l : List UInt8} (hne : l ≠ [] → ∀ b off, A = some ⟨b, off, none⟩ → b ≠ g) (h : BY w (.slice A n cap) l) (o : Nat) (u : Value) : BY (w.setCell ⟨g, o, none⟩ u) (.slice A n cap) l := by
 have hb := grownBy_setCell w g o u
 obtain ⟨A', cap', e, h1, h2, h3, h4⟩ := h
 refine ⟨A', cap', e, h1, h2, h3, fun hz => ?_⟩
 obtain ⟨b, off, rfl, hlt, hcell⟩ := h4 hz
 simp only [Value.slice.injEq] at e
 have hbg := hne (fun k => hz (by rw [k]; rfl)) b off e.1
 refine ⟨b, off, rfl, Nat.lt_of_lt_of_le hlt hb.size, fun i hi => ?_⟩
 exact hb.cell (hcell i hi) (fun e => hbg (by cases e; rfl))
theorem img_cells (X Y Z : Int) (v : Value) (hv : ∀ x, v ≠ Value.int .u8 x) : ∀ (i : Nat) (x : Int), (#[.int .i64 X, .int .i64 Y, .int .i64 Z, v] : Array Value)[i]? ≠ some (Value.int .u8 x)
 | 0, x => by simp
 | 1, x => by simp
 | 2, x => by simp
 | 3, x => by simpa using hv x
 | n + 4, x => by simp
theorem r17_none (n cap : Nat) (A : Option Addr) (hn : n = 0) (w : World) : Calls Tryz.prog 7 #[.slice A n cap] w (GiveCodY (20, 0, 0, 0, []) w) := by
 subst hn
 go_enter Tryz.func7, Tryz.ntmps7
 go_upto_region 1 with fail
 obtain ⟨w0, e, BB, q0⟩ := en1 w #[.int .i64 0, .int .i64 0, .int .i64 0, .slice none 0 0] IT
 rw [e]; clear e
 obtain ⟨q3, q4, q5, q6, q7, q8, q9, qa⟩ := reads4 q0.out
 have qc := q0.out.lt
 go_wp2_with fail
 clear q3 q4 q5 q6 q7 q8 q9 qa qc
 have F := st4 q0 BB 0 (.int .i64 0) 1 (.int .i64 0) 2 (.int .i64 0) 3 (.slice none 0 0)
 clear q0 BB
 obtain ⟨w1, e, q0, BB, F⟩ := F
 rw [e]; clear e
 clear F
 obtain ⟨q3, q4, q5, q6, q7, q8, q9, qa⟩ := reads4 q0.out
 have qc := q0.out.lt
 refine bret (.tuple #[imv 0 0 0 (.slice none 0 0), .int .i64 0, .int .i64 20]) ?_
 exact ⟨0, 0, 0, _, 0, rfl, BB.out, ⟨_, _, _, rfl⟩, fun _ => ⟨rfl, rfl, rfl, rfl⟩, fun e => absurd e (by simp)⟩
theorem r17_other (n cap b off : Nat) (c : Int) (hn : ((n : Int) == 0) = false) (h0 : (0 : Int) < n) (w : World) (C0 : C8 w b off c) (q1 : (c == 80) = false) (q2 : (c == 66) = false) : Calls Tryz.prog 7 #[.slice (some ⟨b, off, none⟩) n cap] w (GiveCodY (21, 0, 0, 0, []) w) := by
 go_enter Tryz.func7, Tryz.ntmps7
 go_upto_region 1 with fail
 obtain ⟨w0, e, BB, q0⟩ := en1 w #[.int .i64 0, .int .i64 0, .int .i64 0, .slice none 0 0] IT
 rw [e]; clear e
 go_upto_region 4 with fail
 have qd := Hi (And.intro BB.out.size (And.intro q0.out.lt (True.intro)))
 obtain ⟨w1, qm, e1, e2, hb, qb⟩ := bx w0 #[.int .i64 0, .int .i64 0, .int .i64 0, .slice none 0 0] IT
 rw [e2] at qd; rw [e1, e2]
 replace q0 := kp q0 hb
 replace BB := nx BB hb
 clear hb e1 e2
 have c0 := C0.out _ BB.out
 obtain ⟨q3, q4, q5, q6, q7, q8, q9, qa⟩ := reads4 q0.out
 have qc := q0.out.lt
 obtain ⟨qe, qf, qg, qh, qi, qj, qk, ql⟩ := reads4 qb.out
 have qn := qb.out.lt
 go_wp2_with fail
 clear q3 q4 q5 q6 q7 q8 q9 qa qc qe qf qg qh qi qj qk ql qn
 have F := st4 q0 BB 0 (.int .i64 0) 1 (.int .i64 0) 2 (.int .i64 0) 3 (.slice none 0 0)
 clear q0 BB
 obtain ⟨w2, e, q0, BB, F⟩ := F
 rw [e]; clear e
 replace qb := F _ _ _ (by have dd_m := qd.out; omega) qb
 clear F
 obtain ⟨q3, q4, q5, q6, q7, q8, q9, qa⟩ := reads4 q0.out
 have qc := q0.out.lt
 refine bret (.tuple #[imv 0 0 0 (.slice none 0 0), .int .i64 0, .int .i64 21]) ?_
 exact ⟨0, 0, 0, _, 0, rfl, BB.out, ⟨_, _, _, rfl⟩, fun _ => ⟨rfl, rfl, rfl, rfl⟩, fun e => absurd e (by simp)⟩
theorem r17_80_bad (n cap b off S : Nat) (hn : ((n : Int) == 0) = false) (h0 : (0 : Int) < n) (w : World) (C0 : C8 w b off 80) (hS : S ≠ 0) (CR : Hid (∀ w1, Below w.heap.size w w1 → Calls Tryz.prog 14 #[.slice (some ⟨b, off, none⟩) n cap] w1 (GiveRim (S, 0, 0, 0, []) w1))) :
 Calls Tryz.prog 7 #[.slice (some ⟨b, off, none⟩) n cap] w (GiveCodY (S, 0, 0, 0, []) w) := by
 have q1 : ((S : Int) != 0) = true := neq_t hS
 replace hS := Hi hS
 go_enter Tryz.func7, Tryz.ntmps7
 go_upto_region 1 with fail
 obtain ⟨w0, e, BB, q0⟩ := en1 w #[.int .i64 0, .int .i64 0, .int .i64 0, .slice none 0 0] IT
 rw [e]; clear e
 go_upto_region 4 with fail
 have qd := Hi (And.intro BB.out.size (And.intro q0.out.lt (True.intro)))
 obtain ⟨w1, qm, e1, e2, hb, qb⟩ := bx w0 #[.int .i64 0, .int .i64 0, .int .i64 0, .slice none 0 0] IT
 rw [e2] at qd; rw [e1, e2]
 replace q0 := kp q0 hb
 replace BB := nx BB hb
 clear hb e1 e2
 have c0 := C0.out _ BB.out
 obtain ⟨q3, q4, q5, q6, q7, q8, q9, qa⟩ := reads4 q0.out
 have qc := q0.out.lt
 obtain ⟨qe, qf, qg, qh, qi, qj, qk, ql⟩ := reads4 qb.out
 have qn := qb.out.lt
 go_wp2_with fail
 clear c0
 refine (CR.out _ BB.out).mono ?_
 rintro e w2 ⟨X, Y, Z, v, rfl, hb, ⟨A2, m2, cap2, rfl⟩, hz, -⟩
 clear q3 q4 q5 q6 q7 q8 q9 qa qc qe qf qg qh qi qj qk ql qn
 replace q0 := kp q0 hb
 replace qb := kp qb hb
 replace BB := nx BB hb
 clear hb
 obtain ⟨rfl, rfl, rfl, hv⟩ := hz hS.out
 simp only [Value.slice.injEq] at hv
 obtain ⟨rfl, rfl, rfl⟩ := hv
 clear hz
 obtain ⟨qe, qf, qg, qh, qi, qj, qk, ql⟩ := reads4 qb.out
 have qn := qb.out.lt
 obtain ⟨q3, q4, q5, q6, q7, q8, q9, qa⟩ := reads4 q0.out
 have qc := q0.out.lt
 go_upto_region 6 with fail
 clear qe qf qg qh qi qj qk ql qn q3 q4 q5 q6 q7 q8 q9 qa qc
 have F := st4 qb BB 0 (.int .i64 0) 1 (.int .i64 0) 2 (.int .i64 0) 3 (.slice none 0 0) (hg := by have dd := qd.out; omega)
 clear qb BB
 obtain ⟨w3, e, qb, BB, F⟩ := F
 rw [e]; clear e
 replace q0 := F _ _ _ (by have dd_m := qd.out; omega) q0
 clear F
 have c0 := C0.out _ BB.out
 obtain ⟨qe, qf, qg, qh, qi, qj, qk, ql⟩ := reads4 qb.out
 have qn := qb.out.lt
 obtain ⟨q3, q4, q5, q6, q7, q8, q9, qa⟩ := reads4 q0.out
 have qc := q0.out.lt
 go_wp2_with fail
 clear qe qf qg qh qi qj qk ql qn q3 q4 q5 q6 q7 q8 q9 qa qc
 have F := st4 q0 BB 0 (.int .i64 0) 1 (.int .i64 0) 2 (.int .i64 0) 3 (.slice none 0 0)
 clear q0 BB
 obtain ⟨w4, e, q0, BB, F⟩ := F
 rw [e]; clear e
 replace qb := F _ _ _ (by have dd_m := qd.out; omega) qb
 clear F
 obtain ⟨q3, q4, q5, q6, q7, q8, q9, qa⟩ := reads4 q0.out
 have qc := q0.out.lt
 refine bret (.tuple #[imv 0 0 0 (.slice none 0 0), .int .i64 0, .int .i64 (S : Int)]) ?_
 exact ⟨0, 0, 0, _, 0, rfl, BB.out, ⟨_, _, _, rfl⟩, fun _ => ⟨rfl, rfl, rfl, rfl⟩, fun e => absurd e (hS.out)⟩
theorem r17_80_ok (n cap b off x y z : Nat) (p : List UInt8) (hn : ((n : Int) == 0) = false) (h0 : (0 : Int) < n) (w : World) (C0 : C8 w b off 80) (CR : Hid (∀ w1, Below w.heap.size w w1 → Calls Tryz.prog 14 #[.slice (some ⟨b, off, none⟩) n cap] w1 (GiveRim (0, x, y, z, p) w1)))
 (CK : Hid (∀ w1, Below w.heap.size w w1 → Calls Tryz.prog 16 #[.slice (some ⟨b, off, none⟩) n cap] w1 (GiveZk w1))) :
 Calls Tryz.prog 7 #[.slice (some ⟨b, off, none⟩) n cap] w (GiveCodY (0, x, y, z, p) w) := by
 go_enter Tryz.func7, Tryz.ntmps7
 go_upto_region 1 with fail
 obtain ⟨w0, e, BB, q0⟩ := en1 w #[.int .i64 0, .int .i64 0, .int .i64 0, .slice none 0 0] IT
 rw [e]; clear e
 go_upto_region 4 with fail
 have qd := Hi (And.intro BB.out.size (And.intro q0.out.lt (True.intro)))
 obtain ⟨w1, qm, e1, e2, hb, qb⟩ := bx w0 #[.int .i64 0, .int .i64 0, .int .i64 0, .slice none 0 0] IT
 rw [e2] at qd; rw [e1, e2]
 replace q0 := kp q0 hb
 replace BB := nx BB hb
 clear hb e1 e2
 have c0 := C0.out _ BB.out
 obtain ⟨q3, q4, q5, q6, q7, q8, q9, qa⟩ := reads4 q0.out
 have qc := q0.out.lt
 obtain ⟨qe, qf, qg, qh, qi, qj, qk, ql⟩ := reads4 qb.out
 have qn := qb.out.lt
 go_wp2_with fail
 clear c0
 refine (CR.out _ BB.out).mono ?_
 rintro e w2 ⟨X, Y, Z, v, rfl, hb, ⟨A2, m2, cap2, rfl⟩, -, hz⟩
 clear q3 q4 q5 q6 q7 q8 q9 qa qc qe qf qg qh qi qj qk ql qn
 replace q0 := kp q0 hb
 replace qb := kp qb hb
 replace BB := nx BB hb
 clear hb
 obtain ⟨rfl, rfl, rfl, hv⟩ := hz rfl
 replace hv := Hi hv
 clear hz
 have nm := Hi (by_ne hv.out qb.out (img_cells _ _ _ _ (fun x => by simp)))
 have nr := Hi (by_ne hv.out q0.out (img_cells _ _ _ _ (fun x => by simp)))
 obtain ⟨qe, qf, qg, qh, qi, qj, qk, ql⟩ := reads4 qb.out
 have qn := qb.out.lt
 obtain ⟨q3, q4, q5, q6, q7, q8, q9, qa⟩ := reads4 q0.out
 have qc := q0.out.lt
 go_upto_region 6 with fail
 clear qe qf qg qh qi qj qk ql qn q3 q4 q5 q6 q7 q8 q9 qa qc
 replace q0 := Hi ((((q0.out.far (p := qm) (by have dd_m := qd.out; omega) 0 (.int .i64 (x : Int))).far (p := qm) (by have dd_m := qd.out; omega) 1 (.int .i64 (y : Int))).far (p := qm) (by have dd_m := qd.out; omega) 2 (.int .i64 (z : Int))).far (p := qm) (by have dd_m := qd.out; omega) 3 (.slice A2 m2 cap2))
 replace qb := Hi ((((qb.out.sn 0 (.int .i64 (x : Int))).sn 1 (.int .i64 (y : Int))).sn 2 (.int .i64 (z : Int))).sn 3 (.slice A2 m2 cap2))
 replace BB := Hi (below_set (below_set (below_set (below_set BB.out (b := qm) (o := 0) (by have dd := qd.out; omega) (.int .i64 (x : Int))) (b := qm) (o := 1) (by have dd := qd.out; omega) (.int .i64 (y : Int))) (b := qm) (o := 2) (by have dd := qd.out; omega) (.int .i64 (z : Int))) (b := qm) (o := 3) (by have dd := qd.out; omega) (.slice A2 m2 cap2))
 replace hv := Hi (by_far nm.out (by_far nm.out (by_far nm.out (by_far nm.out hv.out 0 (.int .i64 (x : Int))) 1 (.int .i64 (y : Int))) 2 (.int .i64 (z : Int))) 3 (.slice A2 m2 cap2))
 generalize ((((w2.setCell ⟨qm, 0, none⟩ (.int .i64 (x : Int))).setCell ⟨qm, 1, none⟩ (.int .i64 (y : Int))).setCell ⟨qm, 2, none⟩ (.int .i64 (z : Int))).setCell ⟨qm, 3, none⟩ (.slice A2 m2 cap2)) = w3 at *
 have c0 := C0.out _ BB.out
 obtain ⟨qe, qf, qg, qh, qi, qj, qk, ql⟩ := reads4 qb.out
 have qn := qb.out.lt
 obtain ⟨q3, q4, q5, q6, q7, q8, q9, qa⟩ := reads4 q0.out
 have qc := q0.out.lt
 go_wp2_with fail
 clear c0
 have CK2 := Hi (fun w9 (hb : Below w3.heap.size w3 w9) => CK.out w9 (below_next BB.out hb))
 clear qe qf qg qh qi qj qk ql qn q3 q4 q5 q6 q7 q8 q9 qa qc
 have KK := Hi fun w9 (h : Below w3.heap.size w3 w9) => And.intro (cells4 (qb.out.keep h)) (cells4 (q0.out.keep h))
 have KD := kd KK
 refine g_bg KK 3 ?_
 refine g_tk 0 ?_
 refine g_tk 1 ?_
 refine g_sc 2 (fun K hK => ?_)
 go_simp
 go_at_call 16
 refine (CK2.out _ ?_).mono ?_
 · repeat (first | with_reducible exact Below.refl _ _ | with_reducible apply below_drew | with_reducible apply below_new)
 rintro e w4 ⟨k, rfl, hb⟩
 have qo := rn (w0 := w3) hb
 have qp := KK.out _ qo.out
 obtain ⟨qq, qr, qs, qt, qu, qv, qw, qx⟩ := reads4 (q0.out.keep qo.out)
 have qy := (q0.out.keep qo.out).lt
 clear hb
 refine hK.out _ _ (fun _ => qp) (fun hHeld => ?_)
 replace hHeld := hHeld (by decide)
 clear hK
 refine g_pt ?_
 refine g_ts 3 ?_
 refine g_ts 4 ?_
 refine g_ts 5 ?_
 refine g_dn ?_
 clear KK KD qp
 replace q0 := kp q0 qo.out
 replace qb := kp qb qo.out
 replace hv := Hi (BS.below hv.out qo.out)
 replace BB := nx BB qo.out
 clear qo
 replace q0 := Hi ((((q0.out.sn 0 (.int .i64 (x : Int))).sn 1 (.int .i64 (y : Int))).sn 2 (.int .i64 (z : Int))).sn 3 (.slice A2 m2 cap2))
 replace qb := Hi ((((qb.out.far (p := w.heap.size) (by have dd_m := qd.out; omega) 0 (.int .i64 (x : Int))).far (p := w.heap.size) (by have dd_m := qd.out; omega) 1 (.int .i64 (y : Int))).far (p := w.heap.size) (by have dd_m := qd.out; omega) 2 (.int .i64 (z : Int))).far (p := w.heap.size) (by have dd_m := qd.out; omega) 3 (.slice A2 m2 cap2))
 replace BB := Hi (below_set (below_set (below_set (below_set BB.out (b := w.heap.size) (o := 0) (by omega) (.int .i64 (x : Int))) (b := w.heap.size) (o := 1) (by omega) (.int .i64 (y : Int))) (b := w.heap.size) (o := 2) (by omega) (.int .i64 (z : Int))) (b := w.heap.size) (o := 3) (by omega) (.slice A2 m2 cap2))
 replace hv := Hi (by_far nr.out (by_far nr.out (by_far nr.out (by_far nr.out hv.out 0 (.int .i64 (x : Int))) 1 (.int .i64 (y : Int))) 2 (.int .i64 (z : Int))) 3 (.slice A2 m2 cap2))
 generalize ((((w4.setCell ⟨w.heap.size, 0, none⟩ (.int .i64 (x : Int))).setCell ⟨w.heap.size, 1, none⟩ (.int .i64 (y : Int))).setCell ⟨w.heap.size, 2, none⟩ (.int .i64 (z : Int))).setCell ⟨w.heap.size, 3, none⟩ (.slice A2 m2 cap2)) = w5 at *
 go_wp2_with fail
 obtain ⟨q3, q4, q5, q6, q7, q8, q9, qa⟩ := reads4 q0.out
 have qc := q0.out.lt
 refine bret (.tuple #[imv (x : Int) (y : Int) (z : Int) (.slice A2 m2 cap2), .int .i64 k, .int .i64 0]) ?_
 exact ⟨_, _, _, _, _, rfl, BB.out, ⟨_, _, _, rfl⟩, fun e => absurd rfl e, fun _ => ⟨rfl, rfl, rfl, hv.out⟩⟩
theorem r17_66_bad (n cap b off S : Nat) (hn : ((n : Int) == 0) = false) (h0 : (0 : Int) < n) (w : World) (C0 : C8 w b off 66) (hS : S ≠ 0) (CR : Hid (∀ w1, Below w.heap.size w w1 → Calls Tryz.prog 15 #[.slice (some ⟨b, off, none⟩) n cap] w1 (GiveRim (S, 0, 0, 0, []) w1))) :
 Calls Tryz.prog 7 #[.slice (some ⟨b, off, none⟩) n cap] w (GiveCodY (S, 0, 0, 0, []) w) := by
 have q1 : ((S : Int) != 0) = true := neq_t hS
 replace hS := Hi hS
 go_enter Tryz.func7, Tryz.ntmps7
 go_upto_region 1 with fail
 obtain ⟨w0, e, BB, q0⟩ := en1 w #[.int .i64 0, .int .i64 0, .int .i64 0, .slice none 0 0] IT
 rw [e]; clear e
 go_upto_region 4 with fail
 have qd := Hi (And.intro BB.out.size (And.intro q0.out.lt (True.intro)))
 obtain ⟨w1, qm, e1, e2, hb, qb⟩ := bx w0 #[.int .i64 0, .int .i64 0, .int .i64 0, .slice none 0 0] IT
 rw [e2] at qd; rw [e1, e2]
 replace q0 := kp q0 hb
 replace BB := nx BB hb
 clear hb e1 e2
 have c0 := C0.out _ BB.out
 obtain ⟨q3, q4, q5, q6, q7, q8, q9, qa⟩ := reads4 q0.out
 have qc := q0.out.lt
 obtain ⟨qe, qf, qg, qh, qi, qj, qk, ql⟩ := reads4 qb.out
 have qn := qb.out.lt
 go_wp2_with fail
 clear c0
 refine (CR.out _ BB.out).mono ?_
 rintro e w2 ⟨X, Y, Z, v, rfl, hb, ⟨A2, m2, cap2, rfl⟩, hz, -⟩
 clear q3 q4 q5 q6 q7 q8 q9 qa qc qe qf qg qh qi qj qk ql qn
 replace q0 := kp q0 hb
 replace qb := kp qb hb
 replace BB := nx BB hb
 clear hb
 obtain ⟨rfl, rfl, rfl, hv⟩ := hz hS.out
 simp only [Value.slice.injEq] at hv
 obtain ⟨rfl, rfl, rfl⟩ := hv
 clear hz
 obtain ⟨qe, qf, qg, qh, qi, qj, qk, ql⟩ := reads4 qb.out
 have qn := qb.out.lt
 obtain ⟨q3, q4, q5, q6, q7, q8, q9, qa⟩ := reads4 q0.out
 have qc := q0.out.lt
 go_upto_region 8 with fail
 clear qe qf qg qh qi qj qk ql qn q3 q4 q5 q6 q7 q8 q9 qa qc
 have F := st4 qb BB 0 (.int .i64 0) 1 (.int .i64 0) 2 (.int .i64 0) 3 (.slice none 0 0) (hg := by have dd := qd.out; omega)
 clear qb BB
 obtain ⟨w3, e, qb, BB, F⟩ := F
 rw [e]; clear e
 replace q0 := F _ _ _ (by have dd_m := qd.out; omega) q0
 clear F
 have c0 := C0.out _ BB.out
 obtain ⟨qe, qf, qg, qh, qi, qj, qk, ql⟩ := reads4 qb.out
 have qn := qb.out.lt
 obtain ⟨q3, q4, q5, q6, q7, q8, q9, qa⟩ := reads4 q0.out
 have qc := q0.out.lt
 go_wp2_with fail
 clear qe qf qg qh qi qj qk ql qn q3 q4 q5 q6 q7 q8 q9 qa qc
 have F := st4 q0 BB 0 (.int .i64 0) 1 (.int .i64 0) 2 (.int .i64 0) 3 (.slice none 0 0)
 clear q0 BB
 obtain ⟨w4, e, q0, BB, F⟩ := F
 rw [e]; clear e
 replace qb := F _ _ _ (by have dd_m := qd.out; omega) qb
 clear F
 obtain ⟨q3, q4, q5, q6, q7, q8, q9, qa⟩ := reads4 q0.out
 have qc := q0.out.lt
 refine bret (.tuple #[imv 0 0 0 (.slice none 0 0), .int .i64 0, .int .i64 (S : Int)]) ?_
 exact ⟨0, 0, 0, _, 0, rfl, BB.out, ⟨_, _, _, rfl⟩, fun _ => ⟨rfl, rfl, rfl, rfl⟩, fun e => absurd e (hS.out)⟩
theorem r17_66_ok (n cap b off x y z : Nat) (p : List UInt8) (hn : ((n : Int) == 0) = false) (h0 : (0 : Int) < n) (w : World) (C0 : C8 w b off 66) (CR : Hid (∀ w1, Below w.heap.size w w1 → Calls Tryz.prog 15 #[.slice (some ⟨b, off, none⟩) n cap] w1 (GiveRim (0, x, y, z, p) w1)))
 (CK : Hid (∀ w1, Below w.heap.size w w1 → Calls Tryz.prog 16 #[.slice (some ⟨b, off, none⟩) n cap] w1 (GiveZk w1))) :
 Calls Tryz.prog 7 #[.slice (some ⟨b, off, none⟩) n cap] w (GiveCodY (0, x, y, z, p) w) := by
 go_enter Tryz.func7, Tryz.ntmps7
 go_upto_region 1 with fail
 obtain ⟨w0, e, BB, q0⟩ := en1 w #[.int .i64 0, .int .i64 0, .int .i64 0, .slice none 0 0] IT
 rw [e]; clear e
 go_upto_region 4 with fail
 have qd := Hi (And.intro BB.out.size (And.intro q0.out.lt (True.intro)))
 obtain ⟨w1, qm, e1, e2, hb, qb⟩ := bx w0 #[.int .i64 0, .int .i64 0, .int .i64 0, .slice none 0 0] IT
 rw [e2] at qd; rw [e1, e2]
 replace q0 := kp q0 hb
 replace BB := nx BB hb
 clear hb e1 e2
 have c0 := C0.out _ BB.out
 obtain ⟨q3, q4, q5, q6, q7, q8, q9, qa⟩ := reads4 q0.out
 have qc := q0.out.lt
 obtain ⟨qe, qf, qg, qh, qi, qj, qk, ql⟩ := reads4 qb.out
 have qn := qb.out.lt
 go_wp2_with fail
 clear c0
 refine (CR.out _ BB.out).mono ?_
 rintro e w2 ⟨X, Y, Z, v, rfl, hb, ⟨A2, m2, cap2, rfl⟩, -, hz⟩
 clear q3 q4 q5 q6 q7 q8 q9 qa qc qe qf qg qh qi qj qk ql qn
 replace q0 := kp q0 hb
 replace qb := kp qb hb
 replace BB := nx BB hb
 clear hb
 obtain ⟨rfl, rfl, rfl, hv⟩ := hz rfl
 replace hv := Hi hv
 clear hz
 have nm := Hi (by_ne hv.out qb.out (img_cells _ _ _ _ (fun x => by simp)))
 have nr := Hi (by_ne hv.out q0.out (img_cells _ _ _ _ (fun x => by simp)))
 obtain ⟨qe, qf, qg, qh, qi, qj, qk, ql⟩ := reads4 qb.out
 have qn := qb.out.lt
 obtain ⟨q3, q4, q5, q6, q7, q8, q9, qa⟩ := reads4 q0.out
 have qc := q0.out.lt
 go_upto_region 8 with fail
 clear qe qf qg qh qi qj qk ql qn q3 q4 q5 q6 q7 q8 q9 qa qc
 replace q0 := Hi ((((q0.out.far (p := qm) (by have dd_m := qd.out; omega) 0 (.int .i64 (x : Int))).far (p := qm) (by have dd_m := qd.out; omega) 1 (.int .i64 (y : Int))).far (p := qm) (by have dd_m := qd.out; omega) 2 (.int .i64 (z : Int))).far (p := qm) (by have dd_m := qd.out; omega) 3 (.slice A2 m2 cap2))
 replace qb := Hi ((((qb.out.sn 0 (.int .i64 (x : Int))).sn 1 (.int .i64 (y : Int))).sn 2 (.int .i64 (z : Int))).sn 3 (.slice A2 m2 cap2))
 replace BB := Hi (below_set (below_set (below_set (below_set BB.out (b := qm) (o := 0) (by have dd := qd.out; omega) (.int .i64 (x : Int))) (b := qm) (o := 1) (by have dd := qd.out; omega) (.int .i64 (y : Int))) (b := qm) (o := 2) (by have dd := qd.out; omega) (.int .i64 (z : Int))) (b := qm) (o := 3) (by have dd := qd.out; omega) (.slice A2 m2 cap2))
 replace hv := Hi (by_far nm.out (by_far nm.out (by_far nm.out (by_far nm.out hv.out 0 (.int .i64 (x : Int))) 1 (.int .i64 (y : Int))) 2 (.int .i64 (z : Int))) 3 (.slice A2 m2 cap2))
 generalize ((((w2.setCell ⟨qm, 0, none⟩ (.int .i64 (x : Int))).setCell ⟨qm, 1, none⟩ (.int .i64 (y : Int))).setCell ⟨qm, 2, none⟩ (.int .i64 (z : Int))).setCell ⟨qm, 3, none⟩ (.slice A2 m2 cap2)) = w3 at *
 have c0 := C0.out _ BB.out
 obtain ⟨qe, qf, qg, qh, qi, qj, qk, ql⟩ := reads4 qb.out
 have qn := qb.out.lt
 obtain ⟨q3, q4, q5, q6, q7, q8, q9, qa⟩ := reads4 q0.out
 have qc := q0.out.lt
 go_wp2_with fail
 clear c0
 have CK2 := Hi (fun w9 (hb : Below w3.heap.size w3 w9) => CK.out w9 (below_next BB.out hb))
 clear qe qf qg qh qi qj qk ql qn q3 q4 q5 q6 q7 q8 q9 qa qc
 have KK := Hi fun w9 (h : Below w3.heap.size w3 w9) => And.intro (cells4 (qb.out.keep h)) (cells4 (q0.out.keep h))
 have KD := kd KK
 refine g_bg KK 3 ?_
 refine g_tk 0 ?_
 refine g_tk 1 ?_
 refine g_sc 2 (fun K hK => ?_)
 go_simp
 go_at_call 16
 refine (CK2.out _ ?_).mono ?_
 · repeat (first | with_reducible exact Below.refl _ _ | with_reducible apply below_drew | with_reducible apply below_new)
 rintro e w4 ⟨k, rfl, hb⟩
 have qo := rn (w0 := w3) hb
 have qp := KK.out _ qo.out
 obtain ⟨qq, qr, qs, qt, qu, qv, qw, qx⟩ := reads4 (q0.out.keep qo.out)
 have qy := (q0.out.keep qo.out).lt
 clear hb
 refine hK.out _ _ (fun _ => qp) (fun hHeld => ?_)
 replace hHeld := hHeld (by decide)
 clear hK
 refine g_pt ?_
 refine g_ts 3 ?_
 refine g_ts 4 ?_
 refine g_ts 5 ?_
 refine g_dn ?_
 clear KK KD qp
 replace q0 := kp q0 qo.out
 replace qb := kp qb qo.out
 replace hv := Hi (BS.below hv.out qo.out)
 replace BB := nx BB qo.out
 clear qo
 replace q0 := Hi ((((q0.out.sn 0 (.int .i64 (x : Int))).sn 1 (.int .i64 (y : Int))).sn 2 (.int .i64 (z : Int))).sn 3 (.slice A2 m2 cap2))
 replace qb := Hi ((((qb.out.far (p := w.heap.size) (by have dd_m := qd.out; omega) 0 (.int .i64 (x : Int))).far (p := w.heap.size) (by have dd_m := qd.out; omega) 1 (.int .i64 (y : Int))).far (p := w.heap.size) (by have dd_m := qd.out; omega) 2 (.int .i64 (z : Int))).far (p := w.heap.size) (by have dd_m := qd.out; omega) 3 (.slice A2 m2 cap2))
 replace BB := Hi (below_set (below_set (below_set (below_set BB.out (b := w.heap.size) (o := 0) (by omega) (.int .i64 (x : Int))) (b := w.heap.size) (o := 1) (by omega) (.int .i64 (y : Int))) (b := w.heap.size) (o := 2) (by omega) (.int .i64 (z : Int))) (b := w.heap.size) (o := 3) (by omega) (.slice A2 m2 cap2))
 replace hv := Hi (by_far nr.out (by_far nr.out (by_far nr.out (by_far nr.out hv.out 0 (.int .i64 (x : Int))) 1 (.int .i64 (y : Int))) 2 (.int .i64 (z : Int))) 3 (.slice A2 m2 cap2))
 generalize ((((w4.setCell ⟨w.heap.size, 0, none⟩ (.int .i64 (x : Int))).setCell ⟨w.heap.size, 1, none⟩ (.int .i64 (y : Int))).setCell ⟨w.heap.size, 2, none⟩ (.int .i64 (z : Int))).setCell ⟨w.heap.size, 3, none⟩ (.slice A2 m2 cap2)) = w5 at *
 go_wp2_with fail
 obtain ⟨q3, q4, q5, q6, q7, q8, q9, qa⟩ := reads4 q0.out
 have qc := q0.out.lt
 refine bret (.tuple #[imv (x : Int) (y : Int) (z : Int) (.slice A2 m2 cap2), .int .i64 k, .int .i64 0]) ?_
 exact ⟨_, _, _, _, _, rfl, BB.out, ⟨_, _, _, rfl⟩, fun e => absurd rfl e, fun _ => ⟨rfl, rfl, rfl, hv.out⟩⟩
theorem bmpR_zero {l : List UInt8} {S x y z : Nat} {p : List UInt8} (h : bmpR l = (S, x, y, z, p)) (hS : S ≠ 0) : x = 0 ∧ y = 0 ∧ z = 0 ∧ p = [] := by
 unfold bmpR at h
 split at h
 · simp only [Prod.mk.injEq] at h; simp [h.2.1.symm, h.2.2.1.symm, h.2.2.2.1.symm, h.2.2.2.2.symm]
 split at h
 · simp only [Prod.mk.injEq] at h; simp [h.2.1.symm, h.2.2.1.symm, h.2.2.2.1.symm, h.2.2.2.2.symm]
 split at h
 · simp only [Prod.mk.injEq] at h; simp [h.2.1.symm, h.2.2.1.symm, h.2.2.2.1.symm, h.2.2.2.2.symm]
 split at h
 · simp only [Prod.mk.injEq] at h; simp [h.2.1.symm, h.2.2.1.symm, h.2.2.2.1.symm, h.2.2.2.2.symm]
 split at h
 · simp only [Prod.mk.injEq] at h; simp [h.2.1.symm, h.2.2.1.symm, h.2.2.2.1.symm, h.2.2.2.2.symm]
 split at h
 · simp only [Prod.mk.injEq] at h; simp [h.2.1.symm, h.2.2.1.symm, h.2.2.2.1.symm, h.2.2.2.2.symm]
 · simp only [Prod.mk.injEq] at h; exact absurd h.1.symm hS
theorem pnmR_zero {l : List UInt8} {S x y z : Nat} {p : List UInt8} (h : pnmR l = (S, x, y, z, p)) (hS : S ≠ 0) : x = 0 ∧ y = 0 ∧ z = 0 ∧ p = [] := by
 match l, h with
 | [], h => simp only [pnmR, Prod.mk.injEq] at h; simp [h.2.1.symm, h.2.2.1.symm, h.2.2.2.1.symm, h.2.2.2.2.symm]
 | [x], h =>
   simp only [pnmR] at h
   split at h <;> (simp only [Prod.mk.injEq] at h; simp [h.2.1.symm, h.2.2.1.symm, h.2.2.2.1.symm, h.2.2.2.2.symm])
 | x :: y :: l, h =>
   simp only [pnmR] at h
   generalize (if y = 54 then 3 else 1) = c at h
   split at h
   · simp only [Prod.mk.injEq] at h; simp [h.2.1.symm, h.2.2.1.symm, h.2.2.2.1.symm, h.2.2.2.2.symm]
   split at h
   · simp only [Prod.mk.injEq] at h; simp [h.2.1.symm, h.2.2.1.symm, h.2.2.2.1.symm, h.2.2.2.2.symm]
   split at h
   · simp only [Prod.mk.injEq] at h; simp [h.2.1.symm, h.2.2.1.symm, h.2.2.2.1.symm, h.2.2.2.2.symm]
   split at h
   · simp only [Prod.mk.injEq] at h; simp [h.2.1.symm, h.2.2.1.symm, h.2.2.2.1.symm, h.2.2.2.2.symm]
   · simp only [Prod.mk.injEq] at h; exact absurd h.1.symm hS
/-- ref17.Read at any bytes, its readers given. -/
theorem rread17_of (v : Value) (l : List UInt8) (w : World) (h : BY w v l) (C15 : ∀ w1, Below w.heap.size w w1 → Calls Tryz.prog 14 #[v] w1 (GiveRim (pnmR l) w1)) (C16 : ∀ w1, Below w.heap.size w w1 → Calls Tryz.prog 15 #[v] w1 (GiveRim (bmpR l) w1)) :
 Calls Tryz.prog 7 #[v] w (GiveCodY (imgR l) w) := by
 have CK := Hi (fun w1 (hb : Below w.heap.size w w1) => rkind v l w1 (h.below hb))
 obtain ⟨A, cap, e⟩ := h.form
 subst e
 cases l with
 | nil =>
   have : imgR [] = (20, 0, 0, 0, []) := rfl
   rw [this]
   exact r17_none 0 cap A rfl w
 | cons c t =>
   obtain ⟨b, off, c', e, -, -, hlt, hc⟩ := h.some (by simp)
   simp only [Value.slice.injEq] at e
   obtain ⟨rfl, -, -⟩ := e
   have C0 : C8 w b off (c.toNat : Int) := fun w1 hb => (hb.cell (p := ⟨b, off, none⟩) hlt).trans (hc 0 (by simp))
   have hn : (((c :: t).length : Int) == 0) = false := by rw [beq_eq_false_iff_ne]; simp only [List.length_cons]; omega
   have h0 : (0 : Int) < ((c :: t).length : Int) := by simp only [List.length_cons]; omega
   by_cases h80 : c = 80
   · subst h80
     have hR : imgR (80 :: t) = pnmR (80 :: t) := by unfold imgR; simp
     rw [hR]
     obtain ⟨R, hRR⟩ : ∃ R, pnmR (80 :: t) = R := ⟨_, rfl⟩
     rw [hRR] at C15 ⊢
     obtain ⟨S, x, y, z, p⟩ := R
     by_cases hS : S = 0
     · subst hS
       exact r17_80_ok _ cap b off x y z p hn h0 w C0 C15 CK
     · have hbad := pnmR_zero hRR hS
       obtain ⟨rfl, rfl, rfl, rfl⟩ := hbad
       exact r17_80_bad _ cap b off S hn h0 w C0 hS C15
   · by_cases h66 : c = 66
     · subst h66
       have hR : imgR (66 :: t) = bmpR (66 :: t) := by unfold imgR; simp
       rw [hR]
       obtain ⟨R, hRR⟩ : ∃ R, bmpR (66 :: t) = R := ⟨_, rfl⟩
       rw [hRR] at C16 ⊢
       obtain ⟨S, x, y, z, p⟩ := R
       by_cases hS : S = 0
       · subst hS
         exact r17_66_ok _ cap b off x y z p hn h0 w C0 C16 CK
       · have hbad := bmpR_zero hRR hS
         obtain ⟨rfl, rfl, rfl, rfl⟩ := hbad
         exact r17_66_bad _ cap b off S hn h0 w C0 hS C16
     · have hR : imgR (c :: t) = (21, 0, 0, 0, []) := by unfold imgR; simp [h80, h66]
       rw [hR]
       exact r17_other _ cap b off _ hn h0 w C0 (byte_ne h80).1 (byte_ne h66).1
end Go.Proofs.YtikpobembcgbfaaGreatDoor
