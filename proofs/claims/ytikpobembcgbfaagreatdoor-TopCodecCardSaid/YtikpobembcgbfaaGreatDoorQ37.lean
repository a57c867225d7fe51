/- Parts of the proof: Rr15. -/
import Derived.Test.YtikpobembcgbfaaGreatDoorQ36
import Derived.Test.YtikpobembcgbfaaGreatDoorQ27
import Derived.Test.YtikpobembcgbfaaGreatDoorQ14
set_option linter.unusedVariables false
set_option linter.unusedSimpArgs false
set_option maxRecDepth 100000
set_option maxHeartbeats 40000000
namespace Go.Proofs.YtikpobembcgbfaaGreatDoor
open Go.RowKit Go.Lib
attribute [go_sem] Tryz.results14
theorem rr15_bad (v : Value) (S : Nat) (P : Nat → Prop) (x y z : Nat) (w : World) (A : Option Addr) (n cap : Nat) (hv : v = .slice A n cap) (h0 : S ≠ 0) (CH : Hid (∀ w1, Below w.heap.size w w1 → Calls Tryz.prog 26 #[v] w1 (GiveHd15 S P x y z w1))) :
 Calls Tryz.prog 14 #[v] w (GiveRim (S, 0, 0, 0, []) w) := by
 subst hv
 have q1 : ((S : Int) != 0) = true := neq_t h0
 replace h0 := Hi h0
 go_enter Tryz.func14, Tryz.ntmps14
 go_upto_region 1 with fail
 obtain ⟨w0, e, BB, q0⟩ := en1 w #[.int .i64 0, .int .i64 0, .int .i64 0, .slice none 0 0] IT
 rw [e]; clear e
 go_wp2_with fail
 refine (CH.out _ BB.out).mono ?_
 rintro e w1 ⟨A0, X, Y, Z, rfl, hb, hk⟩
 replace q0 := kp q0 hb
 replace BB := nx BB hb
 clear hb
 replace hk := Hi hk
 go_upto_region 2 with fail
 have qc := Hi (And.intro BB.out.size (And.intro q0.out.lt (True.intro)))
 obtain ⟨w2, qn, e1, e2, hb, qa⟩ := bx w1 #[.int .i64 X, .int .i64 Y, .int .i64 Z, .slice none 0 0] IT
 rw [e2] at qc; rw [e1, e2]
 replace q0 := kp q0 hb
 replace BB := nx BB hb
 clear hb e1 e2
 clear hk
 obtain ⟨q2, q3, q4, q5, q6, q7, q8, q9⟩ := reads4 q0.out
 have qb := q0.out.lt
 obtain ⟨qd, qe, qf, qg, qh, qi, qj, qk⟩ := reads4 qa.out
 have qm := qa.out.lt
 go_wp2_with fail
 clear q2 q3 q4 q5 q6 q7 q8 q9 qb qd qe qf qg qh qi qj qk qm
 have F := st4 q0 BB 0 (.int .i64 0) 1 (.int .i64 0) 2 (.int .i64 0) 3 (.slice none 0 0)
 clear q0 BB
 obtain ⟨w3, e, q0, BB, F⟩ := F
 rw [e]; clear e
 replace qa := F _ _ _ (by have dd_m := qc.out; omega) qa
 clear F
 go_wp2_with fail
 obtain ⟨q2, q3, q4, q5, q6, q7, q8, q9⟩ := reads4 q0.out
 have qb := q0.out.lt
 refine bret (.tuple #[imv 0 0 0 (.slice none 0 0), .int .i64 (S : Int)]) ?_
 exact ⟨0, 0, 0, _, rfl, BB.out, ⟨_, _, _, rfl⟩, fun _ => ⟨rfl, rfl, rfl, rfl⟩, fun e => absurd e (h0.out)⟩
theorem rr15_ok (S : Nat) (P : Nat → Prop) (x y z p N a n cap b off : Nat) (w : World) (q : List UInt8) (hN20 : n ≤ 20000) (han : a ≤ n) (hNle : N ≤ 100000000) (hN1 : 1 ≤ N) (hcap : n ≤ cap) (hcap2 : (cap : Int) ≤ 9223372036854775807) (h0 : Hid (S = 0)) (hP : Hid (∀ a', P a' → a' = a))
 (CH : Hid (∀ w1, Below w.heap.size w w1 → Calls Tryz.prog 26 #[.slice (some ⟨b, off, none⟩) n cap] w1 (GiveHd15 S P x y z w1)))
 (m1 : IntKind.i64.wrap ((x : Int) * (y : Int)) = (p : Int)) (m2 : IntKind.i64.wrap ((p : Int) * (z : Int)) = (N : Int)) (m3 : wrap64 ((x : Int) * (y : Int)) = (p : Int)) (m4 : wrap64 ((p : Int) * (z : Int)) = (N : Int))
 (hBY : Hid (∀ w1, Below w.heap.size w w1 → BY w1 (.slice (some ⟨b, off + a, none⟩) (n - a) (cap - a)) q)) :
 (n - a < N → Calls Tryz.prog 14 #[.slice (some ⟨b, off, none⟩) n cap] w (GiveRim (20, 0, 0, 0, []) w)) ∧
 (N < n - a → Calls Tryz.prog 14 #[.slice (some ⟨b, off, none⟩) n cap] w (GiveRim (22, 0, 0, 0, []) w)) ∧
 (n - a = N → Calls Tryz.prog 14 #[.slice (some ⟨b, off, none⟩) n cap] w (GiveRim (0, x, y, z, q) w)) := by
 have q1 : ((S : Int) != 0) = false := neq_f h0.out
 obtain ⟨L, hL⟩ : ∃ L, L = n - a := ⟨_, rfl⟩
 have e1 : (n : Int) - (a : Int) = (L : Int) := by omega
 have i1 : I64 (L : Int) := ⟨by omega, by omega⟩
 have s0 : (0 : Int) ≤ (a : Int) := by omega
 have s1 : (a : Int) ≤ (n : Int) := by omega
 have hLn : L ≤ n := by omega
 rw [← hL] at hBY ⊢
 refine ⟨fun h => ?_, fun h => ?_, fun h => ?_⟩
 · have g1 : (L : Int) < (N : Int) := by omega
   clear h hL han hNle hN1 hcap hcap2 hN20 hLn hBY
   have ew : IntKind.i64.wrap ((n : Int) - (a : Int)) = (L : Int) := by rw [e1]; exact iw i1
   clear e1 i1
   go_enter Tryz.func14, Tryz.ntmps14
   go_upto_region 1 with fail
   obtain ⟨w0, e, BB, q0⟩ := en1 w #[.int .i64 0, .int .i64 0, .int .i64 0, .slice none 0 0] IT
   rw [e]; clear e
   go_wp2_with fail
   refine (CH.out _ BB.out).mono ?_
   rintro e w1 ⟨A0, X, Y, Z, rfl, hb, hk⟩
   replace q0 := kp q0 hb
   replace BB := nx BB hb
   clear hb
   replace hk := Hi hk
   go_upto_region 2 with fail
   have qc := Hi (And.intro BB.out.size (And.intro q0.out.lt (True.intro)))
   obtain ⟨w2, qn, e1, e2, hb, qa⟩ := bx w1 #[.int .i64 X, .int .i64 Y, .int .i64 Z, .slice none 0 0] IT
   rw [e2] at qc; rw [e1, e2]
   replace q0 := kp q0 hb
   replace BB := nx BB hb
   clear hb e1 e2
   obtain ⟨a', ha', rfl, rfl, rfl, rfl⟩ := hk.out h0.out
   obtain rfl : a = a' := (hP.out _ ha').symm
   clear hk ha' CH
   obtain ⟨q2, q3, q4, q5, q6, q7, q8, q9⟩ := reads4 q0.out
   have qb := q0.out.lt
   obtain ⟨qd, qe, qf, qg, qh, qi, qj, qk⟩ := reads4 qa.out
   have qm := qa.out.lt
   go_wp2_with fail
   clear q2 q3 q4 q5 q6 q7 q8 q9 qb qd qe qf qg qh qi qj qk qm
   have F := st4 q0 BB 0 (.int .i64 0) 1 (.int .i64 0) 2 (.int .i64 0) 3 (.slice none 0 0)
   clear q0 BB
   obtain ⟨w3, e, q0, BB, F⟩ := F
   rw [e]; clear e
   replace qa := F _ _ _ (by have dd_m := qc.out; omega) qa
   clear F
   go_wp2_with fail
   obtain ⟨q2, q3, q4, q5, q6, q7, q8, q9⟩ := reads4 q0.out
   have qb := q0.out.lt
   refine bret (.tuple #[imv 0 0 0 (.slice none 0 0), .int .i64 20]) ?_
   exact ⟨0, 0, 0, _, rfl, BB.out, ⟨_, _, _, rfl⟩, fun _ => ⟨rfl, rfl, rfl, rfl⟩, fun e => absurd e (by simp)⟩
 · have g1 : ¬ (L : Int) < (N : Int) := by omega
   have g2 : (N : Int) < (L : Int) := by omega
   clear h hL han hNle hN1 hcap hcap2 hN20 hLn hBY
   have ew : IntKind.i64.wrap ((n : Int) - (a : Int)) = (L : Int) := by rw [e1]; exact iw i1
   clear e1 i1
   go_enter Tryz.func14, Tryz.ntmps14
   go_upto_region 1 with fail
   obtain ⟨w0, e, BB, q0⟩ := en1 w #[.int .i64 0, .int .i64 0, .int .i64 0, .slice none 0 0] IT
   rw [e]; clear e
   go_wp2_with fail
   refine (CH.out _ BB.out).mono ?_
   rintro e w1 ⟨A0, X, Y, Z, rfl, hb, hk⟩
   replace q0 := kp q0 hb
   replace BB := nx BB hb
   clear hb
   replace hk := Hi hk
   go_upto_region 2 with fail
   have qc := Hi (And.intro BB.out.size (And.intro q0.out.lt (True.intro)))
   obtain ⟨w2, qn, e1, e2, hb, qa⟩ := bx w1 #[.int .i64 X, .int .i64 Y, .int .i64 Z, .slice none 0 0] IT
   rw [e2] at qc; rw [e1, e2]
   replace q0 := kp q0 hb
   replace BB := nx BB hb
   clear hb e1 e2
   obtain ⟨a', ha', rfl, rfl, rfl, rfl⟩ := hk.out h0.out
   obtain rfl : a = a' := (hP.out _ ha').symm
   clear hk ha' CH
   obtain ⟨q2, q3, q4, q5, q6, q7, q8, q9⟩ := reads4 q0.out
   have qb := q0.out.lt
   obtain ⟨qd, qe, qf, qg, qh, qi, qj, qk⟩ := reads4 qa.out
   have qm := qa.out.lt
   go_wp2_with fail
   clear q2 q3 q4 q5 q6 q7 q8 q9 qb qd qe qf qg qh qi qj qk qm
   have F := st4 q0 BB 0 (.int .i64 0) 1 (.int .i64 0) 2 (.int .i64 0) 3 (.slice none 0 0)
   clear q0 BB
   obtain ⟨w3, e, q0, BB, F⟩ := F
   rw [e]; clear e
   replace qa := F _ _ _ (by have dd_m := qc.out; omega) qa
   clear F
   go_wp2_with fail
   obtain ⟨q2, q3, q4, q5, q6, q7, q8, q9⟩ := reads4 q0.out
   have qb := q0.out.lt
   refine bret (.tuple #[imv 0 0 0 (.slice none 0 0), .int .i64 22]) ?_
   exact ⟨0, 0, 0, _, rfl, BB.out, ⟨_, _, _, rfl⟩, fun _ => ⟨rfl, rfl, rfl, rfl⟩, fun e => absurd e (by simp)⟩
 · have g1 : ¬ (L : Int) < (N : Int) := by omega
   have g2 : ¬ (N : Int) < (L : Int) := by omega
   have s2 : ¬ a = cap := by omega
   have s3 : ¬ cap = a := by omega
   have CM := Hi (fun w => rmade (x : Int) (y : Int) (z : Int) (some ⟨b, off + a, none⟩) L (cap - a) w)
   have eL := Hi hL
   clear h han hNle hN1 hN20 hLn
   have ew : IntKind.i64.wrap ((n : Int) - (a : Int)) = (L : Int) := by rw [e1]; exact iw i1
   clear e1 i1 hL
   go_enter Tryz.func14, Tryz.ntmps14
   go_upto_region 1 with fail
   obtain ⟨w0, e, BB, q0⟩ := en1 w #[.int .i64 0, .int .i64 0, .int .i64 0, .slice none 0 0] IT
   rw [e]; clear e
   go_wp2_with fail
   refine (CH.out _ BB.out).mono ?_
   rintro e w1 ⟨A0, X, Y, Z, rfl, hb, hk⟩
   replace q0 := kp q0 hb
   replace BB := nx BB hb
   clear hb
   replace hk := Hi hk
   go_upto_region 2 with fail
   have qc := Hi (And.intro BB.out.size (And.intro q0.out.lt (True.intro)))
   obtain ⟨w2, qn, e1, e2, hb, qa⟩ := bx w1 #[.int .i64 X, .int .i64 Y, .int .i64 Z, .slice none 0 0] IT
   rw [e2] at qc; rw [e1, e2]
   replace q0 := kp q0 hb
   replace BB := nx BB hb
   clear hb e1 e2
   obtain ⟨a', ha', rfl, rfl, rfl, rfl⟩ := hk.out h0.out
   obtain rfl : a = a' := (hP.out _ ha').symm
   clear hk ha' CH
   obtain ⟨q2, q3, q4, q5, q6, q7, q8, q9⟩ := reads4 q0.out
   have qb := q0.out.lt
   obtain ⟨qd, qe, qf, qg, qh, qi, qj, qk⟩ := reads4 qa.out
   have qm := qa.out.lt
   go_wp2_with fail
   rw [eL.out] at CM
   clear q2 q3 q4 q5 q6 q7 q8 q9 qb qd qe qf qg qh qi qj qk qm
   have KK := Hi fun w9 (h : Below w2.heap.size w2 w9) => And.intro (cells4 (qa.out.keep h)) (cells4 (q0.out.keep h))
   have KD := kd KK
   refine g_bg KK 10 ?_
   refine g_tk 0 ?_
   refine g_tk 1 ?_
   refine g_tk 2 ?_
   refine g_tk 3 ?_
   refine g_tk 4 ?_
   refine g_tk 5 ?_
   refine g_tk 6 ?_
   refine g_tk 7 ?_
   refine g_tk 8 ?_
   refine g_sc 9 (fun K hK => ?_)
   go_simp
   go_at_call 27
   refine (CM.out _).mono ?_
   rintro e w3 ⟨rfl, hb⟩
   have ql := rn (w0 := w2) hb
   have qo := KK.out _ ql.out
   obtain ⟨rc_res0, rc_res1, rc_res2, rc_res3, rf_res0, rf_res1, rf_res2, rf_res3⟩ := reads4 (q0.out.keep ql.out)
   have rl_res := (q0.out.keep ql.out).lt
   clear hb
   refine hK.out _ _ (fun _ => qo) (fun hHeld => ?_)
   replace hHeld := hHeld (by decide)
   clear hK
   refine g_pt ?_
   refine g_ts 10 ?_
   refine g_ts 11 ?_
   refine g_dn ?_
   clear KK KD qo
   replace q0 := kp q0 ql.out
   replace qa := kp qa ql.out
   replace BB := nx BB ql.out
   clear ql
   have F := st4 q0 BB 0 (.int .i64 (x : Int)) 1 (.int .i64 (y : Int)) 2 (.int .i64 (z : Int)) 3 (.slice (some ⟨b, off + a, none⟩) (n - a) (cap - a))
   clear q0 BB
   obtain ⟨w4, e, q0, BB, F⟩ := F
   rw [e]; clear e
   replace qa := F _ _ _ (by have dd_m := qc.out; omega) qa
   clear F
   go_wp2_with fail
   obtain ⟨q2, q3, q4, q5, q6, q7, q8, q9⟩ := reads4 q0.out
   have qb := q0.out.lt
   refine bret (.tuple #[imv (x : Int) (y : Int) (z : Int) (.slice (some ⟨b, off + a, none⟩) (n - a) (cap - a)), .int .i64 0]) ?_
   refine ⟨_, _, _, _, rfl, BB.out, ⟨_, _, _, rfl⟩, fun e => absurd rfl e, fun _ => ⟨rfl, rfl, rfl, ?_⟩⟩
   have := hBY.out _ BB.out
   rw [eL.out] at this
   exact this
theorem i64_nat {k : Nat} (h : k ≤ 100000000) : I64 (k : Int) := ⟨by omega, by omega⟩
theorem pnmR_bad : ∀ l : List UInt8, hdE l ≠ 0 → pnmR l = (hdE l, 0, 0, 0, [])
 | [], _ => rfl
 | [x], _ => by simp only [pnmR, hdE]; split <;> rfl
 | x :: y :: t, h => by
   simp only [hdE] at h ⊢
   simp only [pnmR]
   by_cases k : x ≠ 80 ∨ (y ≠ 53 ∧ y ≠ 54)
   · rw [if_pos k, if_pos k]
   · rw [if_neg k] at h ⊢
     rw [if_neg k, if_pos h]
theorem pnmR_good (x y : UInt8) (t : List UInt8) (hxy : ¬ (x ≠ 80 ∨ (y ≠ 53 ∧ y ≠ 54))) (hS : (pnmS t).1 = 0) : pnmR (x :: y :: t) = if (pnmS t).2.2.2.length < (pnmS t).2.1 * (pnmS t).2.2.1 * (if y = 54 then 3 else 1) then (20, 0, 0, 0, []) else
 if (pnmS t).2.1 * (pnmS t).2.2.1 * (if y = 54 then 3 else 1) < (pnmS t).2.2.2.length then (22, 0, 0, 0, []) else (0, (pnmS t).2.1, (pnmS t).2.2.1, if y = 54 then 3 else 1, (pnmS t).2.2.2) := by
 simp only [pnmR]
 rw [if_neg hxy, if_neg (by rw [hS]; simp)]
theorem pnmS_suf (x y : UInt8) (t : List UInt8) (h : (pnmS t).1 = 0) : ∃ a, a ≤ (x :: y :: t).length ∧ (x :: y :: t).drop a = (pnmS t).2.2.2 := by
 have key : ∃ a, t.drop a = (pnmS t).2.2.2 := by
  unfold pnmS at h ⊢
  split at h
  · rename_i k; exact absurd h k
  rename_i k1
  split at h
  · rename_i k; exact absurd h k
  rename_i k2
  split at h
  · simp at h
  rename_i k3
  split at h
  · simp at h
  rename_i k4
  split at h
  · rename_i k; exact absurd h k
  rename_i k5
  split at h
  · simp at h
  rename_i k6
  split at h
  · rename_i k; exact absurd h k
  rename_i k7
  rw [if_neg k1, if_neg k2, if_neg k3, if_neg k4, if_neg k5, if_neg k6, if_neg k7]
  simp only [List.drop_drop]
  exact ⟨_, rfl⟩
 obtain ⟨a, ha⟩ := key
 by_cases hle : a ≤ t.length
 · exact ⟨a + 2, by simp; omega, by rw [← ha]; simp⟩
 · refine ⟨t.length + 2, by simp, ?_⟩
   rw [← ha, List.drop_of_length_le (show t.length ≤ a by omega)]
   simp
theorem rread15 (v : Value) (l : List UInt8) (hl : l.length ≤ 20000) (w : World) (h : BY w v l) : Calls Tryz.prog 14 #[v] w (GiveRim (pnmR l) w) := by
 have CH := Hi (fun w1 (hb : Below w.heap.size w w1) => rhead v l hl w1 (h.below hb))
 obtain ⟨A, cap, e⟩ := h.form
 by_cases h0 : hdE l = 0
 · obtain ⟨x, y, t, rfl⟩ : ∃ x y t, l = x :: y :: t := by
    match l, h0 with
    | [], h0 => simp [hdE] at h0
    | [x], h0 => simp only [hdE] at h0; split at h0 <;> simp at h0
    | x :: y :: t, _ => exact ⟨x, y, t, rfl⟩
   have hxy : ¬ (x ≠ 80 ∨ (y ≠ 53 ∧ y ≠ 54)) := fun k => by simp only [hdE] at h0; rw [if_pos k] at h0; simp at h0
   have hS : (pnmS t).1 = 0 := by simp only [hdE] at h0; rw [if_neg hxy] at h0; exact h0
   have hd2 : (x :: y :: t).drop 2 = t := rfl
   rw [hd2] at CH
   have hR := pnmR_good x y t hxy hS
   have hi := pnmS_img (l := t) (W := (pnmS t).2.1) (H := (pnmS t).2.2.1) (p := (pnmS t).2.2.2) (by rw [← hS])
   rw [show (x :: y :: t).getD 1 0 = y from rfl] at CH
   have hz : (if y = 54 then 3 else 1) = 1 ∨ (if y = 54 then 3 else 1) = 3 := by split <;> simp
   subst e
   obtain ⟨b, off, c', e, hc1, hc2, hlt, hc⟩ := h.some (by simp)
   simp only [Value.slice.injEq] at e
   obtain ⟨rfl, -, rfl⟩ := e
   rw [hR]
   obtain ⟨q, hq⟩ : ∃ q, q = (pnmS t).2.2.2 := ⟨_, rfl⟩
   have hsuf : ∃ a, a ≤ (x :: y :: t).length ∧ (x :: y :: t).drop a = q := by
    rw [hq]; exact pnmS_suf x y t hS
   obtain ⟨a, ha, hda⟩ := hsuf
   have hql : q.length = (x :: y :: t).length - a := by rw [← hda, List.length_drop]
   have hNb : (pnmS t).2.1 * (pnmS t).2.2.1 * (if y = 54 then 3 else 1) ≤ 4194304 * 3 := Nat.mul_le_mul hi.2.2.1 (by omega)
   have hN1 : 1 ≤ (pnmS t).2.1 * (pnmS t).2.2.1 * (if y = 54 then 3 else 1) := Nat.mul_pos (Nat.mul_pos (by omega) (by omega)) (by omega)
   have e1 : ((pnmS t).2.1 : Int) * ((pnmS t).2.2.1 : Int) = (((pnmS t).2.1 * (pnmS t).2.2.1 : Nat) : Int) := by rw [Int.natCast_mul]
   have hxy4 := hi.2.2.1
   rw [← hq] at CH ⊢
   generalize (if y = 54 then 3 else 1) = z at *
   generalize (pnmS t).2.1 = X at *
   generalize (pnmS t).2.2.1 = Y at *
   have e2 : ((X * Y : Nat) : Int) * (z : Int) = ((X * Y * z : Nat) : Int) := by rw [Int.natCast_mul (X * Y)]
   have hn20 := hl
   generalize hn : (x :: y :: t).length = n at *
   have m1 : IntKind.i64.wrap ((X : Int) * (Y : Int)) = ((X * Y : Nat) : Int) := by rw [e1]; exact iw (i64_nat (Nat.le_trans hxy4 (by decide)))
   have m2 : IntKind.i64.wrap (((X * Y : Nat) : Int) * (z : Int)) = ((X * Y * z : Nat) : Int) := by rw [e2]; exact iw (i64_nat (Nat.le_trans hNb (by decide)))
   have m3 : wrap64 ((X : Int) * (Y : Int)) = ((X * Y : Nat) : Int) := by rw [e1]; exact ww (i64_nat (Nat.le_trans hxy4 (by decide)))
   have m4 : wrap64 (((X * Y : Nat) : Int) * (z : Int)) = ((X * Y * z : Nat) : Int) := by rw [e2]; exact ww (i64_nat (Nat.le_trans hNb (by decide)))
   have hP : ∀ a', (a' ≤ n ∧ (x :: y :: t).drop a' = q ∧ (pnmS t).1 = 0) → a' = a := by
    rintro a' ⟨k1, k2, -⟩
    have := congrArg List.length k2
    rw [List.length_drop, hn, hql] at this
    omega
   have key := rr15_ok (hdE (x :: y :: t)) _ X Y z (X * Y) (X * Y * z) a n cap b off w q hn20 ha (Nat.le_trans hNb (by decide)) hN1 hc1 hc2 h0 hP CH m1 m2 m3 m4 (fun w1 hb => by
    have := (by_drop hn h b off rfl a ha).below hb
    rw [hda] at this
    exact this)
   rw [hql]
   split
   · rename_i k; exact key.1 k
   · split
     · rename_i k; exact key.2.1 k
     · rename_i k1 k2; exact key.2.2 (Nat.le_antisymm (Nat.not_lt.1 k2) (Nat.not_lt.1 k1))
 · rw [pnmR_bad l h0]
   exact rr15_bad v _ _ _ _ _ w A _ cap e h0 CH
end Go.Proofs.YtikpobembcgbfaaGreatDoor
