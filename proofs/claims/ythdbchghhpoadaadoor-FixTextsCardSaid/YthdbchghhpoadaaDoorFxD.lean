/- Contract of ref04's Div; told of law 04 at a number that fits or does not. -/
import Derived.Test.YthdbchghhpoadaaDoorFxC
import Derived.Test.YthdbchghhpoadaaDoorFxA
set_option linter.unusedVariables false
set_option linter.unusedSimpArgs false
namespace Go.Proofs.YthdbchghhpoadaaDoor
open Go.RowKit
set_option maxHeartbeats 2000000 in
theorem r4div_zero (a : Int) (ha : I64 a) (w : World) : Calls Tryd.prog 11 #[.int .i64 a, .int .i64 0] w (GiveBB 0 false w) := by
  have C1 := Lib.hid (fun w => of_any a ha w)
  have CW := Lib.hid (fun w => pow_any 16 (by omega) w)
  rw [two16] at CW
  have CM := Lib.hid (fun (u v : Value) w (hu : BR w u a) (hv : BR w v 65536) => mul_any u v a 65536 w hu hv ((i64_wd ha).mid (by omega)) ((show Wd 17 65536 by unfold Wd; decide).mid (by omega)))
  have CF := Lib.hid (fun (u : Value) w (hu : BR w u (a * 65536)) => r2floor_zero u (a * 65536) w hu)
  clear ha
  generalize a * 65536 = P at *
  go_enter Tryd.func11, Tryd.ntmps11
  go_wp2_with fail
  have BB := start1 w #[.bool false, .slice none 0 0] BT4
  obtain ⟨BB, hsz, r_res⟩ := BB
  generalize (w.alloc (.cells #[.bool false, .slice none 0 0] BT4)) = w0 at *
  replace BB := Lib.hid BB
  replace r_res := Lib.hid r_res
  clear hsz
  refine (C1.out _).mono ?_
  rintro e w1 ⟨v_x, rfl, hb, h_x⟩
  obtain ⟨A_x, n_x, cap_x, rfl, -⟩ := id h_x.form
  replace h_x := Lib.hid h_x
  replace r_res := Lib.hid (r_res.out.keep hb)
  replace BB := Lib.hid (below_next BB.out hb)
  clear hb
  go_wp2_with fail
  refine (CW.out _).mono ?_
  rintro e w2 ⟨v_y, rfl, hb, h_y⟩
  obtain ⟨A_y, n_y, cap_y, rfl, -⟩ := id h_y.form
  replace h_y := Lib.hid h_y
  replace r_res := Lib.hid (r_res.out.keep hb)
  replace h_x := Lib.hid (h_x.out.below hb)
  replace BB := Lib.hid (below_next BB.out hb)
  clear hb
  go_wp2_with fail
  refine (CM.out _ _ _ h_x.out h_y.out).mono ?_
  rintro e w3 ⟨v_m, rfl, hb, h_m⟩
  obtain ⟨A_m, n_m, cap_m, rfl, -⟩ := id h_m.form
  replace h_m := Lib.hid h_m
  replace r_res := Lib.hid (r_res.out.keep hb)
  replace h_x := Lib.hid (h_x.out.below hb)
  replace h_y := Lib.hid (h_y.out.below hb)
  replace BB := Lib.hid (below_next BB.out hb)
  clear hb
  go_wp2_with fail
  refine (CF.out _ _ h_m.out).mono ?_
  rintro e w4 ⟨v_q, rfl, hb, h_q⟩
  replace r_res := Lib.hid (r_res.out.keep hb)
  replace h_x := Lib.hid (h_x.out.below hb)
  replace h_y := Lib.hid (h_y.out.below hb)
  replace h_m := Lib.hid (h_m.out.below hb)
  replace BB := Lib.hid (below_next BB.out hb)
  clear hb
  obtain ⟨A_q, n_q, cap_q, rfl, -⟩ := id h_q.form
  have h_q := Lib.hid h_q
  obtain ⟨c_res0, c_res1, f_res0, f_res1⟩ := reads2 r_res.out
  have l_res := r_res.out.lt
  go_wp2_with fail
  have HF := br_set BB.out h_q.out r_res.out (by omega) rfl
  exact bodyPost_ret (v := .tuple #[.agg #[.bool (sgn 0), .slice A_q n_q cap_q], .bool false]) (by unfold results; simp only [Tryd.results11]; go_simp) rfl ⟨_, rfl, HF.1, HF.2⟩
set_option maxHeartbeats 2000000 in
theorem r4div (a b : Int) (ha : I64 a) (hb' : I64 b) (h0 : b ≠ 0) (w : World) : Calls Tryd.prog 11 #[.int .i64 a, .int .i64 b] w (GiveBB ((a * 65536).fdiv b) true w) := by
  have w1 : Wd 80 (a * 65536) := (i64_wd ha).mul (show Wd 17 65536 by unfold Wd; decide)
  have C1 := Lib.hid (fun w => of_any a ha w)
  have CW := Lib.hid (fun w => pow_any 16 (by omega) w)
  rw [two16] at CW
  have CM := Lib.hid (fun (u v : Value) w (hu : BR w u a) (hv : BR w v 65536) => mul_any u v a 65536 w hu hv ((i64_wd ha).mid (by omega)) ((show Wd 17 65536 by unfold Wd; decide).mid (by omega)))
  have CF := Lib.hid (fun (u : Value) w (hu : BR w u (a * 65536)) => r2floor u (a * 65536) b w hu (w1.up (by omega)) hb' h0)
  clear ha hb' h0 w1
  generalize (a * 65536).fdiv b = Z at *
  generalize a * 65536 = P at *
  go_enter Tryd.func11, Tryd.ntmps11
  go_wp2_with fail
  have BB := start1 w #[.bool false, .slice none 0 0] BT4
  obtain ⟨BB, hsz, r_res⟩ := BB
  generalize (w.alloc (.cells #[.bool false, .slice none 0 0] BT4)) = w0 at *
  replace BB := Lib.hid BB
  replace r_res := Lib.hid r_res
  clear hsz
  refine (C1.out _).mono ?_
  rintro e w1 ⟨v_x, rfl, hb, h_x⟩
  obtain ⟨A_x, n_x, cap_x, rfl, -⟩ := id h_x.form
  replace h_x := Lib.hid h_x
  replace r_res := Lib.hid (r_res.out.keep hb)
  replace BB := Lib.hid (below_next BB.out hb)
  clear hb
  go_wp2_with fail
  refine (CW.out _).mono ?_
  rintro e w2 ⟨v_y, rfl, hb, h_y⟩
  obtain ⟨A_y, n_y, cap_y, rfl, -⟩ := id h_y.form
  replace h_y := Lib.hid h_y
  replace r_res := Lib.hid (r_res.out.keep hb)
  replace h_x := Lib.hid (h_x.out.below hb)
  replace BB := Lib.hid (below_next BB.out hb)
  clear hb
  go_wp2_with fail
  refine (CM.out _ _ _ h_x.out h_y.out).mono ?_
  rintro e w3 ⟨v_m, rfl, hb, h_m⟩
  obtain ⟨A_m, n_m, cap_m, rfl, -⟩ := id h_m.form
  replace h_m := Lib.hid h_m
  replace r_res := Lib.hid (r_res.out.keep hb)
  replace h_x := Lib.hid (h_x.out.below hb)
  replace h_y := Lib.hid (h_y.out.below hb)
  replace BB := Lib.hid (below_next BB.out hb)
  clear hb
  go_wp2_with fail
  refine (CF.out _ _ h_m.out).mono ?_
  rintro e w4 ⟨v_q, rfl, hb, h_q⟩
  replace r_res := Lib.hid (r_res.out.keep hb)
  replace h_x := Lib.hid (h_x.out.below hb)
  replace h_y := Lib.hid (h_y.out.below hb)
  replace h_m := Lib.hid (h_m.out.below hb)
  replace BB := Lib.hid (below_next BB.out hb)
  clear hb
  obtain ⟨A_q, n_q, cap_q, rfl, -⟩ := id h_q.form
  have h_q := Lib.hid h_q
  obtain ⟨c_res0, c_res1, f_res0, f_res1⟩ := reads2 r_res.out
  have l_res := r_res.out.lt
  go_wp2_with fail
  have HF := br_set BB.out h_q.out r_res.out (by omega) rfl
  exact bodyPost_ret (v := .tuple #[.agg #[.bool (sgn Z), .slice A_q n_q cap_q], .bool true]) (by unfold results; simp only [Tryd.results11]; go_simp) rfl ⟨_, rfl, HF.1, HF.2⟩
theorem told_fit (v : Value) (z : Int) (hz : Wd 1400 z) (w : World) (hv : BR w v z) : Calls Tryd.prog 12 #[.int .i64 (fitX z), .bool (fitsB z 63), v, .bool true] w fun e w' => e = .returned (.bool true) ∧ Below w.heap.size w w' := by
  cases hf : fitsB z 63 with
  | true =>
    have e : fitX z = z := by unfold fitX; rw [if_pos hf]
    rw [e]
    exact told_is v z (fits_63.1 hf) w hv
  | false =>
    have e : fitX z = 0 := by unfold fitX; rw [if_neg (by simp [hf])]
    rw [e]
    exact told_far v z hz hf w hv
end Go.Proofs.YthdbchghhpoadaaDoor
