/- Contracts of ref04's Mul and Div. -/
import Derived.Test.YthdbchghhpoadaaDoorFxB
import Derived.Test.YthdbchghhpoadaaDoorRQuot0
set_option linter.unusedVariables false
set_option linter.unusedSimpArgs false
namespace Go.Proofs.YthdbchghhpoadaaDoor
open Go.RowKit
theorem two16 : (2 : Int) ^ 16 = 65536 := by decide
set_option maxHeartbeats 2000000 in
theorem r4mul (a b : Int) (ha : I64 a) (hb' : I64 b) (w : World) : Calls Tryd.prog 15 #[.int .i64 a, .int .i64 b] w (GiveB ((a * b).fdiv 65536) w) := by
  have w1 := (i64_wd ha).mul (i64_wd hb')
  have C1 := Lib.hid (fun w => of_any a ha w)
  have C2 := Lib.hid (fun w => of_any b hb' w)
  have CW := Lib.hid (fun w => pow_any 16 (by omega) w)
  rw [two16] at CW
  have CM := Lib.hid (fun (u v : Value) w (hu : BR w u a) (hv : BR w v b) => mul_any u v a b w hu hv ((i64_wd ha).mid (by omega)) ((i64_wd hb').mid (by omega)))
  have CF := Lib.hid (fun (u v : Value) w (hu : BR w u (a * b)) (hv : BR w v 65536) => floor_any u v (a * b) 65536 w hu hv (w1.mid (by omega)) ((show Wd 17 65536 by unfold Wd; decide).low (by omega)) (by omega))
  clear ha hb' w1
  generalize (a * b).fdiv 65536 = Z at *
  generalize a * b = P at *
  go_enter Tryd.func15, Tryd.ntmps15
  go_wp2_with fail
  have BB := start1 w #[.bool false, .slice none 0 0] BT4
  obtain ⟨BB, hsz, r_res⟩ := BB
  generalize (w.alloc (.cells #[.bool false, .slice none 0 0] BT4)) = w0 at *
  replace BB := Lib.hid BB
  replace r_res := Lib.hid r_res
  clear hsz
  refine (C1.out _).mono ?_
  rintro e w1 ⟨v_x, rfl, hb, h_x⟩
  obtain ⟨A_x, n_x, cap_x, rfl, -⟩ := id h_x.form
  replace h_x := Lib.hid h_x
  replace r_res := Lib.hid (r_res.out.keep hb)
  replace BB := Lib.hid (below_next BB.out hb)
  clear hb
  go_wp2_with fail
  refine (C2.out _).mono ?_
  rintro e w2 ⟨v_y, rfl, hb, h_y⟩
  obtain ⟨A_y, n_y, cap_y, rfl, -⟩ := id h_y.form
  replace h_y := Lib.hid h_y
  replace r_res := Lib.hid (r_res.out.keep hb)
  replace h_x := Lib.hid (h_x.out.below hb)
  replace BB := Lib.hid (below_next BB.out hb)
  clear hb
  go_wp2_with fail
  refine (CM.out _ _ _ h_x.out h_y.out).mono ?_
  rintro e w3 ⟨v_m, rfl, hb, h_m⟩
  obtain ⟨A_m, n_m, cap_m, rfl, -⟩ := id h_m.form
  replace h_m := Lib.hid h_m
  replace r_res := Lib.hid (r_res.out.keep hb)
  replace h_x := Lib.hid (h_x.out.below hb)
  replace h_y := Lib.hid (h_y.out.below hb)
  replace BB := Lib.hid (below_next BB.out hb)
  clear hb
  go_wp2_with fail
  refine (CW.out _).mono ?_
  rintro e w4 ⟨v_p, rfl, hb, h_p⟩
  obtain ⟨A_p, n_p, cap_p, rfl, -⟩ := id h_p.form
  replace h_p := Lib.hid h_p
  replace r_res := Lib.hid (r_res.out.keep hb)
  replace h_x := Lib.hid (h_x.out.below hb)
  replace h_y := Lib.hid (h_y.out.below hb)
  replace h_m := Lib.hid (h_m.out.below hb)
  replace BB := Lib.hid (below_next BB.out hb)
  clear hb
  go_wp2_with fail
  refine (CF.out _ _ _ h_m.out h_p.out).mono ?_
  rintro e w5 ⟨v_z, rfl, hb, h_z⟩
  obtain ⟨A_z, n_z, cap_z, rfl, -⟩ := id h_z.form
  replace h_z := Lib.hid h_z
  replace r_res := Lib.hid (r_res.out.keep hb)
  replace h_x := Lib.hid (h_x.out.below hb)
  replace h_y := Lib.hid (h_y.out.below hb)
  replace h_m := Lib.hid (h_m.out.below hb)
  replace h_p := Lib.hid (h_p.out.below hb)
  replace BB := Lib.hid (below_next BB.out hb)
  clear hb
  obtain ⟨c_res0, c_res1, f_res0, f_res1⟩ := reads2 r_res.out
  have l_res := r_res.out.lt
  go_wp2_with fail
  refine bodyPost_ret (v := .agg #[.bool (sgn Z), .slice A_z n_z cap_z]) (by unfold results; simp only [Tryd.results15]; go_simp) rfl ?_
  exact give_res BB.out h_z.out r_res.out (by omega) rfl
end Go.Proofs.YthdbchghhpoadaaDoor
