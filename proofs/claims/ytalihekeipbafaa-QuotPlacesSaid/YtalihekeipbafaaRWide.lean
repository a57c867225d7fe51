/- Walks of the document's 'Wide' and 'Fits', of anamorphlaw01's 'Big' and 'Told'. -/
import Derived.Test.YtalihekeipbafaaPow
import Derived.Test.YtalihekeipbafaaWide1
set_option linter.unusedVariables false
namespace Go.Proofs.Ytalihekeipbafaa
open Go.RowKit

theorem two_64 : (2 : Int) ^ 64 = 18446744073709551616 := by decide
set_option maxHeartbeats 1000000 in
theorem rwide_any (hi lo : Int) (h1 : I64 hi) (h2 : U64 lo) (w : World) : Calls Try.prog 69 #[.int .i64 hi, .int .u64 lo] w (GiveB (hi * 18446744073709551616 + lo) w) := by
  have W1 : Wd 127 (hi * 18446744073709551616) := by have := (i64_wd h1).mul (wd_two 64); rwa [two_64] at this
  have CM := Lib.hid (fun (a b : Value) w1 (ha : BR w1 a hi) (hb : BR w1 b ((2 : Int) ^ 64)) => mul_any a b hi _ w1 ha hb ((i64_wd h1).mid (by omega)) ((wd_two 64).mid (by omega)))
  have CA := Lib.hid (fun (a b : Value) w1 (ha : BR w1 a (hi * 18446744073709551616)) (hb : BR w1 b lo) => add_any a b _ lo w1 ha hb (W1.mid (by omega)) ((u64_wd h2).mid (by omega)))
  have CP := Lib.hid (fun w1 => pow_any 64 (by omega) w1)
  rw [two_64] at CM CP
  clear W1
  go_enter Try.func69, Try.ntmps69
  go_wp2_with fail
  have BB := start1 w #[.bool false, .slice none 0 0] 27
  obtain ⟨BB, hsz, r_res⟩ := BB
  generalize (w.alloc (.cells #[.bool false, .slice none 0 0] 27)) = w0 at *
  replace BB := Lib.hid BB
  replace r_res := Lib.hid r_res
  clear hsz
  refine (of_any hi h1 _).mono ?_
  rintro e w1 ⟨v_a, rfl, hb, h_a⟩
  obtain ⟨A_a, n_a, cap_a, rfl, -⟩ := id h_a.form
  replace h_a := Lib.hid h_a
  replace r_res := Lib.hid (r_res.out.keep hb)
  replace BB := Lib.hid (below_next BB.out hb)
  clear hb
  go_wp2_with fail
  refine (CP.out _).mono ?_
  rintro e w2 ⟨v_p, rfl, hb, h_p⟩
  obtain ⟨A_p, n_p, cap_p, rfl, -⟩ := id h_p.form
  replace h_p := Lib.hid h_p
  replace r_res := Lib.hid (r_res.out.keep hb)
  replace h_a := Lib.hid (h_a.out.below hb)
  replace BB := Lib.hid (below_next BB.out hb)
  clear hb
  go_wp2_with fail
  refine (CM.out _ _ _ h_a.out h_p.out).mono ?_
  rintro e w3 ⟨v_m, rfl, hb, h_m⟩
  obtain ⟨A_m, n_m, cap_m, rfl, -⟩ := id h_m.form
  replace h_m := Lib.hid h_m
  replace r_res := Lib.hid (r_res.out.keep hb)
  replace h_a := Lib.hid (h_a.out.below hb)
  replace h_p := Lib.hid (h_p.out.below hb)
  replace BB := Lib.hid (below_next BB.out hb)
  clear hb
  clear h_a h_p
  go_wp2_with fail
  refine (uns_any lo h2 _).mono ?_
  rintro e w4 ⟨v_b, rfl, hb, h_b⟩
  obtain ⟨A_b, n_b, cap_b, rfl, -⟩ := id h_b.form
  replace h_b := Lib.hid h_b
  replace r_res := Lib.hid (r_res.out.keep hb)
  replace h_m := Lib.hid (h_m.out.below hb)
  replace BB := Lib.hid (below_next BB.out hb)
  clear hb
  go_wp2_with fail
  refine (CA.out _ _ _ h_m.out h_b.out).mono ?_
  rintro e w5 ⟨v_s, rfl, hb, h_s⟩
  obtain ⟨A_s, n_s, cap_s, rfl, -⟩ := id h_s.form
  replace h_s := Lib.hid h_s
  replace r_res := Lib.hid (r_res.out.keep hb)
  replace h_m := Lib.hid (h_m.out.below hb)
  replace h_b := Lib.hid (h_b.out.below hb)
  replace BB := Lib.hid (below_next BB.out hb)
  clear hb
  clear CM CA CP h1 h2
  obtain ⟨c_res0, c_res1, f_res0, f_res1⟩ := reads2 r_res.out
  have l_res := r_res.out.lt
  go_wp2_with fail
  refine bodyPost_ret (v := .agg #[.bool (sgn (hi * 18446744073709551616 + lo)), .slice A_s n_s cap_s]) (by unfold results; simp only [Try.results69]; go_simp) rfl ?_
  exact give_res BB.out h_s.out r_res.out (by omega) rfl

theorem lbig_any (z hi lo : Int) (h : W128 z hi lo) (w : World) : Calls Try.prog 15 #[wv hi lo] w (GiveB z w) := by
  have C := Lib.hid (fun w => rwide_any hi lo h.1 h.2.1 w)
  rw [h.2.2] at C
  clear h
  go_enter Try.func15, Try.ntmps15
  go_wp2_with fail
  have BB := start2 w #[.int .i64 hi, .int .u64 lo] 24 #[.bool false, .slice none 0 0] 27
  obtain ⟨BB, hsz, r_a, r_res⟩ := BB
  generalize ((w.alloc (.cells #[.int .i64 hi, .int .u64 lo] 24)).alloc (.cells #[.bool false, .slice none 0 0] 27)) = w0 at *
  replace BB := Lib.hid BB
  replace r_a := Lib.hid r_a
  replace r_res := Lib.hid r_res
  clear hsz
  refine (C.out _).mono ?_
  rintro e w1 ⟨v_s, rfl, hb, h_s⟩
  obtain ⟨A_s, n_s, cap_s, rfl, -⟩ := id h_s.form
  replace h_s := Lib.hid h_s
  replace r_a := Lib.hid (r_a.out.keep hb)
  replace r_res := Lib.hid (r_res.out.keep hb)
  replace BB := Lib.hid (below_next BB.out hb)
  clear hb
  obtain ⟨c_res0, c_res1, f_res0, f_res1⟩ := reads2 r_res.out
  have l_res := r_res.out.lt
  go_wp2_with fail
  refine bodyPost_ret (v := .agg #[.bool (sgn z), .slice A_s n_s cap_s]) (by unfold results; simp only [Try.results15]; go_simp) rfl ?_
  exact give_res BB.out h_s.out r_res.out (by omega) rfl

end Go.Proofs.Ytalihekeipbafaa
