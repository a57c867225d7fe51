/- Walk of the law FixSums. -/
import Derived.Test.YthdbchghhpoadaaDoorFxD
import Derived.Deep.DeepCutAuto
set_option linter.unusedVariables false
set_option linter.unusedSimpArgs false
namespace Go.Proofs.YthdbchghhpoadaaDoor
open Go.RowKit
theorem quots (a b : Int) (ha : I64 a) (hb : I64 b) : ∃ (X Z : Int) (Y has : Bool), (∀ w, Calls Tryd.prog 10 #[.int .i64 a, .int .i64 b] w fun e w' => e = .returned (.tuple #[.int .i64 X, .bool Y]) ∧ Below w.heap.size w w') ∧
    (∀ w, Calls Tryd.prog 11 #[.int .i64 a, .int .i64 b] w (GiveBB Z has w)) ∧
    (∀ v w, BR w v Z → Calls Tryd.prog 12 #[.int .i64 X, .bool Y, v, .bool has] w fun e w' => e = .returned (.bool true) ∧ Below w.heap.size w w') := by
  by_cases h0 : b = 0
  · refine ⟨0, 0, false, false, fun w => ?_, fun w => by rw [h0]; exact r4div_zero a ha w, fun v w hv => told_none v 0 w hv⟩
    have := fdiv_any a b ha hb w
    rw [if_pos h0, decide_eq_false (fun h => h h0), Bool.false_and] at this
    exact this
  · refine ⟨fitX ((a * 65536).fdiv b), (a * 65536).fdiv b, fitsB ((a * 65536).fdiv b) 63, true, fun w => ?_, fun w => r4div a b ha hb h0 w, fun v w hv => told_fit v _ (Wd.up (n := 1400) (Wd.fdiv (show Wd 80 (a * 65536) from (i64_wd ha).mul (show Wd 17 65536 by unfold Wd; decide))) (by omega)) w hv⟩
    have := fdiv_any a b ha hb w
    rw [if_neg h0, decide_eq_true h0, Bool.true_and] at this
    exact this
set_option maxHeartbeats 20000000 in
set_option maxRecDepth 100000 in
theorem fixSums_any (a b : Int) (ha : I64 a) (hb' : I64 b) (w : World) :
    Calls Tryd.prog 3 #[.int .i64 a, .int .i64 b] w fun e w' => e = .returned (.bool true) ∧ Below w.heap.size w w' := by
  have wa := i64_wd ha
  have wb := i64_wd hb'
  have CA := Lib.hid (fun w => of_any a ha w)
  have CB := Lib.hid (fun w => of_any b hb' w)
  have S1 := Lib.hid (fun w => fadd a b ha hb' w)
  have S2 := Lib.hid (fun w => fsub a b ha hb' w)
  have S3 := Lib.hid (fun w => fmul a b ha hb' w)
  have hq : Hid ((a * b).fdiv 65536 = a * b / 65536) := Int.fdiv_eq_ediv_of_nonneg _ (by omega)
  have R3 := Lib.hid (fun w => r4mul a b ha hb' w)
  rw [hq.out] at R3
  obtain ⟨X, Z, Y, has, S4, R4, T4⟩ := quots a b ha hb'
  replace S4 := Lib.hid S4
  replace R4 := Lib.hid R4
  replace T4 := Lib.hid T4
  have P1 := Lib.hid (fun (u v : Value) w1 (hu : BR w1 u a) (hv : BR w1 v b) => add_any u v a b w1 hu hv (wa.mid (by omega)) (wb.mid (by omega)))
  have P2 := Lib.hid (fun (u v : Value) w1 (hu : BR w1 u a) (hv : BR w1 v b) => sub_any u v a b w1 hu hv (wa.mid (by omega)) (wb.mid (by omega)))
  have T1 := Lib.hid (fun (v : Value) w1 (hv : BR w1 v (a + b)) => told_fit v _ ((wa.add wb).up (by omega)) w1 hv)
  have T2 := Lib.hid (fun (v : Value) w1 (hv : BR w1 v (a - b)) => told_fit v _ ((wa.sub wb).up (by omega)) w1 hv)
  have T3 := Lib.hid (fun (v : Value) w1 (hv : BR w1 v (a * b / 65536)) => told_fit v _ (by rw [← hq.out]; exact ((wa.mul wb).fdiv (y := 65536)).up (by omega)) w1 hv)
  have CL := Lib.hid (fun w => alive04 w)
  have TT : Hid (∀ w9, Below w.heap.size w w9 → True) := fun _ _ => trivial
  clear wa wb ha hb' hq
  generalize a + b = s at *
  generalize a - b = d at *
  generalize a * b / 65536 = m at *
  go_enter Tryd.func3, Tryd.ntmps3
  go_wp2_with fail
  have BB : Hid (Below w.heap.size w w) := Below.refl _ _
  refine (CA.out _).mono ?_
  rintro e w1 ⟨v_p, rfl, hb, h_p⟩
  obtain ⟨A_p, n_p, cap_p, rfl, -⟩ := id h_p.form
  replace h_p := Lib.hid h_p
  replace BB := Lib.hid (below_next BB.out hb)
  clear hb
  go_wp2_with fail
  refine (CB.out _).mono ?_
  rintro e w2 ⟨v_q, rfl, hb, h_q⟩
  obtain ⟨A_q, n_q, cap_q, rfl, -⟩ := id h_q.form
  replace h_q := Lib.hid h_q
  replace h_p := Lib.hid (h_p.out.below hb)
  replace BB := Lib.hid (below_next BB.out hb)
  clear hb
  go_upto_region 2 with fail
  have d_p := Lib.hid (And.intro BB.out.size (True.intro))
  obtain ⟨hb, -, r_p, r_q⟩ := start2 w2 #[.bool (sgn a), .slice A_p n_p cap_p] BT4 #[.bool (sgn b), .slice A_q n_q cap_q] BT4
  replace h_p := Lib.hid (h_p.out.below hb)
  replace h_q := Lib.hid (h_q.out.below hb)
  replace BB := Lib.hid (below_next BB.out hb)
  clear hb
  replace r_p := Lib.hid r_p; replace r_q := Lib.hid r_q
  generalize (w2.alloc (.cells #[.bool (sgn a), .slice A_p n_p cap_p] BT4)).alloc (.cells #[.bool (sgn b), .slice A_q n_q cap_q] BT4) = w3 at *
  generalize w2.heap.size = g_p at *
  have d_q := d_p
  go_wp2_with fail
  refine (S1.out _).mono ?_
  rintro e w4 ⟨rfl, hb⟩
  replace r_p := Lib.hid (r_p.out.keep hb)
  replace r_q := Lib.hid (r_q.out.keep hb)
  replace h_p := Lib.hid (h_p.out.below hb)
  replace h_q := Lib.hid (h_q.out.below hb)
  replace BB := Lib.hid (below_next BB.out hb)
  clear hb
  go_wp2_with fail
  refine (S2.out _).mono ?_
  rintro e w5 ⟨rfl, hb⟩
  replace r_p := Lib.hid (r_p.out.keep hb)
  replace r_q := Lib.hid (r_q.out.keep hb)
  replace h_p := Lib.hid (h_p.out.below hb)
  replace h_q := Lib.hid (h_q.out.below hb)
  replace BB := Lib.hid (below_next BB.out hb)
  clear hb
  go_wp2_with fail
  refine (S3.out _).mono ?_
  rintro e w6 ⟨rfl, hb⟩
  replace r_p := Lib.hid (r_p.out.keep hb)
  replace r_q := Lib.hid (r_q.out.keep hb)
  replace h_p := Lib.hid (h_p.out.below hb)
  replace h_q := Lib.hid (h_q.out.below hb)
  replace BB := Lib.hid (below_next BB.out hb)
  clear hb
  go_wp2_with fail
  refine (S4.out _).mono ?_
  rintro e w7 ⟨rfl, hb⟩
  replace r_p := Lib.hid (r_p.out.keep hb)
  replace r_q := Lib.hid (r_q.out.keep hb)
  replace h_p := Lib.hid (h_p.out.below hb)
  replace h_q := Lib.hid (h_q.out.below hb)
  replace BB := Lib.hid (below_next BB.out hb)
  clear hb
  go_wp2_with fail
  refine (R4.out _).mono ?_
  rintro e w8 ⟨v_n, rfl, hb, h_n⟩
  replace r_p := Lib.hid (r_p.out.keep hb)
  replace r_q := Lib.hid (r_q.out.keep hb)
  replace h_p := Lib.hid (h_p.out.below hb)
  replace h_q := Lib.hid (h_q.out.below hb)
  replace BB := Lib.hid (below_next BB.out hb)
  clear hb
  obtain ⟨A_n, n_n, cap_n, rfl, -⟩ := id h_n.form
  have h_n := Lib.hid h_n
  go_upto_region 7 with fail
  have d_n := Lib.hid (And.intro BB.out.size (And.intro r_p.out.lt (And.intro r_q.out.lt (True.intro))))
  obtain ⟨hb, r_n⟩ := laid w8 #[.bool (sgn Z), .slice A_n n_n cap_n] BT4
  replace r_p := Lib.hid (r_p.out.keep hb)
  replace r_q := Lib.hid (r_q.out.keep hb)
  replace h_p := Lib.hid (h_p.out.below hb)
  replace h_q := Lib.hid (h_q.out.below hb)
  replace h_n := Lib.hid (h_n.out.below hb)
  replace BB := Lib.hid (below_next BB.out hb)
  replace r_n := Lib.hid r_n
  clear hb
  generalize w8.alloc (.cells #[.bool (sgn Z), .slice A_n n_n cap_n] BT4) = w10 at *
  generalize w8.heap.size = g_n at *
  obtain ⟨c_p0, c_p1, f_p0, f_p1⟩ := reads2 r_p.out
  have l_p := r_p.out.lt
  obtain ⟨c_q0, c_q1, f_q0, f_q1⟩ := reads2 r_q.out
  have l_q := r_q.out.lt
  obtain ⟨c_n0, c_n1, f_n0, f_n1⟩ := reads2 r_n.out
  have l_n := r_n.out.lt
  go_wp2_with fail
  refine (P1.out _ _ _ h_p.out h_q.out).mono ?_
  rintro e w11 ⟨v_ra, rfl, hb, h_ra⟩
  obtain ⟨A_ra, n_ra, cap_ra, rfl, -⟩ := id h_ra.form
  replace h_ra := Lib.hid h_ra
  clear c_p0 c_p1 f_p0 f_p1 l_p c_q0 c_q1 f_q0 f_q1 l_q c_n0 c_n1 f_n0 f_n1 l_n
  replace r_p := Lib.hid (r_p.out.keep hb)
  replace r_q := Lib.hid (r_q.out.keep hb)
  replace r_n := Lib.hid (r_n.out.keep hb)
  replace h_p := Lib.hid (h_p.out.below hb)
  replace h_q := Lib.hid (h_q.out.below hb)
  replace h_n := Lib.hid (h_n.out.below hb)
  replace BB := Lib.hid (below_next BB.out hb)
  clear hb
  go_wp2_with fail
  refine (T1.out _ _ h_ra.out).mono ?_
  rintro e w12 ⟨rfl, hb⟩
  replace r_p := Lib.hid (r_p.out.keep hb)
  replace r_q := Lib.hid (r_q.out.keep hb)
  replace r_n := Lib.hid (r_n.out.keep hb)
  replace h_p := Lib.hid (h_p.out.below hb)
  replace h_q := Lib.hid (h_q.out.below hb)
  replace h_n := Lib.hid (h_n.out.below hb)
  replace h_ra := Lib.hid (h_ra.out.below hb)
  replace BB := Lib.hid (below_next BB.out hb)
  clear hb
  obtain ⟨c_p0, c_p1, f_p0, f_p1⟩ := reads2 r_p.out
  have l_p := r_p.out.lt
  obtain ⟨c_q0, c_q1, f_q0, f_q1⟩ := reads2 r_q.out
  have l_q := r_q.out.lt
  obtain ⟨c_n0, c_n1, f_n0, f_n1⟩ := reads2 r_n.out
  have l_n := r_n.out.lt
  go_wp2_with fail
  refine (P2.out _ _ _ h_p.out h_q.out).mono ?_
  rintro e w13 ⟨v_rs, rfl, hb, h_rs⟩
  obtain ⟨A_rs, n_rs, cap_rs, rfl, -⟩ := id h_rs.form
  replace h_rs := Lib.hid h_rs
  clear c_p0 c_p1 f_p0 f_p1 l_p c_q0 c_q1 f_q0 f_q1 l_q c_n0 c_n1 f_n0 f_n1 l_n
  replace r_p := Lib.hid (r_p.out.keep hb)
  replace r_q := Lib.hid (r_q.out.keep hb)
  replace r_n := Lib.hid (r_n.out.keep hb)
  replace h_p := Lib.hid (h_p.out.below hb)
  replace h_q := Lib.hid (h_q.out.below hb)
  replace h_n := Lib.hid (h_n.out.below hb)
  replace h_ra := Lib.hid (h_ra.out.below hb)
  replace BB := Lib.hid (below_next BB.out hb)
  clear hb
  go_wp2_with fail
  refine (T2.out _ _ h_rs.out).mono ?_
  rintro e w14 ⟨rfl, hb⟩
  replace r_p := Lib.hid (r_p.out.keep hb)
  replace r_q := Lib.hid (r_q.out.keep hb)
  replace r_n := Lib.hid (r_n.out.keep hb)
  replace h_p := Lib.hid (h_p.out.below hb)
  replace h_q := Lib.hid (h_q.out.below hb)
  replace h_n := Lib.hid (h_n.out.below hb)
  replace h_ra := Lib.hid (h_ra.out.below hb)
  replace h_rs := Lib.hid (h_rs.out.below hb)
  replace BB := Lib.hid (below_next BB.out hb)
  clear hb
  go_wp2_with fail
  refine (R3.out _).mono ?_
  rintro e w15 ⟨v_rm, rfl, hb, h_rm⟩
  obtain ⟨A_rm, n_rm, cap_rm, rfl, -⟩ := id h_rm.form
  replace h_rm := Lib.hid h_rm
  replace r_p := Lib.hid (r_p.out.keep hb)
  replace r_q := Lib.hid (r_q.out.keep hb)
  replace r_n := Lib.hid (r_n.out.keep hb)
  replace h_p := Lib.hid (h_p.out.below hb)
  replace h_q := Lib.hid (h_q.out.below hb)
  replace h_n := Lib.hid (h_n.out.below hb)
  replace h_ra := Lib.hid (h_ra.out.below hb)
  replace h_rs := Lib.hid (h_rs.out.below hb)
  replace BB := Lib.hid (below_next BB.out hb)
  clear hb
  go_wp2_with fail
  refine (T3.out _ _ h_rm.out).mono ?_
  rintro e w16 ⟨rfl, hb⟩
  replace r_p := Lib.hid (r_p.out.keep hb)
  replace r_q := Lib.hid (r_q.out.keep hb)
  replace r_n := Lib.hid (r_n.out.keep hb)
  replace h_p := Lib.hid (h_p.out.below hb)
  replace h_q := Lib.hid (h_q.out.below hb)
  replace h_n := Lib.hid (h_n.out.below hb)
  replace h_ra := Lib.hid (h_ra.out.below hb)
  replace h_rs := Lib.hid (h_rs.out.below hb)
  replace h_rm := Lib.hid (h_rm.out.below hb)
  replace BB := Lib.hid (below_next BB.out hb)
  clear hb
  obtain ⟨c_p0, c_p1, f_p0, f_p1⟩ := reads2 r_p.out
  have l_p := r_p.out.lt
  obtain ⟨c_q0, c_q1, f_q0, f_q1⟩ := reads2 r_q.out
  have l_q := r_q.out.lt
  obtain ⟨c_n0, c_n1, f_n0, f_n1⟩ := reads2 r_n.out
  have l_n := r_n.out.lt
  go_wp2_with fail
  refine (T4.out _ _ h_n.out).mono ?_
  rintro e w17 ⟨rfl, hb⟩
  clear c_p0 c_p1 f_p0 f_p1 l_p c_q0 c_q1 f_q0 f_q1 l_q c_n0 c_n1 f_n0 f_n1 l_n
  replace r_p := Lib.hid (r_p.out.keep hb)
  replace r_q := Lib.hid (r_q.out.keep hb)
  replace r_n := Lib.hid (r_n.out.keep hb)
  replace h_p := Lib.hid (h_p.out.below hb)
  replace h_q := Lib.hid (h_q.out.below hb)
  replace h_n := Lib.hid (h_n.out.below hb)
  replace h_ra := Lib.hid (h_ra.out.below hb)
  replace h_rs := Lib.hid (h_rs.out.below hb)
  replace h_rm := Lib.hid (h_rm.out.below hb)
  replace BB := Lib.hid (below_next BB.out hb)
  clear hb
  go_wp2_with fail
  refine (CL.out _).mono ?_
  rintro e w18 ⟨rfl, hb⟩
  replace r_p := Lib.hid (r_p.out.keep hb)
  replace r_q := Lib.hid (r_q.out.keep hb)
  replace r_n := Lib.hid (r_n.out.keep hb)
  replace h_p := Lib.hid (h_p.out.below hb)
  replace h_q := Lib.hid (h_q.out.below hb)
  replace h_n := Lib.hid (h_n.out.below hb)
  replace h_ra := Lib.hid (h_ra.out.below hb)
  replace h_rs := Lib.hid (h_rs.out.below hb)
  replace h_rm := Lib.hid (h_rm.out.below hb)
  replace BB := Lib.hid (below_next BB.out hb)
  clear hb
  go_wp2_with fail
  go_ret
  exact ⟨rfl, BB.out⟩
end Go.Proofs.YthdbchghhpoadaaDoor
