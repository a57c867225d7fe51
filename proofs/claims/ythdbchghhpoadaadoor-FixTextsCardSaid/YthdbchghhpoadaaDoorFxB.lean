/- told of law 04. -/
import Derived.Test.YthdbchghhpoadaaDoorFxA
set_option linter.unusedVariables false
set_option linter.unusedSimpArgs false
namespace Go.Proofs.YthdbchghhpoadaaDoor
open Go.RowKit
abbrev BT4 : TypeId := 24
set_option maxHeartbeats 2000000 in
theorem told_none (v : Value) (z : Int) (w : World) (hv : BR w v z) : Calls Tryd.prog 12 #[.int .i64 0, .bool false, v, .bool false] w fun e w' => e = .returned (.bool true) ∧ Below w.heap.size w w' := by
  obtain ⟨A, m, cap, rfl, -⟩ := id hv.form
  clear hv
  go_enter Tryd.func12, Tryd.ntmps12
  go_wp2_with fail
  have BB := start1 w #[.bool (sgn z), .slice A m cap] BT4
  obtain ⟨BB, hsz, r_b⟩ := BB
  generalize (w.alloc (.cells #[.bool (sgn z), .slice A m cap] BT4)) = w0 at *
  replace BB := Lib.hid BB
  replace r_b := Lib.hid r_b
  clear hsz
  go_ret
  exact ⟨rfl, BB.out⟩
set_option maxHeartbeats 2000000 in
theorem told_far (v : Value) (z : Int) (hz : Wd 1400 z) (hf : fitsB z 63 = false) (w : World) (hv : BR w v z) : Calls Tryd.prog 12 #[.int .i64 0, .bool false, v, .bool true] w fun e w' => e = .returned (.bool true) ∧ Below w.heap.size w w' := by
  have CF := Lib.hid (fun (a : Value) w1 (ha : BR w1 a z) => rfits_any a z 63 (by omega) w1 ha hz)
  rw [hf] at CF
  obtain ⟨A, m, cap, rfl, -⟩ := id hv.form
  replace hv := Lib.hid hv
  clear hz hf
  go_enter Tryd.func12, Tryd.ntmps12
  go_wp2_with fail
  have BB := start1 w #[.bool (sgn z), .slice A m cap] BT4
  obtain ⟨BB, hsz, r_b⟩ := BB
  generalize (w.alloc (.cells #[.bool (sgn z), .slice A m cap] BT4)) = w0 at *
  replace BB := Lib.hid BB
  replace r_b := Lib.hid r_b
  clear hsz
  have h_b := Lib.hid (hv.out.below BB.out)
  clear hv
  obtain ⟨c_b0, c_b1, f_b0, f_b1⟩ := reads2 r_b.out
  have l_b := r_b.out.lt
  go_wp2_with fail
  refine (CF.out _ _ h_b.out).mono ?_
  rintro e w1 ⟨rfl, hb⟩
  clear c_b0 c_b1 f_b0 f_b1 l_b
  replace r_b := Lib.hid (r_b.out.keep hb)
  replace h_b := Lib.hid (h_b.out.below hb)
  replace BB := Lib.hid (below_next BB.out hb)
  clear hb
  go_wp2_with fail
  go_ret
  exact ⟨rfl, BB.out⟩
set_option maxHeartbeats 2000000 in
theorem told_is (v : Value) (z : Int) (hz : I64 z) (w : World) (hv : BR w v z) : Calls Tryd.prog 12 #[.int .i64 z, .bool true, v, .bool true] w fun e w' => e = .returned (.bool true) ∧ Below w.heap.size w w' := by
  have CF := Lib.hid (fun (a : Value) w1 (ha : BR w1 a z) => rfits_any a z 63 (by omega) w1 ha ((i64_wd hz).up (by omega)))
  rw [fits_63.2 hz] at CF
  have CO := Lib.hid (fun w => of_any z hz w)
  have CC := Lib.hid (fun (a b : Value) w1 (ha : BR w1 a z) (hb : BR w1 b z) => cmp_any a b z z w1 ha hb ((i64_wd hz).mid (by omega)) ((i64_wd hz).mid (by omega)))
  rw [cmpI_eq] at CC
  obtain ⟨A, m, cap, rfl, -⟩ := id hv.form
  replace hv := Lib.hid hv
  clear hz
  go_enter Tryd.func12, Tryd.ntmps12
  go_wp2_with fail
  have BB := start1 w #[.bool (sgn z), .slice A m cap] BT4
  obtain ⟨BB, hsz, r_b⟩ := BB
  generalize (w.alloc (.cells #[.bool (sgn z), .slice A m cap] BT4)) = w0 at *
  replace BB := Lib.hid BB
  replace r_b := Lib.hid r_b
  clear hsz
  have h_b := Lib.hid (hv.out.below BB.out)
  clear hv
  obtain ⟨c_b0, c_b1, f_b0, f_b1⟩ := reads2 r_b.out
  have l_b := r_b.out.lt
  go_wp2_with fail
  refine (CF.out _ _ h_b.out).mono ?_
  rintro e w1 ⟨rfl, hb⟩
  clear c_b0 c_b1 f_b0 f_b1 l_b
  replace r_b := Lib.hid (r_b.out.keep hb)
  replace h_b := Lib.hid (h_b.out.below hb)
  replace BB := Lib.hid (below_next BB.out hb)
  clear hb
  obtain ⟨c_b0, c_b1, f_b0, f_b1⟩ := reads2 r_b.out
  have l_b := r_b.out.lt
  go_wp2_with fail
  clear c_b0 c_b1 f_b0 f_b1 l_b
  have KK := Lib.hid (fun (w9 : World) (h : Below w1.heap.size w1 w9) => (cells2 (r_b.out.keep h) : (w9.cell? ⟨w.heap.size, 0, none⟩ = some (.bool (sgn z)) ∧ w9.cell? ⟨w.heap.size, 1, none⟩ = some (.slice A m cap))))
  have K0 := KK.out w1 (Below.refl _ _)
  have KD := KK.out w1.drew (below_drew (Below.refl _ _))
  go_region_held3 (fun w9 => (w9.cell? ⟨w.heap.size, 0, none⟩ = some (.bool (sgn z)) ∧ w9.cell? ⟨w.heap.size, 1, none⟩ = some (.slice A m cap)))
      (first | with_reducible exact KD | with_reducible exact K0 | with_reducible exact K_w2 | with_reducible exact K_w3)
      (first
        | (go_at_call 6
           refine (CO.out _).mono ?_
           rintro e w2 ⟨v_o, rfl, hb, h_o⟩
           obtain ⟨A_o, n_o, cap_o, rfl, -⟩ := id h_o.form
           replace h_o := Lib.hid h_o
           have B_w2 := Lib.hid (reg_next (w0 := w1) (by repeat (first | with_reducible exact Below.refl _ _ | with_reducible apply below_drew | with_reducible apply below_new)) hb)
           have K_w2 := KK.out _ B_w2.out
           clear hb)
        | (go_at_call 37
           refine (CC.out _ _ _ h_o.out (h_b.out.below B_w2.out)).mono ?_
           rintro e w3 ⟨rfl, hb⟩
           replace h_o := Lib.hid (h_o.out.below hb)
           have B_w3 := Lib.hid (below_next B_w2.out hb)
           have K_w3 := KK.out _ B_w3.out
           clear hb))
  clear KK K0 KD K_w2 K_w3
  replace r_b := Lib.hid (r_b.out.keep B_w3.out)
  replace h_b := Lib.hid (h_b.out.below B_w3.out)
  replace BB := Lib.hid (below_next BB.out B_w3.out)
  clear B_w2 B_w3
  go_wp2_with fail
  go_ret
  exact ⟨rfl, BB.out⟩
end Go.Proofs.YthdbchghhpoadaaDoor
