/- Walks of the document's Cut and Place. -/
import Derived.Test.YthdbchghhpoadaaRQuot0
import Derived.Test.YthdbchghhpoadaaJD
set_option linter.unusedVariables false
namespace Go.Proofs.Ythdbchghhpoadaa
open Go.RowKit

theorem pow46 : (2 : Int) ^ 46 = 70368744177664 := by decide
theorem pow16 : (2 : Int) ^ 16 = 65536 := by decide
theorem far_i64 : I64 70368744177664 := ⟨by omega, by omega⟩
theorem far_wd : Wd 46 70368744177664 := by unfold Wd; rw [pow46]; omega

set_option maxHeartbeats 2000000 in
theorem r2cut (u : Value) (z : Int) (w : World) (hu : BR w u z) (hz : Wd 1400 z) : Calls Try.prog 94 #[u] w fun e w' => e = .returned (.int .i64 (cutI z)) ∧ Below w.heap.size w w' := by
  obtain ⟨A, n, cap, rfl, -⟩ := id hu.form
  have CP := Lib.hid (fun w => pow_any 46 (by omega) w)
  rw [pow46] at CP
  have C1 := Lib.hid (fun (u v : Value) w (hu : BR w u z) (hv : BR w v 70368744177664) => cmp_any u v z _ w hu hv (hz.mid (by omega)) (far_wd.mid (by omega)))
  have C2 := Lib.hid (fun (u v : Value) w (hu : BR w u z) (hv : BR w v (-70368744177664)) => cmp_any u v z _ w hu hv (hz.mid (by omega)) (far_wd.neg.mid (by omega)))
  have CN := Lib.hid (fun (u : Value) w (hu : BR w u 70368744177664) => neg_any u _ w hu)
  have CS := Lib.hid (fun (u : Value) w (hu : BR w u 70368744177664) => small_any u _ w hu far_i64)
  have CZ := Lib.hid (fun (u : Value) w (hu : BR w u z) (h : I64 z) => small_any u z w hu h)
  replace hu := Lib.hid hu
  clear hz
  have E0 : cutI z = cutI z := rfl
  go_enter Try.func94, Try.ntmps94
  go_wp2_with fail
  have BB := start1 w #[.bool (sgn z), .slice A n cap] 52
  obtain ⟨BB, hsz, r_a⟩ := BB
  generalize (w.alloc (.cells #[.bool (sgn z), .slice A n cap] 52)) = w0 at *
  replace BB := Lib.hid BB
  replace r_a := Lib.hid r_a
  clear hsz
  have h_a := Lib.hid (hu.out.below BB.out)
  refine (CP.out _).mono ?_
  rintro e w1 ⟨v_f, rfl, hb, h_f⟩
  obtain ⟨A_f, n_f, cap_f, rfl, -⟩ := id h_f.form
  replace h_f := Lib.hid h_f
  replace r_a := Lib.hid (r_a.out.keep hb)
  replace h_a := Lib.hid (h_a.out.below hb)
  replace BB := Lib.hid (below_next BB.out hb)
  clear hb
  clear CP
  obtain ⟨c_a0, c_a1, f_a0, f_a1⟩ := reads2 r_a.out
  have l_a := r_a.out.lt
  go_wp2_with fail
  clear c_a0 c_a1 f_a0 f_a1 l_a
  have d_f := Lib.hid (And.intro BB.out.size (And.intro r_a.out.lt (True.intro)))
  obtain ⟨hb, r_f⟩ := laid w1 #[.bool (sgn (70368744177664)), .slice A_f n_f cap_f] 52
  replace r_a := Lib.hid (r_a.out.keep hb)
  replace h_a := Lib.hid (h_a.out.below hb)
  replace h_f := Lib.hid (h_f.out.below hb)
  replace BB := Lib.hid (below_next BB.out hb)
  replace r_f := Lib.hid r_f
  clear hb
  generalize w1.alloc (.cells #[.bool (sgn (70368744177664)), .slice A_f n_f cap_f] 52) = w2 at *
  generalize w1.heap.size = g_f at *
  by_cases h1 : 70368744177664 < z
  · rw [cmpI_gt h1] at C1
    have HF : Hid (cutI z = 70368744177664) := by show _ = _; unfold cutI; rw [if_neg (by omega), if_pos h1]
    clear C2 CZ CN h1
    refine (C1.out _ _ _ h_a.out h_f.out).mono ?_
    rintro e w3 ⟨rfl, hb⟩
    replace r_a := Lib.hid (r_a.out.keep hb)
    replace r_f := Lib.hid (r_f.out.keep hb)
    replace h_a := Lib.hid (h_a.out.below hb)
    replace h_f := Lib.hid (h_f.out.below hb)
    replace BB := Lib.hid (below_next BB.out hb)
    clear hb
    obtain ⟨c_f0, c_f1, f_f0, f_f1⟩ := reads2 r_f.out
    have l_f := r_f.out.lt
    go_wp2_with fail
    refine (CS.out _ _ h_f.out).mono ?_
    rintro e w4 ⟨rfl, hb⟩
    clear c_f0 c_f1 f_f0 f_f1 l_f
    replace r_a := Lib.hid (r_a.out.keep hb)
    replace r_f := Lib.hid (r_f.out.keep hb)
    replace h_a := Lib.hid (h_a.out.below hb)
    replace h_f := Lib.hid (h_f.out.below hb)
    replace BB := Lib.hid (below_next BB.out hb)
    clear hb
    go_wp2_with fail
    go_ret
    exact ⟨ret_int HF.out.symm, BB.out⟩
  · have hc : cmpI z 70368744177664 = 0 ∨ cmpI z 70368744177664 = -1 := by
      rcases Int.lt_or_eq_of_le (show z ≤ 70368744177664 by omega) with h | h
      · exact .inr (cmpI_lt h)
      · rw [h]; exact .inl (cmpI_eq _)
    have hd : decide (cmpI z 70368744177664 > 0) = false := decide_eq_false (by omega)
    clear hc
    generalize cmpI z 70368744177664 = c at *
    refine (C1.out _ _ _ h_a.out h_f.out).mono ?_
    rintro e w3 ⟨rfl, hb⟩
    replace r_a := Lib.hid (r_a.out.keep hb)
    replace r_f := Lib.hid (r_f.out.keep hb)
    replace h_a := Lib.hid (h_a.out.below hb)
    replace h_f := Lib.hid (h_f.out.below hb)
    replace BB := Lib.hid (below_next BB.out hb)
    clear hb
    clear C1
    by_cases h2 : z < -70368744177664
    · rw [cmpI_lt h2] at C2
      have HF : Hid (cutI z = -70368744177664) := by show _ = _; unfold cutI; rw [if_pos h2]
      clear CZ h1 h2
      go_wp2_with fail
      have KK := Lib.hid (fun (w9 : World) (h : Below w3.heap.size w3 w9) => (⟨cells2 (r_a.out.keep h), cells2 (r_f.out.keep h)⟩ : (w9.cell? ⟨w.heap.size, 0, none⟩ = some (.bool (sgn z)) ∧ w9.cell? ⟨w.heap.size, 1, none⟩ = some (.slice A n cap)) ∧ (w9.cell? ⟨g_f, 0, none⟩ = some (.bool (sgn (70368744177664))) ∧ w9.cell? ⟨g_f, 1, none⟩ = some (.slice A_f n_f cap_f))))
      have K0 := KK.out w3 (Below.refl _ _)
      have KD := KK.out w3.drew (below_drew (Below.refl _ _))
      go_region_held3 (fun w9 => (w9.cell? ⟨w.heap.size, 0, none⟩ = some (.bool (sgn z)) ∧ w9.cell? ⟨w.heap.size, 1, none⟩ = some (.slice A n cap)) ∧ (w9.cell? ⟨g_f, 0, none⟩ = some (.bool (sgn (70368744177664))) ∧ w9.cell? ⟨g_f, 1, none⟩ = some (.slice A_f n_f cap_f)))
          (first | with_reducible exact KD | with_reducible exact K0 | with_reducible exact K_w4 | with_reducible exact K_w5)
          (first
            | (go_at_call 48
               refine (CN.out _ _ (h_f.out.below ?_)).mono ?_
               · repeat (first | with_reducible exact Below.refl _ _ | with_reducible apply below_drew | with_reducible apply below_new)
               rintro e w4 ⟨v_g, rfl, hb, h_g⟩
               obtain ⟨A_g, n_g, cap_g, rfl, -⟩ := id h_g.form
               replace h_g := Lib.hid h_g
               have B_w4 := Lib.hid (reg_next (w0 := w3) (by repeat (first | with_reducible exact Below.refl _ _ | with_reducible apply below_drew | with_reducible apply below_new)) hb)
               have K_w4 := KK.out _ B_w4.out
               clear hb)
            | (go_at_call 57
               refine (C2.out _ _ _ (h_a.out.below B_w4.out) h_g.out).mono ?_
               rintro e w5 ⟨rfl, hb⟩
               replace h_g := Lib.hid (h_g.out.below hb)
               have B_w5 := Lib.hid (below_next B_w4.out hb)
               have K_w5 := KK.out _ B_w5.out
               clear hb))
      clear KK K0 KD K_w4 K_w5
      replace r_a := Lib.hid (r_a.out.keep B_w5.out)
      replace r_f := Lib.hid (r_f.out.keep B_w5.out)
      replace h_a := Lib.hid (h_a.out.below B_w5.out)
      replace h_f := Lib.hid (h_f.out.below B_w5.out)
      replace BB := Lib.hid (below_next BB.out B_w5.out)
      clear B_w4 B_w5
      obtain ⟨c_f0, c_f1, f_f0, f_f1⟩ := reads2 r_f.out
      have l_f := r_f.out.lt
      go_wp2_with fail
      refine (CS.out _ _ h_f.out).mono ?_
      rintro e w6 ⟨rfl, hb⟩
      clear c_f0 c_f1 f_f0 f_f1 l_f
      replace r_a := Lib.hid (r_a.out.keep hb)
      replace r_f := Lib.hid (r_f.out.keep hb)
      replace h_a := Lib.hid (h_a.out.below hb)
      replace h_f := Lib.hid (h_f.out.below hb)
      replace h_g := Lib.hid (h_g.out.below hb)
      replace BB := Lib.hid (below_next BB.out hb)
      clear hb
      go_wp2_with fail
      go_ret
      exact ⟨ret_int HF.out.symm, BB.out⟩
    · have hc : cmpI z (-70368744177664) = 0 ∨ cmpI z (-70368744177664) = 1 := by
        rcases Int.lt_or_eq_of_le (show -70368744177664 ≤ z by omega) with h | h
        · exact .inr (cmpI_gt h)
        · rw [← h]; exact .inl (cmpI_eq _)
      have hd2 : decide (cmpI z (-70368744177664) < 0) = false := decide_eq_false (by omega)
      have HF := Lib.hid (cut_near (z := z) (by omega) (by omega))
      replace CZ := Lib.hid (fun u w hu => CZ.out u w hu (show I64 z by unfold I64; omega))
      clear hc CS h1 h2
      generalize cmpI z (-70368744177664) = c2 at *
      go_wp2_with fail
      have KK := Lib.hid (fun (w9 : World) (h : Below w3.heap.size w3 w9) => (⟨cells2 (r_a.out.keep h), cells2 (r_f.out.keep h)⟩ : (w9.cell? ⟨w.heap.size, 0, none⟩ = some (.bool (sgn z)) ∧ w9.cell? ⟨w.heap.size, 1, none⟩ = some (.slice A n cap)) ∧ (w9.cell? ⟨g_f, 0, none⟩ = some (.bool (sgn (70368744177664))) ∧ w9.cell? ⟨g_f, 1, none⟩ = some (.slice A_f n_f cap_f))))
      have K0 := KK.out w3 (Below.refl _ _)
      have KD := KK.out w3.drew (below_drew (Below.refl _ _))
      go_region_held3 (fun w9 => (w9.cell? ⟨w.heap.size, 0, none⟩ = some (.bool (sgn z)) ∧ w9.cell? ⟨w.heap.size, 1, none⟩ = some (.slice A n cap)) ∧ (w9.cell? ⟨g_f, 0, none⟩ = some (.bool (sgn (70368744177664))) ∧ w9.cell? ⟨g_f, 1, none⟩ = some (.slice A_f n_f cap_f)))
          (first | with_reducible exact KD | with_reducible exact K0 | with_reducible exact K_w4 | with_reducible exact K_w5)
          (first
            | (go_at_call 48
               refine (CN.out _ _ (h_f.out.below ?_)).mono ?_
               · repeat (first | with_reducible exact Below.refl _ _ | with_reducible apply below_drew | with_reducible apply below_new)
               rintro e w4 ⟨v_g, rfl, hb, h_g⟩
               obtain ⟨A_g, n_g, cap_g, rfl, -⟩ := id h_g.form
               replace h_g := Lib.hid h_g
               have B_w4 := Lib.hid (reg_next (w0 := w3) (by repeat (first | with_reducible exact Below.refl _ _ | with_reducible apply below_drew | with_reducible apply below_new)) hb)
               have K_w4 := KK.out _ B_w4.out
               clear hb)
            | (go_at_call 57
               refine (C2.out _ _ _ (h_a.out.below B_w4.out) h_g.out).mono ?_
               rintro e w5 ⟨rfl, hb⟩
               replace h_g := Lib.hid (h_g.out.below hb)
               have B_w5 := Lib.hid (below_next B_w4.out hb)
               have K_w5 := KK.out _ B_w5.out
               clear hb))
      clear KK K0 KD K_w4 K_w5
      replace r_a := Lib.hid (r_a.out.keep B_w5.out)
      replace r_f := Lib.hid (r_f.out.keep B_w5.out)
      replace h_a := Lib.hid (h_a.out.below B_w5.out)
      replace h_f := Lib.hid (h_f.out.below B_w5.out)
      replace BB := Lib.hid (below_next BB.out B_w5.out)
      clear B_w4 B_w5
      obtain ⟨c_a0, c_a1, f_a0, f_a1⟩ := reads2 r_a.out
      have l_a := r_a.out.lt
      go_wp2_with fail
      refine (CZ.out _ _ h_a.out).mono ?_
      rintro e w6 ⟨rfl, hb⟩
      clear c_a0 c_a1 f_a0 f_a1 l_a
      replace r_a := Lib.hid (r_a.out.keep hb)
      replace r_f := Lib.hid (r_f.out.keep hb)
      replace h_a := Lib.hid (h_a.out.below hb)
      replace h_f := Lib.hid (h_f.out.below hb)
      replace h_g := Lib.hid (h_g.out.below hb)
      replace BB := Lib.hid (below_next BB.out hb)
      clear hb
      go_wp2_with fail
      go_ret
      exact ⟨ret_int HF.out.symm, BB.out⟩

set_option maxHeartbeats 2000000 in
theorem r2place (u v : Value) (z b : Int) (w : World) (hu : BR w u z) (hv : BR w v b) (hz : Wd 1000 z) (hb : Wd 1000 b) (h0 : b ≠ 0) :
    Calls Try.prog 68 #[u, v] w fun e w' => e = .returned (.int .i64 (cutI ((z * 65536).fdiv b))) ∧ Below w.heap.size w w' := by
  obtain ⟨A, n, cap, rfl, -⟩ := id hu.form
  obtain ⟨B, m, cap', rfl, -⟩ := id hv.form
  have CP := Lib.hid (fun w => pow_any 16 (by omega) w)
  rw [pow16] at CP
  have w16 : Wd 16 65536 := by unfold Wd; rw [pow16]; omega
  have wx : Wd 1100 (z * 65536) := (hz.mul w16).up (by omega)
  have CM := Lib.hid (fun (u v : Value) w (hu : BR w u z) (hv : BR w v 65536) => mul_any u v z _ w hu hv (hz.mid (by omega)) (w16.mid (by omega)))
  have CF := Lib.hid (fun (u v : Value) w (hu : BR w u (z * 65536)) (hv : BR w v b) => floor_any u v (z * 65536) b w hu hv (wx.mid (by omega)) (hb.low (by omega)) h0)
  have CC := Lib.hid (fun (u : Value) w (hu : BR w u ((z * 65536).fdiv b)) => r2cut u _ w hu (wx.fdiv.up (by omega)))
  replace hu := Lib.hid hu
  replace hv := Lib.hid hv
  clear hz hb h0 w16 wx
  generalize (z * 65536).fdiv b = q at *
  generalize z * 65536 = x at *
  generalize cutI q = C at *
  go_enter Try.func68, Try.ntmps68
  go_wp2_with fail
  have BB := start2 w #[.bool (sgn z), .slice A n cap] 52 #[.bool (sgn b), .slice B m cap'] 52
  obtain ⟨BB, hsz, r_a, r_b⟩ := BB
  generalize ((w.alloc (.cells #[.bool (sgn z), .slice A n cap] 52)).alloc (.cells #[.bool (sgn b), .slice B m cap'] 52)) = w0 at *
  replace BB := Lib.hid BB
  replace r_a := Lib.hid r_a
  replace r_b := Lib.hid r_b
  clear hsz
  have h_a := Lib.hid (hu.out.below BB.out)
  have h_b := Lib.hid (hv.out.below BB.out)
  have KK := Lib.hid (fun (w9 : World) (h : Below w0.heap.size w0 w9) => (⟨cells2 (r_a.out.keep h), cells2 (r_b.out.keep h)⟩ : (w9.cell? ⟨w.heap.size, 0, none⟩ = some (.bool (sgn z)) ∧ w9.cell? ⟨w.heap.size, 1, none⟩ = some (.slice A n cap)) ∧ (w9.cell? ⟨w.heap.size + 1, 0, none⟩ = some (.bool (sgn b)) ∧ w9.cell? ⟨w.heap.size + 1, 1, none⟩ = some (.slice B m cap'))))
  have K0 := KK.out w0 (Below.refl _ _)
  have KD := KK.out w0.drew (below_drew (Below.refl _ _))
  go_region_held3 (fun w9 => (w9.cell? ⟨w.heap.size, 0, none⟩ = some (.bool (sgn z)) ∧ w9.cell? ⟨w.heap.size, 1, none⟩ = some (.slice A n cap)) ∧ (w9.cell? ⟨w.heap.size + 1, 0, none⟩ = some (.bool (sgn b)) ∧ w9.cell? ⟨w.heap.size + 1, 1, none⟩ = some (.slice B m cap')))
      (first | with_reducible exact KD | with_reducible exact K0 | with_reducible exact K_w1 | with_reducible exact K_w2 | with_reducible exact K_w3 | with_reducible exact K_w4)
      (first
        | (go_at_call 92
           refine (CP.out _).mono ?_
           rintro e w1 ⟨v_p, rfl, hb, h_p⟩
           obtain ⟨A_p, n_p, cap_p, rfl, -⟩ := id h_p.form
           replace h_p := Lib.hid h_p
           have B_w1 := Lib.hid (reg_next (w0 := w0) (by repeat (first | with_reducible exact Below.refl _ _ | with_reducible apply below_drew | with_reducible apply below_new)) hb)
           have K_w1 := KK.out _ B_w1.out
           clear hb)
        | (go_at_call 58
           refine (CM.out _ _ _ (h_a.out.below B_w1.out) h_p.out).mono ?_
           rintro e w2 ⟨v_x, rfl, hb, h_x⟩
           obtain ⟨A_x, n_x, cap_x, rfl, -⟩ := id h_x.form
           replace h_x := Lib.hid h_x
           replace h_p := Lib.hid (h_p.out.below hb)
           have B_w2 := Lib.hid (below_next B_w1.out hb)
           have K_w2 := KK.out _ B_w2.out
           clear hb)
        | (go_at_call 95
           refine (CF.out _ _ _ h_x.out (h_b.out.below B_w2.out)).mono ?_
           rintro e w3 ⟨v_q, rfl, hb, h_q⟩
           obtain ⟨A_q, n_q, cap_q, rfl, -⟩ := id h_q.form
           replace h_q := Lib.hid h_q
           replace h_p := Lib.hid (h_p.out.below hb)
           replace h_x := Lib.hid (h_x.out.below hb)
           have B_w3 := Lib.hid (below_next B_w2.out hb)
           have K_w3 := KK.out _ B_w3.out
           clear hb)
        | (go_at_call 94
           refine (CC.out _ _ h_q.out).mono ?_
           rintro e w4 ⟨rfl, hb⟩
           replace h_p := Lib.hid (h_p.out.below hb)
           replace h_x := Lib.hid (h_x.out.below hb)
           replace h_q := Lib.hid (h_q.out.below hb)
           have B_w4 := Lib.hid (below_next B_w3.out hb)
           have K_w4 := KK.out _ B_w4.out
           clear hb))
  clear KK K0 KD K_w1 K_w2 K_w3 K_w4
  replace r_a := Lib.hid (r_a.out.keep B_w4.out)
  replace r_b := Lib.hid (r_b.out.keep B_w4.out)
  replace h_a := Lib.hid (h_a.out.below B_w4.out)
  replace h_b := Lib.hid (h_b.out.below B_w4.out)
  replace BB := Lib.hid (below_next BB.out B_w4.out)
  clear B_w1 B_w2 B_w3 B_w4
  go_wp2_with fail
  go_ret
  exact ⟨rfl, BB.out⟩

end Go.Proofs.Ythdbchghhpoadaa
