/- Walk of QuotPlaces. -/
import Derived.Test.YtalihekeipbafaaQLaws
set_option linter.unusedVariables false
namespace Go.Proofs.Ytalihekeipbafaa
open Go.RowKit

set_option maxRecDepth 100000 in
set_option maxHeartbeats 4000000 in
theorem quotPlaces_any (ah al b : Int) (a1 : I64 ah) (a2 : U64 al) (hb : I64 b) (w : World) :
    Calls Try.prog 11 #[wv ah al, .int .i64 b] w fun e w' => e = .returned (.bool true) ∧ Below w.heap.size w w' := by
  obtain ⟨z, hz⟩ : ∃ z, W128 z ah al := ⟨_, a1, a2, rfl⟩
  have wz := i128_wd hz.room
  have CB := Lib.hid (fun w => lbig_any z ah al hz w)
  have CC := Lib.hid (fun w => qcut z ah al hz w)
  have RC := Lib.hid (fun (u : Value) w (hu : BR w u z) => r2cut u z w hu (wz.up (by omega)))
  have CA := Lib.hid (fun w => alive2_any w)
  by_cases h0 : b = 0
  · subst h0
    have CP := Lib.hid (fun w => qplace_zero ah al w)
    clear wz hz a1 a2 hb
    generalize cutI z = c at *
    go_enter Try.func11, Try.ntmps11
    go_wp2_with fail
    have BB := start1 w #[.int .i64 ah, .int .u64 al] 24
    obtain ⟨BB, hsz, r_a⟩ := BB
    generalize (w.alloc (.cells #[.int .i64 ah, .int .u64 al] 24)) = w0 at *
    replace BB := Lib.hid BB
    replace r_a := Lib.hid r_a
    clear hsz
    refine (CB.out _).mono ?_
    rintro e w1 ⟨v_x, rfl, hb, h_x⟩
    obtain ⟨A_x, n_x, cap_x, rfl, -⟩ := id h_x.form
    replace h_x := Lib.hid h_x
    replace r_a := Lib.hid (r_a.out.keep hb)
    replace BB := Lib.hid (below_next BB.out hb)
    clear hb
    clear CB
    obtain ⟨c_a0, c_a1, f_a0, f_a1⟩ := reads2 r_a.out
    have l_a := r_a.out.lt
    go_wp2_with fail
    clear c_a0 c_a1 f_a0 f_a1 l_a
    have d_x := Lib.hid (And.intro BB.out.size (And.intro r_a.out.lt (True.intro)))
    obtain ⟨hb, r_x⟩ := laid w1 #[.bool (sgn (z)), .slice A_x n_x cap_x] 27
    replace r_a := Lib.hid (r_a.out.keep hb)
    replace h_x := Lib.hid (h_x.out.below hb)
    replace BB := Lib.hid (below_next BB.out hb)
    replace r_x := Lib.hid r_x
    clear hb
    generalize w1.alloc (.cells #[.bool (sgn (z)), .slice A_x n_x cap_x] 27) = w2 at *
    generalize w1.heap.size = g_x at *
    refine (CP.out _).mono ?_
    rintro e w3 ⟨rfl, hb⟩
    replace r_a := Lib.hid (r_a.out.keep hb)
    replace r_x := Lib.hid (r_x.out.keep hb)
    replace h_x := Lib.hid (h_x.out.below hb)
    replace BB := Lib.hid (below_next BB.out hb)
    clear hb
    go_wp2_with fail
    have KK := Lib.hid (fun (w9 : World) (h : Below w3.heap.size w3 w9) => (⟨cells2 (r_a.out.keep h), cells2 (r_x.out.keep h)⟩ : (w9.cell? ⟨w.heap.size, 0, none⟩ = some (.int .i64 ah) ∧ w9.cell? ⟨w.heap.size, 1, none⟩ = some (.int .u64 al)) ∧ (w9.cell? ⟨g_x, 0, none⟩ = some (.bool (sgn (z))) ∧ w9.cell? ⟨g_x, 1, none⟩ = some (.slice A_x n_x cap_x))))
    have K0 := KK.out w3 (Below.refl _ _)
    have KD := KK.out w3.drew (below_drew (Below.refl _ _))
    go_region_held3 (fun w9 => (w9.cell? ⟨w.heap.size, 0, none⟩ = some (.int .i64 ah) ∧ w9.cell? ⟨w.heap.size, 1, none⟩ = some (.int .u64 al)) ∧ (w9.cell? ⟨g_x, 0, none⟩ = some (.bool (sgn (z))) ∧ w9.cell? ⟨g_x, 1, none⟩ = some (.slice A_x n_x cap_x)))
        (first | with_reducible exact KD | with_reducible exact K0 | with_reducible exact K_w4 | with_reducible exact K_w5 | with_reducible exact K_w6)
        (first
          | (go_at_call 52
             refine (CC.out _).mono ?_
             rintro e w4 ⟨rfl, hb⟩
             have B_w4 := Lib.hid (reg_next (w0 := w3) (by repeat (first | with_reducible exact Below.refl _ _ | with_reducible apply below_drew | with_reducible apply below_new)) hb)
             have K_w4 := KK.out _ B_w4.out
             clear hb)
          | (go_at_call 53
             refine (RC.out _ _ (h_x.out.below B_w4.out)).mono ?_
             rintro e w5 ⟨rfl, hb⟩
             have B_w5 := Lib.hid (below_next B_w4.out hb)
             have K_w5 := KK.out _ B_w5.out
             clear hb)
          | (go_at_call 47
             refine (CA.out _).mono ?_
             rintro e w6 ⟨rfl, hb⟩
             have B_w6 := Lib.hid (below_next B_w5.out hb)
             have K_w6 := KK.out _ B_w6.out
             clear hb))
    clear KK K0 KD K_w4 K_w5 K_w6
    replace r_a := Lib.hid (r_a.out.keep B_w6.out)
    replace r_x := Lib.hid (r_x.out.keep B_w6.out)
    replace h_x := Lib.hid (h_x.out.below B_w6.out)
    replace BB := Lib.hid (below_next BB.out B_w6.out)
    clear B_w4 B_w5 B_w6
    go_wp2_with fail
    go_ret
    exact ⟨rfl, BB.out⟩
  · have hb1 : (b == 0) = false := by simpa using h0
    have CP := Lib.hid (fun w => qplace z ah al b hz hb h0 w)
    have CO := Lib.hid (fun w => of_any b hb w)
    have RP := Lib.hid (fun (u v : Value) w (hu : BR w u z) (hv : BR w v b) => r2place u v z b w hu hv (wz.up (by omega)) ((i64_wd hb).up (by omega)) h0)
    clear wz hz a1 a2 hb h0
    generalize cutI z = c at *
    generalize cutI ((z * 65536).fdiv b) = p at *
    go_enter Try.func11, Try.ntmps11
    go_wp2_with fail
    have BB := start1 w #[.int .i64 ah, .int .u64 al] 24
    obtain ⟨BB, hsz, r_a⟩ := BB
    generalize (w.alloc (.cells #[.int .i64 ah, .int .u64 al] 24)) = w0 at *
    replace BB := Lib.hid BB
    replace r_a := Lib.hid r_a
    clear hsz
    refine (CB.out _).mono ?_
    rintro e w1 ⟨v_x, rfl, hb, h_x⟩
    obtain ⟨A_x, n_x, cap_x, rfl, -⟩ := id h_x.form
    replace h_x := Lib.hid h_x
    replace r_a := Lib.hid (r_a.out.keep hb)
    replace BB := Lib.hid (below_next BB.out hb)
    clear hb
    clear CB
    obtain ⟨c_a0, c_a1, f_a0, f_a1⟩ := reads2 r_a.out
    have l_a := r_a.out.lt
    go_wp2_with fail
    clear c_a0 c_a1 f_a0 f_a1 l_a
    have d_x := Lib.hid (And.intro BB.out.size (And.intro r_a.out.lt (True.intro)))
    obtain ⟨hb, r_x⟩ := laid w1 #[.bool (sgn (z)), .slice A_x n_x cap_x] 27
    replace r_a := Lib.hid (r_a.out.keep hb)
    replace h_x := Lib.hid (h_x.out.below hb)
    replace BB := Lib.hid (below_next BB.out hb)
    replace r_x := Lib.hid r_x
    clear hb
    generalize w1.alloc (.cells #[.bool (sgn (z)), .slice A_x n_x cap_x] 27) = w2 at *
    generalize w1.heap.size = g_x at *
    refine (CP.out _).mono ?_
    rintro e w3 ⟨rfl, hb⟩
    replace r_a := Lib.hid (r_a.out.keep hb)
    replace r_x := Lib.hid (r_x.out.keep hb)
    replace h_x := Lib.hid (h_x.out.below hb)
    replace BB := Lib.hid (below_next BB.out hb)
    clear hb
    go_wp2_with fail
    have KK := Lib.hid (fun (w9 : World) (h : Below w3.heap.size w3 w9) => (⟨cells2 (r_a.out.keep h), cells2 (r_x.out.keep h)⟩ : (w9.cell? ⟨w.heap.size, 0, none⟩ = some (.int .i64 ah) ∧ w9.cell? ⟨w.heap.size, 1, none⟩ = some (.int .u64 al)) ∧ (w9.cell? ⟨g_x, 0, none⟩ = some (.bool (sgn (z))) ∧ w9.cell? ⟨g_x, 1, none⟩ = some (.slice A_x n_x cap_x))))
    have K0 := KK.out w3 (Below.refl _ _)
    have KD := KK.out w3.drew (below_drew (Below.refl _ _))
    go_region_held3 (fun w9 => (w9.cell? ⟨w.heap.size, 0, none⟩ = some (.int .i64 ah) ∧ w9.cell? ⟨w.heap.size, 1, none⟩ = some (.int .u64 al)) ∧ (w9.cell? ⟨g_x, 0, none⟩ = some (.bool (sgn (z))) ∧ w9.cell? ⟨g_x, 1, none⟩ = some (.slice A_x n_x cap_x)))
        (first | with_reducible exact KD | with_reducible exact K0 | with_reducible exact K_w4 | with_reducible exact K_w5 | with_reducible exact K_w6 | with_reducible exact K_w7 | with_reducible exact K_w8)
        (first
          | (go_at_call 24
             refine (CO.out _).mono ?_
             rintro e w4 ⟨v_d, rfl, hb, h_d⟩
             obtain ⟨A_d, n_d, cap_d, rfl, -⟩ := id h_d.form
             replace h_d := Lib.hid h_d
             have B_w4 := Lib.hid (reg_next (w0 := w3) (by repeat (first | with_reducible exact Below.refl _ _ | with_reducible apply below_drew | with_reducible apply below_new)) hb)
             have K_w4 := KK.out _ B_w4.out
             clear hb)
          | (go_at_call 54
             refine (RP.out _ _ _ (h_x.out.below B_w4.out) h_d.out).mono ?_
             rintro e w5 ⟨rfl, hb⟩
             replace h_d := Lib.hid (h_d.out.below hb)
             have B_w5 := Lib.hid (below_next B_w4.out hb)
             have K_w5 := KK.out _ B_w5.out
             clear hb)
          | (go_at_call 52
             refine (CC.out _).mono ?_
             rintro e w6 ⟨rfl, hb⟩
             replace h_d := Lib.hid (h_d.out.below hb)
             have B_w6 := Lib.hid (below_next B_w5.out hb)
             have K_w6 := KK.out _ B_w6.out
             clear hb)
          | (go_at_call 53
             refine (RC.out _ _ (h_x.out.below B_w6.out)).mono ?_
             rintro e w7 ⟨rfl, hb⟩
             replace h_d := Lib.hid (h_d.out.below hb)
             have B_w7 := Lib.hid (below_next B_w6.out hb)
             have K_w7 := KK.out _ B_w7.out
             clear hb)
          | (go_at_call 47
             refine (CA.out _).mono ?_
             rintro e w8 ⟨rfl, hb⟩
             replace h_d := Lib.hid (h_d.out.below hb)
             have B_w8 := Lib.hid (below_next B_w7.out hb)
             have K_w8 := KK.out _ B_w8.out
             clear hb))
    clear KK K0 KD K_w4 K_w5 K_w6 K_w7 K_w8
    replace r_a := Lib.hid (r_a.out.keep B_w8.out)
    replace r_x := Lib.hid (r_x.out.keep B_w8.out)
    replace h_x := Lib.hid (h_x.out.below B_w8.out)
    replace BB := Lib.hid (below_next BB.out B_w8.out)
    clear B_w4 B_w5 B_w6 B_w7 B_w8
    go_wp2_with fail
    go_ret
    exact ⟨rfl, BB.out⟩

end Go.Proofs.Ytalihekeipbafaa
