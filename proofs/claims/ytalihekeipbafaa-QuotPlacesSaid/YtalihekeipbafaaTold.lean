/- Walk of anamorphlaw01's 'Told': what is told of a number is the number, or that there is no room. -/
import Derived.Test.YtalihekeipbafaaRFits
import Derived.Test.YtalihekeipbafaaRWide
set_option linter.unusedVariables false
namespace Go.Proofs.Ytalihekeipbafaa
open Go.RowKit

theorem fits_128 {z : Int} : fitsB z 127 = true ↔ I128 z := by
  unfold fitsB I128
  rw [show (2 : Int) ^ 127 = 170141183460469231731687303715884105728 by decide]
  simp; omega
theorem fits_128f {z : Int} (h : ¬ I128 z) : fitsB z 127 = false := by
  cases hb : fitsB z 127
  · rfl
  · exact absurd (fits_128.1 hb) h
theorem i128_wd {z : Int} (h : I128 z) : Wd 127 z := by
  unfold Wd; rw [show (2 : Int) ^ 127 = 170141183460469231731687303715884105728 by decide]; unfold I128 at h; omega

set_option maxHeartbeats 1000000 in
theorem told_any (v : Value) (z hi lo : Int) (ok : Bool) (w : World) (hv : BR w v z) (hz : Wd 1400 z) (h : WB z hi lo ok) :
    Calls Try.prog 19 #[wv hi lo, .bool ok, v] w fun e w' => e = .returned (.bool true) ∧ Below w.heap.size w w' := by
  have CF := Lib.hid (fun (a : Value) w1 (ha : BR w1 a z) => rfits_any a z 127 (by omega) w1 ha hz)
  obtain ⟨A, m, cap, rfl, -⟩ := id hv.form
  replace hv := Lib.hid hv
  rcases h with ⟨hr, rfl, hw⟩ | ⟨hr, rfl, rfl, rfl⟩
  · rw [fits_128.2 hr] at CF
    have CB := Lib.hid (fun w1 => lbig_any z hi lo hw w1)
    have CC := Lib.hid (fun (a b : Value) w1 (ha : BR w1 a z) (hb : BR w1 b z) => cmp_any a b z z w1 ha hb (hz.mid (by omega)) (hz.mid (by omega)))
    rw [cmpI_eq] at CC
    clear hr hw hz
    go_enter Try.func19, Try.ntmps19
    go_wp2_with fail
    have BB := start2 w #[.int .i64 hi, .int .u64 lo] 24 #[.bool (sgn z), .slice A m cap] 27
    obtain ⟨BB, hsz, r_x, r_z⟩ := BB
    generalize ((w.alloc (.cells #[.int .i64 hi, .int .u64 lo] 24)).alloc (.cells #[.bool (sgn z), .slice A m cap] 27)) = w0 at *
    replace BB := Lib.hid BB
    replace r_x := Lib.hid r_x
    replace r_z := Lib.hid r_z
    clear hsz
    have h_z := Lib.hid (hv.out.below BB.out)
    refine (CF.out _ _ h_z.out).mono ?_
    rintro e w1 ⟨rfl, hb⟩
    replace r_x := Lib.hid (r_x.out.keep hb)
    replace r_z := Lib.hid (r_z.out.keep hb)
    replace h_z := Lib.hid (h_z.out.below hb)
    replace BB := Lib.hid (below_next BB.out hb)
    clear hb
    obtain ⟨c_x0, c_x1, f_x0, f_x1⟩ := reads2 r_x.out
    have l_x := r_x.out.lt
    obtain ⟨c_z0, c_z1, f_z0, f_z1⟩ := reads2 r_z.out
    have l_z := r_z.out.lt
    go_wp2_with fail
    clear c_x0 c_x1 f_x0 f_x1 l_x c_z0 c_z1 f_z0 f_z1 l_z
    have KK := Lib.hid (fun (w9 : World) (h : Below w1.heap.size w1 w9) => (⟨cells2 (r_x.out.keep h), cells2 (r_z.out.keep h)⟩ : (w9.cell? ⟨w.heap.size, 0, none⟩ = some (.int .i64 hi) ∧ w9.cell? ⟨w.heap.size, 1, none⟩ = some (.int .u64 lo)) ∧ (w9.cell? ⟨w.heap.size + 1, 0, none⟩ = some (.bool (sgn z)) ∧ w9.cell? ⟨w.heap.size + 1, 1, none⟩ = some (.slice A m cap))))
    have K0 := KK.out w1 (Below.refl _ _)
    first
    | (go_region_held3 (fun w9 => (w9.cell? ⟨w.heap.size, 0, none⟩ = some (.int .i64 hi) ∧ w9.cell? ⟨w.heap.size, 1, none⟩ = some (.int .u64 lo)) ∧ (w9.cell? ⟨w.heap.size + 1, 0, none⟩ = some (.bool (sgn z)) ∧ w9.cell? ⟨w.heap.size + 1, 1, none⟩ = some (.slice A m cap)))
        (first | exact K0 | exact K_w2 | exact K_w3)
        (first
          | (go_at_call 15
             refine (CB.out _).mono ?_
             rintro e w2 ⟨v_b, rfl, hb, h_b⟩
             obtain ⟨A_b, n_b, cap_b, rfl, -⟩ := id h_b.form
             replace h_b := Lib.hid h_b
             have B_w2 := Lib.hid (reg_next (w0 := w1) (by repeat (first | exact Below.refl _ _ | apply below_drew | apply below_new)) hb)
             have K_w2 := KK.out _ B_w2.out
             clear hb)
          | (go_at_call 31
             refine (CC.out _ _ _ h_b.out (h_z.out.below B_w2.out)).mono ?_
             rintro e w3 ⟨rfl, hb⟩
             replace h_b := Lib.hid (h_b.out.below hb)
             have B_w3 := Lib.hid (below_next B_w2.out hb)
             have K_w3 := KK.out _ B_w3.out
             clear hb)))
    | fail "region"
    clear KK K0 K_w2 K_w3
    replace r_x := Lib.hid (r_x.out.keep B_w3.out)
    replace r_z := Lib.hid (r_z.out.keep B_w3.out)
    replace h_z := Lib.hid (h_z.out.below B_w3.out)
    replace BB := Lib.hid (below_next BB.out B_w3.out)
    clear B_w2 B_w3
    go_wp2_with fail
    go_ret
    exact ⟨rfl, BB.out⟩
  · rw [fits_128f hr] at CF
    clear hr hz
    go_enter Try.func19, Try.ntmps19
    go_wp2_with fail
    have BB := start2 w #[.int .i64 0, .int .u64 0] 24 #[.bool (sgn z), .slice A m cap] 27
    obtain ⟨BB, hsz, r_x, r_z⟩ := BB
    generalize ((w.alloc (.cells #[.int .i64 0, .int .u64 0] 24)).alloc (.cells #[.bool (sgn z), .slice A m cap] 27)) = w0 at *
    replace BB := Lib.hid BB
    replace r_x := Lib.hid r_x
    replace r_z := Lib.hid r_z
    clear hsz
    have h_z := Lib.hid (hv.out.below BB.out)
    refine (CF.out _ _ h_z.out).mono ?_
    rintro e w1 ⟨rfl, hb⟩
    replace r_x := Lib.hid (r_x.out.keep hb)
    replace r_z := Lib.hid (r_z.out.keep hb)
    replace h_z := Lib.hid (h_z.out.below hb)
    replace BB := Lib.hid (below_next BB.out hb)
    clear hb
    obtain ⟨c_x0, c_x1, f_x0, f_x1⟩ := reads2 r_x.out
    have l_x := r_x.out.lt
    obtain ⟨c_z0, c_z1, f_z0, f_z1⟩ := reads2 r_z.out
    have l_z := r_z.out.lt
    go_wp2_with fail
    go_ret
    exact ⟨rfl, BB.out⟩

end Go.Proofs.Ytalihekeipbafaa
