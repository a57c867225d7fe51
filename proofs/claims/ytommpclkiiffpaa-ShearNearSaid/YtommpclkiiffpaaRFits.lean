/- Walk of the document's 'Fits', at a number of bits. -/
import Derived.Test.YtommpclkiiffpaaPow
set_option linter.unusedVariables false
namespace Go.Proofs.Ytommpclkiiffpaa
open Go.RowKit

theorem cmpI_ge {x y : Int} : 0 ≤ cmpI x y ↔ y ≤ x := by unfold cmpI; split <;> (try split) <;> omega
theorem cmpI_neg {x y : Int} : cmpI x y < 0 ↔ x < y := by unfold cmpI; split <;> (try split) <;> omega
theorem cmpI_zero {x y : Int} : cmpI x y = 0 ↔ x = y := by unfold cmpI; split <;> (try split) <;> omega
/-- From -2^n on, below 2^n? -/
def fitsB (z : Int) (n : Nat) : Bool := decide (-(2 : Int) ^ n ≤ z ∧ z < (2 : Int) ^ n)

set_option maxHeartbeats 1000000 in
theorem rfits_any (v : Value) (z : Int) (n : Nat) (hn : n ≤ 1400) (w : World) (hv : BR w v z) (hz : Wd 1400 z) :
    Calls Try.prog 49 #[v, .int .i64 (n : Int)] w fun e w' => e = .returned (.bool (fitsB z n)) ∧ Below w.heap.size w w' := by
  have CN := Lib.hid (fun (a : Value) w1 (ha : BR w1 a ((2 : Int) ^ n)) => neg_any a _ w1 ha)
  have CC := Lib.hid (fun (a b : Value) w1 (ha : BR w1 a z) (hb : BR w1 b (-(2 : Int) ^ n)) => cmp_any a b z _ w1 ha hb (hz.mid (by omega)) ((wd_two n).neg.mid (by omega)))
  have CD := Lib.hid (fun (a b : Value) w1 (ha : BR w1 a z) (hb : BR w1 b ((2 : Int) ^ n)) => cmp_any a b z _ w1 ha hb (hz.mid (by omega)) ((wd_two n).mid (by omega)))
  have CP := Lib.hid (fun w1 => pow_any n hn w1)
  have g1 := cmpI_ge (x := z) (y := -(2 : Int) ^ n)
  have g2 := cmpI_neg (x := z) (y := (2 : Int) ^ n)
  have HB : Hid (fitsB z n = decide (-(2 : Int) ^ n ≤ z ∧ z < (2 : Int) ^ n)) := rfl
  generalize fitsB z n = fb at *
  generalize cmpI z (-(2 : Int) ^ n) = c1 at *
  generalize cmpI z ((2 : Int) ^ n) = c2 at *
  generalize (2 : Int) ^ n = p at *
  obtain ⟨A, m, cap, rfl, -⟩ := id hv.form
  replace hv := Lib.hid hv
  clear hz
  by_cases h1 : 0 ≤ c1
  · have d1 : -p ≤ z := g1.1 h1
    rcases Decidable.em (c2 < 0) with h2 | h2
    · have HR : Hid (fb = true) := by show _ = _; rw [HB.out]; have := g2.1 h2; simp; omega
      clear g1 g2 d1 HB
      go_enter Try.func49, Try.ntmps49
      go_wp2_with fail
      have BB := start1 w #[.bool (sgn z), .slice A m cap] 37
      obtain ⟨BB, hsz, r_z⟩ := BB
      generalize (w.alloc (.cells #[.bool (sgn z), .slice A m cap] 37)) = w0 at *
      replace BB := Lib.hid BB
      replace r_z := Lib.hid r_z
      clear hsz
      have h_z := Lib.hid (hv.out.below BB.out)
      have KK := Lib.hid (fun (w9 : World) (h : Below w0.heap.size w0 w9) => (cells2 (r_z.out.keep h) : (w9.cell? ⟨w.heap.size, 0, none⟩ = some (.bool (sgn z)) ∧ w9.cell? ⟨w.heap.size, 1, none⟩ = some (.slice A m cap))))
      have K0 := KK.out w0 (Below.refl _ _)
      have tok0 : Hid True := trivial
      have tok2 : Hid True := trivial
      have tok3 : Hid True := trivial
      have tok4 : Hid True := trivial
      first
      | (go_region_held3 (fun w9 => (w9.cell? ⟨w.heap.size, 0, none⟩ = some (.bool (sgn z)) ∧ w9.cell? ⟨w.heap.size, 1, none⟩ = some (.slice A m cap)))
          (first | exact K0 | exact K_w1 | exact K_w2 | exact K_w3 | exact K_w4 | exact K_w5)
          (first
            | (go_at_call 81
               have t_k := tok0
               refine (CP.out _).mono ?_
               rintro e w1 ⟨v_q, rfl, hb, h_q⟩
               obtain ⟨A_q, n_q, cap_q, rfl, -⟩ := id h_q.form
               replace h_q := Lib.hid h_q
               have B_w1 := Lib.hid (reg_next (w0 := w0) (by repeat (first | exact Below.refl _ _ | apply below_drew | apply below_new)) hb)
               have K_w1 := KK.out _ B_w1.out
               clear hb
               clear t_k tok0)
            | (go_at_call 80
               refine (CN.out _ _ h_q.out).mono ?_
               rintro e w2 ⟨v_r, rfl, hb, h_r⟩
               obtain ⟨A_r, n_r, cap_r, rfl, -⟩ := id h_r.form
               replace h_r := Lib.hid h_r
               replace h_q := Lib.hid (h_q.out.below hb)
               have B_w2 := Lib.hid (below_next B_w1.out hb)
               have K_w2 := KK.out _ B_w2.out
               clear hb)
            | (go_at_call 56
               have t_k := tok2
               refine (CC.out _ _ _ (h_z.out.below B_w2.out) h_r.out).mono ?_
               rintro e w3 ⟨rfl, hb⟩
               replace h_q := Lib.hid (h_q.out.below hb)
               replace h_r := Lib.hid (h_r.out.below hb)
               have B_w3 := Lib.hid (below_next B_w2.out hb)
               have K_w3 := KK.out _ B_w3.out
               clear hb
               clear t_k tok2)
            | (go_at_call 81
               have t_k := tok3
               refine (CP.out _).mono ?_
               rintro e w4 ⟨v_s, rfl, hb, h_s⟩
               obtain ⟨A_s, n_s, cap_s, rfl, -⟩ := id h_s.form
               replace h_s := Lib.hid h_s
               replace h_q := Lib.hid (h_q.out.below hb)
               replace h_r := Lib.hid (h_r.out.below hb)
               have B_w4 := Lib.hid (below_next B_w3.out hb)
               have K_w4 := KK.out _ B_w4.out
               clear hb
               clear t_k tok3)
            | (go_at_call 56
               have t_k := tok4
               refine (CD.out _ _ _ (h_z.out.below B_w4.out) h_s.out).mono ?_
               rintro e w5 ⟨rfl, hb⟩
               replace h_q := Lib.hid (h_q.out.below hb)
               replace h_r := Lib.hid (h_r.out.below hb)
               replace h_s := Lib.hid (h_s.out.below hb)
               have B_w5 := Lib.hid (below_next B_w4.out hb)
               have K_w5 := KK.out _ B_w5.out
               clear hb
               clear t_k tok4)))
      | fail "region"
      clear KK K0 K_w1 K_w2 K_w3 K_w4 K_w5
      replace r_z := Lib.hid (r_z.out.keep B_w5.out)
      replace h_z := Lib.hid (h_z.out.below B_w5.out)
      replace BB := Lib.hid (below_next BB.out B_w5.out)
      clear B_w1 B_w2 B_w3 B_w4 B_w5
      go_wp2_with fail
      go_ret
      exact ⟨ret_bool HR.out.symm, BB.out⟩
    · have HR : Hid (fb = false) := by show _ = _; rw [HB.out]; have := fun h => h2 (g2.2 h); simp; omega
      have HD : Hid (decide (c2 < 0) = false) := by show _ = _; simpa using h2
      clear g1 g2 d1 HB
      go_enter Try.func49, Try.ntmps49
      go_wp2_with fail
      have BB := start1 w #[.bool (sgn z), .slice A m cap] 37
      obtain ⟨BB, hsz, r_z⟩ := BB
      generalize (w.alloc (.cells #[.bool (sgn z), .slice A m cap] 37)) = w0 at *
      replace BB := Lib.hid BB
      replace r_z := Lib.hid r_z
      clear hsz
      have h_z := Lib.hid (hv.out.below BB.out)
      have KK := Lib.hid (fun (w9 : World) (h : Below w0.heap.size w0 w9) => (cells2 (r_z.out.keep h) : (w9.cell? ⟨w.heap.size, 0, none⟩ = some (.bool (sgn z)) ∧ w9.cell? ⟨w.heap.size, 1, none⟩ = some (.slice A m cap))))
      have K0 := KK.out w0 (Below.refl _ _)
      have tok0 : Hid True := trivial
      have tok2 : Hid True := trivial
      have tok3 : Hid True := trivial
      have tok4 : Hid True := trivial
      first
      | (go_region_held3 (fun w9 => (w9.cell? ⟨w.heap.size, 0, none⟩ = some (.bool (sgn z)) ∧ w9.cell? ⟨w.heap.size, 1, none⟩ = some (.slice A m cap)))
          (first | exact K0 | exact K_w1 | exact K_w2 | exact K_w3 | exact K_w4 | exact K_w5)
          (first
            | (go_at_call 81
               have t_k := tok0
               refine (CP.out _).mono ?_
               rintro e w1 ⟨v_q, rfl, hb, h_q⟩
               obtain ⟨A_q, n_q, cap_q, rfl, -⟩ := id h_q.form
               replace h_q := Lib.hid h_q
               have B_w1 := Lib.hid (reg_next (w0 := w0) (by repeat (first | exact Below.refl _ _ | apply below_drew | apply below_new)) hb)
               have K_w1 := KK.out _ B_w1.out
               clear hb
               clear t_k tok0)
            | (go_at_call 80
               refine (CN.out _ _ h_q.out).mono ?_
               rintro e w2 ⟨v_r, rfl, hb, h_r⟩
               obtain ⟨A_r, n_r, cap_r, rfl, -⟩ := id h_r.form
               replace h_r := Lib.hid h_r
               replace h_q := Lib.hid (h_q.out.below hb)
               have B_w2 := Lib.hid (below_next B_w1.out hb)
               have K_w2 := KK.out _ B_w2.out
               clear hb)
            | (go_at_call 56
               have t_k := tok2
               refine (CC.out _ _ _ (h_z.out.below B_w2.out) h_r.out).mono ?_
               rintro e w3 ⟨rfl, hb⟩
               replace h_q := Lib.hid (h_q.out.below hb)
               replace h_r := Lib.hid (h_r.out.below hb)
               have B_w3 := Lib.hid (below_next B_w2.out hb)
               have K_w3 := KK.out _ B_w3.out
               clear hb
               clear t_k tok2)
            | (go_at_call 81
               have t_k := tok3
               refine (CP.out _).mono ?_
               rintro e w4 ⟨v_s, rfl, hb, h_s⟩
               obtain ⟨A_s, n_s, cap_s, rfl, -⟩ := id h_s.form
               replace h_s := Lib.hid h_s
               replace h_q := Lib.hid (h_q.out.below hb)
               replace h_r := Lib.hid (h_r.out.below hb)
               have B_w4 := Lib.hid (below_next B_w3.out hb)
               have K_w4 := KK.out _ B_w4.out
               clear hb
               clear t_k tok3)
            | (go_at_call 56
               have t_k := tok4
               refine (CD.out _ _ _ (h_z.out.below B_w4.out) h_s.out).mono ?_
               rintro e w5 ⟨rfl, hb⟩
               replace h_q := Lib.hid (h_q.out.below hb)
               replace h_r := Lib.hid (h_r.out.below hb)
               replace h_s := Lib.hid (h_s.out.below hb)
               have B_w5 := Lib.hid (below_next B_w4.out hb)
               have K_w5 := KK.out _ B_w5.out
               clear hb
               clear t_k tok4)))
      | fail "region"
      clear KK K0 K_w1 K_w2 K_w3 K_w4 K_w5
      replace r_z := Lib.hid (r_z.out.keep B_w5.out)
      replace h_z := Lib.hid (h_z.out.below B_w5.out)
      replace BB := Lib.hid (below_next BB.out B_w5.out)
      clear B_w1 B_w2 B_w3 B_w4 B_w5
      go_wp2_with fail
      go_ret
      exact ⟨ret_bool (by rw [HR.out, HD.out]), BB.out⟩
  · have HR : Hid (fb = false) := by show _ = _; rw [HB.out]; have := fun h => h1 (g1.2 h); simp; omega
    have h3 : decide (0 ≤ c1) = false := by simpa using h1
    clear g1 g2 HB
    go_enter Try.func49, Try.ntmps49
    go_wp2_with fail
    have BB := start1 w #[.bool (sgn z), .slice A m cap] 37
    obtain ⟨BB, hsz, r_z⟩ := BB
    generalize (w.alloc (.cells #[.bool (sgn z), .slice A m cap] 37)) = w0 at *
    replace BB := Lib.hid BB
    replace r_z := Lib.hid r_z
    clear hsz
    have h_z := Lib.hid (hv.out.below BB.out)
    obtain ⟨c_z0, c_z1, f_z0, f_z1⟩ := reads2 r_z.out
    have l_z := r_z.out.lt
    clear c_z0 c_z1 f_z0 f_z1 l_z
    have KK := Lib.hid (fun (w9 : World) (h : Below w0.heap.size w0 w9) => (cells2 (r_z.out.keep h) : (w9.cell? ⟨w.heap.size, 0, none⟩ = some (.bool (sgn z)) ∧ w9.cell? ⟨w.heap.size, 1, none⟩ = some (.slice A m cap))))
    have K0 := KK.out w0 (Below.refl _ _)
    first
    | (go_region_with (first
          | (go_at_call 81
             refine (CP.out _).mono ?_
             rintro e w1 ⟨v_q, rfl, hb, h_q⟩
             obtain ⟨A_q, n_q, cap_q, rfl, -⟩ := id h_q.form
             replace h_q := Lib.hid h_q
             have B_w1 := Lib.hid (reg_next (w0 := w0) (by repeat (first | exact Below.refl _ _ | apply below_drew | apply below_new)) hb)
             have K_w1 := KK.out _ B_w1.out
             clear hb)
          | (go_at_call 80
             refine (CN.out _ _ h_q.out).mono ?_
             rintro e w2 ⟨v_r, rfl, hb, h_r⟩
             obtain ⟨A_r, n_r, cap_r, rfl, -⟩ := id h_r.form
             replace h_r := Lib.hid h_r
             replace h_q := Lib.hid (h_q.out.below hb)
             have B_w2 := Lib.hid (below_next B_w1.out hb)
             have K_w2 := KK.out _ B_w2.out
             clear hb)
          | (go_at_call 56
             refine (CC.out _ _ _ (h_z.out.below B_w2.out) h_r.out).mono ?_
             rintro e w3 ⟨rfl, hb⟩
             replace h_q := Lib.hid (h_q.out.below hb)
             replace h_r := Lib.hid (h_r.out.below hb)
             have B_w3 := Lib.hid (below_next B_w2.out hb)
             have K_w3 := KK.out _ B_w3.out
             clear hb)))
    | fail "region"
    all_goals clear KK K0 K_w1 K_w2 K_w3
    all_goals replace r_z := Lib.hid (r_z.out.keep B_w3.out)
    all_goals replace h_z := Lib.hid (h_z.out.below B_w3.out)
    all_goals replace BB := Lib.hid (below_next BB.out B_w3.out)
    all_goals clear B_w1 B_w2 B_w3
    all_goals go_wp2_with fail
    all_goals go_ret
    all_goals exact ⟨ret_bool HR.out.symm, BB.out⟩

end Go.Proofs.Ytommpclkiiffpaa
