/- Walk of the law LensIn. -/
import Derived.Test.YthdbchghhpoadaaLensL
set_option linter.unusedVariables false
namespace Go.Proofs.Ythdbchghhpoadaa
open Go.RowKit

theorem lC_zero {zs : List Int} {W H : Int} (h : lC zs W H = 0) : ∃ c0 c1 c2 c3 c4 c5 c6, zs = [c0, c1, c2, c3, c4, c5, c6] ∧ LM c0 c1 c2 c3 c4 c5 c6 ∧ sizeI W H = true ∧ farI c0 c1 c2 (-1) (-1) 2 = false ∧ farI c0 c1 c2 (2 * W - 1) (2 * H - 1) 2 = false := by
  have h0 : lR zs = 0 := by
    refine Decidable.byContradiction fun k => ?_
    rw [lC_R k] at h; exact k h
  obtain ⟨c0, c1, c2, c3, c4, c5, c6, rfl, hM⟩ := lR_zero h0
  have hS : sizeI W H = true := by
    cases hx : sizeI W H
    · have := lC_size (W := W) (H := H) h0 (fun k => by rw [sizeI_iff.2 k] at hx; cases hx)
      omega
    · rfl
  have := lC_far h0 hS
  rw [h] at this
  refine ⟨c0, c1, c2, c3, c4, c5, c6, rfl, hM, hS, ?_, ?_⟩
  · cases hq : farI c0 c1 c2 (-1) (-1) 2
    · rfl
    · rw [if_pos (.inl hq)] at this; omega
  · cases hq : farI c0 c1 c2 (2 * W - 1) (2 * H - 1) 2
    · rfl
    · rw [if_pos (.inr hq)] at this; omega

/-- A place between two ends is as near to the middle as they are. -/
theorem ax_mono {p q d e mid f : Int} (hf : 0 < f) (hd : 0 < d) (h : 65536 * p / d ≤ 65536 * q / e) : axI p d mid f ≤ axI q e mid f := by
  unfold axI; exact Int.ediv_le_ediv hf (by omega)
theorem ax_between {p d w mid f : Int} (hf : 0 < f) (hd : 0 < d) (h0 : -d ≤ 2 * p) (h1 : 2 * p ≤ (2 * w - 1) * d) (k0 : inI (axI (-1) 2 mid f) 262144 = true) (k1 : inI (axI (2 * w - 1) 2 mid f) 262144 = true) : inI (axI p d mid f) 262144 = true := by
  have a := ax_mono (p := -1) (q := p) (d := 2) (e := d) (mid := mid) hf (by omega) (Int.le_ediv_of_mul_le hd (by omega))
  have b := ax_mono (p := p) (q := 2 * w - 1) (d := d) (e := 2) (mid := mid) hf hd (by
    have : 65536 * p / d ≤ 32768 * (2 * w - 1) := by
      refine Int.ediv_le_of_le_mul hd ?_
      rw [Int.mul_assoc]; omega
    omega)
  have x := inI_iff.1 k0
  have y := inI_iff.1 k1
  exact inI_iff.2 (by omega)
theorem far_in {cx cy f px py d w h : Int} (hf : 0 < f) (hd : 0 < d) (x0 : -d ≤ 2 * px) (x1 : 2 * px ≤ (2 * w - 1) * d) (y0 : -d ≤ 2 * py) (y1 : 2 * py ≤ (2 * h - 1) * d) (k0 : farI cx cy f (-1) (-1) 2 = false) (k1 : farI cx cy f (2 * w - 1) (2 * h - 1) 2 = false) : farI cx cy f px py d = false := by
  unfold farI at *
  simp only [Bool.or_eq_false_iff, Bool.not_eq_false'] at *
  exact ⟨ax_between hf hd x0 x1 k0.1 k1.1, ax_between hf hd y0 y1 k0.2 k1.2⟩

end Go.Proofs.Ythdbchghhpoadaa
