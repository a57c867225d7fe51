/- Plain facts on long division by two digits (no program in sight): what bits.Div64 reckons. -/
set_option linter.unusedVariables false
namespace Go.Proofs.Ytommpclkiiffpaa

/-- A guess q of a digit, what is left r: at a divisor y1 * 2^32 + y0, at u, and the digit u1. -/
def DInv (y1 y0 u u1 q r : Int) : Prop := q * y1 + r = u ∧ 0 ≤ r ∧ 0 ≤ q ∧ q ≤ 4294967297 ∧ (u * 4294967296 + u1) / (y1 * 4294967296 + y0) ≤ q

theorem DInv.start {y1 y0 u u1 : Int} (hy1 : 2147483648 ≤ y1) (hy0 : 0 ≤ y0) (hy0' : y0 < 4294967296) (hu : 0 ≤ u) (huy : u < y1 * 4294967296 + y0) (h0 : 0 ≤ u1) (h1 : u1 < 4294967296) :
    DInv y1 y0 u u1 (u / y1) (u % y1) := by
  have e := Int.mul_ediv_add_emod u y1
  have r0 := Int.emod_nonneg u (show y1 ≠ 0 by omega)
  have r1 := Int.emod_lt_of_pos u (show 0 < y1 by omega)
  have q0 : 0 ≤ u / y1 := Int.ediv_nonneg hu (by omega)
  refine ⟨by rw [Int.mul_comm]; exact e, r0, q0, ?_, ?_⟩
  · have : u / y1 < 4294967298 := Int.ediv_lt_of_lt_mul (by omega) (by omega)
    omega
  · have h : (u * 4294967296 + u1) / (y1 * 4294967296 + y0) < u / y1 + 1 := by
      refine Int.ediv_lt_of_lt_mul (by omega) ?_
      generalize u / y1 = q at *
      generalize u % y1 = r at *
      have h2 : 0 ≤ (q + 1) * y0 := Int.mul_nonneg (by omega) hy0
      have h3 : (q + 1) * (y1 * 4294967296 + y0) = (y1 * q + y1) * 4294967296 + (q + 1) * y0 := by grind
      rw [h3]
      omega
    omega

theorem DInv.lt {y1 y0 u u1 : Int} (hy1 : 2147483648 ≤ y1) (hy0 : 0 ≤ y0) (hu : 0 ≤ u) (huy : u < y1 * 4294967296 + y0) (h0 : 0 ≤ u1) (h1 : u1 < 4294967296) :
    (u * 4294967296 + u1) / (y1 * 4294967296 + y0) < 4294967296 := Int.ediv_lt_of_lt_mul (by omega) (by omega)

theorem DInv.step {y1 y0 u u1 q r : Int} (h : DInv y1 y0 u u1 q r) (hy1 : 2147483648 ≤ y1) (hy0 : 0 ≤ y0) (hu : 0 ≤ u) (huy : u < y1 * 4294967296 + y0) (h0 : 0 ≤ u1) (h1 : u1 < 4294967296)
    (hc : 4294967296 ≤ q ∨ 4294967296 * r + u1 < q * y0) : DInv y1 y0 u u1 (q - 1) (r + y1) ∧ q - 1 ≤ 4294967296 ∧ 0 < q := by
  obtain ⟨a, b, c, d, e⟩ := h
  have hlt := DInv.lt (u1 := u1) hy1 hy0 hu huy h0 h1
  have hq : (u * 4294967296 + u1) / (y1 * 4294967296 + y0) < q := by
    rcases hc with hc | hc
    · omega
    · refine Int.ediv_lt_of_lt_mul (by omega) ?_
      have h3 : q * (y1 * 4294967296 + y0) = (q * y1) * 4294967296 + q * y0 := by grind
      rw [h3]
      omega
  have hq0 : 0 ≤ (u * 4294967296 + u1) / (y1 * 4294967296 + y0) := Int.ediv_nonneg (by omega) (by omega)
  exact ⟨⟨by grind, by omega, by omega, by omega, by omega⟩, by omega, by omega⟩

theorem DInv.done {y1 y0 u u1 q r : Int} (h : DInv y1 y0 u u1 q r) (hy1 : 2147483648 ≤ y1) (hy0 : 0 ≤ y0) (hy0' : y0 < 4294967296) (h0 : 0 ≤ u1)
    (hc : q * y0 ≤ 4294967296 * r + u1) : q = (u * 4294967296 + u1) / (y1 * 4294967296 + y0) := by
  obtain ⟨a, b, c, d, e⟩ := h
  have h2 : q ≤ (u * 4294967296 + u1) / (y1 * 4294967296 + y0) := by
    refine Int.le_ediv_of_mul_le (by omega) ?_
    have h3 : q * (y1 * 4294967296 + y0) = (q * y1) * 4294967296 + q * y0 := by grind
    rw [h3]
    omega
  omega

theorem DInv.broke {y1 y0 u u1 q r : Int} (h : DInv y1 y0 u u1 q r) (hq : q ≤ 4294967296) (hr : 4294967296 ≤ r) (hy0 : 0 ≤ y0) (hy0' : y0 < 4294967296) (h0 : 0 ≤ u1) : q * y0 ≤ 4294967296 * r + u1 := by
  have h2 : q * y0 ≤ 4294967296 * y0 := Int.mul_le_mul_of_nonneg_right hq hy0
  omega

/-- No room is lost in the test. -/
theorem DInv.room {y1 y0 u u1 q r : Int} (h : DInv y1 y0 u u1 q r) (hy0 : 0 ≤ y0) (hy0' : y0 < 4294967296) : 0 ≤ q * y0 ∧ q * y0 ≤ 18446744073709551615 := by
  refine ⟨Int.mul_nonneg h.2.2.1 hy0, ?_⟩
  have h2 : q * y0 ≤ 4294967297 * y0 := Int.mul_le_mul_of_nonneg_right h.2.2.2.1 hy0
  omega

/-- Both digits. -/
theorem div_two {N y' a : Int} (hy : 0 < y') (u0 : Int) (h0 : 0 ≤ u0) (h1 : u0 < 4294967296) (hN : N = a * 4294967296 + u0) :
    N / y' = (a / y') * 4294967296 + ((a % y') * 4294967296 + u0) / y' ∧ N % y' = ((a % y') * 4294967296 + u0) % y' := by
  have e := Int.mul_ediv_add_emod a y'
  generalize a / y' = q at *
  generalize a % y' = r at *
  have h : N = (r * 4294967296 + u0) + y' * (q * 4294967296) := by rw [hN, ← e]; grind
  rw [h]
  constructor
  · rw [Int.add_mul_ediv_left _ _ (by omega)]; omega
  · rw [Int.add_mul_emod_self_left]

theorem div_scaled {N y s : Int} (hs : 0 < s) : (N * s) / (y * s) = N / y ∧ (N * s) % (y * s) = (N % y) * s :=
  by
  have h := Int.mul_ediv_mul_of_pos_left N y hs
  refine ⟨h, ?_⟩
  rw [Int.emod_def, h, Int.emod_def]
  grind

end Go.Proofs.Ytommpclkiiffpaa
