/- Plain laws: the document's determinant and adjugate are the program's. -/
import Derived.Test.YthoakbjnofhpbaaMr3
import Derived.Test.YthoakbjnofhpbaaMtD
set_option linter.unusedVariables false
set_option linter.unusedSimpArgs false
namespace Go.Proofs.Ythoakbjnofhpbaa
open Go.RowKit
theorem min_00 (m0 m1 m2 m3 m4 m5 m6 m7 m8 : Int) : minI [m0, m1, m2, m3, m4, m5, m6, m7, m8] 0 0 = m4 * m8 - m5 * m7 := rfl
theorem cof_00 (m0 m1 m2 m3 m4 m5 m6 m7 m8 : Int) : cofI [m0, m1, m2, m3, m4, m5, m6, m7, m8] 0 0 = m4 * m8 - m5 * m7 := rfl
theorem sgn_00 (m0 m1 m2 m3 m4 m5 m6 m7 m8 : Int) : cofI [m0, m1, m2, m3, m4, m5, m6, m7, m8] 0 0 = minI [m0, m1, m2, m3, m4, m5, m6, m7, m8] 0 0 := by (rw [min_00, cof_00]) <;> first | omega | (simp only [Int.mul_comm] <;> omega)
theorem min_01 (m0 m1 m2 m3 m4 m5 m6 m7 m8 : Int) : minI [m0, m1, m2, m3, m4, m5, m6, m7, m8] 0 1 = m3 * m8 - m5 * m6 := rfl
theorem cof_01 (m0 m1 m2 m3 m4 m5 m6 m7 m8 : Int) : cofI [m0, m1, m2, m3, m4, m5, m6, m7, m8] 0 1 = m5 * m6 - m3 * m8 := rfl
theorem sgn_01 (m0 m1 m2 m3 m4 m5 m6 m7 m8 : Int) : cofI [m0, m1, m2, m3, m4, m5, m6, m7, m8] 0 1 = -(minI [m0, m1, m2, m3, m4, m5, m6, m7, m8] 0 1) := by (rw [min_01, cof_01]) <;> first | omega | (simp only [Int.mul_comm] <;> omega)
theorem min_02 (m0 m1 m2 m3 m4 m5 m6 m7 m8 : Int) : minI [m0, m1, m2, m3, m4, m5, m6, m7, m8] 0 2 = m3 * m7 - m4 * m6 := rfl
theorem cof_02 (m0 m1 m2 m3 m4 m5 m6 m7 m8 : Int) : cofI [m0, m1, m2, m3, m4, m5, m6, m7, m8] 0 2 = m3 * m7 - m4 * m6 := rfl
theorem sgn_02 (m0 m1 m2 m3 m4 m5 m6 m7 m8 : Int) : cofI [m0, m1, m2, m3, m4, m5, m6, m7, m8] 0 2 = minI [m0, m1, m2, m3, m4, m5, m6, m7, m8] 0 2 := by (rw [min_02, cof_02]) <;> first | omega | (simp only [Int.mul_comm] <;> omega)
theorem min_10 (m0 m1 m2 m3 m4 m5 m6 m7 m8 : Int) : minI [m0, m1, m2, m3, m4, m5, m6, m7, m8] 1 0 = m1 * m8 - m2 * m7 := rfl
theorem cof_10 (m0 m1 m2 m3 m4 m5 m6 m7 m8 : Int) : cofI [m0, m1, m2, m3, m4, m5, m6, m7, m8] 1 0 = m7 * m2 - m8 * m1 := rfl
theorem sgn_10 (m0 m1 m2 m3 m4 m5 m6 m7 m8 : Int) : cofI [m0, m1, m2, m3, m4, m5, m6, m7, m8] 1 0 = -(minI [m0, m1, m2, m3, m4, m5, m6, m7, m8] 1 0) := by (rw [min_10, cof_10]) <;> first | omega | (simp only [Int.mul_comm] <;> omega)
theorem min_11 (m0 m1 m2 m3 m4 m5 m6 m7 m8 : Int) : minI [m0, m1, m2, m3, m4, m5, m6, m7, m8] 1 1 = m0 * m8 - m2 * m6 := rfl
theorem cof_11 (m0 m1 m2 m3 m4 m5 m6 m7 m8 : Int) : cofI [m0, m1, m2, m3, m4, m5, m6, m7, m8] 1 1 = m8 * m0 - m6 * m2 := rfl
theorem sgn_11 (m0 m1 m2 m3 m4 m5 m6 m7 m8 : Int) : cofI [m0, m1, m2, m3, m4, m5, m6, m7, m8] 1 1 = minI [m0, m1, m2, m3, m4, m5, m6, m7, m8] 1 1 := by (rw [min_11, cof_11]) <;> first | omega | (simp only [Int.mul_comm] <;> omega)
theorem min_12 (m0 m1 m2 m3 m4 m5 m6 m7 m8 : Int) : minI [m0, m1, m2, m3, m4, m5, m6, m7, m8] 1 2 = m0 * m7 - m1 * m6 := rfl
theorem cof_12 (m0 m1 m2 m3 m4 m5 m6 m7 m8 : Int) : cofI [m0, m1, m2, m3, m4, m5, m6, m7, m8] 1 2 = m6 * m1 - m7 * m0 := rfl
theorem sgn_12 (m0 m1 m2 m3 m4 m5 m6 m7 m8 : Int) : cofI [m0, m1, m2, m3, m4, m5, m6, m7, m8] 1 2 = -(minI [m0, m1, m2, m3, m4, m5, m6, m7, m8] 1 2) := by (rw [min_12, cof_12]) <;> first | omega | (simp only [Int.mul_comm] <;> omega)
theorem min_20 (m0 m1 m2 m3 m4 m5 m6 m7 m8 : Int) : minI [m0, m1, m2, m3, m4, m5, m6, m7, m8] 2 0 = m1 * m5 - m2 * m4 := rfl
theorem cof_20 (m0 m1 m2 m3 m4 m5 m6 m7 m8 : Int) : cofI [m0, m1, m2, m3, m4, m5, m6, m7, m8] 2 0 = m1 * m5 - m2 * m4 := rfl
theorem sgn_20 (m0 m1 m2 m3 m4 m5 m6 m7 m8 : Int) : cofI [m0, m1, m2, m3, m4, m5, m6, m7, m8] 2 0 = minI [m0, m1, m2, m3, m4, m5, m6, m7, m8] 2 0 := by (rw [min_20, cof_20]) <;> first | omega | (simp only [Int.mul_comm] <;> omega)
theorem min_21 (m0 m1 m2 m3 m4 m5 m6 m7 m8 : Int) : minI [m0, m1, m2, m3, m4, m5, m6, m7, m8] 2 1 = m0 * m5 - m2 * m3 := rfl
theorem cof_21 (m0 m1 m2 m3 m4 m5 m6 m7 m8 : Int) : cofI [m0, m1, m2, m3, m4, m5, m6, m7, m8] 2 1 = m2 * m3 - m0 * m5 := rfl
theorem sgn_21 (m0 m1 m2 m3 m4 m5 m6 m7 m8 : Int) : cofI [m0, m1, m2, m3, m4, m5, m6, m7, m8] 2 1 = -(minI [m0, m1, m2, m3, m4, m5, m6, m7, m8] 2 1) := by (rw [min_21, cof_21]) <;> first | omega | (simp only [Int.mul_comm] <;> omega)
theorem min_22 (m0 m1 m2 m3 m4 m5 m6 m7 m8 : Int) : minI [m0, m1, m2, m3, m4, m5, m6, m7, m8] 2 2 = m0 * m4 - m1 * m3 := rfl
theorem cof_22 (m0 m1 m2 m3 m4 m5 m6 m7 m8 : Int) : cofI [m0, m1, m2, m3, m4, m5, m6, m7, m8] 2 2 = m0 * m4 - m1 * m3 := rfl
theorem sgn_22 (m0 m1 m2 m3 m4 m5 m6 m7 m8 : Int) : cofI [m0, m1, m2, m3, m4, m5, m6, m7, m8] 2 2 = minI [m0, m1, m2, m3, m4, m5, m6, m7, m8] 2 2 := by (rw [min_22, cof_22]) <;> first | omega | (simp only [Int.mul_comm] <;> omega)
theorem adjF_0 (m0 m1 m2 m3 m4 m5 m6 m7 m8 : Int) : adjF [m0, m1, m2, m3, m4, m5, m6, m7, m8] 0 = cofI [m0, m1, m2, m3, m4, m5, m6, m7, m8] 0 0 := by
  rw [sgn_00]; rfl
theorem adjF_1 (m0 m1 m2 m3 m4 m5 m6 m7 m8 : Int) : adjF [m0, m1, m2, m3, m4, m5, m6, m7, m8] 1 = cofI [m0, m1, m2, m3, m4, m5, m6, m7, m8] 1 0 := by
  rw [sgn_10]; rfl
theorem adjF_2 (m0 m1 m2 m3 m4 m5 m6 m7 m8 : Int) : adjF [m0, m1, m2, m3, m4, m5, m6, m7, m8] 2 = cofI [m0, m1, m2, m3, m4, m5, m6, m7, m8] 2 0 := by
  rw [sgn_20]; rfl
theorem adjF_3 (m0 m1 m2 m3 m4 m5 m6 m7 m8 : Int) : adjF [m0, m1, m2, m3, m4, m5, m6, m7, m8] 3 = cofI [m0, m1, m2, m3, m4, m5, m6, m7, m8] 0 1 := by
  rw [sgn_01]; rfl
theorem adjF_4 (m0 m1 m2 m3 m4 m5 m6 m7 m8 : Int) : adjF [m0, m1, m2, m3, m4, m5, m6, m7, m8] 4 = cofI [m0, m1, m2, m3, m4, m5, m6, m7, m8] 1 1 := by
  rw [sgn_11]; rfl
theorem adjF_5 (m0 m1 m2 m3 m4 m5 m6 m7 m8 : Int) : adjF [m0, m1, m2, m3, m4, m5, m6, m7, m8] 5 = cofI [m0, m1, m2, m3, m4, m5, m6, m7, m8] 2 1 := by
  rw [sgn_21]; rfl
theorem adjF_6 (m0 m1 m2 m3 m4 m5 m6 m7 m8 : Int) : adjF [m0, m1, m2, m3, m4, m5, m6, m7, m8] 6 = cofI [m0, m1, m2, m3, m4, m5, m6, m7, m8] 0 2 := by
  rw [sgn_02]; rfl
theorem adjF_7 (m0 m1 m2 m3 m4 m5 m6 m7 m8 : Int) : adjF [m0, m1, m2, m3, m4, m5, m6, m7, m8] 7 = cofI [m0, m1, m2, m3, m4, m5, m6, m7, m8] 1 2 := by
  rw [sgn_12]; rfl
theorem adjF_8 (m0 m1 m2 m3 m4 m5 m6 m7 m8 : Int) : adjF [m0, m1, m2, m3, m4, m5, m6, m7, m8] 8 = cofI [m0, m1, m2, m3, m4, m5, m6, m7, m8] 2 2 := by
  rw [sgn_22]; rfl
theorem det_same (m0 m1 m2 m3 m4 m5 m6 m7 m8 : Int) : dtS [m0, m1, m2, m3, m4, m5, m6, m7, m8] 3 = detM [m0, m1, m2, m3, m4, m5, m6, m7, m8] := by
  have h : dtS [m0, m1, m2, m3, m4, m5, m6, m7, m8] 3 = 0 + m0 * minI [m0, m1, m2, m3, m4, m5, m6, m7, m8] 0 0 + -(m1 * minI [m0, m1, m2, m3, m4, m5, m6, m7, m8] 0 1) + m2 * minI [m0, m1, m2, m3, m4, m5, m6, m7, m8] 0 2 := rfl
  have h2 : detM [m0, m1, m2, m3, m4, m5, m6, m7, m8] = cofI [m0, m1, m2, m3, m4, m5, m6, m7, m8] 0 0 * m0 + cofI [m0, m1, m2, m3, m4, m5, m6, m7, m8] 0 1 * m1 + cofI [m0, m1, m2, m3, m4, m5, m6, m7, m8] 0 2 * m2 := rfl
  rw [h, h2, sgn_00, sgn_01, sgn_02, Int.neg_mul, Int.mul_comm m0, Int.mul_comm m1, Int.mul_comm m2]
  omega
end Go.Proofs.Ythoakbjnofhpbaa
