/- Contract of the document's At of the lens. -/
import Derived.Test.YthdbchghhpoadaaLensR1
set_option linter.unusedVariables false
namespace Go.Proofs.Ythdbchghhpoadaa
open Go.RowKit

theorem lr_comm (x y : Int) : lr y x = lr x y := by unfold lr; rw [Int.add_comm]
/-- The document's row, in the words of the other one. -/
theorem lB_row (k1 k2 x y p1 p2 : Int) : y * lg k1 k2 (lr x y) / 65536 + p1 * (lr x y + 2 * y * y / 65536) / 65536 + p2 * (2 * x * y / 65536) / 65536 = lB k1 k2 y x p1 p2 := by
  unfold lB
  rw [lr_comm x y, show 2 * y * x = 2 * x * y by rw [Int.mul_assoc, Int.mul_assoc, Int.mul_comm y x]]
  omega
/-- Bounds of what the document adds up. -/
theorem row_facts {k1 k2 x y p1 p2 : Int} (hx : -262144 ≤ x ∧ x ≤ 262144) (hy : -262144 ≤ y ∧ y ≤ 262144) (h1 : -65536 ≤ k1 ∧ k1 ≤ 65536) (h2 : -65536 ≤ k2 ∧ k2 ≤ 65536) (hs : -65536 ≤ p1 ∧ p1 ≤ 65536) (ho : -65536 ≤ p2 ∧ p2 ≤ 65536) :
    (-35184372088832 ≤ y * lg k1 k2 (lr x y) ∧ y * lg k1 k2 (lr x y) ≤ 35184372088832) ∧ (0 ≤ 2 * y * y ∧ 2 * y * y ≤ 137438953472) ∧ (-274877906944 ≤ p1 * (lr x y + 2 * y * y / 65536) ∧ p1 * (lr x y + 2 * y * y / 65536) ≤ 274877906944) ∧
    (-137438953472 ≤ p2 * (2 * x * y / 65536) ∧ p2 * (2 * x * y / 65536) ≤ 137438953472) ∧ (-1073741824 ≤ lB k1 k2 y x p1 p2 ∧ lB k1 k2 y x p1 p2 ≤ 1073741824) := by
  obtain ⟨-, -, -, -, -, -, -, a8, -, -, a11, a12, a13⟩ := bend_facts hy hx h1 h2 hs ho
  obtain ⟨-, -, -, -, -, -, -, -, -, b10, -, -, -⟩ := bend_facts hx hy h1 h2 hs ho
  rw [lr_comm x y] at a8 a12
  exact ⟨a8, a11, a12, b10, a13⟩

end Go.Proofs.Ythdbchghhpoadaa
