/- Walk of the document's 'Fits', at a number of bits. -/
import Derived.Test.YtnklbnphiokpiaaPow
set_option linter.unusedVariables false
namespace Go.Proofs.Ytnklbnphiokpiaa
open Go.RowKit

theorem cmpI_ge {x y : Int} : 0 ≤ cmpI x y ↔ y ≤ x := by unfold cmpI; split <;> (try split) <;> omega
theorem cmpI_neg {x y : Int} : cmpI x y < 0 ↔ x < y := by unfold cmpI; split <;> (try split) <;> omega
theorem cmpI_zero {x y : Int} : cmpI x y = 0 ↔ x = y := by unfold cmpI; split <;> (try split) <;> omega
/-- From -2^n on, below 2^n? -/
def fitsB (z : Int) (n : Nat) : Bool := decide (-(2 : Int) ^ n ≤ z ∧ z < (2 : Int) ^ n)

end Go.Proofs.Ytnklbnphiokpiaa
