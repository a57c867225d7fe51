/- Walks of the document's Cut and Place. -/
import Derived.Test.YtnklbnphiokpiaaRQuot0
import Derived.Test.YtnklbnphiokpiaaJD
set_option linter.unusedVariables false
namespace Go.Proofs.Ytnklbnphiokpiaa
open Go.RowKit

theorem pow46 : (2 : Int) ^ 46 = 70368744177664 := by decide
theorem pow16 : (2 : Int) ^ 16 = 65536 := by decide
theorem far_i64 : I64 70368744177664 := ⟨by omega, by omega⟩
theorem far_wd : Wd 46 70368744177664 := by unfold Wd; rw [pow46]; omega

end Go.Proofs.Ytnklbnphiokpiaa
