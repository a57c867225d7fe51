/- Walks of the document's 'Wide' and 'Fits', of anamorphlaw01's 'Big' and 'Told'. -/
import Derived.Test.YtnklbnphiokpiaaPow
import Derived.Test.YtnklbnphiokpiaaWide1
set_option linter.unusedVariables false
namespace Go.Proofs.Ytnklbnphiokpiaa
open Go.RowKit

theorem two_64 : (2 : Int) ^ 64 = 18446744073709551616 := by decide
end Go.Proofs.Ytnklbnphiokpiaa
