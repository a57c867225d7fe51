/- Walks of the document's 'Wide' and 'Fits', of anamorphlaw01's 'Big' and 'Told'. -/
import Derived.Test.YtbldgbenlmjmjaaPow
import Derived.Test.YtbldgbenlmjmjaaWide1
set_option linter.unusedVariables false
namespace Go.Proofs.Ytbldgbenlmjmjaa
open Go.RowKit

theorem two_64 : (2 : Int) ^ 64 = 18446744073709551616 := by decide
end Go.Proofs.Ytbldgbenlmjmjaa
