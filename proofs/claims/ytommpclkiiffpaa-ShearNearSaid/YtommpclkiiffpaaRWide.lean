/- Walks of the document's 'Wide' and 'Fits', of anamorphlaw01's 'Big' and 'Told'. -/
import Derived.Test.YtommpclkiiffpaaPow
import Derived.Test.YtommpclkiiffpaaWide1
set_option linter.unusedVariables false
namespace Go.Proofs.Ytommpclkiiffpaa
open Go.RowKit

theorem two_64 : (2 : Int) ^ 64 = 18446744073709551616 := by decide
end Go.Proofs.Ytommpclkiiffpaa
