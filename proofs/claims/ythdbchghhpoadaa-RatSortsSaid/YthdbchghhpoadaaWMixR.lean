/- Contracts of the document's Near and Byte. -/
import Derived.Test.YthdbchghhpoadaaWt0
import Derived.Test.YthdbchghhpoadaaRQuot1
import Derived.Test.YthdbchghhpoadaaRegG
set_option linter.unusedVariables false
set_option linter.unusedSimpArgs false
namespace Go.Proofs.Ythdbchghhpoadaa
open Go.RowKit
abbrev BT : TypeId := 52

theorem nearI_wd {z b : Int} (hz : Wd 1000 z) (hb : Wd 1000 b) : Wd 1100 (nearI z b) := by
  have w2 : Wd 1001 (z + z) := hz.add hz
  have w3 : Wd 1002 (z + z + b) := w2.add (hb.up (by omega))
  have : nearI z b = (z + z + b).fdiv (2 * b) := by unfold nearI; rw [show z + z + b = 2 * z + b by omega]
  rw [this]; exact w3.fdiv.up (by omega)

end Go.Proofs.Ythdbchghhpoadaa
