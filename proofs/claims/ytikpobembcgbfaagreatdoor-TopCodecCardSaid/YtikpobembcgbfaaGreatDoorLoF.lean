/- A part of the proof. -/
import Derived.Test.YtikpobembcgbfaaGreatDoorChecked
import Derived.ChangeShapes
import Derived.WideShapes
import Derived.OpenShut
import Derived.RowKit
import Derived.KernelRfl
namespace Go.Proofs.YtikpobembcgbfaaGreatDoor
open Go Go.RowKit
theorem laidF : (Tryz.prog.funcs.all fun f => f.params.all fun t => decide (t < Tryz.prog.types.size)) = true := by kernel_rfl
end Go.Proofs.YtikpobembcgbfaaGreatDoor
