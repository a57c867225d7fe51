/- A part of the proof. -/
import Derived.Test.YtikpobembcgbfaaGreatDoorLoF
namespace Go.Proofs.YtikpobembcgbfaaGreatDoor
open Go Go.RowKit
theorem own : ownKnob Tryz.prog.godebug = none := by kernel_rfl
theorem laidG : (Tryz.prog.globals.all fun g => decide (g.type < Tryz.prog.types.size)) = true := by kernel_rfl
theorem laidT : ((List.range Tryz.prog.types.size).all (rowFine Tryz.prog)) = true := by kernel_rfl
theorem laidOut : laidOutB Tryz.prog = true := by
 unfold laidOutB
 exact (Bool.and_eq_true _ _).mpr ⟨(Bool.and_eq_true _ _).mpr ⟨laidT, laidG⟩, laidF⟩
end Go.Proofs.YtikpobembcgbfaaGreatDoor
