/- Parts of the proof: Tja Tjb Tjc Tjd Tje Tjf Tjg Tj. -/
import Derived.Test.YtikpobembcgbfaaGreatDoorLoT
import Derived.Test.YtikpobembcgbfaaGreatDoorRows
import Derived.JoinedOf
set_option linter.unusedVariables false
set_option linter.unusedSimpArgs false
set_option maxRecDepth 100000
set_option maxHeartbeats 40000000
namespace Go.Proofs.YtikpobembcgbfaaGreatDoor
open Go
set_option maxRecDepth 100000
theorem row_a : (Rows.topCodecRow.inPlace == Tryz.prog.inPlace 3) = true := by kernel_rfl
set_option maxRecDepth 100000
theorem row_b : (Rows.topCodecRow.unfollowed == Tryz.prog.unfollowed 3) = true := by kernel_rfl
set_option maxRecDepth 100000
theorem row_c : (Rows.topCodecRow.recurses == Tryz.prog.recurses 3) = true := by kernel_rfl
set_option maxRecDepth 100000
theorem row_d : (Rows.topCodecRow.named == Tryz.prog.varsNamed 3) = true := by kernel_rfl
set_option maxRecDepth 100000
theorem row_e0 : mapsRowed Tryz.prog = true := by kernel_rfl
theorem row_e1 : (Tryz.prog.stops == []) = true := by kernel_rfl
theorem row_e2 : (Tryz.prog.stopKnobs == []) = true := by kernel_rfl
set_option maxRecDepth 100000
theorem row_f0 : (Rows.topCodecRow.plainKeys == Tryz.prog.plainKeys) = true := by kernel_rfl
theorem row_f1 : Tryz.prog.stopsHeard = true := by kernel_rfl
set_option maxRecDepth 100000
theorem row_g0 : Tryz.prog.mayEnter = true := by kernel_rfl
theorem row_g1 : (Rows.topCodecRow.lifted == Tryz.prog.liftsFinal) = true := by kernel_rfl
theorem row_g2 : (Tryz.prog.make == some Rows.topCodecRow.make) = true := by kernel_rfl
theorem row_facts : joinedFacts Tryz.prog 3 Tryz.f3 Rows.topCodecSpec Rows.topCodecRow = true := by
 unfold joinedFacts
 repeat' (with_reducible refine (Bool.and_eq_true _ _).mpr ⟨?_, ?_⟩)
 all_goals (first | with_reducible exact laidOut | with_reducible exact row_a | with_reducible exact row_b | with_reducible exact row_c | with_reducible exact row_d | with_reducible exact row_e0 | with_reducible exact row_e1 | with_reducible exact row_e2 | with_reducible exact row_f0 | with_reducible exact row_f1 | with_reducible exact row_g0 | with_reducible exact row_g1 | with_reducible exact row_g2 | kernel_rfl)
end Go.Proofs.YtikpobembcgbfaaGreatDoor
