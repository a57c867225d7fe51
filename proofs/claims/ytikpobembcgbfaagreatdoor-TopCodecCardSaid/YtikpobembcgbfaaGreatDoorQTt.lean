/- Parts of the proof: Tt0 Tt1 Tt2 Tt3 Tt4 Tt5 Tt6 Tt7 Tt8 Tt. -/
import Derived.Test.YtikpobembcgbfaaGreatDoorRows
import Derived.LaidByTextLater
import Derived.SevenTiedAt
set_option linter.unusedVariables false
set_option linter.unusedSimpArgs false
set_option maxRecDepth 100000
set_option maxHeartbeats 40000000
namespace Go.Proofs.YtikpobembcgbfaaGreatDoor
open Go
set_option maxRecDepth 100000
theorem tie0 : Tryz.prog.worded (varsWordLater true) = true := by kernel_rfl
set_option maxRecDepth 100000
theorem tie1 : Tryz.prog.worded (varsWordLater !true) = false := by kernel_rfl
set_option maxRecDepth 100000
theorem tie2 : Tryz.prog.worded rootWordLater = true := by kernel_rfl
set_option maxRecDepth 100000
theorem tie3 : List.map (fun x => Tryz.prog.kindOfLater x.fst) Rows.topCodecRow.laid = List.map some [.data, .data, .data, .sentinel, .sentinel] := by kernel_rfl
set_option maxRecDepth 100000
theorem tie4 : (Tryz.prog.funcNamed "gosem.cut.vars").isSome = true := by kernel_rfl
set_option maxRecDepth 100000
theorem tie5 : varsNamedLaterB Tryz.prog (varsId Tryz.prog) Rows.topCodecRow.laid = true := by kernel_rfl
set_option maxRecDepth 100000
theorem tie6 : ∀ (os : Os) (tape : Tape), varsDone Tryz.prog 400 (varsId Tryz.prog) os tape = true := fun _ _ => by kernel_rfl
set_option maxRecDepth 100000
theorem tie7 : ∀ (os : Os) (tape : Tape), Option.map (fun x => x.fst) (DataW.laidRun Tryz.prog (varsWorld Tryz.prog 400 (varsId Tryz.prog) os tape).memory 8 (List.map (fun x => x.fst) Rows.topCodecRow.laid)) = some Rows.topCodecRow.laid := fun _ _ => by kernel_rfl
set_option maxRecDepth 100000
theorem tie8 : ∀ (os : Os) (tape : Tape), Option.map (fun x => decide x.snd.Nodup && laidRowsB Tryz.prog (varsWorld Tryz.prog 400 (varsId Tryz.prog) os tape).memory x.snd) (DataW.laidRun Tryz.prog (varsWorld Tryz.prog 400 (varsId Tryz.prog) os tape).memory 8 (List.map (fun x => x.fst) Rows.topCodecRow.laid)) = some true := fun _ _ => by kernel_rfl
theorem noOwn : Tryz.pinned.checked.prog.headLifts.contains "ownunsafe" = false := by kernel_rfl
theorem topCodec_tied : Rows.topCodecRow.laidByTextAt .later Tryz.pinned [.data, .data, .data, .sentinel, .sentinel] true :=
 OpenClaim.laidByTextAt_later rfl rfl (Program.laidByTextLater_by_run 400 8 tie0 tie1 tie2 tie3 tie4 tie5 tie6 tie7 tie8) noOwn
end Go.Proofs.YtikpobembcgbfaaGreatDoor
