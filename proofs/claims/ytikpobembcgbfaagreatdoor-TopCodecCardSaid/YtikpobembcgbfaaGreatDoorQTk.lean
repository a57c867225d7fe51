/- Parts of the proof: Tka Tkb Tkc Tkd Tke. -/
import Derived.Test.YtikpobembcgbfaaGreatDoorCards
import Derived.SevenTiedAt
set_option linter.unusedVariables false
set_option linter.unusedSimpArgs false
set_option maxRecDepth 100000
set_option maxHeartbeats 40000000
namespace Go.Proofs.YtikpobembcgbfaaGreatDoor
open Go
set_option maxRecDepth 100000
theorem card_form : Rows.topCodecRow.wfByText (OpenSpec.ofChange Rows.topCodecSpec) = true := by kernel_rfl
set_option maxRecDepth 100000
theorem card_main : Tryz.prog.mainIs = some (Rows.topCodecCard.stood.harness.1, Rows.topCodecCard.stood.harness.2.toList) := by kernel_rfl
set_option maxRecDepth 100000
theorem card_looks : Rows.topCodecCard.stood.looks = Tryz.prog.looks [] := by kernel_rfl
set_option maxRecDepth 100000
theorem card_stand : ([22, 3].all fun u => !Tryz.prog.wantsStandIn u) = true := by kernel_rfl
set_option maxRecDepth 100000
theorem no_goes : Tryz.prog.funcs.any Func.goes = false := by kernel_rfl
theorem goes_none {P : Program} (h : P.funcs.any Func.goes = false) (f : FuncId) : P.goes f = false := by
 have hg : ∀ g : FuncId, (P.funcs[g]?).any Func.goes = false := by
  intro g
  cases e : P.funcs[g]? with
  | none => rfl
  | some fn =>
    obtain ⟨hlt, rfl⟩ := Array.getElem?_eq_some_iff.1 e
    have := Array.any_eq_false.1 h g hlt
    simpa using this
 unfold Program.goes
 rw [h, Bool.and_false, Bool.or_false]
 simp [hg]
theorem goes_at {P : Program} (h : P.funcs.any Func.goes = false) (n : String) : (P.goesFrom n || false) = false := by
 rw [Bool.or_false]
 unfold Program.goesFrom
 cases P.funcNamed n with
 | none => rfl
 | some f => exact goes_none h f
theorem card_goes : false = Rows.topCodecRow.goesBy Tryz.prog := (goes_at no_goes Rows.topCodecRow.func).symm
end Go.Proofs.YtikpobembcgbfaaGreatDoor
