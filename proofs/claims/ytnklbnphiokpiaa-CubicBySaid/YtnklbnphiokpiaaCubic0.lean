/- Walks of CubicReach: which columns a curve asks for, of all from one place to another one. -/
import Derived.Test.YtnklbnphiokpiaaSplit
set_option linter.unusedVariables false
namespace Go.Proofs.Ytnklbnphiokpiaa
open Go.RowKit

theorem right_any (u v : Int) (w : World) :
    Calls Try.prog 28 #[.int .i64 u, .int .i64 v] w fun e w' => e = .returned (.bool (inB u 70368744177664 && inB v 70368744177664)) ∧ w = w' := by
  cases h : inB u 70368744177664
  · go_enter Try.func28, Try.ntmps28
    go_wp2_with (go_at_call 71; refine (in_any _ _ (by omega) (by omega) _).mono ?_; rintro e w' ⟨rfl, rfl⟩)
    go_ret
    exact ⟨rfl, rfl⟩
  · go_enter Try.func28, Try.ntmps28
    go_wp2_with (go_at_call 71; refine (in_any _ _ (by omega) (by omega) _).mono ?_; rintro e w' ⟨rfl, rfl⟩)
    go_ret
    exact ⟨rfl, rfl⟩

theorem cubic_alive (w : World) :
    Calls Try.prog 44 #[] w fun e w' => e = .returned (.bool true) ∧ w = w' := by
  go_enter Try.func44, Try.ntmps44
  go_wp2
  go_ret
  exact ⟨rfl, rfl⟩

end Go.Proofs.Ytnklbnphiokpiaa
