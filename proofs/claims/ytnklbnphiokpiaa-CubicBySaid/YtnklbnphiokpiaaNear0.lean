/- Walks of NearReach: which columns are asked for, of all from one place to another one. -/
import Derived.Test.YtnklbnphiokpiaaScal
set_option linter.unusedVariables false
namespace Go.Proofs.Ytnklbnphiokpiaa
open Go.RowKit

theorem near_in_any (x : Int) (w : World) :
    Calls Try.prog 69 #[.int .i64 x] w fun e w' => e = .returned (.bool (inB x 70368744177664)) ∧ w = w' := by
  by_cases h1 : -70368744177664 ≤ x
  · by_cases h2 : x ≤ 70368744177664
    · go_enter Try.func69, Try.ntmps69
      go_wp2
      go_ret
      exact ⟨ret_bool (inB_t h1 h2).symm, rfl⟩
    · go_enter Try.func69, Try.ntmps69
      go_wp2
      go_ret
      exact ⟨ret_bool (inB_f (by omega)).symm, rfl⟩
  · go_enter Try.func69, Try.ntmps69
    go_wp2
    go_ret
    exact ⟨ret_bool (inB_f (by omega)).symm, rfl⟩

theorem near_index_any (x : Int) (h1 : -70368744177664 ≤ x) (h2 : x ≤ 70368744177664) (w : World) :
    Calls Try.prog 70 #[.int .i64 x] w fun e w' => e = .returned (.int .i64 ((x + 32768) / 65536)) ∧ w = w' := by
  go_enter Try.func70, Try.ntmps70
  go_wp2
  go_ret
  exact ⟨ret_int (by omega), rfl⟩

theorem nearest_any (x : Int) (h1 : -70368744177664 ≤ x) (h2 : x ≤ 70368744177664) (w : World) :
    Calls Try.prog 30 #[.int .i64 x] w fun e w' => e = .returned (.int .i64 ((x + 32768) / 65536)) ∧ w = w' := by
  go_enter Try.func30, Try.ntmps30
  go_wp2_with (go_at_call 68; refine (down_any _ _ ⟨by omega, by omega⟩ (by omega) (by omega) _).mono ?_; rintro e w' ⟨rfl, rfl⟩)
  go_ret
  exact ⟨rfl, rfl⟩

theorem near_alive (w : World) :
    Calls Try.prog 29 #[] w fun e w' => e = .returned (.bool true) ∧ w = w' := by
  go_enter Try.func29, Try.ntmps29
  go_wp2
  go_ret
  exact ⟨rfl, rfl⟩

end Go.Proofs.Ytnklbnphiokpiaa
