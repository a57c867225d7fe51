/- Walks of CubicReach: which columns a curve asks for, of all from one place to another one. -/
import Derived.Test.YtmipcahdmenpcaaSplit
namespace Go.Proofs.Ytmipcahdmenpcaa
open Go.RowKit

theorem right_any (u v : Int) (w : World) :
    Calls Try.prog 16 #[.int .i64 u, .int .i64 v] w fun e w' => e = .returned (.bool (inB u 70368744177664 && inB v 70368744177664)) ∧ w = w' := by
  cases h : inB u 70368744177664
  · go_enter Try.func16, Try.ntmps16
    go_wp2_with (go_at_call 40; refine (in_any _ _ (by omega) (by omega) _).mono ?_; rintro e w' ⟨rfl, rfl⟩)
    go_ret
    exact ⟨rfl, rfl⟩
  · go_enter Try.func16, Try.ntmps16
    go_wp2_with (go_at_call 40; refine (in_any _ _ (by omega) (by omega) _).mono ?_; rintro e w' ⟨rfl, rfl⟩)
    go_ret
    exact ⟨rfl, rfl⟩

theorem cubic_alive (w : World) :
    Calls Try.prog 20 #[] w fun e w' => e = .returned (.bool true) ∧ w = w' := by
  go_enter Try.func20, Try.ntmps20
  go_wp2
  go_ret
  exact ⟨rfl, rfl⟩

theorem cubicReach_any (lo hi : Int) (hlo : I64 lo) (hhi : I64 hi) (w : World) :
    Calls Try.prog 4 #[.int .i64 lo, .int .i64 hi] w fun e w' => e = .returned (.bool true) ∧ w = w' := by
  have hl := hlo
  have hh := hhi
  obtain ⟨a1, a2⟩ := hlo
  obtain ⟨b1, b2⟩ := hhi
  by_cases h1 : hi < lo
  · go_enter Try.func4, Try.ntmps4
    go_wp2
    go_ret
    exact ⟨rfl, rfl⟩
  by_cases h2 : -70368744177664 ≤ lo
  · by_cases h3 : lo ≤ 70368744177664
    · by_cases h4 : hi ≤ 70368744177664
      · have h5 : -70368744177664 ≤ hi := by omega
        go_enter Try.func4, Try.ntmps4
        go_wp2_with (first | (go_at_call 21; refine (rsplit_any _ ⟨by omega, by omega⟩ _).mono ?_; rintro e w' ⟨rfl, rfl⟩) | (go_at_call 61; refine (wsplit_any _ ⟨by omega, by omega⟩ _).mono ?_; rintro e w' ⟨rfl, rfl⟩) | (go_at_call 20; refine (cubic_alive _).mono ?_; rintro e w' ⟨rfl, rfl⟩) | go_in)
        go_ret
        exact ⟨rfl, rfl⟩
      · have h5 : -70368744177664 ≤ hi := by omega
        go_enter Try.func4, Try.ntmps4
        go_wp2
        go_ret
        exact ⟨rfl, rfl⟩
    · go_enter Try.func4, Try.ntmps4
      go_wp2
      go_ret
      exact ⟨rfl, rfl⟩
  · go_enter Try.func4, Try.ntmps4
    go_wp2
    go_ret
    exact ⟨rfl, rfl⟩

end Go.Proofs.Ytmipcahdmenpcaa
