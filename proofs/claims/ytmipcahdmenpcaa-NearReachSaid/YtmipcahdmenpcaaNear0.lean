/- Walks of NearReach: which columns are asked for, of all from one place to another one. -/
import Derived.Test.YtmipcahdmenpcaaScal
namespace Go.Proofs.Ytmipcahdmenpcaa
open Go.RowKit

theorem near_in_any (x : Int) (w : World) :
    Calls Try.prog 57 #[.int .i64 x] w fun e w' => e = .returned (.bool (inB x 70368744177664)) ∧ w = w' := by
  by_cases h1 : -70368744177664 ≤ x
  · by_cases h2 : x ≤ 70368744177664
    · go_enter Try.func57, Try.ntmps57
      go_wp2
      go_ret
      exact ⟨ret_bool (inB_t h1 h2).symm, rfl⟩
    · go_enter Try.func57, Try.ntmps57
      go_wp2
      go_ret
      exact ⟨ret_bool (inB_f (by omega)).symm, rfl⟩
  · go_enter Try.func57, Try.ntmps57
    go_wp2
    go_ret
    exact ⟨ret_bool (inB_f (by omega)).symm, rfl⟩

theorem near_index_any (x : Int) (h1 : -70368744177664 ≤ x) (h2 : x ≤ 70368744177664) (w : World) :
    Calls Try.prog 58 #[.int .i64 x] w fun e w' => e = .returned (.int .i64 ((x + 32768) / 65536)) ∧ w = w' := by
  go_enter Try.func58, Try.ntmps58
  go_wp2
  go_ret
  exact ⟨ret_int (by omega), rfl⟩

theorem nearest_any (x : Int) (h1 : -70368744177664 ≤ x) (h2 : x ≤ 70368744177664) (w : World) :
    Calls Try.prog 18 #[.int .i64 x] w fun e w' => e = .returned (.int .i64 ((x + 32768) / 65536)) ∧ w = w' := by
  go_enter Try.func18, Try.ntmps18
  go_wp2_with (go_at_call 59; refine (down_any _ _ ⟨by omega, by omega⟩ (by omega) (by omega) _).mono ?_; rintro e w' ⟨rfl, rfl⟩)
  go_ret
  exact ⟨rfl, rfl⟩

theorem near_alive (w : World) :
    Calls Try.prog 17 #[] w fun e w' => e = .returned (.bool true) ∧ w = w' := by
  go_enter Try.func17, Try.ntmps17
  go_wp2
  go_ret
  exact ⟨rfl, rfl⟩

/-- NearReach is true. -/
theorem nearReach_any (lo hi : Int) (hlo : I64 lo) (hhi : I64 hi) (w : World) :
    Calls Try.prog 3 #[.int .i64 lo, .int .i64 hi] w fun e w' => e = .returned (.bool true) ∧ w = w' := by
  obtain ⟨a1, a2⟩ := hlo
  obtain ⟨b1, b2⟩ := hhi
  by_cases h1 : hi < lo
  · go_enter Try.func3, Try.ntmps3
    go_wp2
    go_ret
    exact ⟨rfl, rfl⟩
  by_cases h2 : -70368744177664 ≤ lo
  · by_cases h3 : lo ≤ 70368744177664
    · by_cases h4 : hi ≤ 70368744177664
      · have h5 : -70368744177664 ≤ hi := by omega
        go_enter Try.func3, Try.ntmps3
        go_wp2_with (first | (go_at_call 18; refine (nearest_any _ (by omega) (by omega) _).mono ?_; rintro e w' ⟨rfl, rfl⟩) | (go_at_call 58; refine (near_index_any _ (by omega) (by omega) _).mono ?_; rintro e w' ⟨rfl, rfl⟩) | (go_at_call 17; refine (near_alive _).mono ?_; rintro e w' ⟨rfl, rfl⟩) | go_in)
        go_ret
        exact ⟨rfl, rfl⟩
      · have h5 : -70368744177664 ≤ hi := by omega
        go_enter Try.func3, Try.ntmps3
        go_wp2
        go_ret
        exact ⟨rfl, rfl⟩
    · go_enter Try.func3, Try.ntmps3
      go_wp2
      go_ret
      exact ⟨rfl, rfl⟩
  · go_enter Try.func3, Try.ntmps3
    go_wp2
    go_ret
    exact ⟨rfl, rfl⟩

end Go.Proofs.Ytmipcahdmenpcaa
