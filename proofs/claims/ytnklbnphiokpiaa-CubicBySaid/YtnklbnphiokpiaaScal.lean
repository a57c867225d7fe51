/- Contracts of small functions of numbers: whether a number is within bounds, a small quotient rounded down, a place's nearest pixel. -/
import Derived.Test.YtnklbnphiokpiaaJA
set_option linter.unusedVariables false
namespace Go.Proofs.Ytnklbnphiokpiaa
open Go.RowKit

def inB (x m : Int) : Bool := decide (-m ≤ x ∧ x ≤ m)
theorem inB_iff {x m : Int} : inB x m = true ↔ -m ≤ x ∧ x ≤ m := by simp [inB]
theorem inB_t {x m : Int} (h : -m ≤ x) (h' : x ≤ m) : inB x m = true := inB_iff.2 ⟨h, h'⟩
theorem inB_f {x m : Int} (h : ¬ (-m ≤ x ∧ x ≤ m)) : inB x m = false := by simp only [inB, h, decide_false]

theorem in_any (x m : Int) (hm : 0 ≤ m) (hm' : m ≤ 9223372036854775807) (w : World) :
    Calls Try.prog 71 #[.int .i64 x, .int .i64 m] w fun e w' => e = .returned (.bool (inB x m)) ∧ w = w' := by
  by_cases h1 : -m ≤ x
  · by_cases h2 : x ≤ m
    · go_enter Try.func71, Try.ntmps71
      go_wp2
      go_ret
      exact ⟨ret_bool (inB_t h1 h2).symm, rfl⟩
    · go_enter Try.func71, Try.ntmps71
      go_wp2
      go_ret
      exact ⟨ret_bool (inB_f (by omega)).symm, rfl⟩
  · go_enter Try.func71, Try.ntmps71
    go_wp2
    go_ret
    exact ⟨ret_bool (inB_f (by omega)).symm, rfl⟩

theorem down_any (a b : Int) (ha : I64 a) (hb : 0 < b) (hb' : b ≤ 9223372036854775807) (w : World) :
    Calls Try.prog 68 #[.int .i64 a, .int .i64 b] w fun e w' => e = .returned (.int .i64 (a / b)) ∧ w = w' := by
  have HB := Lib.hid (ediv_bounds ha hb)
  obtain ⟨h1, h2⟩ := ha
  go_enter Try.func68, Try.ntmps68
  go_wp2
  · have h : a.tmod b = 0 := by assumption
    go_ret; exact ⟨ret_int (tdiv_exact h), rfl⟩
  · have h : ¬ a.tmod b = 0 := by assumption
    have h' : (a.tmod b != 0) = true ∧ (!decide (a < 0) == decide (b < 0)) = true := by assumption
    have h0 : a < 0 := by
      rcases Int.lt_or_le a 0 with h0 | h0
      · exact h0
      · have := h'.2; simp [show ¬ a < 0 by omega, show ¬ b < 0 by omega] at this
    have e : a.tdiv b - 1 = a / b := by rw [tdiv_neg_step h0 hb h]; omega
    go_ret; exact ⟨ret_int (by rw [e]; exact IntWalk.wrap64_in _ ⟨HB.out.1, HB.out.2⟩), rfl⟩
  · have h : ¬ a.tmod b = 0 := by assumption
    have h' : (a.tmod b != 0) = false ∨ (!decide (a < 0) == decide (b < 0)) = false := by assumption
    have h0 : 0 ≤ a := by
      rcases Int.lt_or_le a 0 with h0 | h0
      · rcases h' with h' | h'
        · simp at h'; exact absurd h' h
        · simp [h0, show ¬ b < 0 by omega] at h'
      · exact h0
    go_ret; exact ⟨ret_int (tdiv_pos h0), rfl⟩

end Go.Proofs.Ytnklbnphiokpiaa
