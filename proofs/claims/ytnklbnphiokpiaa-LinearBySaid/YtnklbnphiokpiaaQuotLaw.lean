/- Plain laws of quotients rounded down, at every sign. -/
import Derived.Test.YtnklbnphiokpiaaBox
set_option linter.unusedVariables false
namespace Go.Proofs.Ytnklbnphiokpiaa
open Go.RowKit

theorem fdiv_uniq {a b q r : Int} (hb : b ≠ 0) (h : a = b * q + r) (hr : 0 ≤ r ∧ r < b ∨ b < r ∧ r ≤ 0) : a.fdiv b = q ∧ a.fmod b = r := by
  have h0 : r.fdiv b = 0 := by
    rcases hr with ⟨h1, h2⟩ | ⟨h1, h2⟩
    · rw [Int.fdiv_eq_ediv_of_nonneg _ (by omega)]; exact Int.ediv_eq_zero_of_lt h1 h2
    · rw [← Int.neg_fdiv_neg, Int.fdiv_eq_ediv_of_nonneg _ (by omega)]; exact Int.ediv_eq_zero_of_lt (by omega) (by omega)
  have e : a.fdiv b = q := by
    rw [h, Int.add_comm, Int.add_mul_fdiv_left _ _ hb, h0]; omega
  exact ⟨e, by rw [Int.fmod_def, e]; omega⟩
theorem tmod_bounds {a b : Int} (hb : b ≠ 0) : (0 ≤ a → 0 ≤ a.tmod b) ∧ (a ≤ 0 → a.tmod b ≤ 0) ∧ (0 < b → -b < a.tmod b ∧ a.tmod b < b) ∧ (b < 0 → b < a.tmod b ∧ a.tmod b < -b) := by
  have h1 : (a.tmod b).natAbs < b.natAbs := by rw [Int.natAbs_tmod]; exact Nat.mod_lt _ (by omega)
  refine ⟨fun h => Int.tmod_nonneg b h, fun h => ?_, fun h => by omega, fun h => by omega⟩
  have := Int.tmod_nonneg b (show 0 ≤ -a by omega)
  rw [Int.neg_tmod] at this; omega
/-- What Go's own quotient lacks. -/
theorem fdiv_exact {a b : Int} (hb : b ≠ 0) (h : a.tmod b = 0) : a.tdiv b = a.fdiv b ∧ a.fmod b = 0 := by
  have e := Int.mul_tdiv_add_tmod a b
  have := fdiv_uniq (a := a) (b := b) (q := a.tdiv b) (r := 0) hb (by omega) (by omega)
  exact ⟨this.1.symm, this.2⟩
theorem fdiv_like {a b : Int} (hb : b ≠ 0) (h : a.tmod b < 0 ↔ b < 0) : a.tdiv b = a.fdiv b ∧ a.tmod b = a.fmod b := by
  have e := Int.mul_tdiv_add_tmod a b
  obtain ⟨t1, t2, t3, t4⟩ := tmod_bounds (a := a) hb
  have := fdiv_uniq (a := a) (b := b) (q := a.tdiv b) (r := a.tmod b) hb (by omega) (by omega)
  exact ⟨this.1.symm, this.2.symm⟩
theorem fdiv_unlike {a b : Int} (hb : b ≠ 0) (h0 : a.tmod b ≠ 0) (h : ¬ (a.tmod b < 0 ↔ b < 0)) : a.tdiv b - 1 = a.fdiv b ∧ a.tmod b + b = a.fmod b := by
  have e := Int.mul_tdiv_add_tmod a b
  obtain ⟨t1, t2, t3, t4⟩ := tmod_bounds (a := a) hb
  have := fdiv_uniq (a := a) (b := b) (q := a.tdiv b - 1) (r := a.tmod b + b) hb (by rw [Int.mul_sub]; omega) (by omega)
  exact ⟨this.1.symm, this.2.symm⟩
theorem tmod_sign {a b : Int} (hb : b ≠ 0) (h0 : a.tmod b ≠ 0) : a.tmod b < 0 ↔ a < 0 := by
  obtain ⟨t1, t2, t3, t4⟩ := tmod_bounds (a := a) hb
  omega
theorem fmod_bounds {a b : Int} (hb : b ≠ 0) : 0 ≤ a.fmod b ∧ a.fmod b < b ∨ b < a.fmod b ∧ a.fmod b ≤ 0 := by
  by_cases h0 : a.tmod b = 0
  · rw [(fdiv_exact hb h0).2]; omega
  · obtain ⟨t1, t2, t3, t4⟩ := tmod_bounds (a := a) hb
    by_cases h : a.tmod b < 0 ↔ b < 0
    · rw [← (fdiv_like hb h).2]; omega
    · rw [← (fdiv_unlike hb h0 h).2]; omega
theorem fdiv_spec (a b : Int) : a = b * a.fdiv b + a.fmod b := by rw [Int.fmod_def]; omega
/-- A number as an int64, told or not. -/
def i64R (z : Int) : Bool := decide (-9223372036854775808 ≤ z ∧ z ≤ 9223372036854775807)
theorem i64R_iff {z : Int} : i64R z = true ↔ I64 z := by unfold i64R I64; simp
/-- A test, both ways, as the walk reads it. -/
theorem dec_cases (p : Prop) [Decidable p] : (p ∧ decide p = true) ∨ (¬ p ∧ decide p = false) := by
  by_cases h : p
  · exact .inl ⟨h, decide_eq_true h⟩
  · exact .inr ⟨h, decide_eq_false h⟩

end Go.Proofs.Ytnklbnphiokpiaa
