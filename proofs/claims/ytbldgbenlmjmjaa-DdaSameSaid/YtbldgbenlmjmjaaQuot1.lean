/- Contracts of quot.Floor and quot.Mod at every divisor. -/
import Derived.Test.YtbldgbenlmjmjaaQuotLaw
import Derived.Test.YtbldgbenlmjmjaaWFits
set_option linter.unusedVariables false
namespace Go.Proofs.Ytbldgbenlmjmjaa
open Go.RowKit

/-- What is told of a quotient: itself where it has room and there is one. -/
def TQ (z : Int) (has : Bool) (x : Int) (is : Bool) : Prop := (has = true ∧ I64 z ∧ is = true ∧ x = z) ∨ (¬ (has = true ∧ I64 z) ∧ is = false ∧ x = 0)
def GiveQ (z : Int) (has : Bool) (w : World) (e : Ending) (w' : World) : Prop := ∃ x is, e = .returned (.tuple #[.int .i64 x, .bool is]) ∧ w = w' ∧ TQ z has x is

theorem fdiv_near {a b : Int} (h0 : b ≠ 0) : a.fdiv b = a.tdiv b ∨ a.fdiv b = a.tdiv b - 1 := by
  by_cases h : a.tmod b = 0
  · exact .inl (fdiv_exact h0 h).1.symm
  · by_cases h' : a.tmod b < 0 ↔ b < 0
    · exact .inl (fdiv_like h0 h').1.symm
    · exact .inr (fdiv_unlike h0 h h').1.symm
theorem fdiv_room {a b : Int} (ha : I64 a) (hb : I64 b) (h0 : b ≠ 0) (h : ¬ (a = -9223372036854775808 ∧ b = -1)) : I64 (a.fdiv b) := by
  by_cases h1 : b = 1
  · subst h1; rw [Int.fdiv_one]; exact ha
  · by_cases h2 : b = -1
    · subst h2
      rw [(fdiv_uniq (a := a) (b := -1) (q := -a) (r := 0) (by omega) (by omega) (by omega)).1]
      unfold I64 at *; omega
    · have e : (a.tdiv b).natAbs = a.natAbs / b.natAbs := Int.natAbs_tdiv a b
      have l : a.natAbs / b.natAbs ≤ a.natAbs / 2 := Nat.div_le_div_left (by omega) (by omega)
      have k := fdiv_near (a := a) h0
      unfold I64 at *
      omega

theorem tdiv_room {a b : Int} (ha : I64 a) (hb : I64 b) (h0 : b ≠ 0) (h : ¬ (a = -9223372036854775808 ∧ b = -1)) : I64 (a.tdiv b) := by
  by_cases h1 : b = 1
  · subst h1; rw [Int.tdiv_one]; exact ha
  · by_cases h2 : b = -1
    · subst h2
      rw [Int.tdiv_neg, Int.tdiv_one]
      unfold I64 at *; omega
    · have e : (a.tdiv b).natAbs = a.natAbs / b.natAbs := Int.natAbs_tdiv a b
      have l : a.natAbs / b.natAbs ≤ a.natAbs / 2 := Nat.div_le_div_left (by omega) (by omega)
      unfold I64 at *
      omega
theorem wrap64_room {x : Int} (h : I64 x) : wrap64 x = x := IntWalk.wrap64_in _ ⟨h.1, h.2⟩

end Go.Proofs.Ytbldgbenlmjmjaa
