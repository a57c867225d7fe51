/- Contracts of quot.Half, Near, Cut, beyond, Place. -/
import Derived.Test.YtbldgbenlmjmjaaQuot3
import Derived.Test.YtbldgbenlmjmjaaWShift
set_option linter.unusedVariables false
namespace Go.Proofs.Ytbldgbenlmjmjaa
open Go.RowKit

def nearI (z b : Int) : Int := (2 * z + b).fdiv (2 * b)
theorem near_law {z b : Int} (h0 : b ≠ 0) : ((z.fmod b).natAbs < (b.natAbs : Int) - (z.fmod b).natAbs → nearI z b = z.fdiv b) ∧ (¬ (z.fmod b).natAbs < (b.natAbs : Int) - (z.fmod b).natAbs → nearI z b = z.fdiv b + 1) := by
  have e := fdiv_spec z b
  have hr := fmod_bounds (a := z) h0
  generalize z.fdiv b = q at *
  generalize z.fmod b = r at *
  unfold nearI
  have k : 2 * z + b = 2 * b * q + (2 * r + b) := by rw [e, Int.mul_assoc]; omega
  constructor
  · intro h
    exact (fdiv_uniq (q := q) (r := 2 * r + b) (by omega) k (by omega)).1
  · intro h
    exact (fdiv_uniq (q := q + 1) (r := 2 * r - b) (by omega) (by rw [k, Int.mul_add]; omega) (by omega)).1
theorem fdiv_abs_le {z b : Int} (h0 : b ≠ 0) : -(z.natAbs : Int) ≤ z.fdiv b ∧ z.fdiv b ≤ z.natAbs := by
  obtain ⟨e, h1, h2, h3⟩ := sizes_div (n := (z.natAbs : Int)) (y := (b.natAbs : Int)) (by omega) (by omega)
  have l := Int.ediv_le_self (b.natAbs : Int) (show 0 ≤ (z.natAbs : Int) by omega)
  by_cases hs : z < 0 ↔ b < 0
  · rw [(quot_like h0 hs).1]; omega
  · rcases Int.lt_or_eq_of_le h1 with hr | hr
    · rw [(quot_unlike1 h0 hs hr).1]
      have hy : 2 ≤ (b.natAbs : Int) := by omega
      have : 2 * ((z.natAbs : Int) / b.natAbs) ≤ b.natAbs * ((z.natAbs : Int) / b.natAbs) := Int.mul_le_mul_of_nonneg_right hy h3
      omega
    · rw [(quot_unlike0 h0 hs hr.symm).1]; omega
/-- Where the quotient has no room, the nearer one has none. -/
theorem near_room {z b : Int} (hz : I128 z) (h0 : b ≠ 0) (h : ¬ I128 (z.fdiv b)) : ¬ I128 (nearI z b) := by
  have l := fdiv_abs_le (z := z) h0
  have k := near_law (z := z) h0
  unfold I128 at *
  by_cases hc : (z.fmod b).natAbs < (b.natAbs : Int) - (z.fmod b).natAbs
  · rw [k.1 hc]; omega
  · rw [k.2 hc]; omega

/-- What is told of a quotient, rounded to the nearer one. -/
def HB (z b hi lo : Int) (ok : Bool) : Prop := (b ≠ 0 ∧ WB (nearI z b) hi lo ok) ∨ (b = 0 ∧ ok = false ∧ hi = 0 ∧ lo = 0)
def GiveHB (z b : Int) (w : World) (e : Ending) (w' : World) : Prop := ∃ hi lo ok, e = .returned (.tuple #[wv hi lo, .bool ok]) ∧ Below w.heap.size w w' ∧ HB z b hi lo ok

theorem half_left {b r : Int} (hb : I64 b) (hr : 0 ≤ r ∧ r < b ∨ b < r ∧ r ≤ 0) :
    (b < 0 → IntKind.u64.wrap (-IntKind.u64.wrap r) = r.natAbs ∧ IntKind.u64.wrap (-IntKind.u64.wrap b) = b.natAbs) ∧ (¬ b < 0 → IntKind.u64.wrap r = r.natAbs ∧ IntKind.u64.wrap b = b.natAbs) ∧
    IntKind.u64.wrap (b.natAbs - (r.natAbs : Int)) = b.natAbs - (r.natAbs : Int) := by
  unfold I64 at hb
  refine ⟨fun h => ?_, fun h => ?_, ?_⟩
  · rw [IntKind.wrap_u64, IntKind.wrap_u64, IntKind.wrap_u64, IntKind.wrap_u64]; omega
  · rw [IntKind.wrap_u64, IntKind.wrap_u64]; omega
  · rw [IntKind.wrap_u64]; omega

end Go.Proofs.Ytbldgbenlmjmjaa
