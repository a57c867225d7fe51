/- Fractions that lie side by side in a row of one's own; contract of slices.swapRangeCmpFunc. -/
import Derived.Test.YthdbchghhpoadaaSo1
import Derived.Test.YthdbchghhpoadaaJD
import Derived.Test.YthdbchghhpoadaaRat0
import Derived.RegionTactic
import Derived.ChangeAlike
set_option linter.unusedVariables false
set_option linter.unusedSimpArgs false
namespace Go.Proofs.Ythdbchghhpoadaa
open Go.RowKit
abbrev PRT : TypeId := 63
abbrev E3 := (Int × Int) × Nat
def SR (w : World) (b n : Nat) (D : Nat → E3) : Prop := ∃ cs, AtB w b cs PRT ∧ ∀ i, i < n → cs[i * 2]? = some (.int .i64 (D i).1.1) ∧ cs[i * 2 + 1]? = some (.int .i64 (D i).1.2)
theorem SR.below {w w1 : World} {b n : Nat} {D : Nat → E3} (h : SR w b n D) (hb : Below w.heap.size w w1) : SR w1 b n D := by
  obtain ⟨cs, h1, h2⟩ := h
  exact ⟨cs, h1.keep hb, h2⟩
theorem SR.lt {w : World} {b n : Nat} {D : Nat → E3} (h : SR w b n D) : b < w.heap.size := by
  obtain ⟨cs, h1, -⟩ := h; exact h1.lt
theorem SR.cells {w : World} {b n : Nat} {D : Nat → E3} (h : SR w b n D) {i : Nat} (hi : i < n) : w.cell? ⟨b, i * 2, none⟩ = some (.int .i64 (D i).1.1) ∧ w.cell? ⟨b, i * 2 + 1, none⟩ = some (.int .i64 (D i).1.2) ∧ w.frozen? ⟨b, i * 2, none⟩ = false ∧ w.frozen? ⟨b, i * 2 + 1, none⟩ = false := by
  obtain ⟨cs, h1, h2⟩ := h
  obtain ⟨k1, k2⟩ := h2 i hi
  exact ⟨h1.cell _ k1, h1.cell _ k2, h1.fr _, h1.fr _⟩
theorem SR.swp {w : World} {b n : Nat} {D : Nat → E3} (h : SR w b n D) {i j : Nat} (hi : i < n) (hj : j < n) :
    SR ((((w.setCell ⟨b, i * 2, none⟩ (.int .i64 (D j).1.1)).setCell ⟨b, i * 2 + 1, none⟩ (.int .i64 (D j).1.2)).setCell ⟨b, j * 2, none⟩ (.int .i64 (D i).1.1)).setCell ⟨b, j * 2 + 1, none⟩ (.int .i64 (D i).1.2)) b n (swp D i j) := by
  obtain ⟨cs, h1, h2⟩ := h
  have zi : i * 2 + 1 < cs.size := by
    obtain ⟨p, _⟩ := Array.getElem?_eq_some_iff.1 (h2 i hi).2; exact p
  have zj : j * 2 + 1 < cs.size := by
    obtain ⟨p, _⟩ := Array.getElem?_eq_some_iff.1 (h2 j hj).2; exact p
  refine ⟨_, (((h1.set_at _ _).set_at _ _).set_at _ _).set_at _ _, fun k hk => ?_⟩
  obtain ⟨k1, k2⟩ := h2 k hk
  simp only [Array.getElem?_setIfInBounds, Array.size_setIfInBounds]
  unfold Proofs.Ythdbchghhpoadaa.swp
  by_cases e1 : k = i
  · have q1 : (if k = i then D j else if k = j then D i else D k) = D j := if_pos e1
    rw [q1]
    by_cases e2 : k = j
    · have e3 : i = j := by omega
      subst e3; subst e2
      constructor
      · rw [if_neg (by omega), if_pos rfl, if_pos (by omega)]
      · rw [if_pos rfl, if_pos (by omega)]
    · subst e1
      constructor
      · rw [if_neg (by omega), if_neg (by omega), if_neg (by omega), if_pos rfl, if_pos (by omega)]
      · rw [if_neg (by omega), if_neg (by omega), if_pos rfl, if_pos (by omega)]
  · by_cases e2 : k = j
    · have q1 : (if k = i then D j else if k = j then D i else D k) = D i := by rw [if_neg e1, if_pos e2]
      rw [q1]; subst e2
      constructor
      · rw [if_neg (by omega), if_pos rfl, if_pos (by omega)]
      · rw [if_pos rfl, if_pos (by omega)]
    · have q1 : (if k = i then D j else if k = j then D i else D k) = D k := by rw [if_neg e1, if_neg e2]
      rw [q1]
      constructor
      · rw [if_neg (by omega), if_neg (by omega), if_neg (by omega), if_neg (by omega)]; exact k1
      · rw [if_neg (by omega), if_neg (by omega), if_neg (by omega), if_neg (by omega)]; exact k2
end Go.Proofs.Ythdbchghhpoadaa
