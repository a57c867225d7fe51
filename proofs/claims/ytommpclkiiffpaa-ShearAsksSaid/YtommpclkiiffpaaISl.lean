/- Rows of int64 that came in, or lie in an array of the call's own; slices.IndexFunc and ContainsFunc over them. -/
import Derived.Test.YtommpclkiiffpaaBase
set_option linter.unusedVariables false
namespace Go.Proofs.Ytommpclkiiffpaa
open Go.RowKit

/-- A slice that reads as the numbers zs. -/
def IS (w : World) (v : Value) (zs : List Int) : Prop := ∃ A cap, v = .slice A zs.length cap ∧ zs.length ≤ cap ∧ (cap : Int) ≤ 9223372036854775807 ∧ (∀ z ∈ zs, I64 z) ∧
  (zs ≠ [] → ∃ b off, A = some ⟨b, off, none⟩ ∧ b < w.heap.size ∧ ∀ i, i < zs.length → w.cell? ⟨b, off + i, none⟩ = some (.int .i64 (zs.getD i 0)))
theorem IS.below {w w1 : World} {v : Value} {zs : List Int} (h : IS w v zs) (hb : Below w.heap.size w w1) : IS w1 v zs := by
  obtain ⟨A, cap, rfl, h1, h2, h3, h4⟩ := h
  refine ⟨A, cap, rfl, h1, h2, h3, fun hz => ?_⟩
  obtain ⟨b, off, rfl, hlt, hc⟩ := h4 hz
  exact ⟨b, off, rfl, Nat.lt_of_lt_of_le hlt hb.size, fun i hi => by rw [hb.cell (p := ⟨b, off + i, none⟩) hlt]; exact hc i hi⟩
theorem IS.form {w : World} {v : Value} {zs : List Int} (h : IS w v zs) : ∃ A cap, v = .slice A zs.length cap := by
  obtain ⟨A, cap, rfl, -⟩ := h; exact ⟨_, _, rfl⟩
theorem IS.len {w : World} {v : Value} {zs : List Int} (h : IS w v zs) : (zs.length : Int) ≤ 9223372036854775807 := by
  obtain ⟨A, cap, rfl, h1, h2, -⟩ := h; omega
theorem IS.some {w : World} {v : Value} {zs : List Int} (h : IS w v zs) (hz : zs ≠ []) : ∃ b off cap, v = .slice (.some ⟨b, off, none⟩) zs.length cap ∧ zs.length ≤ cap ∧ (cap : Int) ≤ 9223372036854775807 ∧ b < w.heap.size ∧ ∀ i, i < zs.length → w.cell? ⟨b, off + i, none⟩ = .some (.int .i64 (zs.getD i 0)) := by
  obtain ⟨A, cap, rfl, h1, h2, h3, h4⟩ := h
  obtain ⟨b, off, rfl, hlt, hc⟩ := h4 hz
  exact ⟨b, off, cap, rfl, h1, h2, hlt, hc⟩

def GiveIdx (a : Bool) (w : World) (e : Ending) (w' : World) : Prop := ∃ r : Int, e = .returned (.int .i64 r) ∧ w = w' ∧ decide (r ≥ 0) = a
theorem any_step {p : Int → Bool} {zs : List Int} {k : Nat} (hk : k < zs.length) : (zs.take (k + 1)).any p = ((zs.take k).any p || p (zs.getD k 0)) := by
  rw [List.take_add_one, List.any_append]
  simp [List.getD, List.getElem?_eq_getElem hk]


end Go.Proofs.Ytommpclkiiffpaa
