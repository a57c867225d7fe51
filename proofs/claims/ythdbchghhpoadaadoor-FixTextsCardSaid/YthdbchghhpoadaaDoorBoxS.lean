/- Blocks that are written whole, cell by cell; blocks of many cells. -/
import Derived.Test.YthdbchghhpoadaaDoorJC
set_option linter.unusedVariables false
namespace Go.Proofs.YthdbchghhpoadaaDoor
open Go.RowKit
/-- Values that are stored side by side, from a cell on. -/
def setFrom (w : World) (g : Nat) (k : Nat) : List Value → World
  | [] => w
  | v :: vs => setFrom (w.setCell ⟨g, k, none⟩ v) g (k + 1) vs
theorem AtB.set_one {w : World} {g : Nat} {cs : Array Value} {T : TypeId} (h : AtB w g cs T) (o : Nat) (u : Value) : AtB (w.setCell ⟨g, o, none⟩ u) g (cs.setIfInBounds o u) T := heap_set h.heap u (o := o)
theorem AtB.setFrom_go {g : Nat} {T : TypeId} : ∀ (vs pre rest : List Value) (w : World), rest.length = vs.length → AtB w g (pre ++ rest).toArray T → AtB (setFrom w g pre.length vs) g (pre ++ vs).toArray T
  | [], pre, rest, w, h, k => by
    have : rest = [] := List.eq_nil_of_length_eq_zero h
    subst this; exact k
  | v :: vs, pre, [], w, h, k => by simp at h
  | v :: vs, pre, r :: rest, w, h, k => by
    have k1 := k.set_one pre.length v
    rw [List.setIfInBounds_toArray] at k1
    have e : (pre ++ r :: rest).set pre.length v = (pre ++ [v]) ++ rest := by simp
    rw [e] at k1
    have k2 := AtB.setFrom_go vs (pre ++ [v]) rest _ (by simpa using h) k1
    rw [List.length_append, List.length_singleton] at k2
    simpa [setFrom] using k2
theorem AtB.setAll {w : World} {g : Nat} {T : TypeId} {cs : List Value} (h : AtB w g cs.toArray T) (vs : List Value) (hl : cs.length = vs.length) : AtB (setFrom w g 0 vs) g vs.toArray T := AtB.setFrom_go vs [] cs w hl h
theorem AtB.farAll {g p : Nat} {cs : Array Value} {T : TypeId} (hp : g ≠ p) : ∀ (vs : List Value) (k : Nat) {w : World}, AtB w g cs T → AtB (setFrom w p k vs) g cs T
  | [], _, _, h => h
  | v :: vs, k, _, h => AtB.farAll hp vs (k + 1) (h.far hp k v)
theorem below_setAll {w : World} {b : Nat} (hb : w.heap.size ≤ b) : ∀ (vs : List Value) (k : Nat) {w1 : World}, Below w.heap.size w w1 → Below w.heap.size w (setFrom w1 b k vs)
  | [], _, _, h => h
  | v :: vs, k, _, h => below_setAll hb vs (k + 1) (below_set h hb v)
theorem below_setAllB {B b : Nat} {w : World} (hb : B ≤ b) : ∀ (vs : List Value) (k : Nat) {w1 : World}, Below B w w1 → Below B w (setFrom w1 b k vs)
  | [], _, _, h => h
  | v :: vs, k, _, h => below_setAllB hb vs (k + 1) (h.setCell (p := ⟨b, k, none⟩) hb v)
end Go.Proofs.YthdbchghhpoadaaDoor
