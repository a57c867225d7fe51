/- Rows of a call's own that grow by append, beside boxes and calls. -/
import Derived.Test.YthdbchghhpoadaaDoorJC
set_option linter.unusedVariables false
namespace Go.Proofs.YthdbchghhpoadaaDoor
open Go.RowKit

def sliceLen : Value → Nat
  | .slice _ n _ => n
  | _ => 0
theorem own_form {w : World} {base : Nat} {e : TypeId} {sz n : Nat} {v : Value} {xs : List Value} (h : w.ownsRow base e sz v n xs) : ∃ A cap, v = .slice A n cap := by
  rcases h.2 with ⟨rfl, rfl⟩ | ⟨g, cap, cur, rfl, _⟩
  · exact ⟨_, _, rfl⟩
  · exact ⟨_, _, rfl⟩
theorem own_below {w w1 : World} {base : Nat} {e : TypeId} {sz n : Nat} {v : Value} {xs : List Value} (h : w.ownsRow base e sz v n xs) (hb : Below w.heap.size w w1) : w1.ownsRow base e sz v n xs := by
  refine ⟨h.1, ?_⟩
  rcases h.2 with h | ⟨g, cap, cur, rfl, h1, h2, h3⟩
  · exact .inl h
  · exact .inr ⟨g, cap, cur, rfl, h1, (hb.block _ (heap_lt h2)).trans h2, h3⟩
theorem below_app' {B : Nat} {W wr w1 : World} {base : Nat} {o : Obj} {e : TypeId} {sz n : Nat} {v : Value} {xs : List Value} (hb : Below B W wr) (hB : B ≤ base) (hBw : B ≤ wr.heap.size) (hown : wr.ownsRow base e sz v n xs) (hg : (wr.alloc o).grownBy w1 v.ownBlock) : Below B W w1 :=
  (hb.alloc hBw o).grown hg (by simp; omega) (fun k hk => Nat.le_trans hB (own_block_ge hown k hk))
/-- A box below the row's base is as it was. -/
theorem AtB.app {wr w1 : World} {base g : Nat} {cs : Array Value} {T : TypeId} {o : Obj} {e : TypeId} {sz n : Nat} {v : Value} {xs : List Value} (h : AtB wr g cs T) (hgb : g < base) (hown : wr.ownsRow base e sz v n xs) (hg : (wr.alloc o).grownBy w1 v.ownBlock) : AtB w1 g cs T := by
  have hne : some g ≠ v.ownBlock := fun e => by have := own_block_ge hown g e.symm; omega
  exact (hg.block g (by have := h.lt; simp; omega) hne).trans ((below_new (Below.refl wr.heap.size wr) o).block g h.lt |>.trans h)
theorem one_new_at (w : World) (x : Value) (t : TypeId) {n : Nat} (hn : n = w.heap.size) : ∀ j u, [x][j]? = some u → (w.alloc (.cells #[x] t)).cell? ((⟨n, 0, none⟩ : Addr).add j) = some u := by
  subst hn; exact one_new w x t
theorem le_below {w w1 : World} {n : Nat} (h : n ≤ w.heap.size) (hb : Below w.heap.size w w1) : n ≤ w1.heap.size := Nat.le_trans h hb.size
theorem app_size {wr w1 : World} {o : Obj} {row : Option Nat} (hg : (wr.alloc o).grownBy w1 row) : wr.heap.size < w1.heap.size := by have := hg.size; simp at this; omega

end Go.Proofs.YthdbchghhpoadaaDoor
