/- Boxes: blocks that were laid and stay as they are; what holds of them behind a call. Bounds of the document's numbers. | Boxes of more cells: what they read. | Walk of the document's 'Pow': a power of two. | Plain laws of quotients rounded down, at every sign. | Walk of the document's 'Fits', at a number of bits. | Numbers of 128 bits: how they lie in two halves; walks of wide.Add, Sub, Neg, Of, Sign, Cmp. | Walks of wide.Sub, Neg, Of, Sign, Cmp, Fits, abs, apart. | Walks of the document's 'Wide' and 'Fits', of anamorphlaw01's 'Big' and 'Told'. | Walk of anamorphlaw01's 'Told': what is told of a number is the number, or that there is no room. | Walk of wide.Fits. -/
import Derived.Test.YthdbchghhpoadaaDoorJF
import Derived.Test.YthdbchghhpoadaaDoorJA
set_option linter.unusedVariables false
namespace Go.Proofs.YthdbchghhpoadaaDoor
open Go.RowKit

/-- A block as it was laid. -/
def AtB (w : World) (g : Nat) (cs : Array Value) (T : TypeId) : Prop := w.heap[g]? = some (.cells cs T (0, 0))
theorem AtB.lt {w : World} {g : Nat} {cs : Array Value} {T : TypeId} (h : AtB w g cs T) : g < w.heap.size := heap_lt h
theorem AtB.keep {w w1 : World} {g : Nat} {cs : Array Value} {T : TypeId} (h : AtB w g cs T) (hb : Below w.heap.size w w1) : AtB w1 g cs T := (hb.block _ h.lt).trans h
theorem AtB.cell {w : World} {g : Nat} {cs : Array Value} {T : TypeId} (h : AtB w g cs T) (i : Nat) {v : Value} (hv : cs[i]? = some v) : w.cell? ⟨g, i, none⟩ = some v := by
  have h' : w.heap[g]? = some (.cells cs T (0, 0)) := h
  simp [World.cell?, h', hv]
theorem AtB.fr {w : World} {g : Nat} {cs : Array Value} {T : TypeId} (h : AtB w g cs T) (i : Nat) : w.frozen? ⟨g, i, none⟩ = false := by
  have h' : w.heap[g]? = some (.cells cs T (0, 0)) := h
  simp [World.frozen?, h']
theorem AtB.heap {w : World} {g : Nat} {cs : Array Value} {T : TypeId} (h : AtB w g cs T) : w.heap[g]? = some (.cells cs T (0, 0)) := h

theorem new_at (w : World) (cs : Array Value) (T : TypeId) : AtB (w.alloc (.cells cs T)) w.heap.size cs T := heap_new w _
theorem start1 (w : World) (c1 : Array Value) (T1 : TypeId) : Below w.heap.size w (w.alloc (.cells c1 T1)) ∧ (w.alloc (.cells c1 T1)).heap.size = w.heap.size + 1 ∧ AtB (w.alloc (.cells c1 T1)) w.heap.size c1 T1 :=
  ⟨below_new (Below.refl _ _) _, by simp, new_at w _ _⟩
theorem start2 (w : World) (c1 : Array Value) (T1 : TypeId) (c2 : Array Value) (T2 : TypeId) : Below w.heap.size w ((w.alloc (.cells c1 T1)).alloc (.cells c2 T2)) ∧ ((w.alloc (.cells c1 T1)).alloc (.cells c2 T2)).heap.size = w.heap.size + 2 ∧ AtB ((w.alloc (.cells c1 T1)).alloc (.cells c2 T2)) w.heap.size c1 T1 ∧ AtB ((w.alloc (.cells c1 T1)).alloc (.cells c2 T2)) (w.heap.size + 1) c2 T2 := by
  obtain ⟨h1, h2, h3⟩ := start1 w c1 T1
  have hb := below_new (w := w.alloc (.cells c1 T1)) (Below.refl _ _) (.cells c2 T2)
  exact ⟨below_next h1 hb, by simp, h3.keep hb, by simpa using new_at (w.alloc (.cells c1 T1)) c2 T2⟩
theorem start3 (w : World) (c1 : Array Value) (T1 : TypeId) (c2 : Array Value) (T2 : TypeId) (c3 : Array Value) (T3 : TypeId) : Below w.heap.size w (((w.alloc (.cells c1 T1)).alloc (.cells c2 T2)).alloc (.cells c3 T3)) ∧ (((w.alloc (.cells c1 T1)).alloc (.cells c2 T2)).alloc (.cells c3 T3)).heap.size = w.heap.size + 3 ∧
    AtB (((w.alloc (.cells c1 T1)).alloc (.cells c2 T2)).alloc (.cells c3 T3)) w.heap.size c1 T1 ∧ AtB (((w.alloc (.cells c1 T1)).alloc (.cells c2 T2)).alloc (.cells c3 T3)) (w.heap.size + 1) c2 T2 ∧ AtB (((w.alloc (.cells c1 T1)).alloc (.cells c2 T2)).alloc (.cells c3 T3)) (w.heap.size + 2) c3 T3 := by
  obtain ⟨h1, h2, h3, h4⟩ := start2 w c1 T1 c2 T2
  have hb := below_new (w := (w.alloc (.cells c1 T1)).alloc (.cells c2 T2)) (Below.refl _ _) (.cells c3 T3)
  exact ⟨below_next h1 hb, by simp, h3.keep hb, h4.keep hb, by simpa using new_at ((w.alloc (.cells c1 T1)).alloc (.cells c2 T2)) c3 T3⟩
theorem start4 (w : World) (c1 : Array Value) (T1 : TypeId) (c2 : Array Value) (T2 : TypeId) (c3 : Array Value) (T3 : TypeId) (c4 : Array Value) (T4 : TypeId) :
    Below w.heap.size w ((((w.alloc (.cells c1 T1)).alloc (.cells c2 T2)).alloc (.cells c3 T3)).alloc (.cells c4 T4)) ∧ ((((w.alloc (.cells c1 T1)).alloc (.cells c2 T2)).alloc (.cells c3 T3)).alloc (.cells c4 T4)).heap.size = w.heap.size + 4 ∧
    AtB ((((w.alloc (.cells c1 T1)).alloc (.cells c2 T2)).alloc (.cells c3 T3)).alloc (.cells c4 T4)) w.heap.size c1 T1 ∧ AtB ((((w.alloc (.cells c1 T1)).alloc (.cells c2 T2)).alloc (.cells c3 T3)).alloc (.cells c4 T4)) (w.heap.size + 1) c2 T2 ∧
    AtB ((((w.alloc (.cells c1 T1)).alloc (.cells c2 T2)).alloc (.cells c3 T3)).alloc (.cells c4 T4)) (w.heap.size + 2) c3 T3 ∧ AtB ((((w.alloc (.cells c1 T1)).alloc (.cells c2 T2)).alloc (.cells c3 T3)).alloc (.cells c4 T4)) (w.heap.size + 3) c4 T4 := by
  obtain ⟨h1, h2, h3, h4, h5⟩ := start3 w c1 T1 c2 T2 c3 T3
  have hb := below_new (w := ((w.alloc (.cells c1 T1)).alloc (.cells c2 T2)).alloc (.cells c3 T3)) (Below.refl _ _) (.cells c4 T4)
  exact ⟨below_next h1 hb, by simp, h3.keep hb, h4.keep hb, h5.keep hb, by simpa using new_at (((w.alloc (.cells c1 T1)).alloc (.cells c2 T2)).alloc (.cells c3 T3)) c4 T4⟩

theorem laid (w : World) (cs : Array Value) (T : TypeId) : Below w.heap.size w (w.alloc (.cells cs T)) ∧ AtB (w.alloc (.cells cs T)) w.heap.size cs T :=
  ⟨below_new (Below.refl _ _) _, heap_new w _⟩

theorem reads1 {w : World} {g : Nat} {a : Value} {T : TypeId} (h : AtB w g #[a] T) : w.cell? ⟨g, 0, none⟩ = some a ∧ w.frozen? ⟨g, 0, none⟩ = false := ⟨h.cell 0 rfl, h.fr 0⟩
theorem reads2 {w : World} {g : Nat} {a b : Value} {T : TypeId} (h : AtB w g #[a, b] T) :
    w.cell? ⟨g, 0, none⟩ = some a ∧ w.cell? ⟨g, 1, none⟩ = some b ∧ w.frozen? ⟨g, 0, none⟩ = false ∧ w.frozen? ⟨g, 1, none⟩ = false := ⟨h.cell 0 rfl, h.cell 1 rfl, h.fr 0, h.fr 1⟩
theorem reads3 {w : World} {g : Nat} {a b c : Value} {T : TypeId} (h : AtB w g #[a, b, c] T) :
    w.cell? ⟨g, 0, none⟩ = some a ∧ w.cell? ⟨g, 1, none⟩ = some b ∧ w.cell? ⟨g, 2, none⟩ = some c ∧ w.frozen? ⟨g, 0, none⟩ = false ∧ w.frozen? ⟨g, 1, none⟩ = false ∧ w.frozen? ⟨g, 2, none⟩ = false :=
  ⟨h.cell 0 rfl, h.cell 1 rfl, h.cell 2 rfl, h.fr 0, h.fr 1, h.fr 2⟩
theorem reads4 {w : World} {g : Nat} {a b c d : Value} {T : TypeId} (h : AtB w g #[a, b, c, d] T) :
    w.cell? ⟨g, 0, none⟩ = some a ∧ w.cell? ⟨g, 1, none⟩ = some b ∧ w.cell? ⟨g, 2, none⟩ = some c ∧ w.cell? ⟨g, 3, none⟩ = some d ∧ w.frozen? ⟨g, 0, none⟩ = false ∧ w.frozen? ⟨g, 1, none⟩ = false ∧ w.frozen? ⟨g, 2, none⟩ = false ∧ w.frozen? ⟨g, 3, none⟩ = false :=
  ⟨h.cell 0 rfl, h.cell 1 rfl, h.cell 2 rfl, h.cell 3 rfl, h.fr 0, h.fr 1, h.fr 2, h.fr 3⟩
theorem cells1 {w : World} {g : Nat} {a : Value} {T : TypeId} (h : AtB w g #[a] T) : w.cell? ⟨g, 0, none⟩ = some a := h.cell 0 rfl
theorem cells2 {w : World} {g : Nat} {a b : Value} {T : TypeId} (h : AtB w g #[a, b] T) : w.cell? ⟨g, 0, none⟩ = some a ∧ w.cell? ⟨g, 1, none⟩ = some b := ⟨h.cell 0 rfl, h.cell 1 rfl⟩
theorem cells3 {w : World} {g : Nat} {a b c : Value} {T : TypeId} (h : AtB w g #[a, b, c] T) : w.cell? ⟨g, 0, none⟩ = some a ∧ w.cell? ⟨g, 1, none⟩ = some b ∧ w.cell? ⟨g, 2, none⟩ = some c := ⟨h.cell 0 rfl, h.cell 1 rfl, h.cell 2 rfl⟩
theorem cells4 {w : World} {g : Nat} {a b c d : Value} {T : TypeId} (h : AtB w g #[a, b, c, d] T) : w.cell? ⟨g, 0, none⟩ = some a ∧ w.cell? ⟨g, 1, none⟩ = some b ∧ w.cell? ⟨g, 2, none⟩ = some c ∧ w.cell? ⟨g, 3, none⟩ = some d := ⟨h.cell 0 rfl, h.cell 1 rfl, h.cell 2 rfl, h.cell 3 rfl⟩

theorem reg_next {w0 w1 w2 : World} (h : Below w0.heap.size w0 w1) (h2 : Below w1.heap.size w1 w2) : Below w0.heap.size w0 w2 := below_next h h2

theorem GiveB.from {z : Int} {w w1 w2 : World} {e : Ending} (h : GiveB z w1 e w2) (hb : Below w.heap.size w w1) : GiveB z w e w2 := by
  obtain ⟨r, rfl, h1, h2⟩ := h
  exact ⟨r, rfl, below_next hb h1, h2⟩
theorem BR.nr {w : World} {b : Bool} {s : Value} {z : Int} (h : BR w (.agg #[.bool b, s]) z) : NR w s (z.natAbs : Int) := by
  obtain ⟨s', e, h'⟩ := h
  simp at e
  rw [e.2]
  exact h'
/-- A number that was stored into a result's box. -/
theorem give_res {z : Int} {w w1 w2 : World} {A : Option Addr} {n cap p : Nat} {c : Array Value} (hb : Below w.heap.size w w1) (hn : BR w1 (.agg #[.bool (sgn z), .slice A n cap]) z) (hp : AtB w1 p c 24) (hpw : w.heap.size ≤ p)
    (e2 : w2 = (w1.setCell ⟨p, 0, none⟩ (.bool (sgn z))).setCell ⟨p, 1, none⟩ (.slice A n cap)) : GiveB z w (.returned (.agg #[.bool (sgn z), .slice A n cap])) w2 :=
  give_box hb hn.nr hp hpw e2

/-- Two stores into a box: into it, beside it. -/
theorem AtB.set2 {w : World} {g : Nat} {a b : Value} {T : TypeId} (h : AtB w g #[a, b] T) (u v : Value) : AtB ((w.setCell ⟨g, 0, none⟩ u).setCell ⟨g, 1, none⟩ v) g #[u, v] T := by
  have h1 := heap_set (heap_set h.heap u (o := 0)) v (o := 1)
  simpa [AtB] using h1
theorem AtB.far {w : World} {g p : Nat} {cs : Array Value} {T : TypeId} (h : AtB w g cs T) (hp : g ≠ p) (o : Nat) (u : Value) : AtB (w.setCell ⟨p, o, none⟩ u) g cs T :=
  (Below.heap_setCell w ⟨p, o, none⟩ u g hp).trans h
theorem AtB.far2 {w : World} {g p : Nat} {cs : Array Value} {T : TypeId} (h : AtB w g cs T) (hp : g ≠ p) (u v : Value) : AtB ((w.setCell ⟨p, 0, none⟩ u).setCell ⟨p, 1, none⟩ v) g cs T := (h.far hp 0 u).far hp 1 v
theorem BR.far {w : World} {v : Value} {z : Int} (h : BR w v z) {p : Nat} {cs : Array Value} {T : TypeId} (hp : AtB w p cs T) (ht : T ≠ 3) (o : Nat) (u : Value) : BR (w.setCell ⟨p, o, none⟩ u) v z := by
  obtain ⟨s, h1, h2⟩ := h
  exact ⟨s, h1, h2.set_ hp.heap ht u⟩
theorem BR.far2 {w : World} {v : Value} {z : Int} (h : BR w v z) {p : Nat} {a b : Value} {T : TypeId} (hp : AtB w p #[a, b] T) (ht : T ≠ 3) (u u' : Value) : BR ((w.setCell ⟨p, 0, none⟩ u).setCell ⟨p, 1, none⟩ u') v z := by
  obtain ⟨s, h1, h2⟩ := h
  exact ⟨s, h1, (h2.set_ hp.heap ht u).set_ (heap_set hp.heap u) ht u'⟩
theorem below_far2 {w w1 : World} {B : Nat} (h : Below B w w1) {p : Nat} (hp : B ≤ p) (u v : Value) : Below B w ((w1.setCell ⟨p, 0, none⟩ u).setCell ⟨p, 1, none⟩ v) := (h.setCell (p := ⟨p, 0, none⟩) hp u).setCell (p := ⟨p, 1, none⟩) hp v

theorem new_at_eq {w : World} {n : Nat} (hn : n = w.heap.size) (cs : Array Value) (T : TypeId) : AtB (w.alloc (.cells cs T)) n cs T := by subst hn; exact new_at w cs T
theorem AtB.alloc {w : World} {g : Nat} {cs : Array Value} {T : TypeId} (h : AtB w g cs T) (o : Obj) : AtB (w.alloc o) g cs T := h.keep (below_new (Below.refl _ _) o)
theorem AtB.drew {w : World} {g : Nat} {cs : Array Value} {T : TypeId} (h : AtB w g cs T) : AtB w.drew g cs T := h
theorem BR.alloc {w : World} {v : Value} {z : Int} (h : BR w v z) (o : Obj) : BR (w.alloc o) v z := h.below (below_new (Below.refl _ _) o)

/-! ### Bounds -/
theorem P2_100 : (2 : Int) ^ 1500 = P2 100 := by unfold P2; rw [show (32768 : Int) = 2 ^ 15 by decide, ← Int.pow_mul]
theorem big_huge : (2 : Int) ^ 1500 < HUGE := by rw [P2_100]; exact P2_lt_of (by omega)
theorem big_low : (2 : Int) ^ 1500 < P2 1999 := by rw [P2_100]; exact P2_lt_of (by omega)
/-- No further from 0 than 2^n. -/
def Wd (n : Nat) (z : Int) : Prop := -(2 : Int) ^ n ≤ z ∧ z ≤ (2 : Int) ^ n
theorem two_le {m n : Nat} (h : m ≤ n) : (2 : Int) ^ m ≤ 2 ^ n := by
  have := Nat.pow_le_pow_right (n := 2) (by omega) h
  exact_mod_cast this
theorem two_pos (n : Nat) : (0 : Int) < 2 ^ n := Int.pow_pos (by omega)
theorem Wd.up {m n : Nat} {z : Int} (h : Wd m z) (hm : m ≤ n) : Wd n z := ⟨by have := two_le hm; have := h.1; omega, by have := two_le hm; have := h.2; omega⟩
theorem Wd.mid {n : Nat} {z : Int} (h : Wd n z) (hn : n ≤ 1500) : Mid z := by
  have := h.up hn; have := big_huge; exact ⟨by have := this; have := (h.up hn).1; omega, by have := (h.up hn).2; omega⟩
theorem Wd.low {n : Nat} {z : Int} (h : Wd n z) (hn : n ≤ 1500) : Low z := by
  have := big_low; exact ⟨by have := (h.up hn).1; omega, by have := (h.up hn).2; omega⟩
theorem Wd.neg {n : Nat} {z : Int} (h : Wd n z) : Wd n (-z) := ⟨by have := h.2; omega, by have := h.1; omega⟩
theorem Wd.add {n : Nat} {x y : Int} (hx : Wd n x) (hy : Wd n y) : Wd (n + 1) (x + y) := by
  have := hx.1; have := hx.2; have := hy.1; have := hy.2
  unfold Wd; rw [Int.pow_succ]; omega
theorem Wd.sub {n : Nat} {x y : Int} (hx : Wd n x) (hy : Wd n y) : Wd (n + 1) (x - y) := by
  have := hx.1; have := hx.2; have := hy.1; have := hy.2
  unfold Wd; rw [Int.pow_succ]; omega
theorem Wd.abs {n : Nat} {z : Int} : Wd n z ↔ (z.natAbs : Int) ≤ 2 ^ n := by unfold Wd; constructor <;> intro h <;> omega
theorem Wd.mul {m n : Nat} {x y : Int} (hx : Wd m x) (hy : Wd n y) : Wd (m + n) (x * y) := by
  rw [Wd.abs] at *
  rw [Int.natAbs_mul, Int.natCast_mul, Int.pow_add]
  exact Int.mul_le_mul hx hy (by omega) (by have := two_pos m; omega)
theorem Wd.fdiv {n : Nat} {x y : Int} (hx : Wd n x) : Wd (n + 1) (x.fdiv y) := by
  rw [Wd.abs] at *
  have h : ((x.fdiv y).natAbs : Int) ≤ x.natAbs + 1 := by
    by_cases h0 : y = 0
    · subst h0; simp; omega
    · rw [fdiv_eq x y h0]
      have h1 : (x.natAbs : Int) / y.natAbs ≤ x.natAbs := Int.ediv_le_self _ (by omega)
      have h2 : 0 ≤ (x.natAbs : Int) / y.natAbs := Int.ediv_nonneg (by omega) (by omega)
      split
      · omega
      · split <;> omega
  have := two_pos n
  rw [Int.pow_succ]; omega
theorem i64_wd {z : Int} (h : I64 z) : Wd 63 z := by have h1 := h.1; have h2 := h.2; unfold Wd; omega
theorem i64_mid' {z : Int} (h : I64 z) : Mid z := (i64_wd h).mid (by omega)
theorem u64_wd {z : Int} (h : U64 z) : Wd 64 z := by have h1 := h.1; have h2 := h.2; unfold Wd; omega

end Go.Proofs.YthdbchghhpoadaaDoor

namespace Go.Proofs.YthdbchghhpoadaaDoor
open Go.RowKit

theorem reads5 {w : World} {g : Nat} {v0 v1 v2 v3 v4 : Value} {T : TypeId} (h : AtB w g #[v0, v1, v2, v3, v4] T) : w.cell? ⟨g, 0, none⟩ = some v0 ∧ w.cell? ⟨g, 1, none⟩ = some v1 ∧ w.cell? ⟨g, 2, none⟩ = some v2 ∧ w.cell? ⟨g, 3, none⟩ = some v3 ∧ w.cell? ⟨g, 4, none⟩ = some v4 ∧ w.frozen? ⟨g, 0, none⟩ = false ∧ w.frozen? ⟨g, 1, none⟩ = false ∧ w.frozen? ⟨g, 2, none⟩ = false ∧ w.frozen? ⟨g, 3, none⟩ = false ∧ w.frozen? ⟨g, 4, none⟩ = false := ⟨h.cell 0 rfl, h.cell 1 rfl, h.cell 2 rfl, h.cell 3 rfl, h.cell 4 rfl, h.fr 0, h.fr 1, h.fr 2, h.fr 3, h.fr 4⟩
theorem cells5 {w : World} {g : Nat} {v0 v1 v2 v3 v4 : Value} {T : TypeId} (h : AtB w g #[v0, v1, v2, v3, v4] T) : w.cell? ⟨g, 0, none⟩ = some v0 ∧ w.cell? ⟨g, 1, none⟩ = some v1 ∧ w.cell? ⟨g, 2, none⟩ = some v2 ∧ w.cell? ⟨g, 3, none⟩ = some v3 ∧ w.cell? ⟨g, 4, none⟩ = some v4 := ⟨h.cell 0 rfl, h.cell 1 rfl, h.cell 2 rfl, h.cell 3 rfl, h.cell 4 rfl⟩
theorem reads6 {w : World} {g : Nat} {v0 v1 v2 v3 v4 v5 : Value} {T : TypeId} (h : AtB w g #[v0, v1, v2, v3, v4, v5] T) : w.cell? ⟨g, 0, none⟩ = some v0 ∧ w.cell? ⟨g, 1, none⟩ = some v1 ∧ w.cell? ⟨g, 2, none⟩ = some v2 ∧ w.cell? ⟨g, 3, none⟩ = some v3 ∧ w.cell? ⟨g, 4, none⟩ = some v4 ∧ w.cell? ⟨g, 5, none⟩ = some v5 ∧ w.frozen? ⟨g, 0, none⟩ = false ∧ w.frozen? ⟨g, 1, none⟩ = false ∧ w.frozen? ⟨g, 2, none⟩ = false ∧ w.frozen? ⟨g, 3, none⟩ = false ∧ w.frozen? ⟨g, 4, none⟩ = false ∧ w.frozen? ⟨g, 5, none⟩ = false := ⟨h.cell 0 rfl, h.cell 1 rfl, h.cell 2 rfl, h.cell 3 rfl, h.cell 4 rfl, h.cell 5 rfl, h.fr 0, h.fr 1, h.fr 2, h.fr 3, h.fr 4, h.fr 5⟩
theorem cells6 {w : World} {g : Nat} {v0 v1 v2 v3 v4 v5 : Value} {T : TypeId} (h : AtB w g #[v0, v1, v2, v3, v4, v5] T) : w.cell? ⟨g, 0, none⟩ = some v0 ∧ w.cell? ⟨g, 1, none⟩ = some v1 ∧ w.cell? ⟨g, 2, none⟩ = some v2 ∧ w.cell? ⟨g, 3, none⟩ = some v3 ∧ w.cell? ⟨g, 4, none⟩ = some v4 ∧ w.cell? ⟨g, 5, none⟩ = some v5 := ⟨h.cell 0 rfl, h.cell 1 rfl, h.cell 2 rfl, h.cell 3 rfl, h.cell 4 rfl, h.cell 5 rfl⟩
theorem reads7 {w : World} {g : Nat} {v0 v1 v2 v3 v4 v5 v6 : Value} {T : TypeId} (h : AtB w g #[v0, v1, v2, v3, v4, v5, v6] T) : w.cell? ⟨g, 0, none⟩ = some v0 ∧ w.cell? ⟨g, 1, none⟩ = some v1 ∧ w.cell? ⟨g, 2, none⟩ = some v2 ∧ w.cell? ⟨g, 3, none⟩ = some v3 ∧ w.cell? ⟨g, 4, none⟩ = some v4 ∧ w.cell? ⟨g, 5, none⟩ = some v5 ∧ w.cell? ⟨g, 6, none⟩ = some v6 ∧ w.frozen? ⟨g, 0, none⟩ = false ∧ w.frozen? ⟨g, 1, none⟩ = false ∧ w.frozen? ⟨g, 2, none⟩ = false ∧ w.frozen? ⟨g, 3, none⟩ = false ∧ w.frozen? ⟨g, 4, none⟩ = false ∧ w.frozen? ⟨g, 5, none⟩ = false ∧ w.frozen? ⟨g, 6, none⟩ = false := ⟨h.cell 0 rfl, h.cell 1 rfl, h.cell 2 rfl, h.cell 3 rfl, h.cell 4 rfl, h.cell 5 rfl, h.cell 6 rfl, h.fr 0, h.fr 1, h.fr 2, h.fr 3, h.fr 4, h.fr 5, h.fr 6⟩
theorem cells7 {w : World} {g : Nat} {v0 v1 v2 v3 v4 v5 v6 : Value} {T : TypeId} (h : AtB w g #[v0, v1, v2, v3, v4, v5, v6] T) : w.cell? ⟨g, 0, none⟩ = some v0 ∧ w.cell? ⟨g, 1, none⟩ = some v1 ∧ w.cell? ⟨g, 2, none⟩ = some v2 ∧ w.cell? ⟨g, 3, none⟩ = some v3 ∧ w.cell? ⟨g, 4, none⟩ = some v4 ∧ w.cell? ⟨g, 5, none⟩ = some v5 ∧ w.cell? ⟨g, 6, none⟩ = some v6 := ⟨h.cell 0 rfl, h.cell 1 rfl, h.cell 2 rfl, h.cell 3 rfl, h.cell 4 rfl, h.cell 5 rfl, h.cell 6 rfl⟩
theorem reads8 {w : World} {g : Nat} {v0 v1 v2 v3 v4 v5 v6 v7 : Value} {T : TypeId} (h : AtB w g #[v0, v1, v2, v3, v4, v5, v6, v7] T) : w.cell? ⟨g, 0, none⟩ = some v0 ∧ w.cell? ⟨g, 1, none⟩ = some v1 ∧ w.cell? ⟨g, 2, none⟩ = some v2 ∧ w.cell? ⟨g, 3, none⟩ = some v3 ∧ w.cell? ⟨g, 4, none⟩ = some v4 ∧ w.cell? ⟨g, 5, none⟩ = some v5 ∧ w.cell? ⟨g, 6, none⟩ = some v6 ∧ w.cell? ⟨g, 7, none⟩ = some v7 ∧ w.frozen? ⟨g, 0, none⟩ = false ∧ w.frozen? ⟨g, 1, none⟩ = false ∧ w.frozen? ⟨g, 2, none⟩ = false ∧ w.frozen? ⟨g, 3, none⟩ = false ∧ w.frozen? ⟨g, 4, none⟩ = false ∧ w.frozen? ⟨g, 5, none⟩ = false ∧ w.frozen? ⟨g, 6, none⟩ = false ∧ w.frozen? ⟨g, 7, none⟩ = false := ⟨h.cell 0 rfl, h.cell 1 rfl, h.cell 2 rfl, h.cell 3 rfl, h.cell 4 rfl, h.cell 5 rfl, h.cell 6 rfl, h.cell 7 rfl, h.fr 0, h.fr 1, h.fr 2, h.fr 3, h.fr 4, h.fr 5, h.fr 6, h.fr 7⟩
theorem cells8 {w : World} {g : Nat} {v0 v1 v2 v3 v4 v5 v6 v7 : Value} {T : TypeId} (h : AtB w g #[v0, v1, v2, v3, v4, v5, v6, v7] T) : w.cell? ⟨g, 0, none⟩ = some v0 ∧ w.cell? ⟨g, 1, none⟩ = some v1 ∧ w.cell? ⟨g, 2, none⟩ = some v2 ∧ w.cell? ⟨g, 3, none⟩ = some v3 ∧ w.cell? ⟨g, 4, none⟩ = some v4 ∧ w.cell? ⟨g, 5, none⟩ = some v5 ∧ w.cell? ⟨g, 6, none⟩ = some v6 ∧ w.cell? ⟨g, 7, none⟩ = some v7 := ⟨h.cell 0 rfl, h.cell 1 rfl, h.cell 2 rfl, h.cell 3 rfl, h.cell 4 rfl, h.cell 5 rfl, h.cell 6 rfl, h.cell 7 rfl⟩
theorem reads9 {w : World} {g : Nat} {v0 v1 v2 v3 v4 v5 v6 v7 v8 : Value} {T : TypeId} (h : AtB w g #[v0, v1, v2, v3, v4, v5, v6, v7, v8] T) : w.cell? ⟨g, 0, none⟩ = some v0 ∧ w.cell? ⟨g, 1, none⟩ = some v1 ∧ w.cell? ⟨g, 2, none⟩ = some v2 ∧ w.cell? ⟨g, 3, none⟩ = some v3 ∧ w.cell? ⟨g, 4, none⟩ = some v4 ∧ w.cell? ⟨g, 5, none⟩ = some v5 ∧ w.cell? ⟨g, 6, none⟩ = some v6 ∧ w.cell? ⟨g, 7, none⟩ = some v7 ∧ w.cell? ⟨g, 8, none⟩ = some v8 ∧ w.frozen? ⟨g, 0, none⟩ = false ∧ w.frozen? ⟨g, 1, none⟩ = false ∧ w.frozen? ⟨g, 2, none⟩ = false ∧ w.frozen? ⟨g, 3, none⟩ = false ∧ w.frozen? ⟨g, 4, none⟩ = false ∧ w.frozen? ⟨g, 5, none⟩ = false ∧ w.frozen? ⟨g, 6, none⟩ = false ∧ w.frozen? ⟨g, 7, none⟩ = false ∧ w.frozen? ⟨g, 8, none⟩ = false := ⟨h.cell 0 rfl, h.cell 1 rfl, h.cell 2 rfl, h.cell 3 rfl, h.cell 4 rfl, h.cell 5 rfl, h.cell 6 rfl, h.cell 7 rfl, h.cell 8 rfl, h.fr 0, h.fr 1, h.fr 2, h.fr 3, h.fr 4, h.fr 5, h.fr 6, h.fr 7, h.fr 8⟩
theorem cells9 {w : World} {g : Nat} {v0 v1 v2 v3 v4 v5 v6 v7 v8 : Value} {T : TypeId} (h : AtB w g #[v0, v1, v2, v3, v4, v5, v6, v7, v8] T) : w.cell? ⟨g, 0, none⟩ = some v0 ∧ w.cell? ⟨g, 1, none⟩ = some v1 ∧ w.cell? ⟨g, 2, none⟩ = some v2 ∧ w.cell? ⟨g, 3, none⟩ = some v3 ∧ w.cell? ⟨g, 4, none⟩ = some v4 ∧ w.cell? ⟨g, 5, none⟩ = some v5 ∧ w.cell? ⟨g, 6, none⟩ = some v6 ∧ w.cell? ⟨g, 7, none⟩ = some v7 ∧ w.cell? ⟨g, 8, none⟩ = some v8 := ⟨h.cell 0 rfl, h.cell 1 rfl, h.cell 2 rfl, h.cell 3 rfl, h.cell 4 rfl, h.cell 5 rfl, h.cell 6 rfl, h.cell 7 rfl, h.cell 8 rfl⟩
theorem laid_drew (w : World) (cs : Array Value) (T : TypeId) : Below w.heap.size w (w.alloc (.cells cs T)).drew ∧ AtB (w.alloc (.cells cs T)).drew w.heap.size cs T :=
  ⟨below_drew (below_new (Below.refl _ _) _), AtB.drew (new_at w cs T)⟩
theorem AtB.keepB {w w1 : World} {g B : Nat} {cs : Array Value} {T : TypeId} (h : AtB w g cs T) (hb : Below B w w1) (hg : g < B) : AtB w1 g cs T := (hb.block _ hg).trans h

end Go.Proofs.YthdbchghhpoadaaDoor

set_option linter.unusedVariables false
namespace Go.Proofs.YthdbchghhpoadaaDoor
open Go.RowKit

theorem wd_two (n : Nat) : Wd n ((2 : Int) ^ n) := by have := two_pos n; unfold Wd; omega

/-- The loop's world: the number in its box. -/
def PowAt (w : World) (g : Nat) (z : Int) : Prop := ∃ A m cap, AtB w g #[.bool (sgn z), .slice A m cap] 24 ∧ BR w (.agg #[.bool (sgn z), .slice A m cap]) z

set_option maxHeartbeats 1000000 in
theorem pow_any (n : Nat) (hn : n ≤ 1400) (w : World) : Calls Tryd.prog 35 #[.int .i64 (n : Int)] w (GiveB ((2 : Int) ^ n) w) := by
  have CA := Lib.hid (fun (a : Value) (k : Nat) w1 (hk : k ≤ 1400) (h : BR w1 a ((2 : Int) ^ k)) => add_any a a _ _ w1 h h ((wd_two k).mid (by omega)) ((wd_two k).mid (by omega)))
  go_enter Tryd.func35, Tryd.ntmps35
  go_wp2_with fail
  have BB := start1 w #[.bool false, .slice none 0 0] 24
  obtain ⟨BB, hsz, r_res⟩ := BB
  generalize (w.alloc (.cells #[.bool false, .slice none 0 0] 24)) = w0 at *
  replace BB := Lib.hid BB
  replace r_res := Lib.hid r_res
  clear hsz
  refine (of_any 1 ⟨by omega, by omega⟩ _).mono ?_
  rintro e w1 ⟨v_out, rfl, hb, h_out⟩
  obtain ⟨A_out, n_out, cap_out, rfl, -⟩ := id h_out.form
  replace h_out := Lib.hid h_out
  replace r_res := Lib.hid (r_res.out.keep hb)
  replace BB := Lib.hid (below_next BB.out hb)
  clear hb
  go_wp2_with fail
  have d_out := Lib.hid (And.intro BB.out.size (And.intro r_res.out.lt (True.intro)))
  obtain ⟨hb, r_out⟩ := laid w1 #[.bool (sgn (1)), .slice A_out n_out cap_out] 24
  replace r_res := Lib.hid (r_res.out.keep hb)
  replace h_out := Lib.hid (h_out.out.below hb)
  replace BB := Lib.hid (below_next BB.out hb)
  replace r_out := Lib.hid r_out
  clear hb
  generalize w1.alloc (.cells #[.bool (sgn (1)), .slice A_out n_out cap_out] 24) = w2 at *
  generalize w1.heap.size = g_out at *
  go_wp2_with fail
  go_loopw [4] (fun i wr => ∃ k : Nat, k ≤ n ∧ i = .int .i64 k ∧ Hid (PowAt wr g_out ((2 : Int) ^ k) ∧ AtB wr w.heap.size #[.bool false, .slice none 0 0] 24 ∧ Below w.heap.size w wr)) (fun i _ => n - (intOf i).toNat)
  case atStart => exact ⟨0, by omega, rfl, ⟨⟨_, _, _, r_out.out, h_out.out⟩, r_res.out, BB.out⟩⟩
  case round =>
    obtain ⟨k, hk, rfl, hinv⟩ := hrel
    obtain ⟨⟨A, m, cap, r_out, h_out⟩, r_res, BB⟩ := hinv.out
    replace BB := Lib.hid BB
    replace r_out := Lib.hid r_out; replace r_res := Lib.hid r_res; replace h_out := Lib.hid h_out
    clear hinv
    have HP : Hid ((2 : Int) ^ k + 2 ^ k = 2 ^ (k + 1)) := by show _ = _; rw [Int.pow_succ]; omega
    have HC := Lib.hid (fun w1 h => CA.out (.agg #[.bool (sgn ((2 : Int) ^ k)), .slice A m cap]) k w1 (by omega) h)
    rw [HP.out] at HC
    generalize hz : (2 : Int) ^ k = z at *
    replace hz := Lib.hid hz
    by_cases hlt : k < n
    · clear CA
      obtain ⟨c_out0, c_out1, f_out0, f_out1⟩ := reads2 r_out.out
      have l_out := r_out.out.lt
      go_wp2_with fail
      refine (HC.out _ h_out.out).mono ?_
      rintro e w3 ⟨v_t, rfl, hb, h_t⟩
      obtain ⟨A_t, n_t, cap_t, rfl, -⟩ := id h_t.form
      replace h_t := Lib.hid h_t
      clear c_out0 c_out1 f_out0 f_out1 l_out
      replace r_out := Lib.hid (r_out.out.keep hb)
      replace r_res := Lib.hid (r_res.out.keep hb)
      replace h_out := Lib.hid (h_out.out.below hb)
      replace BB := Lib.hid (below_next BB.out hb)
      clear hb
      obtain ⟨c_out0, c_out1, f_out0, f_out1⟩ := reads2 r_out.out
      have l_out := r_out.out.lt
      go_wp2_with fail
      go_roundw
      case rel =>
        have := d_out.out
        exact ⟨k + 1, by omega, by go_num, ⟨⟨_, _, _, r_out.out.set2 _ _, h_t.out.far2 r_out.out (by decide) _ _⟩, r_res.out.far2 (by omega) _ _, below_far2 BB.out (by omega) _ _⟩⟩
      case measure => simp [intOf]; omega
    · obtain rfl : k = n := by omega
      obtain ⟨c_out0, c_out1, f_out0, f_out1⟩ := reads2 r_out.out
      have l_out := r_out.out.lt
      obtain ⟨c_res0, c_res1, f_res0, f_res1⟩ := reads2 r_res.out
      have l_res := r_res.out.lt
      go_wp2_with fail
      rw [hz.out]
      refine bodyPost_ret (v := .agg #[.bool (sgn z), .slice A m cap]) (by unfold results; simp only [Tryd.results35]; go_simp) rfl ?_
      exact give_res BB.out h_out.out r_res.out (Nat.le_refl _) rfl

end Go.Proofs.YthdbchghhpoadaaDoor

set_option linter.unusedVariables false
namespace Go.Proofs.YthdbchghhpoadaaDoor
open Go.RowKit

theorem fdiv_uniq {a b q r : Int} (hb : b ≠ 0) (h : a = b * q + r) (hr : 0 ≤ r ∧ r < b ∨ b < r ∧ r ≤ 0) : a.fdiv b = q ∧ a.fmod b = r := by
  have h0 : r.fdiv b = 0 := by
    rcases hr with ⟨h1, h2⟩ | ⟨h1, h2⟩
    · rw [Int.fdiv_eq_ediv_of_nonneg _ (by omega)]; exact Int.ediv_eq_zero_of_lt h1 h2
    · rw [← Int.neg_fdiv_neg, Int.fdiv_eq_ediv_of_nonneg _ (by omega)]; exact Int.ediv_eq_zero_of_lt (by omega) (by omega)
  have e : a.fdiv b = q := by
    rw [h, Int.add_comm, Int.add_mul_fdiv_left _ _ hb, h0]; omega
  exact ⟨e, by rw [Int.fmod_def, e]; omega⟩
theorem tmod_bounds {a b : Int} (hb : b ≠ 0) : (0 ≤ a → 0 ≤ a.tmod b) ∧ (a ≤ 0 → a.tmod b ≤ 0) ∧ (0 < b → -b < a.tmod b ∧ a.tmod b < b) ∧ (b < 0 → b < a.tmod b ∧ a.tmod b < -b) := by
  have h1 : (a.tmod b).natAbs < b.natAbs := by rw [Int.natAbs_tmod]; exact Nat.mod_lt _ (by omega)
  refine ⟨fun h => Int.tmod_nonneg b h, fun h => ?_, fun h => by omega, fun h => by omega⟩
  have := Int.tmod_nonneg b (show 0 ≤ -a by omega)
  rw [Int.neg_tmod] at this; omega
/-- What Go's own quotient lacks. -/
theorem fdiv_exact {a b : Int} (hb : b ≠ 0) (h : a.tmod b = 0) : a.tdiv b = a.fdiv b ∧ a.fmod b = 0 := by
  have e := Int.mul_tdiv_add_tmod a b
  have := fdiv_uniq (a := a) (b := b) (q := a.tdiv b) (r := 0) hb (by omega) (by omega)
  exact ⟨this.1.symm, this.2⟩
theorem fdiv_like {a b : Int} (hb : b ≠ 0) (h : a.tmod b < 0 ↔ b < 0) : a.tdiv b = a.fdiv b ∧ a.tmod b = a.fmod b := by
  have e := Int.mul_tdiv_add_tmod a b
  obtain ⟨t1, t2, t3, t4⟩ := tmod_bounds (a := a) hb
  have := fdiv_uniq (a := a) (b := b) (q := a.tdiv b) (r := a.tmod b) hb (by omega) (by omega)
  exact ⟨this.1.symm, this.2.symm⟩
theorem fdiv_unlike {a b : Int} (hb : b ≠ 0) (h0 : a.tmod b ≠ 0) (h : ¬ (a.tmod b < 0 ↔ b < 0)) : a.tdiv b - 1 = a.fdiv b ∧ a.tmod b + b = a.fmod b := by
  have e := Int.mul_tdiv_add_tmod a b
  obtain ⟨t1, t2, t3, t4⟩ := tmod_bounds (a := a) hb
  have := fdiv_uniq (a := a) (b := b) (q := a.tdiv b - 1) (r := a.tmod b + b) hb (by rw [Int.mul_sub]; omega) (by omega)
  exact ⟨this.1.symm, this.2.symm⟩
theorem tmod_sign {a b : Int} (hb : b ≠ 0) (h0 : a.tmod b ≠ 0) : a.tmod b < 0 ↔ a < 0 := by
  obtain ⟨t1, t2, t3, t4⟩ := tmod_bounds (a := a) hb
  omega
theorem fmod_bounds {a b : Int} (hb : b ≠ 0) : 0 ≤ a.fmod b ∧ a.fmod b < b ∨ b < a.fmod b ∧ a.fmod b ≤ 0 := by
  by_cases h0 : a.tmod b = 0
  · rw [(fdiv_exact hb h0).2]; omega
  · obtain ⟨t1, t2, t3, t4⟩ := tmod_bounds (a := a) hb
    by_cases h : a.tmod b < 0 ↔ b < 0
    · rw [← (fdiv_like hb h).2]; omega
    · rw [← (fdiv_unlike hb h0 h).2]; omega
theorem fdiv_spec (a b : Int) : a = b * a.fdiv b + a.fmod b := by rw [Int.fmod_def]; omega
/-- A number as an int64, told or not. -/
def i64R (z : Int) : Bool := decide (-9223372036854775808 ≤ z ∧ z ≤ 9223372036854775807)
theorem i64R_iff {z : Int} : i64R z = true ↔ I64 z := by unfold i64R I64; simp
/-- A test, both ways, as the walk reads it. -/
theorem dec_cases (p : Prop) [Decidable p] : (p ∧ decide p = true) ∨ (¬ p ∧ decide p = false) := by
  by_cases h : p
  · exact .inl ⟨h, decide_eq_true h⟩
  · exact .inr ⟨h, decide_eq_false h⟩

end Go.Proofs.YthdbchghhpoadaaDoor

set_option linter.unusedVariables false
namespace Go.Proofs.YthdbchghhpoadaaDoor
open Go.RowKit

theorem cmpI_ge {x y : Int} : 0 ≤ cmpI x y ↔ y ≤ x := by unfold cmpI; split <;> (try split) <;> omega
theorem cmpI_neg {x y : Int} : cmpI x y < 0 ↔ x < y := by unfold cmpI; split <;> (try split) <;> omega
theorem cmpI_zero {x y : Int} : cmpI x y = 0 ↔ x = y := by unfold cmpI; split <;> (try split) <;> omega
/-- From -2^n on, below 2^n? -/
def fitsB (z : Int) (n : Nat) : Bool := decide (-(2 : Int) ^ n ≤ z ∧ z < (2 : Int) ^ n)

set_option maxHeartbeats 1000000 in
theorem rfits_any (v : Value) (z : Int) (n : Nat) (hn : n ≤ 1400) (w : World) (hv : BR w v z) (hz : Wd 1400 z) :
    Calls Tryd.prog 36 #[v, .int .i64 (n : Int)] w fun e w' => e = .returned (.bool (fitsB z n)) ∧ Below w.heap.size w w' := by
  have CN := Lib.hid (fun (a : Value) w1 (ha : BR w1 a ((2 : Int) ^ n)) => neg_any a _ w1 ha)
  have CC := Lib.hid (fun (a b : Value) w1 (ha : BR w1 a z) (hb : BR w1 b (-(2 : Int) ^ n)) => cmp_any a b z _ w1 ha hb (hz.mid (by omega)) ((wd_two n).neg.mid (by omega)))
  have CD := Lib.hid (fun (a b : Value) w1 (ha : BR w1 a z) (hb : BR w1 b ((2 : Int) ^ n)) => cmp_any a b z _ w1 ha hb (hz.mid (by omega)) ((wd_two n).mid (by omega)))
  have CP := Lib.hid (fun w1 => pow_any n hn w1)
  have g1 := cmpI_ge (x := z) (y := -(2 : Int) ^ n)
  have g2 := cmpI_neg (x := z) (y := (2 : Int) ^ n)
  have HB : Hid (fitsB z n = decide (-(2 : Int) ^ n ≤ z ∧ z < (2 : Int) ^ n)) := rfl
  generalize fitsB z n = fb at *
  generalize cmpI z (-(2 : Int) ^ n) = c1 at *
  generalize cmpI z ((2 : Int) ^ n) = c2 at *
  generalize (2 : Int) ^ n = p at *
  obtain ⟨A, m, cap, rfl, -⟩ := id hv.form
  replace hv := Lib.hid hv
  clear hz
  by_cases h1 : 0 ≤ c1
  · have d1 : -p ≤ z := g1.1 h1
    rcases Decidable.em (c2 < 0) with h2 | h2
    · have HR : Hid (fb = true) := by show _ = _; rw [HB.out]; have := g2.1 h2; simp; omega
      clear g1 g2 d1 HB
      go_enter Tryd.func36, Tryd.ntmps36
      go_wp2_with fail
      have BB := start1 w #[.bool (sgn z), .slice A m cap] 24
      obtain ⟨BB, hsz, r_z⟩ := BB
      generalize (w.alloc (.cells #[.bool (sgn z), .slice A m cap] 24)) = w0 at *
      replace BB := Lib.hid BB
      replace r_z := Lib.hid r_z
      clear hsz
      have h_z := Lib.hid (hv.out.below BB.out)
      have KK := Lib.hid (fun (w9 : World) (h : Below w0.heap.size w0 w9) => (cells2 (r_z.out.keep h) : (w9.cell? ⟨w.heap.size, 0, none⟩ = some (.bool (sgn z)) ∧ w9.cell? ⟨w.heap.size, 1, none⟩ = some (.slice A m cap))))
      have K0 := KK.out w0 (Below.refl _ _)
      have tok0 : Hid True := trivial
      have tok2 : Hid True := trivial
      have tok3 : Hid True := trivial
      have tok4 : Hid True := trivial
      first
      | (go_region_held3 (fun w9 => (w9.cell? ⟨w.heap.size, 0, none⟩ = some (.bool (sgn z)) ∧ w9.cell? ⟨w.heap.size, 1, none⟩ = some (.slice A m cap)))
          (first | exact K0 | exact K_w1 | exact K_w2 | exact K_w3 | exact K_w4 | exact K_w5)
          (first
            | (go_at_call 35
               have t_k := tok0
               refine (CP.out _).mono ?_
               rintro e w1 ⟨v_q, rfl, hb, h_q⟩
               obtain ⟨A_q, n_q, cap_q, rfl, -⟩ := id h_q.form
               replace h_q := Lib.hid h_q
               have B_w1 := Lib.hid (reg_next (w0 := w0) (by repeat (first | exact Below.refl _ _ | apply below_drew | apply below_new)) hb)
               have K_w1 := KK.out _ B_w1.out
               clear hb
               clear t_k tok0)
            | (go_at_call 42
               refine (CN.out _ _ h_q.out).mono ?_
               rintro e w2 ⟨v_r, rfl, hb, h_r⟩
               obtain ⟨A_r, n_r, cap_r, rfl, -⟩ := id h_r.form
               replace h_r := Lib.hid h_r
               replace h_q := Lib.hid (h_q.out.below hb)
               have B_w2 := Lib.hid (below_next B_w1.out hb)
               have K_w2 := KK.out _ B_w2.out
               clear hb)
            | (go_at_call 37
               have t_k := tok2
               refine (CC.out _ _ _ (h_z.out.below B_w2.out) h_r.out).mono ?_
               rintro e w3 ⟨rfl, hb⟩
               replace h_q := Lib.hid (h_q.out.below hb)
               replace h_r := Lib.hid (h_r.out.below hb)
               have B_w3 := Lib.hid (below_next B_w2.out hb)
               have K_w3 := KK.out _ B_w3.out
               clear hb
               clear t_k tok2)
            | (go_at_call 35
               have t_k := tok3
               refine (CP.out _).mono ?_
               rintro e w4 ⟨v_s, rfl, hb, h_s⟩
               obtain ⟨A_s, n_s, cap_s, rfl, -⟩ := id h_s.form
               replace h_s := Lib.hid h_s
               replace h_q := Lib.hid (h_q.out.below hb)
               replace h_r := Lib.hid (h_r.out.below hb)
               have B_w4 := Lib.hid (below_next B_w3.out hb)
               have K_w4 := KK.out _ B_w4.out
               clear hb
               clear t_k tok3)
            | (go_at_call 37
               have t_k := tok4
               refine (CD.out _ _ _ (h_z.out.below B_w4.out) h_s.out).mono ?_
               rintro e w5 ⟨rfl, hb⟩
               replace h_q := Lib.hid (h_q.out.below hb)
               replace h_r := Lib.hid (h_r.out.below hb)
               replace h_s := Lib.hid (h_s.out.below hb)
               have B_w5 := Lib.hid (below_next B_w4.out hb)
               have K_w5 := KK.out _ B_w5.out
               clear hb
               clear t_k tok4)))
      | fail "region"
      clear KK K0 K_w1 K_w2 K_w3 K_w4 K_w5
      replace r_z := Lib.hid (r_z.out.keep B_w5.out)
      replace h_z := Lib.hid (h_z.out.below B_w5.out)
      replace BB := Lib.hid (below_next BB.out B_w5.out)
      clear B_w1 B_w2 B_w3 B_w4 B_w5
      go_wp2_with fail
      go_ret
      exact ⟨ret_bool HR.out.symm, BB.out⟩
    · have HR : Hid (fb = false) := by show _ = _; rw [HB.out]; have := fun h => h2 (g2.2 h); simp; omega
      have HD : Hid (decide (c2 < 0) = false) := by show _ = _; simpa using h2
      clear g1 g2 d1 HB
      go_enter Tryd.func36, Tryd.ntmps36
      go_wp2_with fail
      have BB := start1 w #[.bool (sgn z), .slice A m cap] 24
      obtain ⟨BB, hsz, r_z⟩ := BB
      generalize (w.alloc (.cells #[.bool (sgn z), .slice A m cap] 24)) = w0 at *
      replace BB := Lib.hid BB
      replace r_z := Lib.hid r_z
      clear hsz
      have h_z := Lib.hid (hv.out.below BB.out)
      have KK := Lib.hid (fun (w9 : World) (h : Below w0.heap.size w0 w9) => (cells2 (r_z.out.keep h) : (w9.cell? ⟨w.heap.size, 0, none⟩ = some (.bool (sgn z)) ∧ w9.cell? ⟨w.heap.size, 1, none⟩ = some (.slice A m cap))))
      have K0 := KK.out w0 (Below.refl _ _)
      have tok0 : Hid True := trivial
      have tok2 : Hid True := trivial
      have tok3 : Hid True := trivial
      have tok4 : Hid True := trivial
      first
      | (go_region_held3 (fun w9 => (w9.cell? ⟨w.heap.size, 0, none⟩ = some (.bool (sgn z)) ∧ w9.cell? ⟨w.heap.size, 1, none⟩ = some (.slice A m cap)))
          (first | exact K0 | exact K_w1 | exact K_w2 | exact K_w3 | exact K_w4 | exact K_w5)
          (first
            | (go_at_call 35
               have t_k := tok0
               refine (CP.out _).mono ?_
               rintro e w1 ⟨v_q, rfl, hb, h_q⟩
               obtain ⟨A_q, n_q, cap_q, rfl, -⟩ := id h_q.form
               replace h_q := Lib.hid h_q
               have B_w1 := Lib.hid (reg_next (w0 := w0) (by repeat (first | exact Below.refl _ _ | apply below_drew | apply below_new)) hb)
               have K_w1 := KK.out _ B_w1.out
               clear hb
               clear t_k tok0)
            | (go_at_call 42
               refine (CN.out _ _ h_q.out).mono ?_
               rintro e w2 ⟨v_r, rfl, hb, h_r⟩
               obtain ⟨A_r, n_r, cap_r, rfl, -⟩ := id h_r.form
               replace h_r := Lib.hid h_r
               replace h_q := Lib.hid (h_q.out.below hb)
               have B_w2 := Lib.hid (below_next B_w1.out hb)
               have K_w2 := KK.out _ B_w2.out
               clear hb)
            | (go_at_call 37
               have t_k := tok2
               refine (CC.out _ _ _ (h_z.out.below B_w2.out) h_r.out).mono ?_
               rintro e w3 ⟨rfl, hb⟩
               replace h_q := Lib.hid (h_q.out.below hb)
               replace h_r := Lib.hid (h_r.out.below hb)
               have B_w3 := Lib.hid (below_next B_w2.out hb)
               have K_w3 := KK.out _ B_w3.out
               clear hb
               clear t_k tok2)
            | (go_at_call 35
               have t_k := tok3
               refine (CP.out _).mono ?_
               rintro e w4 ⟨v_s, rfl, hb, h_s⟩
               obtain ⟨A_s, n_s, cap_s, rfl, -⟩ := id h_s.form
               replace h_s := Lib.hid h_s
               replace h_q := Lib.hid (h_q.out.below hb)
               replace h_r := Lib.hid (h_r.out.below hb)
               have B_w4 := Lib.hid (below_next B_w3.out hb)
               have K_w4 := KK.out _ B_w4.out
               clear hb
               clear t_k tok3)
            | (go_at_call 37
               have t_k := tok4
               refine (CD.out _ _ _ (h_z.out.below B_w4.out) h_s.out).mono ?_
               rintro e w5 ⟨rfl, hb⟩
               replace h_q := Lib.hid (h_q.out.below hb)
               replace h_r := Lib.hid (h_r.out.below hb)
               replace h_s := Lib.hid (h_s.out.below hb)
               have B_w5 := Lib.hid (below_next B_w4.out hb)
               have K_w5 := KK.out _ B_w5.out
               clear hb
               clear t_k tok4)))
      | fail "region"
      clear KK K0 K_w1 K_w2 K_w3 K_w4 K_w5
      replace r_z := Lib.hid (r_z.out.keep B_w5.out)
      replace h_z := Lib.hid (h_z.out.below B_w5.out)
      replace BB := Lib.hid (below_next BB.out B_w5.out)
      clear B_w1 B_w2 B_w3 B_w4 B_w5
      go_wp2_with fail
      go_ret
      exact ⟨ret_bool (by rw [HR.out, HD.out]), BB.out⟩
  · have HR : Hid (fb = false) := by show _ = _; rw [HB.out]; have := fun h => h1 (g1.2 h); simp; omega
    have h3 : decide (0 ≤ c1) = false := by simpa using h1
    clear g1 g2 HB
    go_enter Tryd.func36, Tryd.ntmps36
    go_wp2_with fail
    have BB := start1 w #[.bool (sgn z), .slice A m cap] 24
    obtain ⟨BB, hsz, r_z⟩ := BB
    generalize (w.alloc (.cells #[.bool (sgn z), .slice A m cap] 24)) = w0 at *
    replace BB := Lib.hid BB
    replace r_z := Lib.hid r_z
    clear hsz
    have h_z := Lib.hid (hv.out.below BB.out)
    obtain ⟨c_z0, c_z1, f_z0, f_z1⟩ := reads2 r_z.out
    have l_z := r_z.out.lt
    clear c_z0 c_z1 f_z0 f_z1 l_z
    have KK := Lib.hid (fun (w9 : World) (h : Below w0.heap.size w0 w9) => (cells2 (r_z.out.keep h) : (w9.cell? ⟨w.heap.size, 0, none⟩ = some (.bool (sgn z)) ∧ w9.cell? ⟨w.heap.size, 1, none⟩ = some (.slice A m cap))))
    have K0 := KK.out w0 (Below.refl _ _)
    first
    | (go_region_with (first
          | (go_at_call 35
             refine (CP.out _).mono ?_
             rintro e w1 ⟨v_q, rfl, hb, h_q⟩
             obtain ⟨A_q, n_q, cap_q, rfl, -⟩ := id h_q.form
             replace h_q := Lib.hid h_q
             have B_w1 := Lib.hid (reg_next (w0 := w0) (by repeat (first | exact Below.refl _ _ | apply below_drew | apply below_new)) hb)
             have K_w1 := KK.out _ B_w1.out
             clear hb)
          | (go_at_call 42
             refine (CN.out _ _ h_q.out).mono ?_
             rintro e w2 ⟨v_r, rfl, hb, h_r⟩
             obtain ⟨A_r, n_r, cap_r, rfl, -⟩ := id h_r.form
             replace h_r := Lib.hid h_r
             replace h_q := Lib.hid (h_q.out.below hb)
             have B_w2 := Lib.hid (below_next B_w1.out hb)
             have K_w2 := KK.out _ B_w2.out
             clear hb)
          | (go_at_call 37
             refine (CC.out _ _ _ (h_z.out.below B_w2.out) h_r.out).mono ?_
             rintro e w3 ⟨rfl, hb⟩
             replace h_q := Lib.hid (h_q.out.below hb)
             replace h_r := Lib.hid (h_r.out.below hb)
             have B_w3 := Lib.hid (below_next B_w2.out hb)
             have K_w3 := KK.out _ B_w3.out
             clear hb)))
    | fail "region"
    all_goals clear KK K0 K_w1 K_w2 K_w3
    all_goals replace r_z := Lib.hid (r_z.out.keep B_w3.out)
    all_goals replace h_z := Lib.hid (h_z.out.below B_w3.out)
    all_goals replace BB := Lib.hid (below_next BB.out B_w3.out)
    all_goals clear B_w1 B_w2 B_w3
    all_goals go_wp2_with fail
    all_goals go_ret
    all_goals exact ⟨ret_bool HR.out.symm, BB.out⟩

end Go.Proofs.YthdbchghhpoadaaDoor

set_option linter.unusedVariables false
namespace Go.Proofs.YthdbchghhpoadaaDoor
open Go.RowKit

def I128 (z : Int) : Prop := -170141183460469231731687303715884105728 ≤ z ∧ z ≤ 170141183460469231731687303715884105727
/-- Two halves of a number. -/
def W128 (z hi lo : Int) : Prop := I64 hi ∧ U64 lo ∧ hi * 18446744073709551616 + lo = z
/-- What is told of a number: its halves and true, or noughts and false. -/
def WB (z hi lo : Int) (ok : Bool) : Prop := (I128 z ∧ ok = true ∧ W128 z hi lo) ∨ (¬ I128 z ∧ ok = false ∧ hi = 0 ∧ lo = 0)
abbrev wv (hi lo : Int) : Value := .agg #[.int .i64 hi, .int .u64 lo]
def GiveW (z : Int) (w : World) (e : Ending) (w' : World) : Prop := ∃ hi lo, e = .returned (wv hi lo) ∧ Below w.heap.size w w' ∧ W128 z hi lo
def GiveWB (z : Int) (w : World) (e : Ending) (w' : World) : Prop := ∃ hi lo ok, e = .returned (.tuple #[wv hi lo, .bool ok]) ∧ Below w.heap.size w w' ∧ WB z hi lo ok

theorem W128.room {z hi lo : Int} (h : W128 z hi lo) : I128 z := by
  obtain ⟨⟨a, b⟩, ⟨c, d⟩, e⟩ := h; unfold I128; omega

theorem wrap_u64_in (x : Int) : U64 (IntKind.u64.wrap x) := by rw [IntKind.wrap_u64]; unfold U64; omega
theorem wrap_u64_mod (x : Int) : ∃ k : Int, IntKind.u64.wrap x = x + 18446744073709551616 * k := ⟨-(x / 18446744073709551616), by rw [IntKind.wrap_u64]; omega⟩
theorem wrap_i64_in (x : Int) : I64 (IntKind.i64.wrap x) := by rw [IntKind.wrap_i64]; unfold I64; omega
theorem wrap_i64_mod (x : Int) : ∃ k : Int, IntKind.i64.wrap x = x + 18446744073709551616 * k := ⟨-((x + 9223372036854775808) / 18446744073709551616), by rw [IntKind.wrap_i64]; omega⟩

theorem wrap64_in64 (x : Int) : I64 (wrap64 x) := by unfold wrap64 I64; omega
theorem wrap64_mod (x : Int) : ∃ k : Int, wrap64 x = x + 18446744073709551616 * k := wrap64_is x

theorem wadd_law {ah al bh bl s c t d u v H : Int} (a1 : I64 ah) (a2 : U64 al) (b1 : I64 bh) (b2 : U64 bl) (hs : U64 s) (h1 : c * 18446744073709551616 + s = al + bl + 0) (c0 : 0 ≤ c) (c1 : c ≤ 1)
    (hu : U64 u) (hu' : ∃ k : Int, u = ah + 18446744073709551616 * k) (hv : U64 v) (hv' : ∃ k : Int, v = bh + 18446744073709551616 * k) (ht : U64 t) (h2 : d * 18446744073709551616 + t = u + v + c) (d0 : 0 ≤ d) (d1 : d ≤ 1)
    (hH : I64 H) (hH' : ∃ k : Int, H = t + 18446744073709551616 * k) :
    (I128 (ah * 18446744073709551616 + al + (bh * 18446744073709551616 + bl)) → W128 (ah * 18446744073709551616 + al + (bh * 18446744073709551616 + bl)) H s) ∧
    (I128 (ah * 18446744073709551616 + al + (bh * 18446744073709551616 + bl)) ↔ ¬ ((ah < 0 ↔ bh < 0) ∧ ¬ (H < 0 ↔ ah < 0))) := by
  obtain ⟨k1, hu'⟩ := hu'
  obtain ⟨k2, hv'⟩ := hv'
  obtain ⟨k3, hH'⟩ := hH'
  unfold I64 U64 at *
  unfold W128 I128 I64 U64
  refine ⟨fun h => ⟨hH, hs, ?_⟩, ?_⟩
  · omega
  · constructor
    · intro h; omega
    · intro h; omega

set_option maxRecDepth 100000 in
set_option maxHeartbeats 2000000 in
theorem wadd_any (ah al bh bl : Int) (a1 : I64 ah) (a2 : U64 al) (b1 : I64 bh) (b2 : U64 bl) (w : World) :
    Calls Tryd.prog 26 #[wv ah al, wv bh bl] w (GiveWB (ah * 18446744073709551616 + al + (bh * 18446744073709551616 + bl)) w) := by
  obtain ⟨s, c, hs, c0, c1, h1, A1⟩ := add64_ex al bl 0 a2 b2 (by omega) (by omega)
  obtain ⟨t, d, ht, d0, d1, h2, A2⟩ := add64_ex (IntKind.u64.wrap ah) (IntKind.u64.wrap bh) c (wrap_u64_in _) (wrap_u64_in _) c0 c1
  have HL := Lib.hid (wadd_law a1 a2 b1 b2 hs h1.out c0 c1 (wrap_u64_in _) (wrap_u64_mod _) (wrap_u64_in _) (wrap_u64_mod _) ht h2.out d0 d1 (wrap64_in64 t) (wrap64_mod t))
  clear h1 h2
  rcases Decidable.em (ah < 0) with ha | ha <;> rcases Decidable.em (bh < 0) with hb | hb <;> rcases Decidable.em (wrap64 t < 0) with hh | hh
  all_goals
    go_enter Tryd.func26, Tryd.ntmps26
    go_wp2
    first
    | (refine bodyPost_ret (v := .tuple #[wv (wrap64 t) s, .bool true]) (by unfold results; simp only [Tryd.results26]; go_simp) rfl ⟨_, _, _, rfl, ?_, .inl ⟨HL.out.2.2 (by omega), rfl, HL.out.1 (HL.out.2.2 (by omega))⟩⟩
       repeat (first | exact Below.refl _ _ | apply below_new))
    | (refine bodyPost_ret (v := .tuple #[wv 0 0, .bool false]) (by unfold results; simp only [Tryd.results26]; go_simp) rfl ⟨_, _, _, rfl, ?_, .inr ⟨fun h => HL.out.2.1 h (by omega), rfl, rfl, rfl⟩⟩
       repeat (first | exact Below.refl _ _ | apply below_new))

end Go.Proofs.YthdbchghhpoadaaDoor

set_option linter.unusedVariables false
namespace Go.Proofs.YthdbchghhpoadaaDoor
open Go.RowKit

theorem wadd (x y ah al bh bl : Int) (hx : W128 x ah al) (hy : W128 y bh bl) (w : World) : Calls Tryd.prog 26 #[wv ah al, wv bh bl] w (GiveWB (x + y) w) := by
  obtain ⟨a1, a2, rfl⟩ := hx
  obtain ⟨b1, b2, rfl⟩ := hy
  exact wadd_any ah al bh bl a1 a2 b1 b2 w

theorem wsub_law {ah al bh bl s c t d u v H : Int} (a1 : I64 ah) (a2 : U64 al) (b1 : I64 bh) (b2 : U64 bl) (hs : U64 s) (h1 : s - c * 18446744073709551616 = al - bl - 0) (c0 : 0 ≤ c) (c1 : c ≤ 1)
    (hu : U64 u) (hu' : ∃ k : Int, u = ah + 18446744073709551616 * k) (hv : U64 v) (hv' : ∃ k : Int, v = bh + 18446744073709551616 * k) (ht : U64 t) (h2 : t - d * 18446744073709551616 = u - v - c) (d0 : 0 ≤ d) (d1 : d ≤ 1)
    (hH : I64 H) (hH' : ∃ k : Int, H = t + 18446744073709551616 * k) :
    (I128 (ah * 18446744073709551616 + al - (bh * 18446744073709551616 + bl)) → W128 (ah * 18446744073709551616 + al - (bh * 18446744073709551616 + bl)) H s) ∧
    (I128 (ah * 18446744073709551616 + al - (bh * 18446744073709551616 + bl)) ↔ ¬ (¬ (ah < 0 ↔ bh < 0) ∧ ¬ (H < 0 ↔ ah < 0))) := by
  obtain ⟨k1, hu'⟩ := hu'
  obtain ⟨k2, hv'⟩ := hv'
  obtain ⟨k3, hH'⟩ := hH'
  unfold I64 U64 at *
  unfold W128 I128 I64 U64
  refine ⟨fun h => ⟨hH, hs, ?_⟩, ?_⟩
  · omega
  · constructor
    · intro h; omega
    · intro h; omega

set_option maxRecDepth 100000 in
set_option maxHeartbeats 2000000 in
theorem wsub_any (ah al bh bl : Int) (a1 : I64 ah) (a2 : U64 al) (b1 : I64 bh) (b2 : U64 bl) (w : World) :
    Calls Tryd.prog 29 #[wv ah al, wv bh bl] w (GiveWB (ah * 18446744073709551616 + al - (bh * 18446744073709551616 + bl)) w) := by
  obtain ⟨s, c, hs, c0, c1, h1, A1⟩ := sub64_ex al bl 0 a2 b2 (by omega) (by omega)
  obtain ⟨t, d, ht, d0, d1, h2, A2⟩ := sub64_ex (IntKind.u64.wrap ah) (IntKind.u64.wrap bh) c (wrap_u64_in _) (wrap_u64_in _) c0 c1
  have HL := Lib.hid (wsub_law a1 a2 b1 b2 hs h1.out c0 c1 (wrap_u64_in _) (wrap_u64_mod _) (wrap_u64_in _) (wrap_u64_mod _) ht h2.out d0 d1 (wrap64_in64 t) (wrap64_mod t))
  clear h1 h2
  rcases Decidable.em (ah < 0) with ha | ha <;> rcases Decidable.em (bh < 0) with hb | hb <;> rcases Decidable.em (wrap64 t < 0) with hh | hh
  all_goals
    go_enter Tryd.func29, Tryd.ntmps29
    go_wp2
    first
    | (refine bodyPost_ret (v := .tuple #[wv (wrap64 t) s, .bool true]) (by unfold results; simp only [Tryd.results29]; go_simp) rfl ⟨_, _, _, rfl, ?_, .inl ⟨HL.out.2.2 (by omega), rfl, HL.out.1 (HL.out.2.2 (by omega))⟩⟩
       repeat (first | exact Below.refl _ _ | apply below_new))
    | (refine bodyPost_ret (v := .tuple #[wv 0 0, .bool false]) (by unfold results; simp only [Tryd.results29]; go_simp) rfl ⟨_, _, _, rfl, ?_, .inr ⟨fun h => HL.out.2.1 h (by omega), rfl, rfl, rfl⟩⟩
       repeat (first | exact Below.refl _ _ | apply below_new))

theorem wsub (x y ah al bh bl : Int) (hx : W128 x ah al) (hy : W128 y bh bl) (w : World) : Calls Tryd.prog 29 #[wv ah al, wv bh bl] w (GiveWB (x - y) w) := by
  obtain ⟨a1, a2, rfl⟩ := hx
  obtain ⟨b1, b2, rfl⟩ := hy
  exact wsub_any ah al bh bl a1 a2 b1 b2 w

theorem W128.zero : W128 0 0 0 := ⟨⟨by omega, by omega⟩, ⟨by omega, by omega⟩, by omega⟩
theorem below_set2 {w w1 : World} (h : Below w.heap.size w w1) {b : Nat} (hb : w.heap.size ≤ b) (u v : Value) : Below w.heap.size w ((w1.setCell ⟨b, 0, none⟩ u).setCell ⟨b, 1, none⟩ v) := below_set (below_set h hb u) hb v

theorem wneg (x ah al : Int) (hx : W128 x ah al) (w : World) : Calls Tryd.prog 50 #[wv ah al] w (GiveWB (-x) w) := by
  have C := Lib.hid (fun w => wsub 0 x 0 0 ah al W128.zero hx w)
  rw [Int.zero_sub] at C
  clear hx
  go_enter Tryd.func50, Tryd.ntmps50
  go_wp2_with fail
  have BB := start2 w #[.int .i64 ah, .int .u64 al] 46 #[.int .i64 0, .int .u64 0] 46
  obtain ⟨BB, hsz, r_a, r_res⟩ := BB
  generalize ((w.alloc (.cells #[.int .i64 ah, .int .u64 al] 46)).alloc (.cells #[.int .i64 0, .int .u64 0] 46)) = w0 at *
  replace BB := Lib.hid BB
  replace r_a := Lib.hid r_a
  replace r_res := Lib.hid r_res
  clear hsz
  obtain ⟨c_a0, c_a1, f_a0, f_a1⟩ := reads2 r_a.out
  have l_a := r_a.out.lt
  go_wp2_with fail
  refine (C.out _).mono ?_
  rintro e w1 ⟨hi, lo, ok, rfl, hb, h1⟩
  clear c_a0 c_a1 f_a0 f_a1 l_a
  replace r_a := Lib.hid (r_a.out.keep hb)
  replace r_res := Lib.hid (r_res.out.keep hb)
  replace BB := Lib.hid (below_next BB.out hb)
  clear hb
  obtain ⟨c_res0, c_res1, f_res0, f_res1⟩ := reads2 r_res.out
  have l_res := r_res.out.lt
  go_wp2_with fail
  exact bodyPost_ret (v := .tuple #[wv hi lo, .bool ok]) (by unfold results; simp only [Tryd.results50]; go_simp) rfl ⟨_, _, _, rfl, below_set2 BB.out (by omega) _ _, h1⟩

/-- What of a number of 64 bits is laid. -/
def ofHi (x : Int) : Int := if x < 0 then -1 else 0
def ofLo (x : Int) : Int := x % 18446744073709551616
theorem of_w128 {x : Int} (h : I64 x) : W128 x (ofHi x) (ofLo x) := by
  unfold I64 at h; unfold W128 ofHi ofLo I64 U64; split <;> omega
theorem wof_any (x : Int) (h : I64 x) (w : World) : Calls Tryd.prog 27 #[.int .i64 x] w fun e w' => e = .returned (wv (ofHi x) (ofLo x)) ∧ Below w.heap.size w w' := by
  have E1 : Hid (x / 9223372036854775808 = ofHi x) := by show _ = _; unfold ofHi; unfold I64 at h; split <;> omega
  have E2 : Hid (IntKind.u64.wrap x = ofLo x) := IntKind.wrap_u64 x
  obtain ⟨h0, h1⟩ := h
  go_enter Tryd.func27, Tryd.ntmps27
  go_wp2
  rw [E1.out, E2.out]
  exact bodyPost_ret (v := wv (ofHi x) (ofLo x)) (by unfold results; simp only [Tryd.results27]; go_simp) rfl ⟨rfl, below_new (Below.refl _ _) _⟩
theorem wof (x : Int) (h : I64 x) (w : World) : Calls Tryd.prog 27 #[.int .i64 x] w (GiveW x w) := (wof_any x h w).mono fun e w' ⟨h1, h2⟩ => ⟨_, _, h1, h2, of_w128 h⟩

theorem W128.cmp {x y ah al bh bl : Int} (hx : W128 x ah al) (hy : W128 y bh bl) : (x < y ↔ (ah < bh ∨ ah = bh ∧ al < bl)) ∧ (x = y ↔ ah = bh ∧ al = bl) := by
  unfold W128 I64 U64 at *; omega
end Go.Proofs.YthdbchghhpoadaaDoor

set_option linter.unusedVariables false
namespace Go.Proofs.YthdbchghhpoadaaDoor
open Go.RowKit

theorem two_64 : (2 : Int) ^ 64 = 18446744073709551616 := by decide
end Go.Proofs.YthdbchghhpoadaaDoor

set_option linter.unusedVariables false
namespace Go.Proofs.YthdbchghhpoadaaDoor
open Go.RowKit

theorem fits_128 {z : Int} : fitsB z 127 = true ↔ I128 z := by
  unfold fitsB I128
  rw [show (2 : Int) ^ 127 = 170141183460469231731687303715884105728 by decide]
  simp; omega
theorem fits_128f {z : Int} (h : ¬ I128 z) : fitsB z 127 = false := by
  cases hb : fitsB z 127
  · rfl
  · exact absurd (fits_128.1 hb) h
theorem i128_wd {z : Int} (h : I128 z) : Wd 127 z := by
  unfold Wd; rw [show (2 : Int) ^ 127 = 170141183460469231731687303715884105728 by decide]; unfold I128 at h; omega

end Go.Proofs.YthdbchghhpoadaaDoor

set_option linter.unusedVariables false
namespace Go.Proofs.YthdbchghhpoadaaDoor
open Go.RowKit

def fitX (z : Int) : Int := if fitsB z 63 then z else 0
theorem fits_63 {z : Int} : fitsB z 63 = true ↔ I64 z := by
  unfold fitsB I64
  have : (2 : Int) ^ 63 = 9223372036854775808 := by decide
  simp; omega
theorem wrap_lo {z ah al : Int} (hz : W128 z ah al) (h : I64 z) : wrap64 al = z := by
  obtain ⟨a1, a2, h3⟩ := hz
  unfold wrap64 I64 U64 at *; omega

theorem ret_i64bool {a b : Int} {c d : Bool} (h : a = b) (h' : c = d) : Ending.returned (.tuple #[.int .i64 a, .bool c]) = .returned (.tuple #[.int .i64 b, .bool d]) := by rw [h, h']
set_option maxRecDepth 100000 in
set_option maxHeartbeats 1000000 in
theorem wfits (z ah al : Int) (hz : W128 z ah al) (w : World) : Calls Tryd.prog 28 #[wv ah al] w fun e w' => e = .returned (.tuple #[.int .i64 (fitX z), .bool (fitsB z 63)]) ∧ Below w.heap.size w w' := by
  have hx := wrap64_in64 al
  have CW := Lib.hid (fun w => wof_any (wrap64 al) hx w)
  have ho := of_w128 hx
  have HF : Hid (fitsB z 63 = true ↔ ofHi (wrap64 al) = ah ∧ ofLo (wrap64 al) = al) := by
    refine fits_63.trans ⟨fun h => ?_, fun h => ?_⟩
    · have e := wrap_lo hz h
      exact (W128.cmp ho hz).2.1 e
    · have e := (W128.cmp ho hz).2.2 h
      rw [← e]; exact hx
  have HZ := Lib.hid (wrap_lo hz)
  have HG := Lib.hid (fun h => HZ.out (fits_63.1 h))
  clear HZ hx hz ho
  generalize ofHi (wrap64 al) = oh at *
  generalize ofLo (wrap64 al) = ol at *
  go_enter Tryd.func28, Tryd.ntmps28
  go_wp2_with fail
  have BB := start1 w #[.int .i64 ah, .int .u64 al] 46
  obtain ⟨BB, hsz, r_a⟩ := BB
  generalize (w.alloc (.cells #[.int .i64 ah, .int .u64 al] 46)) = w0 at *
  replace BB := Lib.hid BB
  replace r_a := Lib.hid r_a
  clear hsz
  obtain ⟨c_a0, c_a1, f_a0, f_a1⟩ := reads2 r_a.out
  have l_a := r_a.out.lt
  go_wp2_with fail
  generalize hxx : wrap64 al = x at *
  replace hxx := Lib.hid hxx
  by_cases h1 : oh = ah
  · by_cases h2 : ol = al
    · have hf := HF.out.2 ⟨h1, h2⟩
      have hz := HG.out hf
      clear HF HG hxx
      subst hz
      obtain rfl := h1.symm; obtain rfl := h2.symm
      clear c_a0 c_a1 f_a0 f_a1 l_a
      have KK := Lib.hid (fun (w9 : World) (h : Below w0.heap.size w0 w9) => (cells2 (r_a.out.keep h) : (w9.cell? ⟨w.heap.size, 0, none⟩ = some (.int .i64 ah) ∧ w9.cell? ⟨w.heap.size, 1, none⟩ = some (.int .u64 al))))
      have K0 := KK.out w0 (Below.refl _ _)
      have KD := KK.out w0.drew (below_drew (Below.refl _ _))
      go_region_held3 (fun w9 => (w9.cell? ⟨w.heap.size, 0, none⟩ = some (.int .i64 ah) ∧ w9.cell? ⟨w.heap.size, 1, none⟩ = some (.int .u64 al)))
          (first | with_reducible exact KD | with_reducible exact K0 | with_reducible exact K_w1)
          (first
            | (go_at_call 27
               refine (CW.out _).mono ?_
               rintro e w1 ⟨rfl, hb⟩
               have B_w1 := Lib.hid (reg_next (w0 := w0) (by repeat (first | with_reducible exact Below.refl _ _ | with_reducible apply below_drew | with_reducible apply below_new)) hb)
               have K_w1 := KK.out _ B_w1.out
               clear hb))
      clear KK K0 KD K_w1
      replace r_a := Lib.hid (r_a.out.keep B_w1.out)
      replace BB := Lib.hid (below_next BB.out B_w1.out)
      clear B_w1
      go_wp2_with fail
      go_ret2
      exact ⟨ret_i64bool (by unfold fitX; rw [hf]; rfl) hf.symm, BB.out⟩
    · have hf : fitsB z 63 = false := by rw [← Bool.not_eq_true, HF.out]; exact fun h => h2 h.2
      clear HF HG hxx
      obtain rfl := h1.symm
      have h3 : (ol == al) = false := by simpa using h2
      clear h2
      clear c_a0 c_a1 f_a0 f_a1 l_a
      have KK := Lib.hid (fun (w9 : World) (h : Below w0.heap.size w0 w9) => (cells2 (r_a.out.keep h) : (w9.cell? ⟨w.heap.size, 0, none⟩ = some (.int .i64 ah) ∧ w9.cell? ⟨w.heap.size, 1, none⟩ = some (.int .u64 al))))
      have K0 := KK.out w0 (Below.refl _ _)
      have KD := KK.out w0.drew (below_drew (Below.refl _ _))
      go_region_held3 (fun w9 => (w9.cell? ⟨w.heap.size, 0, none⟩ = some (.int .i64 ah) ∧ w9.cell? ⟨w.heap.size, 1, none⟩ = some (.int .u64 al)))
          (first | with_reducible exact KD | with_reducible exact K0 | with_reducible exact K_w1)
          (first
            | (go_at_call 27
               refine (CW.out _).mono ?_
               rintro e w1 ⟨rfl, hb⟩
               have B_w1 := Lib.hid (reg_next (w0 := w0) (by repeat (first | with_reducible exact Below.refl _ _ | with_reducible apply below_drew | with_reducible apply below_new)) hb)
               have K_w1 := KK.out _ B_w1.out
               clear hb))
      clear KK K0 KD K_w1
      replace r_a := Lib.hid (r_a.out.keep B_w1.out)
      replace BB := Lib.hid (below_next BB.out B_w1.out)
      clear B_w1
      go_wp2_with fail
      go_ret2
      exact ⟨ret_i64bool (by unfold fitX; rw [hf]; rfl) hf.symm, BB.out⟩
  · have hf : fitsB z 63 = false := by rw [← Bool.not_eq_true, HF.out]; exact fun h => h1 h.1
    clear HF HG hxx
    have h3 : (oh == ah) = false := by simpa using h1
    clear h1
    clear c_a0 c_a1 f_a0 f_a1 l_a
    have KK := Lib.hid (fun (w9 : World) (h : Below w0.heap.size w0 w9) => (cells2 (r_a.out.keep h) : (w9.cell? ⟨w.heap.size, 0, none⟩ = some (.int .i64 ah) ∧ w9.cell? ⟨w.heap.size, 1, none⟩ = some (.int .u64 al))))
    have K0 := KK.out w0 (Below.refl _ _)
    have KD := KK.out w0.drew (below_drew (Below.refl _ _))
    go_region_held3 (fun w9 => (w9.cell? ⟨w.heap.size, 0, none⟩ = some (.int .i64 ah) ∧ w9.cell? ⟨w.heap.size, 1, none⟩ = some (.int .u64 al)))
        (first | with_reducible exact KD | with_reducible exact K0 | with_reducible exact K_w1)
        (first
          | (go_at_call 27
             refine (CW.out _).mono ?_
             rintro e w1 ⟨rfl, hb⟩
             have B_w1 := Lib.hid (reg_next (w0 := w0) (by repeat (first | with_reducible exact Below.refl _ _ | with_reducible apply below_drew | with_reducible apply below_new)) hb)
             have K_w1 := KK.out _ B_w1.out
             clear hb))
    clear KK K0 KD K_w1
    replace r_a := Lib.hid (r_a.out.keep B_w1.out)
    replace BB := Lib.hid (below_next BB.out B_w1.out)
    clear B_w1
    go_wp2_with fail
    go_ret2
    exact ⟨ret_i64bool (by unfold fitX; rw [hf]; rfl) hf.symm, BB.out⟩

end Go.Proofs.YthdbchghhpoadaaDoor
