/- Parts of the proof: JC Own. -/
import Derived.Test.YtikpobembcgbfaaGreatDoorQ05
import Derived.Test.YtikpobembcgbfaaGreatDoorQ02
set_option linter.unusedVariables false
set_option linter.unusedSimpArgs false
set_option maxRecDepth 100000
set_option maxHeartbeats 40000000
namespace Go.Proofs.YtikpobembcgbfaaGreatDoor
open Go.RowKit
/-- A block as it was laid. -/
def AtB (w : World) (g : Nat) (cs : Array Value) (T : TypeId) : Prop := w.heap[g]? = some (.cells cs T (0, 0))
theorem AtB.lt {w : World} {g : Nat} {cs : Array Value} {T : TypeId} (h : AtB w g cs T) : g < w.heap.size := heap_lt h
theorem AtB.keep {w w1 : World} {g : Nat} {cs : Array Value} {T : TypeId} (h : AtB w g cs T) (hb : Below w.heap.size w w1) : AtB w1 g cs T := (hb.block _ h.lt).trans h
theorem AtB.cell {w : World} {g : Nat} {cs : Array Value} {T : TypeId} (h : AtB w g cs T) (i : Nat) {v : Value} (hv : cs[i]? = some v) : w.cell? ⟨g, i, none⟩ = some v := by
 have h' : w.heap[g]? = some (.cells cs T (0, 0)) := h
 simp [World.cell?, h', hv]
theorem AtB.fr {w : World} {g : Nat} {cs : Array Value} {T : TypeId} (h : AtB w g cs T) (i : Nat) : w.frozen? ⟨g, i, none⟩ = false := by
 have h' : w.heap[g]? = some (.cells cs T (0, 0)) := h
 simp [World.frozen?, h']
theorem AtB.heap {w : World} {g : Nat} {cs : Array Value} {T : TypeId} (h : AtB w g cs T) : w.heap[g]? = some (.cells cs T (0, 0)) := h
theorem new_at (w : World) (cs : Array Value) (T : TypeId) : AtB (w.alloc (.cells cs T)) w.heap.size cs T := heap_new w _
theorem start1 (w : World) (c1 : Array Value) (T1 : TypeId) : Below w.heap.size w (w.alloc (.cells c1 T1)) ∧ (w.alloc (.cells c1 T1)).heap.size = w.heap.size + 1 ∧ AtB (w.alloc (.cells c1 T1)) w.heap.size c1 T1 :=
 ⟨below_new (Below.refl _ _) _, by simp, new_at w _ _⟩
theorem start2 (w : World) (c1 : Array Value) (T1 : TypeId) (c2 : Array Value) (T2 : TypeId) : Below w.heap.size w ((w.alloc (.cells c1 T1)).alloc (.cells c2 T2)) ∧ ((w.alloc (.cells c1 T1)).alloc (.cells c2 T2)).heap.size = w.heap.size + 2 ∧ AtB ((w.alloc (.cells c1 T1)).alloc (.cells c2 T2)) w.heap.size c1 T1 ∧ AtB ((w.alloc (.cells c1 T1)).alloc (.cells c2 T2)) (w.heap.size + 1) c2 T2 := by
 obtain ⟨h1, h2, h3⟩ := start1 w c1 T1
 have hb := below_new (w := w.alloc (.cells c1 T1)) (Below.refl _ _) (.cells c2 T2)
 exact ⟨below_next h1 hb, by simp, h3.keep hb, by simpa using new_at (w.alloc (.cells c1 T1)) c2 T2⟩
theorem laid (w : World) (cs : Array Value) (T : TypeId) : Below w.heap.size w (w.alloc (.cells cs T)) ∧ AtB (w.alloc (.cells cs T)) w.heap.size cs T :=
 ⟨below_new (Below.refl _ _) _, heap_new w _⟩
theorem reads1 {w : World} {g : Nat} {a : Value} {T : TypeId} (h : AtB w g #[a] T) : w.cell? ⟨g, 0, none⟩ = some a ∧ w.frozen? ⟨g, 0, none⟩ = false := ⟨h.cell 0 rfl, h.fr 0⟩
theorem reads2 {w : World} {g : Nat} {a b : Value} {T : TypeId} (h : AtB w g #[a, b] T) :
 w.cell? ⟨g, 0, none⟩ = some a ∧ w.cell? ⟨g, 1, none⟩ = some b ∧ w.frozen? ⟨g, 0, none⟩ = false ∧ w.frozen? ⟨g, 1, none⟩ = false := ⟨h.cell 0 rfl, h.cell 1 rfl, h.fr 0, h.fr 1⟩
theorem reads3 {w : World} {g : Nat} {a b c : Value} {T : TypeId} (h : AtB w g #[a, b, c] T) :
 w.cell? ⟨g, 0, none⟩ = some a ∧ w.cell? ⟨g, 1, none⟩ = some b ∧ w.cell? ⟨g, 2, none⟩ = some c ∧ w.frozen? ⟨g, 0, none⟩ = false ∧ w.frozen? ⟨g, 1, none⟩ = false ∧ w.frozen? ⟨g, 2, none⟩ = false :=
 ⟨h.cell 0 rfl, h.cell 1 rfl, h.cell 2 rfl, h.fr 0, h.fr 1, h.fr 2⟩
theorem reads4 {w : World} {g : Nat} {a b c d : Value} {T : TypeId} (h : AtB w g #[a, b, c, d] T) :
 w.cell? ⟨g, 0, none⟩ = some a ∧ w.cell? ⟨g, 1, none⟩ = some b ∧ w.cell? ⟨g, 2, none⟩ = some c ∧ w.cell? ⟨g, 3, none⟩ = some d ∧ w.frozen? ⟨g, 0, none⟩ = false ∧ w.frozen? ⟨g, 1, none⟩ = false ∧ w.frozen? ⟨g, 2, none⟩ = false ∧ w.frozen? ⟨g, 3, none⟩ = false :=
 ⟨h.cell 0 rfl, h.cell 1 rfl, h.cell 2 rfl, h.cell 3 rfl, h.fr 0, h.fr 1, h.fr 2, h.fr 3⟩
theorem cells1 {w : World} {g : Nat} {a : Value} {T : TypeId} (h : AtB w g #[a] T) : w.cell? ⟨g, 0, none⟩ = some a := h.cell 0 rfl
theorem cells2 {w : World} {g : Nat} {a b : Value} {T : TypeId} (h : AtB w g #[a, b] T) : w.cell? ⟨g, 0, none⟩ = some a ∧ w.cell? ⟨g, 1, none⟩ = some b := ⟨h.cell 0 rfl, h.cell 1 rfl⟩
theorem cells3 {w : World} {g : Nat} {a b c : Value} {T : TypeId} (h : AtB w g #[a, b, c] T) : w.cell? ⟨g, 0, none⟩ = some a ∧ w.cell? ⟨g, 1, none⟩ = some b ∧ w.cell? ⟨g, 2, none⟩ = some c := ⟨h.cell 0 rfl, h.cell 1 rfl, h.cell 2 rfl⟩
theorem cells4 {w : World} {g : Nat} {a b c d : Value} {T : TypeId} (h : AtB w g #[a, b, c, d] T) : w.cell? ⟨g, 0, none⟩ = some a ∧ w.cell? ⟨g, 1, none⟩ = some b ∧ w.cell? ⟨g, 2, none⟩ = some c ∧ w.cell? ⟨g, 3, none⟩ = some d := ⟨h.cell 0 rfl, h.cell 1 rfl, h.cell 2 rfl, h.cell 3 rfl⟩
theorem reg_next {w0 w1 w2 : World} (h : Below w0.heap.size w0 w1) (h2 : Below w1.heap.size w1 w2) : Below w0.heap.size w0 w2 := below_next h h2
theorem BR.nr {w : World} {b : Bool} {s : Value} {z : Int} (h : BR w (.agg #[.bool b, s]) z) : NR w s (z.natAbs : Int) := by
 obtain ⟨s', e, h'⟩ := h
 simp at e
 rw [e.2]
 exact h'
/-- Two stores into a box: into it, beside it. -/
theorem AtB.set2 {w : World} {g : Nat} {a b : Value} {T : TypeId} (h : AtB w g #[a, b] T) (u v : Value) : AtB ((w.setCell ⟨g, 0, none⟩ u).setCell ⟨g, 1, none⟩ v) g #[u, v] T := by
 have h1 := heap_set (heap_set h.heap u (o := 0)) v (o := 1)
 simpa [AtB] using h1
theorem AtB.far {w : World} {g p : Nat} {cs : Array Value} {T : TypeId} (h : AtB w g cs T) (hp : g ≠ p) (o : Nat) (u : Value) : AtB (w.setCell ⟨p, o, none⟩ u) g cs T :=
 (Below.heap_setCell w ⟨p, o, none⟩ u g hp).trans h
theorem AtB.far2 {w : World} {g p : Nat} {cs : Array Value} {T : TypeId} (h : AtB w g cs T) (hp : g ≠ p) (u v : Value) : AtB ((w.setCell ⟨p, 0, none⟩ u).setCell ⟨p, 1, none⟩ v) g cs T := (h.far hp 0 u).far hp 1 v
theorem BR.far2 {w : World} {v : Value} {z : Int} (h : BR w v z) {p : Nat} {a b : Value} {T : TypeId} (hp : AtB w p #[a, b] T) (ht : T ≠ 3) (u u' : Value) : BR ((w.setCell ⟨p, 0, none⟩ u).setCell ⟨p, 1, none⟩ u') v z := by
 obtain ⟨s, h1, h2⟩ := h
 exact ⟨s, h1, (h2.set_ hp.heap ht u).set_ (heap_set hp.heap u) ht u'⟩
theorem below_far2 {w w1 : World} {B : Nat} (h : Below B w w1) {p : Nat} (hp : B ≤ p) (u v : Value) : Below B w ((w1.setCell ⟨p, 0, none⟩ u).setCell ⟨p, 1, none⟩ v) := (h.setCell (p := ⟨p, 0, none⟩) hp u).setCell (p := ⟨p, 1, none⟩) hp v
theorem new_at_eq {w : World} {n : Nat} (hn : n = w.heap.size) (cs : Array Value) (T : TypeId) : AtB (w.alloc (.cells cs T)) n cs T := by subst hn; exact new_at w cs T
theorem AtB.alloc {w : World} {g : Nat} {cs : Array Value} {T : TypeId} (h : AtB w g cs T) (o : Obj) : AtB (w.alloc o) g cs T := h.keep (below_new (Below.refl _ _) o)
theorem AtB.drew {w : World} {g : Nat} {cs : Array Value} {T : TypeId} (h : AtB w g cs T) : AtB w.drew g cs T := h
theorem BR.alloc {w : World} {v : Value} {z : Int} (h : BR w v z) (o : Obj) : BR (w.alloc o) v z := h.below (below_new (Below.refl _ _) o)
theorem P2_100 : (2 : Int) ^ 1500 = P2 100 := by unfold P2; rw [show (32768 : Int) = 2 ^ 15 by decide, ← Int.pow_mul]
theorem big_huge : (2 : Int) ^ 1500 < HUGE := by rw [P2_100]; exact P2_lt_of (by omega)
theorem big_low : (2 : Int) ^ 1500 < P2 4999 := by rw [P2_100]; exact P2_lt_of (by omega)
/-- No further from 0 than 2^n. -/
def Wd (n : Nat) (z : Int) : Prop := -(2 : Int) ^ n ≤ z ∧ z ≤ (2 : Int) ^ n
theorem two_le {m n : Nat} (h : m ≤ n) : (2 : Int) ^ m ≤ 2 ^ n := by
 have := Nat.pow_le_pow_right (n := 2) (by omega) h
 exact_mod_cast this
theorem two_pos (n : Nat) : (0 : Int) < 2 ^ n := Int.pow_pos (by omega)
theorem Wd.up {m n : Nat} {z : Int} (h : Wd m z) (hm : m ≤ n) : Wd n z := ⟨by have := two_le hm; have := h.1; omega, by have := two_le hm; have := h.2; omega⟩
theorem Wd.mid {n : Nat} {z : Int} (h : Wd n z) (hn : n ≤ 1500) : Mid z := by
 have := h.up hn; have := big_huge; exact ⟨by have := this; have := (h.up hn).1; omega, by have := (h.up hn).2; omega⟩
theorem Wd.low {n : Nat} {z : Int} (h : Wd n z) (hn : n ≤ 1500) : Low z := by
 have := big_low; exact ⟨by have := (h.up hn).1; omega, by have := (h.up hn).2; omega⟩
theorem Wd.abs {n : Nat} {z : Int} : Wd n z ↔ (z.natAbs : Int) ≤ 2 ^ n := by unfold Wd; constructor <;> intro h <;> omega
theorem i64_wd {z : Int} (h : I64 z) : Wd 63 z := by have h1 := h.1; have h2 := h.2; unfold Wd; omega
theorem i64_mid' {z : Int} (h : I64 z) : Mid z := (i64_wd h).mid (by omega)
theorem reads5 {w : World} {g : Nat} {v0 v1 v2 v3 v4 : Value} {T : TypeId} (h : AtB w g #[v0, v1, v2, v3, v4] T) : w.cell? ⟨g, 0, none⟩ = some v0 ∧ w.cell? ⟨g, 1, none⟩ = some v1 ∧ w.cell? ⟨g, 2, none⟩ = some v2 ∧ w.cell? ⟨g, 3, none⟩ = some v3 ∧ w.cell? ⟨g, 4, none⟩ = some v4 ∧ w.frozen? ⟨g, 0, none⟩ = false ∧ w.frozen? ⟨g, 1, none⟩ = false ∧ w.frozen? ⟨g, 2, none⟩ = false ∧ w.frozen? ⟨g, 3, none⟩ = false ∧ w.frozen? ⟨g, 4, none⟩ = false := ⟨h.cell 0 rfl, h.cell 1 rfl, h.cell 2 rfl, h.cell 3 rfl, h.cell 4 rfl, h.fr 0, h.fr 1, h.fr 2, h.fr 3, h.fr 4⟩
theorem cells5 {w : World} {g : Nat} {v0 v1 v2 v3 v4 : Value} {T : TypeId} (h : AtB w g #[v0, v1, v2, v3, v4] T) : w.cell? ⟨g, 0, none⟩ = some v0 ∧ w.cell? ⟨g, 1, none⟩ = some v1 ∧ w.cell? ⟨g, 2, none⟩ = some v2 ∧ w.cell? ⟨g, 3, none⟩ = some v3 ∧ w.cell? ⟨g, 4, none⟩ = some v4 := ⟨h.cell 0 rfl, h.cell 1 rfl, h.cell 2 rfl, h.cell 3 rfl, h.cell 4 rfl⟩
theorem reads7 {w : World} {g : Nat} {v0 v1 v2 v3 v4 v5 v6 : Value} {T : TypeId} (h : AtB w g #[v0, v1, v2, v3, v4, v5, v6] T) : w.cell? ⟨g, 0, none⟩ = some v0 ∧ w.cell? ⟨g, 1, none⟩ = some v1 ∧ w.cell? ⟨g, 2, none⟩ = some v2 ∧ w.cell? ⟨g, 3, none⟩ = some v3 ∧ w.cell? ⟨g, 4, none⟩ = some v4 ∧ w.cell? ⟨g, 5, none⟩ = some v5 ∧ w.cell? ⟨g, 6, none⟩ = some v6 ∧ w.frozen? ⟨g, 0, none⟩ = false ∧ w.frozen? ⟨g, 1, none⟩ = false ∧ w.frozen? ⟨g, 2, none⟩ = false ∧ w.frozen? ⟨g, 3, none⟩ = false ∧ w.frozen? ⟨g, 4, none⟩ = false ∧ w.frozen? ⟨g, 5, none⟩ = false ∧ w.frozen? ⟨g, 6, none⟩ = false := ⟨h.cell 0 rfl, h.cell 1 rfl, h.cell 2 rfl, h.cell 3 rfl, h.cell 4 rfl, h.cell 5 rfl, h.cell 6 rfl, h.fr 0, h.fr 1, h.fr 2, h.fr 3, h.fr 4, h.fr 5, h.fr 6⟩
def I128 (z : Int) : Prop := -170141183460469231731687303715884105728 ≤ z ∧ z ≤ 170141183460469231731687303715884105727
/-- Two halves of a number. -/
def W128 (z hi lo : Int) : Prop := I64 hi ∧ U64 lo ∧ hi * 18446744073709551616 + lo = z
/-- What is told of a number: its halves and true, or noughts and false. -/
def WB (z hi lo : Int) (ok : Bool) : Prop := (I128 z ∧ ok = true ∧ W128 z hi lo) ∨ (¬ I128 z ∧ ok = false ∧ hi = 0 ∧ lo = 0)
theorem own_form {w : World} {base : Nat} {e : TypeId} {sz n : Nat} {v : Value} {xs : List Value} (h : w.ownsRow base e sz v n xs) : ∃ A cap, v = .slice A n cap := by
 rcases h.2 with ⟨rfl, rfl⟩ | ⟨g, cap, cur, rfl, _⟩
 · exact ⟨_, _, rfl⟩
 · exact ⟨_, _, rfl⟩
theorem own_below {w w1 : World} {base : Nat} {e : TypeId} {sz n : Nat} {v : Value} {xs : List Value} (h : w.ownsRow base e sz v n xs) (hb : Below w.heap.size w w1) : w1.ownsRow base e sz v n xs := by
 refine ⟨h.1, ?_⟩
 rcases h.2 with h | ⟨g, cap, cur, rfl, h1, h2, h3⟩
 · exact .inl h
 · exact .inr ⟨g, cap, cur, rfl, h1, (hb.block _ (heap_lt h2)).trans h2, h3⟩
theorem one_new_at (w : World) (x : Value) (t : TypeId) {n : Nat} (hn : n = w.heap.size) : ∀ j u, [x][j]? = some u → (w.alloc (.cells #[x] t)).cell? ((⟨n, 0, none⟩ : Addr).add j) = some u := by
 subst hn; exact one_new w x t
theorem le_below {w w1 : World} {n : Nat} (h : n ≤ w.heap.size) (hb : Below w.heap.size w w1) : n ≤ w1.heap.size := Nat.le_trans h hb.size
end Go.Proofs.YtikpobembcgbfaaGreatDoor
