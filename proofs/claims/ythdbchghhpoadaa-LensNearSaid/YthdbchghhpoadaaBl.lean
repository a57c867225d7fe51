/- Rows of the document's numbers ([]Big), built by append. -/
import Derived.Test.YthdbchghhpoadaaWMixR
import Derived.Test.YthdbchghhpoadaaBoxS
set_option linter.unusedVariables false
set_option linter.unusedSimpArgs false
namespace Go.Proofs.Ythdbchghhpoadaa
open Go.RowKit
/-- The cells of a row of numbers, each with its digits' slice. -/
def bcells : List (Int × Value) → List Value
  | [] => []
  | p :: L => .bool (sgn p.1) :: p.2 :: bcells L
theorem bcells_len : ∀ L : List (Int × Value), (bcells L).length = L.length * 2
  | [] => rfl
  | p :: L => by simp only [bcells, List.length_cons, bcells_len L]; omega
theorem bcells_app : ∀ (L : List (Int × Value)) (p : Int × Value), bcells (L ++ [p]) = bcells L ++ [.bool (sgn p.1), p.2]
  | [], p => rfl
  | q :: L, p => by simp only [List.cons_append, bcells, bcells_app L p]
theorem bcells_at : ∀ (L : List (Int × Value)) (i : Nat) (hi : i < L.length), (bcells L)[2 * i]? = some (.bool (sgn (L[i]).1)) ∧ (bcells L)[2 * i + 1]? = some (L[i]).2
  | [], i, hi => absurd hi (by simp)
  | p :: L, 0, hi => ⟨rfl, rfl⟩
  | p :: L, i + 1, hi => by
    have h := bcells_at L i (by simpa using hi)
    exact h
/-- A row of numbers that is one's own from base on. -/
def BLp (w : World) (base : Nat) (v : Value) (L : List (Int × Value)) : Prop := w.ownsRow base BT 2 v L.length (bcells L) ∧ ∀ p ∈ L, BR w (.agg #[.bool (sgn p.1), p.2]) p.1
def BL (w : World) (base : Nat) (v : Value) (zs : List Int) : Prop := ∃ L, L.map Prod.fst = zs ∧ BLp w base v L
theorem own_keep2 {w w1 : World} {base n : Nat} {e : TypeId} {size : Nat} {v : Value} {xs : List Value} (h : w.ownsRow base e size v n xs) (hb : Below w.heap.size w w1) : w1.ownsRow base e size v n xs := by
  obtain ⟨h1, h2⟩ := h
  rcases h2 with h0 | ⟨g, cap, cur, hv, hg, hh, hn, hcap, hsz, htake⟩
  · exact ⟨h1, .inl h0⟩
  · exact ⟨h1, .inr ⟨g, cap, cur, hv, hg, (hb.block g (Array.getElem?_eq_some_iff.1 hh).1).trans hh, hn, hcap, hsz, htake⟩⟩
theorem BL.below {w w1 : World} {base : Nat} {v : Value} {zs : List Int} (h : BL w base v zs) (hb : Below w.heap.size w w1) : BL w1 base v zs := by
  obtain ⟨L, e, h1, h2⟩ := h
  exact ⟨L, e, own_keep2 h1 hb, fun p hp => (h2 p hp).below hb⟩
theorem BL.mono {w : World} {base b2 : Nat} {v : Value} {zs : List Int} (h : BL w base v zs) (hb : b2 ≤ base) : BL w b2 v zs := by
  obtain ⟨L, e, ⟨h1, h2⟩, h3⟩ := h
  refine ⟨L, e, ⟨h1, ?_⟩, h3⟩
  rcases h2 with h0 | ⟨g, cap, cur, hv, hg, r⟩
  · exact .inl h0
  · exact .inr ⟨g, cap, cur, hv, by omega, r⟩
theorem BL.nil (w : World) (base : Nat) : BL w base (.slice none 0 0) [] := ⟨[], rfl, World.ownsRow_nil _ _ _ _, fun p hp => by cases hp⟩
/-- A number outlives what is appended to a row that holds no digits. -/
theorem DR.app {w w8 : World} {s : Value} {ds : List Int} {base n : Nat} {e : TypeId} {sz : Nat} {v : Value} {xs : List Value} {o : Obj} (h : DR w s ds) (hl : w.ownsRow base e sz v n xs) (he : e ≠ 3) (hg : (w.alloc o).grownBy w8 v.ownBlock) : DR w8 s ds := by
  rcases h with h | ⟨b, off, cap, h1, h2, ⟨cur, fr, h3⟩, h4⟩
  · exact .inl h
  · have hlt := heap_lt h3
    have hne : some b ≠ v.ownBlock := by
      intro eb
      rcases hl.2 with ⟨rfl, -⟩ | ⟨g, cap', cur', rfl, -, hh, -⟩
      · simp [Value.ownBlock] at eb
      · simp only [Value.ownBlock, Option.some.injEq] at eb
        subst eb
        rw [h3] at hh
        simp only [Option.some.injEq, Obj.cells.injEq] at hh
        exact he hh.2.1.symm
    have hk : w8.heap[b]? = w.heap[b]? := by
      rw [hg.block b (by simp; omega) hne]
      show (w.heap.push o)[b]? = _
      rw [Array.getElem?_push, if_neg (by omega)]
    refine .inr ⟨b, off, cap, h1, h2, ⟨cur, fr, hk.trans h3⟩, fun i hi => ?_⟩
    rw [← h4 i hi]
    simp only [World.cell?]
    rw [hk]
theorem BR.app {w w8 : World} {u : Value} {z : Int} {base n : Nat} {e : TypeId} {sz : Nat} {v : Value} {xs : List Value} {o : Obj} (h : BR w u z) (hl : w.ownsRow base e sz v n xs) (he : e ≠ 3) (hg : (w.alloc o).grownBy w8 v.ownBlock) : BR w8 u z := by
  obtain ⟨s, h1, ds, h2, h3⟩ := h
  exact ⟨s, h1, ds, h2.app hl he hg, h3⟩
theorem BLp.app {w w8 : World} {base : Nat} {v v' s : Value} {L : List (Int × Value)} {z : Int} {o : Obj} (h : BLp w base v L) (hx : BR w (.agg #[.bool (sgn z), s]) z) (hown : w8.ownsRow base BT 2 v' (L.length + 1) (bcells L ++ [.bool (sgn z), s])) (hg : (w.alloc o).grownBy w8 v.ownBlock) : BLp w8 base v' (L ++ [(z, s)]) := by
  refine ⟨by rw [bcells_app, List.length_append, List.length_singleton]; exact hown, fun p hp => ?_⟩
  rw [List.mem_append, List.mem_singleton] at hp
  rcases hp with hp | rfl
  · exact (h.2 p hp).app h.1 (by decide) hg
  · exact hx.app h.1 (by decide) hg
theorem BL.len {w : World} {base : Nat} {v : Value} {zs : List Int} (h : BL w base v zs) : ∃ A cap, v = .slice A zs.length cap := by
  obtain ⟨L, rfl, ⟨-, h2⟩, -⟩ := h
  rcases h2 with ⟨rfl, hn⟩ | ⟨g, cap, cur, rfl, -⟩
  · exact ⟨none, 0, by simp at hn; simp [hn]⟩
  · exact ⟨some ⟨g, 0, none⟩, cap, by simp⟩
/-- A number of a row, read. -/
theorem BL.at_ {w : World} {base : Nat} {v : Value} {zs : List Int} (h : BL w base v zs) {i : Nat} (hi : i < zs.length) : ∃ g cap A n c, v = .slice (some ⟨g, 0, none⟩) zs.length cap ∧ g < w.heap.size ∧ zs.length ≤ cap ∧
    w.cell? ⟨g, 2 * i, none⟩ = some (.bool (sgn (zs.getD i 0))) ∧ w.cell? ⟨g, 2 * i + 1, none⟩ = some (.slice A n c) ∧ BR w (.agg #[.bool (sgn (zs.getD i 0)), .slice A n c]) (zs.getD i 0) := by
  obtain ⟨L, rfl, ⟨h1, h2⟩, h3⟩ := h
  have hL : i < L.length := by simpa using hi
  rcases h2 with ⟨-, hn⟩ | ⟨g, cap, cur, rfl, -, hh, hn, hcap, hsz, htake⟩
  · omega
  · have e : (L.map Prod.fst).getD i 0 = (L[i]).1 := by simp [List.getD, hL]
    have hb := h3 (L[i]) (List.getElem_mem hL)
    obtain ⟨A, n, c, e2, -⟩ := hb.form
    simp only [Value.agg.injEq] at e2
    have e3 : (L[i]).2 = .slice A n c := by simpa using e2
    obtain ⟨c1, c2⟩ := bcells_at L i hL
    have hc : ∀ j, j < L.length * 2 → w.cell? ⟨g, j, none⟩ = (bcells L)[j]? := fun j hj => by
      have k1 : (cur.toList.take (L.length * 2))[j]? = (bcells L)[j]? := by rw [htake]
      rw [List.getElem?_take, if_pos hj] at k1
      have k2 : cur[j]? = (bcells L)[j]? := by simpa using k1
      simp [World.cell?, hh, k2]
    refine ⟨g, cap, A, n, c, by simp, (Array.getElem?_eq_some_iff.1 hh).1, by simpa using hn, ?_, ?_, ?_⟩
    · rw [hc _ (by omega), c1, e]
    · rw [hc _ (by omega), c2, e3]
    · rw [e, ← e3]; exact hb
theorem info_big : (Try.prog.info? BT).map (fun i => (i.zero, i.size, i.bytes)) = some (some (.agg #[.bool false, .slice none 0 0]), 2, 32) := by kernel_rfl
theorem two_new (w : World) (a b : Value) (t : TypeId) : ∀ j u, [a, b][j]? = some u → (w.alloc (.cells #[a, b] t)).cell? ((⟨w.heap.size, 0, none⟩ : Addr).add j) = some u := by
  intro j u hj
  have h : AtB (w.alloc (.cells #[a, b] t)) w.heap.size #[a, b] t := new_at w _ _
  match j, hj with
  | 0, hj => simp at hj; subst hj; exact h.cell 0 rfl
  | 1, hj => simp at hj; subst hj; exact h.cell 1 rfl
  | n + 2, hj => simp at hj
theorem two_cell (b : Bool) (A : Option Addr) (n cap : Nat) : ∀ u ∈ [Value.bool b, .slice A n cap], u.oneCell' = true := by
  intro u hu
  simp only [List.mem_cons, List.not_mem_nil, or_false] at hu
  rcases hu with rfl | rfl <;> rfl
end Go.Proofs.Ythdbchghhpoadaa
