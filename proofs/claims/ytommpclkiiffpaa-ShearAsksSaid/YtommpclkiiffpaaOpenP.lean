/- Rows of three int64 each: how they read, how such an argument is opened. -/
import Derived.Test.YtommpclkiiffpaaOpenS
import Derived.Test.YtommpclkiiffpaaOpen
import Derived.Deep.Slices
namespace Go.Proofs.Ytommpclkiiffpaa
open Go.ChangeShapes Go.WideShapes Go.ChangeAt Go.RowKit Go.Deep

abbrev P3 := Int × Int × Int
/-- A slice that reads as the triples ps. -/
def PS (w : World) (v : Value) (ps : List P3) : Prop := ∃ A cap, v = .slice A ps.length cap ∧ ps.length ≤ cap ∧ (cap : Int) ≤ 9223372036854775807 ∧ (∀ p ∈ ps, I64 p.1 ∧ I64 p.2.1 ∧ I64 p.2.2) ∧
  (ps ≠ [] → ∃ b off, A = some ⟨b, off, none⟩ ∧ b < w.heap.size ∧ ∀ i, i < ps.length → w.cell? ⟨b, off + i * 3, none⟩ = some (.int .i64 (ps.getD i (0, 0, 0)).1) ∧ w.cell? ⟨b, off + i * 3 + 1, none⟩ = some (.int .i64 (ps.getD i (0, 0, 0)).2.1) ∧ w.cell? ⟨b, off + i * 3 + 2, none⟩ = some (.int .i64 (ps.getD i (0, 0, 0)).2.2))
theorem PS.below {w w1 : World} {v : Value} {ps : List P3} (h : PS w v ps) (hb : Below w.heap.size w w1) : PS w1 v ps := by
  obtain ⟨A, cap, rfl, h1, h2, h3, h4⟩ := h
  refine ⟨A, cap, rfl, h1, h2, h3, fun hz => ?_⟩
  obtain ⟨b, off, rfl, hlt, hc⟩ := h4 hz
  refine ⟨b, off, rfl, Nat.lt_of_lt_of_le hlt hb.size, fun i hi => ?_⟩
  rw [hb.cell (p := ⟨b, off + i * 3, none⟩) hlt, hb.cell (p := ⟨b, off + i * 3 + 1, none⟩) hlt, hb.cell (p := ⟨b, off + i * 3 + 2, none⟩) hlt]
  exact hc i hi
theorem PS.form {w : World} {v : Value} {ps : List P3} (h : PS w v ps) : ∃ A cap, v = .slice A ps.length cap := by
  obtain ⟨A, cap, rfl, -⟩ := h; exact ⟨_, _, rfl⟩
theorem PS.len {w : World} {v : Value} {ps : List P3} (h : PS w v ps) : (ps.length : Int) ≤ 9223372036854775807 := by
  obtain ⟨A, cap, rfl, h1, h2, -⟩ := h; omega

theorem open_ps {P : Program} {H : Type} {enc : TypeId × Value → H} {t e : TypeId} {n : Nat} (ht : P.underlying t = some (.slice e)) (hk : intLeaves P n e = some [.i64, .i64, .i64]) (hC : P.cellsOf e = 3) {W : World} {base : Nat} {v : Value} {d : DataW H} {p : List MemPlace}
    (hval : Value.okWide P W .any base t v) (h : DataW.Trod enc P W 0 (fun _ => true) true t v d p) : ∃ ps, PS W v ps := by
  obtain ⟨a0, len, cap, rfl⟩ := okWide_slice ht hval
  obtain ⟨fuel, hf⟩ := h
  rcases open_slice ht hf with ⟨hcs, hx⟩ | ⟨a, len', cap', m, n', D, Pl, hcs, _, hl, hm, hmm, -, hx⟩
  · simp [Value.cells] at hcs
    obtain ⟨rfl, rfl, rfl⟩ := hcs
    exact ⟨[], none, 0, rfl, by simp, by simp, by simp, fun h => absurd rfl h⟩
  · simp [Value.cells] at hcs
    obtain ⟨rfl, rfl, rfl⟩ := hcs
    simp only [if_true] at hmm
    obtain ⟨f, hF⟩ := choose_lt (α := P3) (p := fun i q => (W.cell? (a.add (i * 3)) = some (.int .i64 q.1) ∧ W.cell? ((a.add (i * 3)).add 1) = some (.int .i64 q.2.1) ∧ W.cell? ((a.add (i * 3)).add 2) = some (.int .i64 q.2.2)) ∧ I64 q.1 ∧ I64 q.2.1 ∧ I64 q.2.2) (n := m) (fun i hi => by
      obtain ⟨cs', g1, g2⟩ := hx i hi
      rw [hC] at g1
      obtain ⟨_, hlen, hat⟩ := World.cells?_some g1
      obtain ⟨ns, hn, rfl, hw⟩ := trod_ints hk (by simpa using hC) (by rw [hlen, hC]) g2
      match ns, hn with
      | [x, y, z], _ =>
        refine ⟨(x, y, z), ⟨?_, ?_, ?_⟩, i64_of_wf (hw 0 .i64 x rfl rfl), i64_of_wf (hw 1 .i64 y rfl rfl), i64_of_wf (hw 2 .i64 z rfl rfl)⟩
        · have := hat 0 (by omega); simpa [Addr.add, intCells] using this
        · have := hat 1 (by omega); simpa [intCells] using this
        · have := hat 2 (by omega); simpa [intCells] using this)
    have hlen : ((List.range len).map f).length = len := by simp
    refine ⟨(List.range len).map f, some a, cap, by rw [hlen], by rw [hlen]; exact hl, by unfold maxLen at hm; omega, fun q hq => ?_, fun hne => ?_⟩
    · obtain ⟨i, hi, rfl⟩ := List.mem_map.1 hq
      exact (hF i (by have := List.mem_range.1 hi; omega)).2
    · have hpos : 0 < len := by
        cases len with
        | zero => simp at hne
        | succ n => omega
      have g0 := (hF 0 (by omega)).1.1
      rw [Nat.zero_mul] at g0
      have hb : a.block < W.heap.size := by
        rcases Nat.lt_or_ge a.block W.heap.size with h | h
        · exact h
        · simp [World.cell?, Addr.add, Array.getElem?_eq_none h] at g0
      obtain ⟨b, off, spot⟩ := a
      have hspot : spot = none := by simpa [Addr.add] using World.cell?_spot g0
      subst hspot
      have ad : ∀ (o j : Nat), (⟨b, o, none⟩ : Addr).add j = ⟨b, o + j, none⟩ := fun o j => by
        unfold Addr.add; split
        · rename_i h; subst h; rfl
        · rfl
      refine ⟨b, off, rfl, hb, fun i hi => ?_⟩
      rw [hlen] at hi
      have gi := (hF i (by omega)).1
      rw [ad, ad, ad] at gi
      have e : ((List.range len).map f).getD i (0, 0, 0) = f i := by simp [List.getD, hi]
      rw [e]
      exact gi

end Go.Proofs.Ytommpclkiiffpaa
