/- How an argument that is an image is opened. -/
import Derived.Test.YtnklbnphiokpiaaImg
set_option linter.unusedVariables false
namespace Go.Proofs.Ytnklbnphiokpiaa
open Go.ChangeShapes Go.WideShapes Go.ChangeAt Go.RowKit Go.Deep

theorem bs_of_trod {P : Program} {H : Type} {enc : TypeId × Value → H} {t e : TypeId} (ht : P.underlying t = some (.slice e)) (he : P.underlying e = some (.int .u8)) (hc : P.cellsOf e = 1) {W : World} {v : Value} {fuel : Nat} {x : DataW H × List MemPlace}
    (hf : DataW.trod enc P W 0 (fun _ => true) true fuel t [v] = some x) : ∃ zs, BS W v zs := by
  rcases open_ints ht he hc hf with ⟨hcs, hx⟩ | ⟨a, len, cap, zs, hcs, _, hl, hm, hz, hx, hcell, hwz⟩
  · simp at hcs
    subst hcs
    exact ⟨[], none, 0, rfl, by simp, by simp, by simp, fun h => absurd rfl h⟩
  · simp at hcs
    subst hcs
    simp only [if_true] at hz
    have hlen : (zs.take len).length = len := by rw [List.length_take]; omega
    refine ⟨zs.take len, some a, cap, by rw [hlen], by rw [hlen]; exact hl, by unfold maxLen at hm; omega, fun z hz' => u8_of_wf (hwz z (List.mem_of_mem_take hz')), fun hne => ?_⟩
    have hpos : 0 < len := by
      cases len with
      | zero => simp at hne
      | succ n => omega
    have g0 := hcell 0 (by omega)
    have hb : a.block < W.heap.size := by
      rcases Nat.lt_or_ge a.block W.heap.size with h | h
      · exact h
      · simp [World.cell?, Addr.add, Array.getElem?_eq_none h] at g0
    obtain ⟨b, off, spot⟩ := a
    have hspot : spot = none := by simpa [Addr.add] using World.cell?_spot g0
    subst hspot
    refine ⟨b, off, rfl, hb, fun i hi => ?_⟩
    rw [hlen] at hi
    have gi := hcell i (by omega)
    rw [addr_add] at gi
    rw [gi]
    simp [List.getD, hi]

theorem open_img {P : Program} {X : Type} {enc : TypeId × Value → X} {n : Nat} {t i s e : TypeId} (hl : leaves P n t = some [(0, i), (1, i), (2, i), (3, s)]) (hC : P.cellsOf t = 4) (hi : P.underlying i = some (.int .i64)) (hs : P.underlying s = some (.slice e)) (he : P.underlying e = some (.int .u8)) (hc : P.cellsOf e = 1)
    {w : World} {v : Value} {d : DataW X} {p : List MemPlace} (hv : ∃ cs : Array Value, v = .agg cs ∧ cs.size = P.cellsOf t) (h : DataW.Trod enc P w 0 (fun _ => true) true t v d p) :
    ∃ W H C sl zs, v = imv W H C sl ∧ IMG w sl W H C zs := by
  obtain ⟨cs, rfl, hsz⟩ := hv
  obtain ⟨fuel, hf⟩ := h
  obtain ⟨v0, y0, f0, k0, h0⟩ := trod_leaves n hl hf 0 i (by simp)
  obtain ⟨v1, y1, f1, k1, h1⟩ := trod_leaves n hl hf 1 i (by simp)
  obtain ⟨v2, y2, f2, k2, h2⟩ := trod_leaves n hl hf 2 i (by simp)
  obtain ⟨v3, y3, f3, k3, h3⟩ := trod_leaves n hl hf 3 s (by simp)
  obtain ⟨a, rfl, wa⟩ := leaf_int hi h0
  obtain ⟨b, rfl, wb⟩ := leaf_int hi h1
  obtain ⟨c, rfl, wc⟩ := leaf_int hi h2
  obtain ⟨zs, hb⟩ := bs_of_trod hs he hc h3
  refine ⟨a, b, c, v3, zs, ?_, ⟨i64_of_wf wa, i64_of_wf wb, i64_of_wf wc, hb⟩⟩
  simp only [Value.cells] at k0 k1 k2 k3
  rw [hC] at hsz
  have : cs = #[.int .i64 a, .int .i64 b, .int .i64 c, v3] := by
    apply Array.ext'
    match hcs : cs.toList, (by simpa using hsz : cs.toList.length = 4) with
    | [p, q, r, t], _ =>
      rw [hcs] at k0 k1 k2 k3
      simp at k0 k1 k2 k3
      subst k0 k1 k2 k3
      rfl
  rw [this]

end Go.Proofs.Ytnklbnphiokpiaa
