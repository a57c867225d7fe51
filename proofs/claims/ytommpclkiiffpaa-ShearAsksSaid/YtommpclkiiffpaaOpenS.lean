/- How an argument that is a row of int64 is opened. -/
import Derived.Test.YtommpclkiiffpaaLift
import Derived.Test.YtommpclkiiffpaaISl
import Derived.ChangeSlices
import Derived.ChangeShapes
import Derived.WideShapes
namespace Go.Proofs.Ytommpclkiiffpaa
open Go.ChangeShapes Go.WideShapes Go.ChangeAt Go.RowKit

theorem open_is {P : Program} {H : Type} {enc : TypeId × Value → H} {t e : TypeId} (ht : P.underlying t = some (.slice e)) (he : P.underlying e = some (.int .i64)) (hc : P.cellsOf e = 1) {W : World} {base : Nat} {v : Value} {d : DataW H} {p : List MemPlace}
    (hval : Value.okWide P W .any base t v) (h : DataW.Trod enc P W 0 (fun _ => true) true t v d p) : ∃ zs, IS W v zs := by
  obtain ⟨a0, len, cap, rfl⟩ := okWide_slice ht hval
  obtain ⟨fuel, hf⟩ := h
  rcases open_ints ht he hc hf with ⟨hcs, hx⟩ | ⟨a, len', cap', zs, hcs, _, hl, hm, hz, hx, hcell, hwz⟩
  · simp [Value.cells] at hcs
    obtain ⟨rfl, rfl, rfl⟩ := hcs
    exact ⟨[], none, 0, rfl, by simp, by simp, by simp, fun h => absurd rfl h⟩
  · simp [Value.cells] at hcs
    obtain ⟨rfl, rfl, rfl⟩ := hcs
    simp only [if_true] at hz
    have hlen : (zs.take len).length = len := by rw [List.length_take]; omega
    refine ⟨zs.take len, some a, cap, by rw [hlen], by rw [hlen]; exact hl, by unfold maxLen at hm; omega, fun z hz' => i64_of_wf (hwz z (List.mem_of_mem_take hz')), fun hne => ?_⟩
    have hpos : 0 < len := by
      cases len with
      | zero => simp at hne
      | succ n => omega
    have g0 := hcell 0 (by omega)
    have hb : a.block < W.heap.size := by
      rcases Nat.lt_or_ge a.block W.heap.size with h | h
      · exact h
      · simp [World.cell?, Addr.add, Array.getElem?_eq_none h] at g0
    obtain ⟨b, off, spot⟩ := a
    have hspot : spot = none := by simpa [Addr.add] using World.cell?_spot g0
    subst hspot
    refine ⟨b, off, rfl, hb, fun i hi => ?_⟩
    rw [hlen] at hi
    have gi := hcell i (by omega)
    have e1 : (⟨b, off, none⟩ : Addr).add i = ⟨b, off + i, none⟩ := by
      unfold Addr.add; split
      · rename_i h; subst h; rfl
      · rfl
    rw [e1] at gi
    rw [gi]
    simp [List.getD, hi]

end Go.Proofs.Ytommpclkiiffpaa
