/- Contracts of weight.Mix, Byte, Split, and of the document's Byte and Split; rows of bytes. -/
import Derived.Test.YthdbchghhpoadaaJA
import Derived.Test.YthdbchghhpoadaaJD
import Derived.Test.YthdbchghhpoadaaRQuot0
set_option linter.unusedVariables false
set_option linter.unusedSimpArgs false
namespace Go.Proofs.Ythdbchghhpoadaa
open Go.RowKit Go.ChangeShapes Go.WideShapes Go.ChangeAt

/-- A slice that reads as the bytes zs. -/
def BS (w : World) (v : Value) (zs : List Int) : Prop := ∃ A cap, v = .slice A zs.length cap ∧ zs.length ≤ cap ∧ (cap : Int) ≤ 9223372036854775807 ∧ (∀ z ∈ zs, 0 ≤ z ∧ z ≤ 255) ∧
  (zs ≠ [] → ∃ b off, A = some ⟨b, off, none⟩ ∧ b < w.heap.size ∧ ∀ i, i < zs.length → w.cell? ⟨b, off + i, none⟩ = some (.int .u8 (zs.getD i 0)))
theorem BS.below {w w1 : World} {v : Value} {zs : List Int} (h : BS w v zs) (hb : Below w.heap.size w w1) : BS w1 v zs := by
  obtain ⟨A, cap, rfl, h1, h2, h3, h4⟩ := h
  refine ⟨A, cap, rfl, h1, h2, h3, fun hz => ?_⟩
  obtain ⟨b, off, rfl, hlt, hc⟩ := h4 hz
  exact ⟨b, off, rfl, Nat.lt_of_lt_of_le hlt hb.size, fun i hi => by rw [hb.cell (p := ⟨b, off + i, none⟩) hlt]; exact hc i hi⟩
theorem BS.form {w : World} {v : Value} {zs : List Int} (h : BS w v zs) : ∃ A cap, v = .slice A zs.length cap := by
  obtain ⟨A, cap, rfl, -⟩ := h; exact ⟨_, _, rfl⟩
theorem BS.len {w : World} {v : Value} {zs : List Int} (h : BS w v zs) : (zs.length : Int) ≤ 9223372036854775807 := by
  obtain ⟨A, cap, rfl, h1, h2, -⟩ := h; omega
theorem BS.bytes {w : World} {v : Value} {zs : List Int} (h : BS w v zs) (i : Nat) : 0 ≤ zs.getD i 0 ∧ zs.getD i 0 ≤ 255 := by
  obtain ⟨A, cap, rfl, h1, h2, h3, -⟩ := h
  by_cases hi : i < zs.length
  · rw [List.getD_eq_getElem?_getD, List.getElem?_eq_getElem hi]; exact h3 _ (List.getElem_mem hi)
  · rw [List.getD_eq_getElem?_getD, List.getElem?_eq_none (by omega)]; simp
theorem IS.ints {w : World} {v : Value} {zs : List Int} (h : IS w v zs) (i : Nat) : I64 (zs.getD i 0) := by
  obtain ⟨A, cap, rfl, h1, h2, h3, -⟩ := h
  by_cases hi : i < zs.length
  · rw [List.getD_eq_getElem?_getD, List.getElem?_eq_getElem hi]; exact h3 _ (List.getElem_mem hi)
  · rw [List.getD_eq_getElem?_getD, List.getElem?_eq_none (by omega)]; exact ⟨by simp, by simp⟩
theorem BS.some {w : World} {v : Value} {zs : List Int} (h : BS w v zs) (hz : zs ≠ []) : ∃ b off cap, v = .slice (.some ⟨b, off, none⟩) zs.length cap ∧ zs.length ≤ cap ∧ (cap : Int) ≤ 9223372036854775807 ∧ b < w.heap.size ∧ ∀ i, i < zs.length → w.cell? ⟨b, off + i, none⟩ = .some (.int .u8 (zs.getD i 0)) := by
  obtain ⟨A, cap, rfl, h1, h2, h3, h4⟩ := h
  obtain ⟨b, off, rfl, hlt, hc⟩ := h4 hz
  exact ⟨b, off, cap, rfl, h1, h2, hlt, hc⟩
theorem open_bs {P : Program} {H : Type} {enc : TypeId × Value → H} {t e : TypeId} (ht : P.underlying t = some (.slice e)) (he : P.underlying e = some (.int .u8)) (hc : P.cellsOf e = 1) {W : World} {base : Nat} {v : Value} {d : DataW H} {p : List MemPlace}
    (hval : Value.okWide P W .any base t v) (h : DataW.Trod enc P W 0 (fun _ => true) true t v d p) : ∃ zs, BS W v zs := by
  obtain ⟨a0, len, cap, rfl⟩ := okWide_slice ht hval
  obtain ⟨fuel, hf⟩ := h
  rcases open_ints ht he hc hf with ⟨hcs, hx⟩ | ⟨a, len', cap', zs, hcs, _, hl, hm, hz, hx, hcell, hwz⟩
  · simp [Value.cells] at hcs
    obtain ⟨rfl, rfl, rfl⟩ := hcs
    exact ⟨[], none, 0, rfl, by simp, by simp, by simp, fun h => absurd rfl h⟩
  · simp [Value.cells] at hcs
    obtain ⟨rfl, rfl, rfl⟩ := hcs
    simp only [if_true] at hz
    have hlen : (zs.take len).length = len := by rw [List.length_take]; omega
    refine ⟨zs.take len, some a, cap, by rw [hlen], by rw [hlen]; exact hl, by unfold maxLen at hm; omega, fun z hz' => u8_of_wf (hwz z (List.mem_of_mem_take hz')), fun hne => ?_⟩
    have hpos : 0 < len := by
      cases len with
      | zero => simp at hne
      | succ n => omega
    have g0 := hcell 0 (by omega)
    have hb : a.block < W.heap.size := by
      rcases Nat.lt_or_ge a.block W.heap.size with h | h
      · exact h
      · simp [World.cell?, Addr.add, Array.getElem?_eq_none h] at g0
    obtain ⟨b, off, spot⟩ := a
    have hspot : spot = none := by simpa [Addr.add] using World.cell?_spot g0
    subst hspot
    refine ⟨b, off, rfl, hb, fun i hi => ?_⟩
    rw [hlen] at hi
    have gi := hcell i (by omega)
    have e1 : (⟨b, off, none⟩ : Addr).add i = ⟨b, off + i, none⟩ := by
      unfold Addr.add; split
      · rename_i h; subst h; rfl
      · rfl
    rw [e1] at gi
    rw [gi]
    simp [List.getD, hi]

/-- Products added up. -/
def dotN (f g : Nat → Int) : Nat → Int
  | 0 => 0
  | n + 1 => dotN f g n + f n * g n
theorem dot_zero (f g : Nat → Int) : Value.int .i64 (wrap64 (dotN f g 0)) = .int .i64 0 := by
  rw [show dotN f g 0 = 0 from rfl, wr_in (by omega) (by omega)]

/-- A sum as a byte. -/
def byteI (s c : Int) : Int := if c < 1 then 0 else max 0 (min (nearI s c) 255)
theorem near_in {s c : Int} (hs : I64 s) (hc : 1 ≤ c) : I64 (nearI s c) := by
  have h := fdiv_spec (2 * s + c) (2 * c)
  have h2 := fmod_bounds (a := 2 * s + c) (show 2 * c ≠ 0 by omega)
  obtain ⟨s0, s1⟩ := hs
  unfold nearI
  generalize (2 * s + c).fdiv (2 * c) = q at *
  generalize (2 * s + c).fmod (2 * c) = r at *
  constructor
  · by_cases hq : 0 ≤ q
    · omega
    · have : c * (q + 1) ≤ 1 * (q + 1) := Int.mul_le_mul_of_nonpos_right (by omega) (by omega)
      have e : 2 * c * q = 2 * (c * (q + 1)) - 2 * c := by grind
      omega
  · by_cases hq : q ≤ 0
    · omega
    · have : 1 * (q - 1) ≤ c * (q - 1) := Int.mul_le_mul_of_nonneg_right (by omega) (by omega)
      have e : 2 * c * q = 2 * (c * (q - 1)) + 2 * c := by grind
      omega
theorem and_ffff (x : Int) : bits BinOp.and IntKind.i64 x 65535 = x % 65536 := by
  show IntKind.i64.wrap ((BitVec.ofInt 64 x &&& BitVec.ofInt 64 65535).toNat : Int) = _
  have h2 : (BitVec.ofInt 64 65535).toNat = 2 ^ 16 - 1 := by decide
  rw [BitVec.toNat_and, h2, Nat.and_two_pow_sub_one_eq_mod, BitVec.toNat_ofInt, IntKind.wrap_i64]
  have : ((2 : Nat) ^ 64 : Int) = 18446744073709551616 := by decide
  omega
end Go.Proofs.Ythdbchghhpoadaa
