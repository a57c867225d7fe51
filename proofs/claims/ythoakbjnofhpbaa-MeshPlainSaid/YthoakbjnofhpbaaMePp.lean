/- Plain: a mesh that changes nothing tells each place itself. -/
import Derived.Test.YthoakbjnofhpbaaMeP
import Derived.Test.YthoakbjnofhpbaaMeV
set_option linter.unusedVariables false
set_option linter.unusedSimpArgs false
namespace Go.Proofs.Ythoakbjnofhpbaa
theorem plRow_at (gx gy : Int) (k m : Nat) : ∀ i, i < m → (plRow gx gy k m).getD (2 * i) 0 = 65536 * gx * (i : Int) ∧ (plRow gx gy k m).getD (2 * i + 1) 0 = 65536 * gy * (k : Int) := by
  induction m with
  | zero => intro i h; omega
  | succ m ih =>
    intro i hi
    rw [plRow_succ, List.getD_eq_getElem?_getD, List.getD_eq_getElem?_getD]
    have hl := plRow_len gx gy k m
    by_cases e : i = m
    · subst e
      rw [List.getElem?_append_right (by omega), List.getElem?_append_right (by omega), hl, show 2 * i - i * 2 = 0 by omega, show 2 * i + 1 - i * 2 = 1 by omega]
      exact ⟨rfl, rfl⟩
    · rw [List.getElem?_append_left (by omega), List.getElem?_append_left (by omega), ← List.getD_eq_getElem?_getD, ← List.getD_eq_getElem?_getD]
      exact ih i (by omega)
theorem plRows_at (gx gy : Int) (m : Nat) (l : Nat) : ∀ i k, i < m → k < l → (plRows gx gy m l).getD (2 * (k * m + i)) 0 = 65536 * gx * (i : Int) ∧ (plRows gx gy m l).getD (2 * (k * m + i) + 1) 0 = 65536 * gy * (k : Int) := by
  induction l with
  | zero => intro i k _ h; omega
  | succ l ih =>
    intro i k hi hk
    rw [plRows_succ, List.getD_eq_getElem?_getD, List.getD_eq_getElem?_getD]
    have hl := plRows_len gx gy m l
    have hr := plRow_len gx gy l m
    have e0 : l * (m * 2) = 2 * (l * m) := by rw [← Nat.mul_assoc, Nat.mul_comm]
    by_cases e : k = l
    · subst e
      rw [List.getElem?_append_right (by omega), List.getElem?_append_right (by omega), hl, show 2 * (k * m + i) - k * (m * 2) = 2 * i by omega, show 2 * (k * m + i) + 1 - k * (m * 2) = 2 * i + 1 by omega, ← List.getD_eq_getElem?_getD, ← List.getD_eq_getElem?_getD]
      exact plRow_at gx gy k m i hi
    · have h1 : (k + 1) * m ≤ l * m := Nat.mul_le_mul_right m (by omega)
      rw [Nat.add_mul, Nat.one_mul] at h1
      rw [List.getElem?_append_left (by omega), List.getElem?_append_left (by omega), ← List.getD_eq_getElem?_getD, ← List.getD_eq_getElem?_getD]
      exact ih i k hi (by omega)
/-- A knot of a mesh that changes nothing. -/
theorem pl_knot {gx gy nx ny : Int} {N : Nat} (hN : (plRows gx gy (nx + 1).toNat (ny + 1).toNat).length = 2 * N) {i k : Int} (hi : 0 ≤ i ∧ i ≤ nx) (hk : 0 ≤ k ∧ k ≤ ny) :
    (knP (ksOf (plRows gx gy (nx + 1).toNat (ny + 1).toNat) N) nx i k).1 = 65536 * gx * i ∧ (knP (ksOf (plRows gx gy (nx + 1).toNat (ny + 1).toNat) N) nx i k).2 = 65536 * gy * k := by
  obtain ⟨h1, h2⟩ := knP_at hN nx i k
  rw [h1, h2]
  obtain ⟨a, rfl⟩ : ∃ a : Nat, i = a := ⟨i.toNat, by omega⟩
  obtain ⟨b, rfl⟩ : ∃ b : Nat, k = b := ⟨k.toNat, by omega⟩
  obtain ⟨m, hm⟩ : ∃ m : Nat, nx + 1 = m := ⟨(nx + 1).toNat, by omega⟩
  have e : (((b : Int) * (nx + 1) + a).toNat) = b * m + a := by rw [hm, ← Int.natCast_mul, ← Int.natCast_add]; rfl
  rw [e, hm]
  exact plRows_at gx gy _ _ a b (by omega) (by omega)
theorem cell_in {g n p d : Int} (hp : 0 ≤ p ∧ p ≤ g * n * d) : cellQ g n p d = p := by
  have : cellM g n p d = p := by unfold cellM; rw [if_neg (by omega)]
  unfold cellQ; rw [this]; split <;> omega
theorem lerp {w h s t F G : Int} : (w - s) * (h - t) * F + s * (h - t) * (F + G) + (w - s) * t * F + s * t * (F + G) = h * (w * F + s * G) := by grind
theorem lerp' {w h s t F G : Int} : (w - s) * (h - t) * F + s * (h - t) * F + (w - s) * t * (F + G) + s * t * (F + G) = w * (h * F + t * G) := by grind
theorem me_plain {gx gy nx ny px py d : Int} (f : Int → Int → Int) (g1 : 1 ≤ gx ∧ gx ≤ 1024) (g2 : 1 ≤ gy ∧ gy ≤ 1024) (g3 : 1 ≤ nx ∧ nx ≤ 64) (g4 : 1 ≤ ny ∧ ny ≤ 64) (hd : 1 ≤ d ∧ d ≤ 16) (hx : 0 ≤ px ∧ px ≤ gx * nx * d) (hy : 0 ≤ py ∧ py ≤ gy * ny * d)
    (hf : ∀ i k, 0 ≤ i ∧ i ≤ nx → 0 ≤ k ∧ k ≤ ny → f i k = 65536 * gx * i) : mePl gx gy nx ny px py d f = 65536 * px / d := by
  obtain ⟨c1, c2, c3, c4, c5⟩ := cw_facts (px := px) (py := py) g1 g2 g3 g4 hd
  obtain ⟨-, -, x3, x4, x5, x6⟩ := cell_facts (p := px) g1 g3 hd
  obtain ⟨-, -, y3, y4, y5, y6⟩ := cell_facts (p := py) g2 g4 hd
  have u1 := mul_rng g1 hd
  have u2 := mul_rng g2 hd
  have hu := mul_rng (mul_rng g1 g3) hd
  unfold mePl
  rw [c5, hf _ _ ⟨by omega, by omega⟩ ⟨by omega, by omega⟩, hf _ _ ⟨by omega, by omega⟩ ⟨by omega, by omega⟩, hf _ _ ⟨by omega, by omega⟩ ⟨by omega, by omega⟩, hf _ _ ⟨by omega, by omega⟩ ⟨by omega, by omega⟩]
  have hS : cellS gx nx px d = px - cellI gx nx px d * gx * d := by unfold cellS; rw [cell_in hx]
  unfold mixS cwA cwB cwC cwD
  rw [Int.zero_add]
  generalize cellS gx nx px d = S at *
  generalize cellS gy ny py d = T at *
  generalize cellI gx nx px d = I at *
  have e1 : 65536 * gx * (I + 1) = 65536 * gx * I + 65536 * gx := by rw [Int.mul_add, Int.mul_one]
  rw [e1]
  have e2 : (gx * d - S) * (gy * d - T) * (65536 * gx * I) + S * (gy * d - T) * (65536 * gx * I + 65536 * gx) + (gx * d - S) * T * (65536 * gx * I) + S * T * (65536 * gx * I + 65536 * gx) = gx * (gy * d) * (65536 * px) := by
    rw [lerp, hS]; grind
  have e3 : gx * d * (gy * d) = gx * (gy * d) * d := by grind
  rw [e2, e3, Int.fdiv_eq_ediv_of_nonneg _ (by have := Int.mul_pos (show 0 < gx by omega) (show 0 < gy * d by omega); exact Int.mul_nonneg (by omega) (by omega)), Int.mul_ediv_mul_of_pos _ _ (Int.mul_pos (show 0 < gx by omega) (show 0 < gy * d by omega))]
  have q1 : 0 ≤ 65536 * px / d := Int.ediv_nonneg (by omega) (by omega)
  have q2 : 65536 * px / d ≤ 65536 * px := Int.ediv_le_self _ (by omega)
  exact cut_near (by omega) (by omega)
theorem me_plain' {gx gy nx ny px py d : Int} (f : Int → Int → Int) (g1 : 1 ≤ gx ∧ gx ≤ 1024) (g2 : 1 ≤ gy ∧ gy ≤ 1024) (g3 : 1 ≤ nx ∧ nx ≤ 64) (g4 : 1 ≤ ny ∧ ny ≤ 64) (hd : 1 ≤ d ∧ d ≤ 16) (hx : 0 ≤ px ∧ px ≤ gx * nx * d) (hy : 0 ≤ py ∧ py ≤ gy * ny * d)
    (hf : ∀ i k, 0 ≤ i ∧ i ≤ nx → 0 ≤ k ∧ k ≤ ny → f i k = 65536 * gy * k) : mePl gx gy nx ny px py d f = 65536 * py / d := by
  obtain ⟨c1, c2, c3, c4, c5⟩ := cw_facts (px := px) (py := py) g1 g2 g3 g4 hd
  obtain ⟨-, -, x3, x4, x5, x6⟩ := cell_facts (p := px) g1 g3 hd
  obtain ⟨-, -, y3, y4, y5, y6⟩ := cell_facts (p := py) g2 g4 hd
  have u1 := mul_rng g1 hd
  have u2 := mul_rng g2 hd
  have hu := mul_rng (mul_rng g2 g4) hd
  unfold mePl
  rw [c5, hf _ _ ⟨by omega, by omega⟩ ⟨by omega, by omega⟩, hf _ _ ⟨by omega, by omega⟩ ⟨by omega, by omega⟩, hf _ _ ⟨by omega, by omega⟩ ⟨by omega, by omega⟩, hf _ _ ⟨by omega, by omega⟩ ⟨by omega, by omega⟩]
  have hS : cellS gy ny py d = py - cellI gy ny py d * gy * d := by unfold cellS; rw [cell_in hy]
  unfold mixS cwA cwB cwC cwD
  rw [Int.zero_add]
  generalize cellS gx nx px d = S at *
  generalize cellS gy ny py d = T at *
  generalize cellI gy ny py d = I at *
  have e1 : 65536 * gy * (I + 1) = 65536 * gy * I + 65536 * gy := by rw [Int.mul_add, Int.mul_one]
  rw [e1]
  have e2 : (gx * d - S) * (gy * d - T) * (65536 * gy * I) + S * (gy * d - T) * (65536 * gy * I) + (gx * d - S) * T * (65536 * gy * I + 65536 * gy) + S * T * (65536 * gy * I + 65536 * gy) = gy * (gx * d) * (65536 * py) := by
    rw [lerp', hS]; grind
  have e3 : gx * d * (gy * d) = gy * (gx * d) * d := by grind
  rw [e2, e3, Int.fdiv_eq_ediv_of_nonneg _ (by have := Int.mul_pos (show 0 < gy by omega) (show 0 < gx * d by omega); exact Int.mul_nonneg (by omega) (by omega)), Int.mul_ediv_mul_of_pos _ _ (Int.mul_pos (show 0 < gy by omega) (show 0 < gx * d by omega))]
  have q1 : 0 ≤ 65536 * py / d := Int.ediv_nonneg (by omega) (by omega)
  have q2 : 65536 * py / d ≤ 65536 * py := Int.ediv_le_self _ (by omega)
  exact cut_near (by omega) (by omega)
end Go.Proofs.Ythoakbjnofhpbaa
