/- Plain: the least and the greatest of some knots; a place comes from between them. -/
import Derived.Test.YthoakbjnofhpbaaMe2
set_option linter.unusedVariables false
set_option linter.unusedSimpArgs false
namespace Go.Proofs.Ythoakbjnofhpbaa
/-- The fold of min or max along a row of columns from i0 on. -/
def foRow (op : Int → Int → Int) (f : Int → Int → Int) (i0 k : Int) : Nat → Int → Int
  | 0, a => a
  | n + 1, a => op (foRow op f i0 k n a) (f (i0 + n) k)
/-- Row by row from k0 on. -/
def foBox (op : Int → Int → Int) (f : Int → Int → Int) (i0 k0 : Int) (m : Nat) : Nat → Int → Int
  | 0, a => a
  | n + 1, a => foRow op f i0 (k0 + n) m (foBox op f i0 k0 m n a)
theorem foRow_min (f : Int → Int → Int) (i0 k : Int) (n : Nat) (a : Int) : foRow min f i0 k n a ≤ a ∧ (∀ j : Nat, j < n → foRow min f i0 k n a ≤ f (i0 + j) k) ∧ (foRow min f i0 k n a = a ∨ ∃ j : Nat, j < n ∧ foRow min f i0 k n a = f (i0 + j) k) := by
  induction n with
  | zero => exact ⟨Int.le_refl _, fun j h => by omega, Or.inl rfl⟩
  | succ n ih =>
    obtain ⟨h1, h2, h3⟩ := ih
    simp only [foRow]
    refine ⟨by omega, fun j hj => ?_, ?_⟩
    · by_cases e : j = n
      · subst e; omega
      · have := h2 j (by omega); omega
    · by_cases e : f (i0 + n) k ≤ foRow min f i0 k n a
      · exact Or.inr ⟨n, by omega, by omega⟩
      · rcases h3 with h3 | ⟨j, hj, h3⟩
        · left; omega
        · exact Or.inr ⟨j, by omega, by omega⟩
theorem foRow_max (f : Int → Int → Int) (i0 k : Int) (n : Nat) (a : Int) : a ≤ foRow max f i0 k n a ∧ (∀ j : Nat, j < n → f (i0 + j) k ≤ foRow max f i0 k n a) ∧ (foRow max f i0 k n a = a ∨ ∃ j : Nat, j < n ∧ foRow max f i0 k n a = f (i0 + j) k) := by
  induction n with
  | zero => exact ⟨Int.le_refl _, fun j h => by omega, Or.inl rfl⟩
  | succ n ih =>
    obtain ⟨h1, h2, h3⟩ := ih
    simp only [foRow]
    refine ⟨by omega, fun j hj => ?_, ?_⟩
    · by_cases e : j = n
      · subst e; omega
      · have := h2 j (by omega); omega
    · by_cases e : foRow max f i0 k n a ≤ f (i0 + n) k
      · exact Or.inr ⟨n, by omega, by omega⟩
      · rcases h3 with h3 | ⟨j, hj, h3⟩
        · left; omega
        · exact Or.inr ⟨j, by omega, by omega⟩
theorem foBox_min (f : Int → Int → Int) (i0 k0 : Int) (m n : Nat) (a : Int) : foBox min f i0 k0 m n a ≤ a ∧ (∀ i k : Nat, i < m → k < n → foBox min f i0 k0 m n a ≤ f (i0 + i) (k0 + k)) ∧ (foBox min f i0 k0 m n a = a ∨ ∃ i k : Nat, i < m ∧ k < n ∧ foBox min f i0 k0 m n a = f (i0 + i) (k0 + k)) := by
  induction n with
  | zero => exact ⟨Int.le_refl _, fun _ _ _ h => by omega, Or.inl rfl⟩
  | succ n ih =>
    obtain ⟨h1, h2, h3⟩ := ih
    simp only [foBox]
    obtain ⟨r1, r2, r3⟩ := foRow_min f i0 (k0 + n) m (foBox min f i0 k0 m n a)
    refine ⟨by omega, fun i k hi hk => ?_, ?_⟩
    · by_cases e : k = n
      · subst e; exact r2 i hi
      · have := h2 i k hi (by omega); omega
    · rcases r3 with r3 | ⟨j, hj, r3⟩
      · rw [r3]
        rcases h3 with h3 | ⟨i, k, hi, hk, h3⟩
        · exact Or.inl h3
        · exact Or.inr ⟨i, k, hi, by omega, h3⟩
      · exact Or.inr ⟨j, n, hj, by omega, r3⟩
theorem foBox_max (f : Int → Int → Int) (i0 k0 : Int) (m n : Nat) (a : Int) : a ≤ foBox max f i0 k0 m n a ∧ (∀ i k : Nat, i < m → k < n → f (i0 + i) (k0 + k) ≤ foBox max f i0 k0 m n a) ∧ (foBox max f i0 k0 m n a = a ∨ ∃ i k : Nat, i < m ∧ k < n ∧ foBox max f i0 k0 m n a = f (i0 + i) (k0 + k)) := by
  induction n with
  | zero => exact ⟨Int.le_refl _, fun _ _ _ h => by omega, Or.inl rfl⟩
  | succ n ih =>
    obtain ⟨h1, h2, h3⟩ := ih
    simp only [foBox]
    obtain ⟨r1, r2, r3⟩ := foRow_max f i0 (k0 + n) m (foBox max f i0 k0 m n a)
    refine ⟨by omega, fun i k hi hk => ?_, ?_⟩
    · by_cases e : k = n
      · subst e; exact r2 i hi
      · have := h2 i k hi (by omega); omega
    · rcases r3 with r3 | ⟨j, hj, r3⟩
      · rw [r3]
        rcases h3 with h3 | ⟨i, k, hi, hk, h3⟩
        · exact Or.inl h3
        · exact Or.inr ⟨i, k, hi, by omega, h3⟩
      · exact Or.inr ⟨j, n, hj, by omega, r3⟩
theorem foBox_min_start (f : Int → Int → Int) (i0 k0 : Int) (m n : Nat) (a : Int) (hm : 0 < m) (hn : 0 < n) (ha : f i0 k0 ≤ a) : foBox min f i0 k0 m n a = foBox min f i0 k0 m n (f i0 k0) := by
  obtain ⟨a1, a2, a3⟩ := foBox_min f i0 k0 m n a
  obtain ⟨b1, b2, b3⟩ := foBox_min f i0 k0 m n (f i0 k0)
  have a0 := a2 0 0 hm hn
  simp only [Int.natCast_zero, Int.add_zero] at a0
  have l1 : foBox min f i0 k0 m n a ≤ foBox min f i0 k0 m n (f i0 k0) := by
    rcases b3 with b3 | ⟨i, k, hi, hk, b3⟩
    · omega
    · have := a2 i k hi hk; omega
  have l2 : foBox min f i0 k0 m n (f i0 k0) ≤ foBox min f i0 k0 m n a := by
    rcases a3 with a3 | ⟨i, k, hi, hk, a3⟩
    · omega
    · have := b2 i k hi hk; omega
  omega
theorem foBox_max_start (f : Int → Int → Int) (i0 k0 : Int) (m n : Nat) (a : Int) (hm : 0 < m) (hn : 0 < n) (ha : a ≤ f i0 k0) : foBox max f i0 k0 m n a = foBox max f i0 k0 m n (f i0 k0) := by
  obtain ⟨a1, a2, a3⟩ := foBox_max f i0 k0 m n a
  obtain ⟨b1, b2, b3⟩ := foBox_max f i0 k0 m n (f i0 k0)
  have a0 := a2 0 0 hm hn
  simp only [Int.natCast_zero, Int.add_zero] at a0
  have l1 : foBox max f i0 k0 m n (f i0 k0) ≤ foBox max f i0 k0 m n a := by
    rcases b3 with b3 | ⟨i, k, hi, hk, b3⟩
    · omega
    · have := a2 i k hi hk; omega
  have l2 : foBox max f i0 k0 m n a ≤ foBox max f i0 k0 m n (f i0 k0) := by
    rcases a3 with a3 | ⟨i, k, hi, hk, a3⟩
    · omega
    · have := b2 i k hi hk; omega
  omega
/-- A place further on lies in a cell no earlier. -/
theorem cellI_mono {g n a e b f : Int} (hg : 1 ≤ g ∧ g ≤ 1024) (hn : 1 ≤ n ∧ n ≤ 64) (he : 1 ≤ e) (hf : 1 ≤ f) (h : a * f ≤ b * e) : cellI g n a e ≤ cellI g n b f := by
  have hge : 0 < g * e := Int.mul_pos (by omega) (by omega)
  have hgf : 0 < g * f := Int.mul_pos (by omega) (by omega)
  have hgn : 0 ≤ g * n := Int.mul_nonneg (by omega) (by omega)
  have hq : 0 ≤ cellQ g n b f := by unfold cellQ; split <;> omega
  have hb0 : 0 ≤ cellI g n b f := by
    unfold cellI
    have := Int.ediv_nonneg hq (Int.le_of_lt hgf)
    split <;> omega
  by_cases hi : cellI g n a e ≤ 0
  · omega
  have k1 : cellI g n a e ≤ n - 1 := by unfold cellI; split <;> omega
  have k2 : cellI g n a e ≤ cellQ g n a e / (g * e) := by unfold cellI; split <;> omega
  generalize cellI g n a e = i at *
  have k3 : i * (g * e) ≤ cellQ g n a e := Int.le_trans (Int.mul_le_mul_of_nonneg_right k2 (by omega)) (Int.ediv_mul_le _ (by omega))
  have k4 : 0 < i * (g * e) := Int.mul_pos (by omega) hge
  have k5 : cellQ g n a e ≤ a := by
    unfold cellQ at k3 ⊢
    split
    · unfold cellM; split <;> omega
    · rename_i hh; rw [if_neg hh] at k3; omega
  have k6 : i * (g * f) ≤ b := by
    have u1 : i * (g * e) * f ≤ a * f := Int.mul_le_mul_of_nonneg_right (by omega) (by omega)
    have u2 : i * (g * f) * e = i * (g * e) * f := by simp only [Int.mul_assoc]; rw [Int.mul_comm f e]
    have u3 : i * (g * f) * e ≤ b * e := by omega
    exact Int.le_of_mul_le_mul_right u3 (by omega)
  have k7 : i * (g * f) ≤ g * n * f := by
    have : i * (g * f) ≤ n * (g * f) := Int.mul_le_mul_of_nonneg_right (by omega) (by omega)
    have e2 : n * (g * f) = g * n * f := by rw [← Int.mul_assoc, Int.mul_comm n g]
    omega
  have k8 : i * (g * f) ≤ cellQ g n b f := by unfold cellQ cellM; split <;> split <;> omega
  have k9 : i ≤ cellQ g n b f / (g * f) := (Int.le_ediv_iff_mul_le hgf).2 k8
  unfold cellI
  split <;> omega
/-- A mean lies between. -/
theorem mix_between {b0 b1 b2 b3 f0 f1 f2 f3 lo hi : Int} (h0 : 0 ≤ b0) (h1 : 0 ≤ b1) (h2 : 0 ≤ b2) (h3 : 0 ≤ b3) (hs : 0 < b0 + b1 + b2 + b3) (g0 : lo ≤ f0 ∧ f0 ≤ hi) (g1 : lo ≤ f1 ∧ f1 ≤ hi) (g2 : lo ≤ f2 ∧ f2 ≤ hi) (g3 : lo ≤ f3 ∧ f3 ≤ hi) (hl : -2147483648 ≤ lo) (hh : hi ≤ 2147483648) :
    lo ≤ cutI ((mixS b0 f0 b1 f1 b2 f2 b3 f3).fdiv (b0 + b1 + b2 + b3)) ∧ cutI ((mixS b0 f0 b1 f1 b2 f2 b3 f3).fdiv (b0 + b1 + b2 + b3)) ≤ hi := by
  have l (b f : Int) (hb : 0 ≤ b) (g : lo ≤ f ∧ f ≤ hi) : b * lo ≤ b * f ∧ b * f ≤ b * hi := ⟨Int.mul_le_mul_of_nonneg_left g.1 hb, Int.mul_le_mul_of_nonneg_left g.2 hb⟩
  have q0 := l b0 f0 h0 g0
  have q1 := l b1 f1 h1 g1
  have q2 := l b2 f2 h2 g2
  have q3 := l b3 f3 h3 g3
  have e1 : (b0 + b1 + b2 + b3) * lo = b0 * lo + b1 * lo + b2 * lo + b3 * lo := by simp only [Int.add_mul]
  have e2 : (b0 + b1 + b2 + b3) * hi = b0 * hi + b1 * hi + b2 * hi + b3 * hi := by simp only [Int.add_mul]
  have m1 : lo * (b0 + b1 + b2 + b3) ≤ mixS b0 f0 b1 f1 b2 f2 b3 f3 := by rw [Int.mul_comm, e1]; unfold mixS; omega
  have m2 : mixS b0 f0 b1 f1 b2 f2 b3 f3 ≤ hi * (b0 + b1 + b2 + b3) := by rw [Int.mul_comm, e2]; unfold mixS; omega
  generalize mixS b0 f0 b1 f1 b2 f2 b3 f3 = S at *
  generalize b0 + b1 + b2 + b3 = B at *
  rw [Int.fdiv_eq_ediv_of_nonneg _ (by omega)]
  have n1 : lo ≤ S / B := (Int.le_ediv_iff_mul_le hs).2 m1
  have n2 : S / B ≤ hi := by
    have := Int.ediv_le_ediv hs m2
    rwa [Int.mul_ediv_cancel _ (by omega)] at this
  rw [cut_near (by omega) (by omega)]
  exact ⟨n1, n2⟩
/-- A place comes from between the least and the greatest of the knots around it and more. -/
theorem me_between {gx gy nx ny px py d i0 k0 : Int} {m n : Nat} (f : Int → Int → Int) (g1 : 1 ≤ gx ∧ gx ≤ 1024) (g2 : 1 ≤ gy ∧ gy ≤ 1024) (g3 : 1 ≤ nx ∧ nx ≤ 64) (g4 : 1 ≤ ny ∧ ny ≤ 64) (hd : 1 ≤ d ∧ d ≤ 16)
    (hx : i0 ≤ cellI gx nx px d ∧ cellI gx nx px d + 2 ≤ i0 + m) (hy : k0 ≤ cellI gy ny py d ∧ cellI gy ny py d + 2 ≤ k0 + n) (lo hi : Int) (hl : ∀ i k : Nat, i < m → k < n → lo ≤ f (i0 + i) (k0 + k) ∧ f (i0 + i) (k0 + k) ≤ hi) (h1 : -2147483648 ≤ lo) (h2 : hi ≤ 2147483648) :
    lo ≤ mePl gx gy nx ny px py d f ∧ mePl gx gy nx ny px py d f ≤ hi := by
  obtain ⟨c1, c2, c3, c4, c5⟩ := cw_facts (px := px) (py := py) g1 g2 g3 g4 hd
  have hs : 0 < gx * d * (gy * d) := Int.mul_pos (Int.mul_pos (by omega) (by omega)) (Int.mul_pos (by omega) (by omega))
  have hf : ∀ i k : Int, i0 ≤ i → i < i0 + m → k0 ≤ k → k < k0 + n → lo ≤ f i k ∧ f i k ≤ hi := fun i k a b c e => by
    have := hl (i - i0).toNat (k - k0).toNat (by omega) (by omega)
    rwa [show i0 + ((i - i0).toNat : Int) = i by omega, show k0 + ((k - k0).toNat : Int) = k by omega] at this
  unfold mePl
  exact mix_between c1.1 c2.1 c3.1 c4.1 (by omega) (hf _ _ (by omega) (by omega) (by omega) (by omega)) (hf _ _ (by omega) (by omega) (by omega) (by omega)) (hf _ _ (by omega) (by omega) (by omega) (by omega)) (hf _ _ (by omega) (by omega) (by omega) (by omega)) h1 h2
end Go.Proofs.Ythoakbjnofhpbaa
