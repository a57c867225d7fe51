/- Plain: numbers along a row only rise, or only fall; those within an image stand side by side. -/
import Derived.Test.YthdbchghhpoadaaAff3
import Derived.Test.YthdbchghhpoadaaSrch
set_option linter.unusedVariables false
set_option linter.unusedSimpArgs false
namespace Go.Proofs.Ythdbchghhpoadaa
/-- The nearest pixel. -/
def nrI (u : Int) : Int := (u + 32768) / 65536
def UpTo (f : Int → Int) (n : Nat) : Prop := ∀ i j : Nat, i ≤ j → j < n → f i ≤ f j
def DnTo (f : Int → Int) (n : Nat) : Prop := ∀ i j : Nat, i ≤ j → j < n → f j ≤ f i
theorem nrI_mono {a b : Int} (h : a ≤ b) : nrI a ≤ nrI b := by unfold nrI; exact Int.ediv_le_ediv (by omega) (by omega)
theorem cutI_mono {a b : Int} (h : a ≤ b) : cutI a ≤ cutI b := by unfold cutI; split <;> split <;> (try split) <;> (try split) <;> omega
theorem fdiv_up {a b D : Int} (hD : 0 < D) (h : a ≤ b) : a.fdiv D ≤ b.fdiv D := by
  rw [Int.fdiv_eq_ediv_of_nonneg _ (by omega), Int.fdiv_eq_ediv_of_nonneg _ (by omega)]; exact Int.ediv_le_ediv hD h
theorem fdiv_dn {a b D : Int} (hD : D < 0) (h : a ≤ b) : b.fdiv D ≤ a.fdiv D := by
  have e : ∀ x : Int, x.fdiv D = (-x).fdiv (-D) := fun x => by rw [Int.neg_fdiv_neg]
  rw [e a, e b]; exact fdiv_up (by omega) (by omega)
/-- Where the columns of a row come from: they rise, or fall. -/
def rowF (k0 k1 k2 D py : Int) (x : Int) : Int := nrI (plU k0 k1 k2 D x py 1)
theorem rowF_way (k0 k1 k2 D py : Int) (hD : D ≠ 0) (n : Nat) : UpTo (rowF k0 k1 k2 D py) n ∨ DnTo (rowF k0 k1 k2 D py) n := by
  have up : ∀ {x y : Int}, ((k0 * x + k1 * py + k2 * 1) * 65536).fdiv (D * 1) ≤ ((k0 * y + k1 * py + k2 * 1) * 65536).fdiv (D * 1) → rowF k0 k1 k2 D py x ≤ rowF k0 k1 k2 D py y := fun h => nrI_mono (cutI_mono h)
  have m1 : ∀ i j : Nat, i ≤ j → 0 ≤ k0 → (k0 * (i : Int) + k1 * py + k2 * 1) * 65536 ≤ (k0 * (j : Int) + k1 * py + k2 * 1) * 65536 := fun i j h hk => by
    have := Int.mul_le_mul_of_nonneg_left (show (i : Int) ≤ j by omega) hk
    omega
  have m2 : ∀ i j : Nat, i ≤ j → k0 ≤ 0 → (k0 * (j : Int) + k1 * py + k2 * 1) * 65536 ≤ (k0 * (i : Int) + k1 * py + k2 * 1) * 65536 := fun i j h hk => by
    have := Int.mul_le_mul_of_nonpos_left hk (show (i : Int) ≤ j by omega)
    omega
  by_cases h1 : 0 < D
  · by_cases h2 : 0 ≤ k0
    · exact .inl fun i j h _ => up (fdiv_up (by omega) (m1 i j h h2))
    · exact .inr fun i j h _ => up (fdiv_up (by omega) (m2 i j h (by omega)))
  · by_cases h2 : 0 ≤ k0
    · exact .inr fun i j h _ => up (fdiv_dn (by omega) (m1 i j h h2))
    · exact .inl fun i j h _ => up (fdiv_dn (by omega) (m2 i j h (by omega)))
/-- What 'within' tells. -/
def WithIn (f : Int → Int) (m : Int) (n a b : Nat) : Prop := a ≤ n ∧ b ≤ n ∧ ∀ i : Nat, i < n → ((a ≤ i ∧ i < b) ↔ (0 ≤ f i ∧ f i < m))
theorem with_up {f : Int → Int} {m : Int} {n a b : Nat} (h1 : SrchTo (fun x => decide (f x ≥ 0)) n a) (h2 : SrchTo (fun x => decide (f x ≥ m)) n b) : WithIn f m n a b := by
  obtain ⟨a1, a2, a3⟩ := h1
  obtain ⟨b1, b2, b3⟩ := h2
  refine ⟨a1, b1, fun i hi => ⟨fun ⟨u, v⟩ => ?_, fun ⟨u, v⟩ => ?_⟩⟩
  · have p := a3 i u hi
    have q := b2 i v
    simp at p q
    exact ⟨p, q⟩
  · constructor
    · refine Decidable.byContradiction fun h => ?_
      have := a2 i (by omega)
      simp at this; omega
    · refine Decidable.byContradiction fun h => ?_
      have := b3 i (by omega) hi
      simp at this; omega
theorem with_dn {f : Int → Int} {m : Int} {n a b : Nat} (h1 : SrchTo (fun x => decide (f x < m)) n a) (h2 : SrchTo (fun x => decide (f x < 0)) n b) : WithIn f m n a b := by
  obtain ⟨a1, a2, a3⟩ := h1
  obtain ⟨b1, b2, b3⟩ := h2
  refine ⟨a1, b1, fun i hi => ⟨fun ⟨u, v⟩ => ?_, fun ⟨u, v⟩ => ?_⟩⟩
  · have p := a3 i u hi
    have q := b2 i v
    simp at p q
    exact ⟨q, p⟩
  · constructor
    · refine Decidable.byContradiction fun h => ?_
      have := a2 i (by omega)
      simp at this; omega
    · refine Decidable.byContradiction fun h => ?_
      have := b3 i (by omega) hi
      simp at this; omega
/-- The first number is no greater than the last: so all rise. -/
theorem way_up {f : Int → Int} {n : Nat} (h : UpTo f n ∨ DnTo f n) (hn : 0 < n) (h0 : f 0 ≤ f ((n - 1 : Nat) : Int)) : UpTo f n := by
  rcases h with h | h
  · exact h
  · intro i j hij hj
    have a := h 0 i (Nat.zero_le _) (by omega)
    have b := h j (n - 1) (by omega) (by omega)
    simp only [Int.natCast_zero] at a
    omega
theorem way_dn {f : Int → Int} {n : Nat} (h : UpTo f n ∨ DnTo f n) (hn : 0 < n) (h0 : ¬ f 0 ≤ f ((n - 1 : Nat) : Int)) : DnTo f n := by
  rcases h with h | h
  · have := h 0 (n - 1) (Nat.zero_le _) (by omega)
    simp only [Int.natCast_zero] at this
    exact absurd this h0
  · exact h
/-- The pixels of a row. -/
def spX (a b c d : Nat) : Nat × Nat := if max a c < min b d then (max a c, min b d) else (0, 0)
/-- A row's pixels, one by one: whether there is some, the first, and the one behind the last. -/
def rowB (p : Int → Bool) : Nat → Bool × Nat × Nat
  | 0 => (false, 0, 0)
  | k + 1 => if p k then (true, if (rowB p k).1 then (rowB p k).2.1 else k, k + 1) else rowB p k
theorem rowB_before (p : Int → Bool) (x0 : Nat) : ∀ k, k ≤ x0 → (∀ i : Nat, i < k → p i = false) → rowB p k = (false, 0, 0)
  | 0, _, _ => rfl
  | k + 1, h, hp => by
    unfold rowB
    rw [hp k (by omega)]
    exact rowB_before p x0 k (by omega) (fun i hi => hp i (by omega))
theorem rowB_within (p : Int → Bool) (x0 x1 n : Nat) (h01 : x0 < x1) (hn : x1 ≤ n) (hp : ∀ i : Nat, i < n → (p i = true ↔ x0 ≤ i ∧ i < x1)) : ∀ k, x0 < k → k ≤ n → rowB p k = (true, x0, min k x1)
  | 0, h, _ => by omega
  | k + 1, h, hk => by
    unfold rowB
    by_cases e : x0 < k
    · rw [rowB_within p x0 x1 n h01 hn hp k e (by omega)]
      by_cases h2 : k < x1
      · rw [(hp k (by omega)).2 ⟨by omega, h2⟩, if_pos rfl]
        simp; omega
      · have : p k = false := by
          cases hq : p k
          · rfl
          · have := (hp k (by omega)).1 hq; omega
        rw [this]; simp; omega
    · obtain rfl : k = x0 := by omega
      rw [rowB_before p k k (Nat.le_refl _) (fun i hi => by
        cases hq : p i
        · rfl
        · have := (hp i (by omega)).1 hq; omega)]
      rw [(hp k (by omega)).2 ⟨by omega, h01⟩, if_pos rfl]
      simp; omega
theorem rowB_none (p : Int → Bool) (n : Nat) (h : ∀ i : Nat, i < n → p i = false) : rowB p n = (false, 0, 0) := rowB_before p n n (Nat.le_refl _) h
/-- Both ways tell the same row. -/
theorem row_same {f g : Int → Int} {w h : Int} {n a b c d : Nat} (h1 : WithIn f w n a b) (h2 : WithIn g h n c d) :
    (rowB (fun x => decide (0 ≤ f x) && (decide (f x < w) && (decide (0 ≤ g x) && decide (g x < h)))) n).2 = spX a b c d := by
  obtain ⟨a1, b1, k1⟩ := h1
  obtain ⟨c1, d1, k2⟩ := h2
  unfold spX
  have hp : ∀ i : Nat, i < n → ((decide (0 ≤ f i) && (decide (f i < w) && (decide (0 ≤ g i) && decide (g i < h)))) = true ↔ max a c ≤ i ∧ i < min b d) := fun i hi => by
    have u := k1 i hi
    have v := k2 i hi
    simp only [Bool.and_eq_true, decide_eq_true_eq]
    omega
  by_cases hlt : max a c < min b d
  · rw [if_pos hlt, rowB_within _ (max a c) (min b d) n hlt (by omega) hp n (by omega) (Nat.le_refl _)]
    simp; omega
  · rw [if_neg hlt, rowB_none _ n (fun i hi => by
      cases hq : (decide (0 ≤ f i) && (decide (f i < w) && (decide (0 ≤ g i) && decide (g i < h))))
      · rfl
      · have := (hp i hi).1 hq; omega)]
theorem srch_ex (p : Int → Bool) : ∀ n, (∀ i j : Nat, i ≤ j → j < n → p i = true → p j = true) → ∃ k, SrchTo p n k
  | 0, _ => ⟨0, Nat.le_refl _, fun i h => by omega, fun i h1 h2 => by omega⟩
  | n + 1, h => by
    obtain ⟨k, k1, k2, k3⟩ := srch_ex p n (fun i j a b => h i j a (by omega))
    by_cases hk : k < n
    · refine ⟨k, by omega, k2, fun i h1 h2 => ?_⟩
      by_cases e : i < n
      · exact k3 i h1 e
      · obtain rfl : i = n := by omega
        exact h k i (by omega) (by omega) (k3 k (Nat.le_refl _) hk)
    · obtain rfl : k = n := by omega
      cases hp : p k
      · refine ⟨k + 1, Nat.le_refl _, fun i hi => ?_, fun i h1 h2 => by omega⟩
        by_cases e : i < k
        · exact k2 i e
        · obtain rfl : i = k := by omega
          exact hp
      · refine ⟨k, by omega, k2, fun i h1 h2 => ?_⟩
        obtain rfl : i = k := by omega
        exact hp
theorem with_ex {f : Int → Int} {m : Int} {n : Nat} (h : UpTo f n ∨ DnTo f n) : ∃ a b, WithIn f m n a b := by
  rcases h with h | h
  · obtain ⟨a, ha⟩ := srch_ex (fun x => decide (f x ≥ 0)) n (fun i j h1 h2 h3 => by have := h i j h1 h2; simp at h3 ⊢; omega)
    obtain ⟨b, hb⟩ := srch_ex (fun x => decide (f x ≥ m)) n (fun i j h1 h2 h3 => by have := h i j h1 h2; simp at h3 ⊢; omega)
    exact ⟨a, b, with_up ha hb⟩
  · obtain ⟨a, ha⟩ := srch_ex (fun x => decide (f x < m)) n (fun i j h1 h2 h3 => by have := h i j h1 h2; simp at h3 ⊢; omega)
    obtain ⟨b, hb⟩ := srch_ex (fun x => decide (f x < 0)) n (fun i j h1 h2 h3 => by have := h i j h1 h2; simp at h3 ⊢; omega)
    exact ⟨a, b, with_dn ha hb⟩
/-- No gap. -/
theorem no_gap {f g : Int → Int} {w h : Int} {n : Nat} (hf : UpTo f n ∨ DnTo f n) (hg : UpTo g n ∨ DnTo g n) (i : Nat) (h1 : (rowB (fun x => decide (0 ≤ f x) && (decide (f x < w) && (decide (0 ≤ g x) && decide (g x < h)))) n).2.1 ≤ i) (h2 : i < (rowB (fun x => decide (0 ≤ f x) && (decide (f x < w) && (decide (0 ≤ g x) && decide (g x < h)))) n).2.2) : i < n ∧ (decide (0 ≤ f i) && (decide (f i < w) && (decide (0 ≤ g i) && decide (g i < h)))) = true := by
  obtain ⟨a, b, k1⟩ := with_ex (m := w) hf
  obtain ⟨c, d, k2⟩ := with_ex (m := h) hg
  rw [row_same k1 k2] at h1 h2
  obtain ⟨a1, b1, k1⟩ := k1
  obtain ⟨c1, d1, k2⟩ := k2
  unfold spX at h1 h2
  split at h1
  · rename_i hlt
    rw [if_pos hlt] at h2
    simp only at h1 h2
    have hi : i < n := by omega
    have u := k1 i hi
    have v := k2 i hi
    refine ⟨hi, ?_⟩
    simp only [Bool.and_eq_true, decide_eq_true_eq]
    omega
  · rename_i hlt
    rw [if_neg hlt] at h2
    simp only at h2
    omega
theorem rowB_le (p : Int → Bool) : ∀ n, (rowB p n).2.1 ≤ (rowB p n).2.2 ∧ (rowB p n).2.2 ≤ n ∧ ((rowB p n).1 = false → (rowB p n).2.1 = 0 ∧ (rowB p n).2.2 = 0)
  | 0 => ⟨Nat.le_refl _, Nat.le_refl _, fun _ => ⟨rfl, rfl⟩⟩
  | n + 1 => by
    obtain ⟨h1, h2, h3⟩ := rowB_le p n
    unfold rowB
    cases hp : p n
    · simp; exact ⟨h1, by omega, h3⟩
    · cases hq : (rowB p n).1
      · simp
      · simp; omega
end Go.Proofs.Ythdbchghhpoadaa
