/- Plain: a stable sort by insertion and by symmetric merges (no program in sight). -/
import Derived.Test.YthdbchghhpoadaaJA
set_option linter.unusedVariables false
set_option linter.unusedSimpArgs false
namespace Go.Proofs.Ythdbchghhpoadaa
section
variable {α : Type}
def swp (D : Nat → α) (i j : Nat) : Nat → α := fun k => if k = i then D j else if k = j then D i else D k
def cntP (P : α → Bool) (D : Nat → α) : Nat → Nat
  | 0 => 0
  | n + 1 => cntP P D n + (if P (D n) then 1 else 0)
def updF (D : Nat → α) (i : Nat) (x : α) : Nat → α := fun k => if k = i then x else D k
theorem cntP_same {P : α → Bool} {D E : Nat → α} : ∀ n, (∀ k, k < n → D k = E k) → cntP P D n = cntP P E n
  | 0, _ => rfl
  | n + 1, h => by unfold cntP; rw [cntP_same n (fun k hk => h k (by omega)), h n (by omega)]
theorem cntP_upd {P : α → Bool} {D : Nat → α} {i : Nat} {x : α} : ∀ n, i < n → cntP P (updF D i x) n + (if P (D i) then 1 else 0) = cntP P D n + (if P x then 1 else 0)
  | 0, h => by omega
  | n + 1, h => by
    unfold cntP
    by_cases e : i = n
    · subst e
      have h1 : cntP P (updF D i x) i = cntP P D i := cntP_same i (fun k hk => by unfold updF; rw [if_neg (by omega)])
      have h2 : updF D i x i = x := by unfold updF; rw [if_pos rfl]
      rw [h1, h2]; omega
    · have ih := cntP_upd (P := P) (D := D) (i := i) (x := x) n (by omega)
      have h2 : updF D i x n = D n := by unfold updF; rw [if_neg (by omega)]
      rw [h2]; omega
theorem cntP_swp {P : α → Bool} {D : Nat → α} {i j n : Nat} (hi : i < n) (hj : j < n) : cntP P (swp D i j) n = cntP P D n := by
  by_cases e : i = j
  · subst e
    exact cntP_same n (fun k _ => by
      unfold swp
      by_cases h : k = i
      · rw [if_pos h, h]
      · rw [if_neg h, if_neg h])
  · have h1 := cntP_upd (P := P) (D := D) (i := i) (x := D j) n hi
    have h2 := cntP_upd (P := P) (D := updF D i (D j)) (i := j) (x := D i) n hj
    have e1 : updF D i (D j) j = D j := by unfold updF; rw [if_neg (fun h => e h.symm)]
    have e2 : swp D i j = updF (updF D i (D j)) j (D i) := by
      funext k; unfold swp updF
      by_cases h : k = i
      · rw [if_pos h, if_neg (by omega), if_pos h]
      · rw [if_neg h, if_neg h]
    rw [e1] at h2; rw [e2]; omega
/-- What is outside a range is as it was; what holds of all within still does; nothing is lost. -/
structure Sb (D E : Nat → α) (a b : Nat) : Prop where
  out : ∀ k, k < a ∨ b ≤ k → E k = D k
  all : ∀ P : α → Prop, (∀ k, a ≤ k → k < b → P (D k)) → ∀ k, a ≤ k → k < b → P (E k)
  cnt : ∀ (P : α → Bool) n, b ≤ n → cntP P E n = cntP P D n
theorem Sb.refl (D : Nat → α) (a b : Nat) : Sb D D a b := ⟨fun _ _ => rfl, fun _ h => h, fun _ _ _ => rfl⟩
theorem Sb.trans {D E F : Nat → α} {a b : Nat} (h : Sb D E a b) (k : Sb E F a b) : Sb D F a b :=
  ⟨fun i hi => (k.out i hi).trans (h.out i hi), fun P hP => k.all P (h.all P hP), fun P n hn => (k.cnt P n hn).trans (h.cnt P n hn)⟩
theorem Sb.mono {D E : Nat → α} {a b a' b' : Nat} (h : Sb D E a b) (ha : a' ≤ a) (hb : b ≤ b') : Sb D E a' b' := by
  refine ⟨fun k hk => h.out k (by omega), fun P hP k h1 h2 => ?_, fun P n hn => h.cnt P n (by omega)⟩
  by_cases e : a ≤ k ∧ k < b
  · exact h.all P (fun i i1 i2 => hP i (by omega) (by omega)) k e.1 e.2
  · rw [h.out k (by omega)]; exact hP k h1 h2
theorem Sb.swp {D : Nat → α} {a b i j : Nat} (h1 : a ≤ i) (h2 : i < b) (h3 : a ≤ j) (h4 : j < b) : Sb D (swp D i j) a b := by
  refine ⟨fun k hk => ?_, fun P hP k k1 k2 => ?_, fun P n hn => cntP_swp (by omega) (by omega)⟩
  · unfold Proofs.Ythdbchghhpoadaa.swp; rw [if_neg (by omega), if_neg (by omega)]
  · unfold Proofs.Ythdbchghhpoadaa.swp
    split
    · exact hP j h3 h4
    · split
      · exact hP i h1 h2
      · exact hP k k1 k2
theorem Sb.every {D E : Nat → α} {a b : Nat} (h : Sb D E a b) {P : α → Prop} (hP : ∀ k, P (D k)) (k : Nat) : P (E k) := by
  by_cases e : a ≤ k ∧ k < b
  · exact h.all P (fun i _ _ => hP i) k e.1 e.2
  · rw [h.out k (by omega)]; exact hP k
/-- Two ranges, changed for one another. -/
def swr (D : Nat → α) (a b n : Nat) : Nat → α := fun k => if a ≤ k ∧ k < a + n then D (b + (k - a)) else if b ≤ k ∧ k < b + n then D (a + (k - b)) else D k
theorem swr_zero (D : Nat → α) (a b : Nat) : swr D a b 0 = D := by funext k; unfold swr; rw [if_neg (by omega), if_neg (by omega)]
theorem swr_succ (D : Nat → α) {a b n : Nat} (h : a + (n + 1) ≤ b) : swr D a b (n + 1) = swp (swr D a b n) (a + n) (b + n) := by
  have e1 : swr D a b n (b + n) = D (b + n) := by unfold swr; rw [if_neg (by omega), if_neg (by omega)]
  have e2 : swr D a b n (a + n) = D (a + n) := by unfold swr; rw [if_neg (by omega), if_neg (by omega)]
  funext k
  unfold swp
  rw [e1, e2]
  unfold swr
  by_cases k1 : k = a + n
  · subst k1; rw [if_pos (by omega), if_pos rfl]; congr 1; omega
  · rw [if_neg k1]
    by_cases k2 : k = b + n
    · subst k2; rw [if_neg (by omega), if_pos (by omega), if_pos rfl]; congr 1; omega
    · rw [if_neg k2]
      by_cases k3 : a ≤ k ∧ k < a + n
      · rw [if_pos (by omega), if_pos k3]
      · rw [if_neg (by omega), if_neg k3]
        by_cases k4 : b ≤ k ∧ k < b + n
        · rw [if_pos (by omega), if_pos k4]
        · rw [if_neg (by omega), if_neg k4]
theorem Sb.swr {D : Nat → α} {a b : Nat} {lo hi : Nat} (h1 : lo ≤ a) : ∀ n, a + n ≤ b → b + n ≤ hi → Sb D (swr D a b n) lo hi
  | 0, _, _ => by rw [swr_zero]; exact Sb.refl _ _ _
  | n + 1, h2, h3 => by
    rw [swr_succ D (by omega)]
    exact (Sb.swr h1 n (by omega) (by omega)).trans (Sb.swp (by omega) (by omega) (by omega) (by omega))
/-- Two ranges side by side, turned. -/
def rot (D : Nat → α) (a m b : Nat) : Nat → α := fun k => if a ≤ k ∧ k < b then (if k < a + (b - m) then D (m + (k - a)) else D (k - (b - m))) else D k
theorem rot_eq (D : Nat → α) {m i : Nat} (hi : i ≤ m) : swr D (m - i) m i = rot D (m - i) m (m + i) := by
  funext k; unfold swr rot
  by_cases h1 : m - i ≤ k ∧ k < m + i
  · rw [if_pos h1]
    by_cases h2 : k < m
    · rw [if_pos (by omega), if_pos (by omega)]
    · rw [if_neg (by omega), if_pos (by omega), if_neg (by omega)]; congr 1; omega
  · rw [if_neg h1, if_neg (by omega), if_neg (by omega)]
theorem rot_left (D : Nat → α) {m i j : Nat} (hi : i ≤ m) (hj : 0 < j) (h : j < i) : rot (swr D (m - i) m j) (m - (i - j)) m (m + j) = rot D (m - i) m (m + j) := by
  funext k; unfold rot
  by_cases h1 : m - i ≤ k ∧ k < m + j
  · rw [if_pos h1]
    by_cases h2 : k < m - i + j
    · rw [if_pos (show k < m - i + (m + j - m) by omega), if_neg (show ¬ (m - (i - j) ≤ k ∧ k < m + j) by omega)]
      unfold swr; rw [if_pos (by omega)]
    · rw [if_neg (show ¬ k < m - i + (m + j - m) by omega), if_pos (show m - (i - j) ≤ k ∧ k < m + j by omega)]
      by_cases h3 : k < m - (i - j) + (m + j - m)
      · rw [if_pos h3]; unfold swr; rw [if_neg (by omega), if_pos (by omega)]; congr 1; omega
      · rw [if_neg h3]; unfold swr; rw [if_neg (by omega), if_neg (by omega)]
  · rw [if_neg h1, if_neg (by omega)]
    unfold swr; rw [if_neg (by omega), if_neg (by omega)]
theorem rot_right (D : Nat → α) {m i j : Nat} (hi : i ≤ m) (hi0 : 0 < i) (h : i < j) : rot (swr D (m - i) (m + j - i) i) (m - i) m (m + (j - i)) = rot D (m - i) m (m + j) := by
  funext k; unfold rot
  by_cases h1 : m - i ≤ k ∧ k < m + j
  · rw [if_pos h1]
    by_cases h2 : k < m + (j - i)
    · rw [if_pos (show m - i ≤ k ∧ k < m + (j - i) by omega)]
      by_cases h3 : k < m - i + (m + (j - i) - m)
      · rw [if_pos h3, if_pos (show k < m - i + (m + j - m) by omega)]; unfold swr; rw [if_neg (by omega), if_neg (by omega)]
      · rw [if_neg h3]
        by_cases h4 : k < m - i + (m + j - m)
        · rw [if_pos h4]; unfold swr; rw [if_pos (by omega)]; congr 1; omega
        · rw [if_neg h4]; unfold swr; rw [if_neg (by omega), if_neg (by omega)]; congr 1; omega
    · rw [if_neg (show ¬ (m - i ≤ k ∧ k < m + (j - i)) by omega), if_neg (show ¬ k < m - i + (m + j - m) by omega)]
      unfold swr; rw [if_neg (by omega), if_pos (by omega)]; congr 1; omega
  · rw [if_neg h1, if_neg (by omega)]
    unfold swr; rw [if_neg (by omega), if_neg (by omega)]
/-- An order, the places where things stood at first, and the test by which they are put in order: it serves for two things of which the first stood behind the second. -/
structure StO (lt : α → α → Prop) (tag : α → Nat) (cl : α → α → Bool) (Ok : α → Prop) : Prop where
  trans : ∀ {x y z}, Ok x → Ok y → Ok z → lt x y → lt y z → lt x z
  yes : ∀ {x y}, Ok x → Ok y → tag x < tag y → cl y x = true → lt y x
  no : ∀ {x y}, Ok x → Ok y → tag x < tag y → cl y x = false → lt x y
def Srt (lt : α → α → Prop) (D : Nat → α) (a b : Nat) : Prop := ∀ i j, a ≤ i → i < j → j < b → lt (D i) (D j)
def TagLt (tag : α → Nat) (D : Nat → α) (a m b : Nat) : Prop := ∀ i j, a ≤ i → i < m → m ≤ j → j < b → tag (D i) < tag (D j)
/-- A thing of place i is put in at place j. -/
def ins (D : Nat → α) (i j : Nat) : Nat → α := fun k => if k = j then D i else if j < k ∧ k ≤ i then D (k - 1) else D k
theorem ins_self (D : Nat → α) (i : Nat) : ins D i i = D := by
  funext k; unfold ins
  by_cases h : k = i
  · rw [if_pos h, h]
  · rw [if_neg h, if_neg (by omega)]
theorem ins_step (D : Nat → α) {i j : Nat} (hj : 0 < j) (hij : j ≤ i) : swp (ins D i j) j (j - 1) = ins D i (j - 1) := by
  have e1 : ins D i j (j - 1) = D (j - 1) := by unfold ins; rw [if_neg (by omega), if_neg (by omega)]
  have e2 : ins D i j j = D i := by unfold ins; rw [if_pos rfl]
  funext k; unfold swp; rw [e1, e2]; unfold ins
  by_cases k1 : k = j
  · subst k1; rw [if_pos rfl, if_neg (by omega), if_pos (by omega)]
  · rw [if_neg k1]
    by_cases k2 : k = j - 1
    · rw [if_pos k2, if_pos k2]
    · rw [if_neg k2, if_neg k1, if_neg k2]
      by_cases k3 : j < k ∧ k ≤ i
      · rw [if_pos k3, if_pos (by omega)]
      · rw [if_neg k3, if_neg (by omega)]
theorem Sb.ins {D : Nat → α} {a i : Nat} : ∀ j, a ≤ i - j → j ≤ i → Sb D (ins D i (i - j)) a (i + 1)
  | 0, _, _ => by rw [Nat.sub_zero, ins_self]; exact Sb.refl _ _ _
  | j + 1, h1, h2 => by
    have := Sb.ins (D := D) (a := a) (i := i) j (by omega) (by omega)
    rw [show i - (j + 1) = i - j - 1 by omega, ← ins_step D (by omega) (by omega)]
    exact this.trans (Sb.swp (by omega) (by omega) (by omega) (by omega))
theorem ins_sorted {lt : α → α → Prop} {D : Nat → α} {a i j : Nat} (hs : Srt lt D a i) (ha : a ≤ j) (hj : j ≤ i) (h1 : ∀ k, a ≤ k → k < j → lt (D k) (D i)) (h2 : ∀ k, j ≤ k → k < i → lt (D i) (D k)) : Srt lt (ins D i j) a (i + 1) := by
  intro p q hp hpq hq
  unfold ins
  by_cases p1 : p = j
  · rw [if_pos p1, if_neg (by omega), if_pos (by omega)]
    exact h2 (q - 1) (by omega) (by omega)
  · rw [if_neg p1]
    by_cases q1 : q = j
    · rw [if_pos q1, if_neg (by omega)]
      exact h1 p hp (by omega)
    · rw [if_neg q1]
      by_cases p2 : j < p ∧ p ≤ i
      · rw [if_pos p2, if_pos (by omega)]; exact hs _ _ (by omega) (by omega) (by omega)
      · rw [if_neg p2]
        by_cases q2 : j < q ∧ q ≤ i
        · rw [if_pos q2]; exact hs _ _ (by omega) (by omega) (by omega)
        · rw [if_neg q2]; exact hs _ _ (by omega) (by omega) (by omega)
end
end Go.Proofs.Ythdbchghhpoadaa
