/- Plain: symmetric merges put two sorted ranges in order; blocks grow till all is in order. -/
import Derived.Test.YthdbchghhpoadaaSo0
set_option linter.unusedVariables false
set_option linter.unusedSimpArgs false
namespace Go.Proofs.Ythdbchghhpoadaa
section
variable {α : Type} {lt : α → α → Prop} {tag : α → Nat} {cl : α → α → Bool} {Ok : α → Prop}
/-- The first thing of a range is moved to place t. -/
def mvr (D : Nat → α) (a t : Nat) : Nat → α := fun k => if k = t then D a else if a ≤ k ∧ k < t then D (k + 1) else D k
theorem mvr_self (D : Nat → α) (a : Nat) : mvr D a a = D := by
  funext k; unfold mvr
  by_cases h : k = a
  · rw [if_pos h, h]
  · rw [if_neg h, if_neg (by omega)]
theorem mvr_step (D : Nat → α) {a t : Nat} (h : a ≤ t) : swp (mvr D a t) t (t + 1) = mvr D a (t + 1) := by
  have e1 : mvr D a t (t + 1) = D (t + 1) := by unfold mvr; rw [if_neg (by omega), if_neg (by omega)]
  have e2 : mvr D a t t = D a := by unfold mvr; rw [if_pos rfl]
  funext k; unfold swp; rw [e1, e2]; unfold mvr
  by_cases k1 : k = t
  · subst k1; rw [if_pos rfl, if_neg (by omega), if_pos (by omega)]
  · rw [if_neg k1]
    by_cases k2 : k = t + 1
    · rw [if_pos k2, if_pos k2]
    · rw [if_neg k2, if_neg k1, if_neg k2]
      by_cases k3 : a ≤ k ∧ k < t
      · rw [if_pos k3, if_pos (by omega)]
      · rw [if_neg k3, if_neg (by omega)]
theorem Sb.mvr {D : Nat → α} {a b : Nat} : ∀ j, a + j < b → Sb D (mvr D a (a + j)) a b
  | 0, _ => by rw [Nat.add_zero, mvr_self]; exact Sb.refl _ _ _
  | j + 1, h => by
    rw [← Nat.add_assoc, ← mvr_step D (by omega)]
    exact (Sb.mvr j (by omega)).trans (Sb.swp (by omega) (by omega) (by omega) (by omega))
theorem mvr_sorted {D : Nat → α} {a b i : Nat} (hs : Srt lt D (a + 1) b) (hi : a + 1 ≤ i) (hb : i ≤ b) (h1 : ∀ k, a + 1 ≤ k → k < i → lt (D k) (D a)) (h2 : ∀ k, i ≤ k → k < b → lt (D a) (D k)) : Srt lt (mvr D a (i - 1)) a b := by
  intro p q hp hpq hq
  unfold mvr
  by_cases p1 : p = i - 1
  · rw [if_pos p1, if_neg (by omega), if_neg (by omega)]
    exact h2 q (by omega) hq
  · rw [if_neg p1]
    by_cases q1 : q = i - 1
    · rw [if_pos q1, if_pos (by omega)]
      exact h1 (p + 1) (by omega) (by omega)
    · rw [if_neg q1]
      by_cases p2 : a ≤ p ∧ p < i - 1
      · rw [if_pos p2]
        by_cases q2 : a ≤ q ∧ q < i - 1
        · rw [if_pos q2]; exact hs _ _ (by omega) (by omega) (by omega)
        · rw [if_neg q2]; exact hs _ _ (by omega) (by omega) (by omega)
      · rw [if_neg p2, if_neg (by omega)]; exact hs _ _ (by omega) (by omega) (by omega)
/-- A step of the search among what stood behind: for the first thing. -/
theorem sr_step1 (H : StO lt tag cl Ok) {D : Nat → α} {a m b i j h : Nat} (hOk : ∀ k, Ok (D k)) (hs : Srt lt D m b) (ht : ∀ k, m ≤ k → k < b → tag (D a) < tag (D k)) (hi : m ≤ i) (hih : i ≤ h) (hhj : h < j) (hj : j ≤ b)
    (h1 : ∀ k, m ≤ k → k < i → lt (D k) (D a)) (h2 : ∀ k, j ≤ k → k < b → lt (D a) (D k)) :
    (cl (D h) (D a) = true → ∀ k, m ≤ k → k < h + 1 → lt (D k) (D a)) ∧ (cl (D h) (D a) = false → ∀ k, h ≤ k → k < b → lt (D a) (D k)) := by
  have t := ht h (by omega) (by omega)
  constructor
  · intro hc k k1 k2
    have y := H.yes (hOk _) (hOk _) t hc
    by_cases e : k = h
    · subst e; exact y
    · exact H.trans (hOk _) (hOk _) (hOk _) (hs k h k1 (by omega) (by omega)) y
  · intro hc k k1 k2
    have y := H.no (hOk _) (hOk _) t hc
    by_cases e : k = h
    · subst e; exact y
    · exact H.trans (hOk _) (hOk _) (hOk _) y (hs h k (by omega) (by omega) k2)
/-- A step of the search among what stood ahead: for the last thing. -/
theorem sr_step2 (H : StO lt tag cl Ok) {D : Nat → α} {a m i j h : Nat} (hOk : ∀ k, Ok (D k)) (hs : Srt lt D a m) (ht : ∀ k, a ≤ k → k < m → tag (D k) < tag (D m)) (hi : a ≤ i) (hih : i ≤ h) (hhj : h < j) (hj : j ≤ m)
    (h1 : ∀ k, a ≤ k → k < i → lt (D k) (D m)) (h2 : ∀ k, j ≤ k → k < m → lt (D m) (D k)) :
    (cl (D m) (D h) = false → ∀ k, a ≤ k → k < h + 1 → lt (D k) (D m)) ∧ (cl (D m) (D h) = true → ∀ k, h ≤ k → k < m → lt (D m) (D k)) := by
  have t := ht h (by omega) (by omega)
  constructor
  · intro hc k k1 k2
    have y := H.no (hOk _) (hOk _) t hc
    by_cases e : k = h
    · subst e; exact y
    · exact H.trans (hOk _) (hOk _) (hOk _) (hs k h k1 (by omega) (by omega)) y
  · intro hc k k1 k2
    have y := H.yes (hOk _) (hOk _) t hc
    by_cases e : k = h
    · subst e; exact y
    · exact H.trans (hOk _) (hOk _) (hOk _) y (hs h k (by omega) (by omega) k2)
/-- A step of the symmetric search. -/
theorem sr_step3 (H : StO lt tag cl Ok) {D : Nat → α} {a m b p s0 r0 s r c : Nat} (hOk : ∀ k, Ok (D k)) (hs1 : Srt lt D a m) (hs2 : Srt lt D m b) (ht : TagLt tag D a m b)
    (b1 : a ≤ s0) (b2 : r0 ≤ m) (b3 : ∀ k, s0 ≤ k → k < r0 → m ≤ p - k ∧ p - k < b ∧ k ≤ p) (hs : s0 ≤ s) (hsc : s ≤ c) (hcr : c < r) (hr : r ≤ r0)
    (h1 : ∀ k, s0 ≤ k → k < s → lt (D k) (D (p - k))) (h2 : ∀ k, r ≤ k → k < r0 → lt (D (p - k)) (D k)) :
    (cl (D (p - c)) (D c) = false → ∀ k, s0 ≤ k → k < c + 1 → lt (D k) (D (p - k))) ∧ (cl (D (p - c)) (D c) = true → ∀ k, c ≤ k → k < r0 → lt (D (p - k)) (D k)) := by
  have bc := b3 c (by omega) (by omega)
  have t := ht c (p - c) (by omega) (by omega) bc.1 bc.2.1
  constructor
  · intro hc k k1 k2
    have y := H.no (hOk _) (hOk _) t hc
    by_cases e : k = c
    · subst e; exact y
    · have bk := b3 k k1 (by omega)
      exact H.trans (hOk _) (hOk _) (hOk _) (hs1 k c (by omega) (by omega) (by omega)) (H.trans (hOk _) (hOk _) (hOk _) y (hs2 (p - c) (p - k) bc.1 (by omega) bk.2.1))
  · intro hc k k1 k2
    have y := H.yes (hOk _) (hOk _) t hc
    by_cases e : k = c
    · subst e; exact y
    · have bk := b3 k (by omega) k2
      exact H.trans (hOk _) (hOk _) (hOk _) (hs2 (p - k) (p - c) bk.1 (by omega) bc.2.1) (H.trans (hOk _) (hOk _) (hOk _) y (hs1 c k (by omega) (by omega) (by omega)))
theorem rot_nil1 (D : Nat → α) (m b : Nat) : rot D m m b = D := by
  funext k; unfold rot
  by_cases h : m ≤ k ∧ k < b
  · rw [if_pos h]
    rw [if_pos (by omega)]; congr 1; omega
  · rw [if_neg h]
theorem rot_nil2 (D : Nat → α) (a m : Nat) : rot D a m m = D := by
  funext k; unfold rot
  by_cases h : a ≤ k ∧ k < m
  · rw [if_pos h, if_neg (by omega)]; congr 1; omega
  · rw [if_neg h]
theorem Sb.rot : ∀ (N : Nat) (D : Nat → α) (m i j : Nat), i + j ≤ N → i ≤ m → Sb D (rot D (m - i) m (m + j)) (m - i) (m + j)
  | 0, D, m, i, j, h, hi => by
    obtain rfl : i = 0 := by omega
    rw [Nat.sub_zero, rot_nil1]; exact Sb.refl _ _ _
  | N + 1, D, m, i, j, h, hi => by
    by_cases h0 : i = 0
    · subst h0; rw [Nat.sub_zero, rot_nil1]; exact Sb.refl _ _ _
    · by_cases h1 : j = 0
      · subst h1; rw [Nat.add_zero, rot_nil2]; exact Sb.refl _ _ _
      · by_cases h2 : i = j
        · subst h2; rw [← rot_eq D hi]; exact Sb.swr (Nat.le_refl _) i (by omega) (by omega)
        · by_cases h3 : j < i
          · rw [← rot_left D hi (by omega) h3]
            exact (Sb.swr (Nat.le_refl _) j (by omega) (by omega)).trans ((Sb.rot N _ m (i - j) j (by omega) (by omega)).mono (by omega) (by omega))
          · rw [← rot_right D hi (by omega) (by omega)]
            exact (Sb.swr (Nat.le_refl _) i (by omega) (by omega)).trans ((Sb.rot N _ m i (j - i) (by omega) hi).mono (by omega) (by omega))
/-- What the symmetric search and the turning lead to: four ranges in order, and all of the first half ahead of all of the second. -/
theorem sym_mid (H : StO lt tag cl Ok) {D : Nat → α} {a m b mid st s0 r0 : Nat} (hOk : ∀ k, Ok (D k)) (ham : a < m) (hmb : m < b) (hmid : mid = (a + b) / 2) (hs1 : Srt lt D a m) (hs2 : Srt lt D m b) (ht : TagLt tag D a m b)
    (hs0 : s0 = if mid < m then mid + m - b else a) (hr0 : r0 = if mid < m then mid else m) (h0 : s0 ≤ st) (h1 : st ≤ r0)
    (l1 : ∀ k, s0 ≤ k → k < st → lt (D k) (D (mid + m - 1 - k))) (l2 : ∀ k, st ≤ k → k < r0 → lt (D (mid + m - 1 - k)) (D k)) :
    (a ≤ st ∧ st ≤ mid ∧ st ≤ m ∧ m ≤ mid + m - st ∧ mid ≤ mid + m - st ∧ mid + m - st ≤ b ∧ a < mid ∧ mid < b) ∧
    Sb D (rot D st m (mid + m - st)) a b ∧ Srt lt (rot D st m (mid + m - st)) a st ∧ Srt lt (rot D st m (mid + m - st)) st mid ∧ Srt lt (rot D st m (mid + m - st)) mid (mid + m - st) ∧ Srt lt (rot D st m (mid + m - st)) (mid + m - st) b ∧
    TagLt tag (rot D st m (mid + m - st)) a st mid ∧ TagLt tag (rot D st m (mid + m - st)) mid (mid + m - st) b ∧ (∀ i j, a ≤ i → i < mid → mid ≤ j → j < b → lt (rot D st m (mid + m - st) i) (rot D st m (mid + m - st) j)) := by
  have hb : a ≤ st ∧ st ≤ mid ∧ st ≤ m ∧ m ≤ mid + m - st ∧ mid ≤ mid + m - st ∧ mid + m - st ≤ b ∧ a < mid ∧ mid < b := by
    split at hs0 <;> split at hr0 <;> omega
  obtain ⟨q1, q2, q3, q4, q5, q6, q7, q8⟩ := hb
  have F1 : s0 < st → lt (D (st - 1)) (D (mid + m - st)) := fun h => by
    have := l1 (st - 1) (by omega) (by omega)
    rwa [show mid + m - 1 - (st - 1) = mid + m - st by omega] at this
  have F2 : st < r0 → lt (D (mid + m - st - 1)) (D st) := fun h => by
    have := l2 st (Nat.le_refl _) h
    rwa [show mid + m - 1 - st = mid + m - st - 1 by omega] at this
  have A : ∀ x y, a ≤ x → x < st → mid + m - st ≤ y → y < b → lt (D x) (D y) := fun x y x1 x2 y1 y2 => by
    have f := F1 (by split at hs0 <;> omega)
    have g : lt (D x) (D (mid + m - st)) := by
      by_cases e : x = st - 1
      · subst e; exact f
      · exact H.trans (hOk _) (hOk _) (hOk _) (hs1 x (st - 1) x1 (by omega) (by omega)) f
    by_cases e : y = mid + m - st
    · subst e; exact g
    · exact H.trans (hOk _) (hOk _) (hOk _) g (hs2 _ y (by omega) (by omega) y2)
  have B : ∀ x y, m ≤ x → x < mid + m - st → st ≤ y → y < m → lt (D x) (D y) := fun x y x1 x2 y1 y2 => by
    have f := F2 (by split at hr0 <;> omega)
    have g : lt (D x) (D st) := by
      by_cases e : x = mid + m - st - 1
      · subst e; exact f
      · exact H.trans (hOk _) (hOk _) (hOk _) (hs2 x (mid + m - st - 1) x1 (by omega) (by omega)) f
    by_cases e : y = st
    · subst e; exact g
    · exact H.trans (hOk _) (hOk _) (hOk _) g (hs1 _ y (by omega) (by omega) y2)
  have v1 : ∀ k, k < st → rot D st m (mid + m - st) k = D k := fun k h => by unfold rot; rw [if_neg (by omega)]
  have v2 : ∀ k, st ≤ k → k < mid → rot D st m (mid + m - st) k = D (m + (k - st)) := fun k h h' => by unfold rot; rw [if_pos (by omega), if_pos (by omega)]
  have v3 : ∀ k, mid ≤ k → k < mid + m - st → rot D st m (mid + m - st) k = D (k - (mid - st)) := fun k h h' => by
    unfold rot; rw [if_pos (by omega), if_neg (by omega)]; congr 1; omega
  have v4 : ∀ k, mid + m - st ≤ k → rot D st m (mid + m - st) k = D k := fun k h => by unfold rot; rw [if_neg (by omega)]
  refine ⟨⟨q1, q2, q3, q4, q5, q6, q7, q8⟩, ?_, ?_, ?_, ?_, ?_, ?_, ?_, ?_⟩
  · have := Sb.rot (m - st + (mid - st)) D m (m - st) (mid - st) (Nat.le_refl _) (by omega)
    rw [show m - (m - st) = st by omega, show m + (mid - st) = mid + m - st by omega] at this
    exact this.mono q1 q6
  · intro p q p1 pq q1'
    rw [v1 p (by omega), v1 q q1']; exact hs1 p q p1 pq (by omega)
  · intro p q p1 pq q1'
    rw [v2 p p1 (by omega), v2 q (by omega) q1']; exact hs2 _ _ (by omega) (by omega) (by omega)
  · intro p q p1 pq q1'
    rw [v3 p p1 (by omega), v3 q (by omega) q1']; exact hs1 _ _ (by omega) (by omega) (by omega)
  · intro p q p1 pq q1'
    rw [v4 p p1, v4 q (by omega)]; exact hs2 p q (by omega) pq q1'
  · intro p q p1 p2 q1' q2'
    rw [v1 p p2, v2 q q1' q2']; exact ht _ _ p1 (by omega) (by omega) (by omega)
  · intro p q p1 p2 q1' q2'
    rw [v3 p p1 p2, v4 q q1']; exact ht _ _ (by omega) (by omega) (by omega) q2'
  · intro p q p1 p2 q1' q2'
    by_cases ep : p < st
    · rw [v1 p ep]
      by_cases eq : q < mid + m - st
      · rw [v3 q q1' eq]; exact hs1 _ _ p1 (by omega) (by omega)
      · rw [v4 q (by omega)]; exact A p q p1 ep (by omega) q2'
    · rw [v2 p (by omega) p2]
      by_cases eq : q < mid + m - st
      · rw [v3 q q1' eq]; exact B _ _ (by omega) (by omega) (by omega) (by omega)
      · rw [v4 q (by omega)]; exact hs2 _ _ (by omega) (by omega) q2'
/-- Both halves in order, and all of the first ahead of all of the second: all is in order. -/
theorem sym_join {D E F : Nat → α} {a mid b : Nat} (h1 : a ≤ mid) (h2 : mid ≤ b) (hc : ∀ i j, a ≤ i → i < mid → mid ≤ j → j < b → lt (D i) (D j)) (hE : Sb D E a mid) (hF : Sb E F mid b) (sE : Srt lt E a mid) (sF : Srt lt F mid b) : Sb D F a b ∧ Srt lt F a b := by
  refine ⟨(hE.mono (Nat.le_refl _) h2).trans (hF.mono h1 (Nat.le_refl _)), fun p q p1 pq q1 => ?_⟩
  by_cases ep : p < mid
  · have fp : F p = E p := hF.out p (.inl ep)
    by_cases eq : q < mid
    · rw [fp, hF.out q (.inl eq)]; exact sE p q p1 pq eq
    · rw [fp]
      have k1 : ∀ j, mid ≤ j → j < b → lt (E p) (E j) := fun j j1 j2 => by
        rw [hE.out j (.inr j1)]
        exact hE.all (fun x => lt x (D j)) (fun i i1 i2 => hc i j i1 i2 j1 j2) p p1 ep
      exact hF.all (fun y => lt (E p) y) k1 q (by omega) q1
  · exact sF p q (by omega) pq q1
/-- Blocks of a size are in order, and each holds what stood in it at first. -/
def Blk (lt : α → α → Prop) (tag : α → Nat) (D : Nat → α) (n bs : Nat) : Prop := (∀ i j, i < j → j < n → i / bs = j / bs → lt (D i) (D j)) ∧ ∀ i, i < n → tag (D i) / bs = i / bs
/-- Below a place blocks of twice the size, from there on blocks of a size. -/
def Blk2 (lt : α → α → Prop) (tag : α → Nat) (D : Nat → α) (n bs a : Nat) : Prop :=
  (∀ i j, i < j → j < n → j < a → i / (2 * bs) = j / (2 * bs) → lt (D i) (D j)) ∧ (∀ i j, a ≤ i → i < j → j < n → i / bs = j / bs → lt (D i) (D j)) ∧ (∀ i, i < n → i < a → tag (D i) / (2 * bs) = i / (2 * bs)) ∧ (∀ i, a ≤ i → i < n → tag (D i) / bs = i / bs)
theorem dv_two (x bs : Nat) : x / bs / 2 = x / (2 * bs) := by rw [Nat.div_div_eq_div_mul, Nat.mul_comm]
theorem dv_up {x y bs : Nat} (h : x / bs = y / bs) : x / (2 * bs) = y / (2 * bs) := by rw [← dv_two, ← dv_two, h]
theorem Blk.two {D : Nat → α} {n bs : Nat} (h : Blk lt tag D n bs) : Blk2 lt tag D n bs 0 := ⟨fun i j _ _ h' => by omega, fun i j _ h1 h2 h3 => h.1 i j h1 h2 h3, fun i _ h' => by omega, fun i _ h1 => h.2 i h1⟩
theorem Blk.whole {D : Nat → α} {n bs : Nat} (h : Blk lt tag D n bs) (hb : n ≤ bs) : Srt lt D 0 n := fun i j _ h1 h2 => h.1 i j h1 h2 (by rw [Nat.div_eq_of_lt (by omega), Nat.div_eq_of_lt (by omega)])
/-- What is needed of two blocks side by side that are merged. -/
theorem Blk2.need {D : Nat → α} {n bs q m b : Nat} (hbs : 0 < bs) (h : Blk2 lt tag D n bs (2 * bs * q)) (hm : m = 2 * bs * q + bs) (hmb : m ≤ b) (hb : b ≤ n) (hb' : b ≤ 2 * bs * q + 2 * bs) : Srt lt D (2 * bs * q) m ∧ Srt lt D m b ∧ TagLt tag D (2 * bs * q) m b := by
  have e1 : ∀ x, 2 * bs * q ≤ x → x < m → x / bs = 2 * q := fun x x1 x2 => by
    refine Nat.div_eq_of_lt_le ?_ ?_
    · rw [show 2 * q * bs = 2 * bs * q by rw [Nat.mul_right_comm]]; exact x1
    · rw [show (2 * q + 1) * bs = 2 * bs * q + bs by rw [Nat.add_mul, Nat.one_mul, Nat.mul_right_comm]]; omega
  have e2 : ∀ x, m ≤ x → x < b → x / bs = 2 * q + 1 := fun x x1 x2 => by
    refine Nat.div_eq_of_lt_le ?_ ?_
    · rw [show (2 * q + 1) * bs = 2 * bs * q + bs by rw [Nat.add_mul, Nat.one_mul, Nat.mul_right_comm]]; omega
    · rw [show (2 * q + 1 + 1) * bs = 2 * bs * q + 2 * bs by rw [show 2 * q + 1 + 1 = 2 * q + 2 by omega, Nat.add_mul, Nat.mul_right_comm]]; omega
  refine ⟨fun i j i1 ij j1 => h.2.1 i j i1 ij (by omega) ((e1 i i1 (by omega)).trans (e1 j (by omega) j1).symm), fun i j i1 ij j1 => h.2.1 i j (by omega) ij (by omega) ((e2 i i1 (by omega)).trans (e2 j (by omega) j1).symm), fun i j i1 i2 j1 j2 => ?_⟩
  · have t1 := h.2.2.2 i i1 (by omega)
    have t2 := h.2.2.2 j (by omega) (by omega)
    rw [e1 i i1 i2] at t1
    rw [e2 j j1 j2] at t2
    refine Decidable.byContradiction fun hn => ?_
    have := Nat.div_le_div_right (c := bs) (show tag (D j) ≤ tag (D i) by omega)
    omega
theorem in_blk {x bs q : Nat} (hbs : 0 < bs) (h1 : 2 * bs * q ≤ x) (h2 : x < 2 * bs * q + 2 * bs) : x / (2 * bs) = q := by
  refine Nat.div_eq_of_lt_le ?_ ?_
  · rw [Nat.mul_comm]; exact h1
  · rw [Nat.add_mul, Nat.one_mul, Nat.mul_comm q]; exact h2
theorem of_blk {x bs q : Nat} (hbs : 0 < bs) (h : x / (2 * bs) = q) : 2 * bs * q ≤ x ∧ x < 2 * bs * q + 2 * bs := by
  have h1 := Nat.div_add_mod x (2 * bs)
  have h2 := Nat.mod_lt x (show 0 < 2 * bs by omega)
  rw [h] at h1
  omega
theorem Blk2.step {D E : Nat → α} {n bs q b : Nat} (hbs : 0 < bs) (h : Blk2 lt tag D n bs (2 * bs * q)) (hE : Sb D E (2 * bs * q) b) (sE : Srt lt E (2 * bs * q) b) (hb : (b = 2 * bs * q + 2 * bs ∧ b ≤ n) ∨ (b = n ∧ n ≤ 2 * bs * q + 2 * bs)) : Blk2 lt tag E n bs (2 * bs * (q + 1)) := by
  obtain ⟨a1, a2, a3, a4⟩ := h
  rw [Nat.mul_add, Nat.mul_one]
  refine ⟨fun i j ij jn ja e => ?_, fun i j ia ij jn e => ?_, fun i hin ia => ?_, fun i ia hin => ?_⟩
  · by_cases hj : j < 2 * bs * q
    · rw [hE.out i (.inl (by omega)), hE.out j (.inl hj)]; exact a1 i j ij jn hj e
    · have ej := in_blk hbs (by omega) ja
      have ei := of_blk hbs (e.trans ej)
      exact sE i j ei.1 ij (by omega)
  · rw [hE.out i (.inr (by omega)), hE.out j (.inr (by omega))]; exact a2 i j (by omega) ij jn e
  · by_cases hi : i < 2 * bs * q
    · rw [hE.out i (.inl hi)]; exact a3 i hin hi
    · rw [in_blk hbs (by omega) ia]
      refine hE.all (fun x => tag x / (2 * bs) = q) (fun k k1 k2 => ?_) i (by omega) (by omega)
      exact (dv_up (a4 k k1 (by omega))).trans (in_blk hbs k1 (by omega))
  · rw [hE.out i (.inr (by omega))]; exact a4 i (by omega) hin
theorem Blk2.done {D : Nat → α} {n bs a : Nat} (h : Blk2 lt tag D n bs a) (ha : n ≤ a) : Blk lt tag D n (2 * bs) := ⟨fun i j ij jn e => h.1 i j ij jn (by omega) e, fun i hi => h.2.2.1 i hi (by omega)⟩
theorem Blk2.last {D : Nat → α} {n bs q : Nat} (hbs : 0 < bs) (h : Blk2 lt tag D n bs (2 * bs * q)) (hn : n ≤ 2 * bs * q + bs) : Blk lt tag D n (2 * bs) := by
  have e1 : ∀ x, 2 * bs * q ≤ x → x < n → x / bs = 2 * q := fun x x1 x2 => by
    refine Nat.div_eq_of_lt_le ?_ ?_
    · rw [show 2 * q * bs = 2 * bs * q by rw [Nat.mul_right_comm]]; exact x1
    · rw [show (2 * q + 1) * bs = 2 * bs * q + bs by rw [Nat.add_mul, Nat.one_mul, Nat.mul_right_comm]]; omega
  refine ⟨fun i j ij jn e => ?_, fun i hi => ?_⟩
  · by_cases hj : j < 2 * bs * q
    · exact h.1 i j ij jn hj e
    · have ej := in_blk hbs (by omega : 2 * bs * q ≤ j) (by omega)
      have ei := of_blk hbs (e.trans ej)
      exact h.2.1 i j ei.1 ij jn ((e1 i ei.1 (by omega)).trans (e1 j (by omega) jn).symm)
  · by_cases hi' : i < 2 * bs * q
    · exact h.2.2.1 i hi hi'
    · exact dv_up (h.2.2.2 i (by omega) hi)
/-- Below a place blocks of 20 that are in order; from there on all stands as at first. -/
def Blk1 (lt : α → α → Prop) (tag : α → Nat) (D : Nat → α) (n bs a : Nat) : Prop :=
  (∀ i j, i < j → j < n → j < a → i / bs = j / bs → lt (D i) (D j)) ∧ (∀ i, a ≤ i → i < n → tag (D i) = i) ∧ (∀ i, i < n → i < a → tag (D i) / bs = i / bs)
theorem in_blk1 {x bs q : Nat} (h1 : bs * q ≤ x) (h2 : x < bs * q + bs) : x / bs = q := by
  refine Nat.div_eq_of_lt_le ?_ ?_
  · rw [Nat.mul_comm]; exact h1
  · rw [Nat.add_mul, Nat.one_mul, Nat.mul_comm q]; exact h2
theorem of_blk1 {x bs q : Nat} (hbs : 0 < bs) (h : x / bs = q) : bs * q ≤ x ∧ x < bs * q + bs := by
  have h1 := Nat.div_add_mod x bs
  have h2 := Nat.mod_lt x hbs
  rw [h] at h1
  omega
theorem Blk1.step {D E : Nat → α} {n bs q b : Nat} (hbs : 0 < bs) (h : Blk1 lt tag D n bs (bs * q)) (hE : Sb D E (bs * q) b) (sE : Srt lt E (bs * q) b) (hb : (b = bs * q + bs ∧ b ≤ n) ∨ (b = n ∧ n ≤ bs * q + bs)) : Blk1 lt tag E n bs (bs * (q + 1)) := by
  obtain ⟨a1, a2, a3⟩ := h
  rw [Nat.mul_add, Nat.mul_one]
  refine ⟨fun i j ij jn ja e => ?_, fun i ia hin => ?_, fun i hin ia => ?_⟩
  · by_cases hj : j < bs * q
    · rw [hE.out i (.inl (by omega)), hE.out j (.inl hj)]; exact a1 i j ij jn hj e
    · have ej := in_blk1 (by omega) ja
      have ei := of_blk1 hbs (e.trans ej)
      exact sE i j ei.1 ij (by omega)
  · rw [hE.out i (.inr (by omega))]; exact a2 i (by omega) hin
  · by_cases hi : i < bs * q
    · rw [hE.out i (.inl hi)]; exact a3 i hin hi
    · rw [in_blk1 (by omega) ia]
      refine hE.all (fun x => tag x / bs = q) (fun k k1 k2 => ?_) i (by omega) (by omega)
      rw [a2 k k1 (by omega)]
      exact in_blk1 k1 (by omega)
theorem Blk1.done {D : Nat → α} {n bs a : Nat} (h : Blk1 lt tag D n bs a) (ha : n ≤ a) : Blk lt tag D n bs := ⟨fun i j ij jn e => h.1 i j ij jn (by omega) e, fun i hi => h.2.2 i hi (by omega)⟩
/-- The place of a thing: behind all that come ahead of it. -/
theorem cnt_sorted {D : Nat → α} {n : Nat} {P : α → Bool} {p : Nat} (hp : p ≤ n) (h1 : ∀ k, k < p → P (D k) = true) (h2 : ∀ k, p ≤ k → k < n → P (D k) = false) : cntP P D n = p := by
  induction n with
  | zero => simp [cntP]; omega
  | succ n ih =>
    unfold cntP
    by_cases e : p = n + 1
    · subst e
      rw [h1 n (by omega), if_pos rfl]
      have : ∀ m, m ≤ n → cntP P D m = m := by
        intro m
        induction m with
        | zero => intro _; rfl
        | succ m im => intro hm; unfold cntP; rw [im (by omega), h1 m (by omega), if_pos rfl]
      rw [this n (Nat.le_refl _)]
    · rw [ih (by omega) (fun k k1 k2 => h2 k k1 (by omega)), h2 n (by omega) (by omega)]
      simp
theorem cnt_pos {D : Nat → α} {P : α → Bool} : ∀ n, 0 < cntP P D n → ∃ k, k < n ∧ P (D k) = true
  | 0, h => by simp [cntP] at h
  | n + 1, h => by
    unfold cntP at h
    by_cases e : P (D n) = true
    · exact ⟨n, by omega, e⟩
    · rw [if_neg e] at h
      obtain ⟨k, k1, k2⟩ := cnt_pos n (by omega)
      exact ⟨k, by omega, k2⟩
theorem cnt_has {D : Nat → α} {P : α → Bool} : ∀ n k, k < n → P (D k) = true → 0 < cntP P D n
  | 0, k, h, _ => by omega
  | n + 1, k, h, e => by
    unfold cntP
    by_cases ek : k = n
    · subst ek; rw [if_pos e]; omega
    · have := cnt_has n k (by omega) e; omega
end
end Go.Proofs.Ythdbchghhpoadaa
