/- Plain facts on lists of digits of base 32768 (no program in sight): the number of a list, what taking, appending, setting do to it, what the order of digits says. -/
namespace Go.Proofs.Ytommpclkiiffpaa

/-- The base. -/
def BB : Int := 32768
theorem BB_eq : BB = 32768 := rfl
theorem BB_pos : 0 < BB := by unfold BB; omega

/-- The number of a list of digits, the lowest first. -/
def bval : List Int → Int
  | [] => 0
  | d :: ds => d + 32768 * bval ds

def Dig (ds : List Int) : Prop := ∀ d ∈ ds, 0 ≤ d ∧ d < 32768

/-- No nought at the end. -/
def Canon (ds : List Int) : Prop := Dig ds ∧ ∀ h : ds ≠ [], ds.getLast h ≠ 0

/-- 32768 to a power. -/
def P2 (n : Nat) : Int := (32768 : Int) ^ n

theorem P2_zero : P2 0 = 1 := rfl
theorem P2_succ (n : Nat) : P2 (n + 1) = 32768 * P2 n := by unfold P2; rw [Int.pow_succ, Int.mul_comm]
theorem P2_pos (n : Nat) : 0 < P2 n := by unfold P2; exact Int.pow_pos (by omega)
theorem P2_add (m n : Nat) : P2 (m + n) = P2 m * P2 n := by unfold P2; exact Int.pow_add ..

theorem bval_nil : bval [] = 0 := rfl
theorem bval_cons (d : Int) (ds : List Int) : bval (d :: ds) = d + 32768 * bval ds := rfl

theorem bval_append (a b : List Int) : bval (a ++ b) = bval a + P2 a.length * bval b := by
  induction a with
  | nil => simp [bval, P2_zero]
  | cons d ds ih =>
    simp only [List.cons_append, bval_cons, List.length_cons, P2_succ, ih]
    grind

theorem bval_snoc (a : List Int) (d : Int) : bval (a ++ [d]) = bval a + P2 a.length * d := by
  rw [bval_append]; simp [bval]

theorem Dig.nil : Dig [] := fun _ h => by cases h
theorem Dig.cons {d : Int} {ds : List Int} (h : Dig (d :: ds)) : (0 ≤ d ∧ d < 32768) ∧ Dig ds :=
  ⟨h d (by simp), fun x hx => h x (by simp [hx])⟩
theorem Dig.mk {d : Int} {ds : List Int} (h : 0 ≤ d ∧ d < 32768) (hs : Dig ds) : Dig (d :: ds) := fun x hx => by
  rcases List.mem_cons.1 hx with rfl | hx
  · exact h
  · exact hs x hx
theorem Dig.append {a b : List Int} (ha : Dig a) (hb : Dig b) : Dig (a ++ b) := fun x hx => by
  rcases List.mem_append.1 hx with h | h
  · exact ha x h
  · exact hb x h
theorem Dig.snoc {a : List Int} {d : Int} (ha : Dig a) (h : 0 ≤ d ∧ d < 32768) : Dig (a ++ [d]) := ha.append (Dig.mk h Dig.nil)
theorem Dig.take {a : List Int} (ha : Dig a) (n : Nat) : Dig (a.take n) := fun x hx => ha x (List.mem_of_mem_take hx)
theorem Dig.drop {a : List Int} (ha : Dig a) (n : Nat) : Dig (a.drop n) := fun x hx => ha x (List.mem_of_mem_drop hx)
theorem Dig.set {a : List Int} (ha : Dig a) (n : Nat) {d : Int} (h : 0 ≤ d ∧ d < 32768) : Dig (a.set n d) := fun x hx => by
  rcases List.mem_or_eq_of_mem_set hx with h' | rfl
  · exact ha x h'
  · exact h
theorem Dig.at {a : List Int} (ha : Dig a) (i : Nat) : 0 ≤ a.getD i 0 ∧ a.getD i 0 < 32768 := by
  by_cases h : i < a.length
  · rw [List.getD_eq_getElem?_getD, List.getElem?_eq_getElem h]
    exact ha _ (List.getElem_mem h)
  · rw [List.getD_eq_getElem?_getD, List.getElem?_eq_none (by omega)]
    simp

theorem bval_nonneg : ∀ {ds : List Int}, Dig ds → 0 ≤ bval ds
  | [], _ => by simp [bval]
  | d :: ds, h => by
    have := bval_nonneg h.cons.2
    have := h.cons.1
    simp only [bval_cons]; omega

theorem bval_lt : ∀ {ds : List Int}, Dig ds → bval ds < P2 ds.length
  | [], _ => by simp [bval, P2_zero]
  | d :: ds, h => by
    have := bval_lt h.cons.2
    have := h.cons.1
    simp only [bval_cons, List.length_cons, P2_succ]; omega

theorem bval_low : ∀ {ds : List Int}, Canon ds → ds ≠ [] → P2 (ds.length - 1) ≤ bval ds
  | [], _, h => absurd rfl h
  | [d], h, _ => by
    have h1 := h.1.cons.1
    have h2 : d ≠ 0 := h.2 (by simp)
    simp [bval, P2_zero]; omega
  | d :: e :: ds, h, _ => by
    have hc : Canon (e :: ds) := ⟨h.1.cons.2, fun hn => by have := h.2 (by simp); simpa using this⟩
    have h1 := bval_low hc (by simp)
    have h2 := h.1.cons.1
    simp only [List.length_cons, Nat.add_sub_cancel] at h1 ⊢
    rw [bval_cons, P2_succ]; omega

theorem Canon.nil : Canon [] := ⟨Dig.nil, fun h => absurd rfl h⟩

theorem Canon.zero_iff {ds : List Int} (h : Canon ds) : bval ds = 0 ↔ ds = [] := by
  constructor
  · intro h0
    rcases Classical.em (ds = []) with h1 | h1
    · exact h1
    · have := bval_low h h1
      have := P2_pos (ds.length - 1)
      omega
  · rintro rfl; rfl

theorem Canon.pos {ds : List Int} (h : Canon ds) (hn : ds ≠ []) : 0 < bval ds := by
  have := bval_low h hn
  have := P2_pos (ds.length - 1)
  omega

theorem P2_mono {m n : Nat} (h : m ≤ n) : P2 m ≤ P2 n := by
  obtain ⟨k, rfl⟩ := Nat.exists_eq_add_of_le h
  induction k with
  | zero => exact Int.le_refl _
  | succ k ih => 
    have := ih (by omega)
    have h2 := P2_pos (m + k)
    rw [← Nat.add_assoc, P2_succ]; omega

theorem P2_lt {m n : Nat} (h : P2 m < P2 n) : m < n := by
  rcases Nat.lt_or_ge m n with h1 | h1
  · exact h1
  · have := P2_mono h1; omega

/-- How many digits a number below a power has at most. -/
theorem Canon.length_le {ds : List Int} (h : Canon ds) {n : Nat} (hx : bval ds < P2 n) : ds.length ≤ n := by
  rcases Classical.em (ds = []) with rfl | h1
  · simp
  · have h2 := bval_low h h1
    have h3 : P2 (ds.length - 1) < P2 n := by omega
    have h4 := P2_lt h3
    have h5 : ds.length ≠ 0 := fun e => h1 (List.eq_nil_of_length_eq_zero e)
    omega

theorem take_succ_val (a : List Int) (i : Nat) : bval (a.take (i + 1)) = bval (a.take i) + P2 i * a.getD i 0 := by
  by_cases h : i < a.length
  · rw [List.take_succ_eq_append_getElem h, bval_snoc, List.length_take_of_le (by omega), List.getD_eq_getElem?_getD, List.getElem?_eq_getElem h]
    rfl
  · rw [List.take_of_length_le (by omega), List.take_of_length_le (by omega), List.getD_eq_getElem?_getD, List.getElem?_eq_none (by omega)]
    simp

theorem drop_val (a : List Int) (i : Nat) : bval (a.drop i) = a.getD i 0 + 32768 * bval (a.drop (i + 1)) := by
  by_cases h : i < a.length
  · rw [List.drop_eq_getElem_cons h, bval_cons, List.getD_eq_getElem?_getD, List.getElem?_eq_getElem h]
    rfl
  · rw [List.drop_of_length_le (by omega), List.drop_of_length_le (by omega), List.getD_eq_getElem?_getD, List.getElem?_eq_none (by omega)]
    simp [bval]

theorem take_drop_val (a : List Int) (i : Nat) : bval a = bval (a.take i) + P2 i * bval (a.drop i) := by
  induction i with
  | zero => simp [bval, P2_zero]
  | succ i ih =>
    rw [ih, take_succ_val, drop_val a i, P2_succ]
    grind

theorem take_lt {a : List Int} (h : Dig a) (i : Nat) : 0 ≤ bval (a.take i) ∧ bval (a.take i) < P2 i := by
  refine ⟨bval_nonneg (h.take i), ?_⟩
  have h1 := bval_lt (h.take i)
  have h2 : P2 (a.take i).length ≤ P2 i := P2_mono (by simp; omega)
  omega

/-- The first digit that differs, from above, decides. -/
theorem less_of_digit {a b : List Int} (ha : Dig a) (hb : Dig b) {i : Nat} (he : bval (a.drop (i + 1)) = bval (b.drop (i + 1))) (h : a.getD i 0 < b.getD i 0) : bval a < bval b := by
  rw [take_drop_val a i, take_drop_val b i, drop_val a i, drop_val b i, he]
  have h1 := take_lt ha i
  have h2 := take_lt hb i
  have h3 := P2_pos i
  have h4 : P2 i * (a.getD i 0 + 32768 * bval (b.drop (i + 1)) + 1) ≤ P2 i * (b.getD i 0 + 32768 * bval (b.drop (i + 1))) := Int.mul_le_mul_of_nonneg_left (by omega) (by omega)
  rw [Int.mul_add _ _ 1, Int.mul_one] at h4
  omega

theorem set_val : ∀ (a : List Int) (i : Nat) (v : Int), i < a.length → bval (a.set i v) = bval a + P2 i * (v - a.getD i 0)
  | [], _, _, h => by simp at h
  | d :: ds, 0, v, _ => by simp [bval, P2_zero]; omega
  | d :: ds, i + 1, v, h => by
    have := set_val ds i v (by simpa using h)
    simp only [List.set_cons_succ, bval_cons, this, P2_succ, List.getD_cons_succ]
    grind

theorem zeros_val : ∀ (n : Nat), bval (List.replicate n 0) = 0
  | 0 => rfl
  | n + 1 => by rw [List.replicate_succ, bval_cons, zeros_val n]; rfl

theorem Dig.zeros (n : Nat) : Dig (List.replicate n 0) := fun d h => by
  have := (List.mem_replicate.1 h).2; omega

/-- All digits from a place on are 0. -/
theorem drop_zero_val : ∀ {a : List Int} {n : Nat}, (∀ i, n ≤ i → a.getD i 0 = 0) → bval (a.drop n) = 0 := by
  intro a
  induction a with
  | nil => intro n _; simp [bval]
  | cons d ds ih =>
    intro n h
    cases n with
    | zero =>
      have h0 := h 0 (Nat.le_refl _)
      have h1 := ih (n := 0) (fun i _ => by have := h (i + 1) (by omega); simpa using this)
      simp at h0 h1
      simp [bval_cons, h0, h1]
    | succ n =>
      have h1 := ih (n := n) (fun i hi => by have := h (i + 1) (by omega); simpa using this)
      simpa using h1

theorem take_val_of_zero {a : List Int} {n : Nat} (h : ∀ i, n ≤ i → a.getD i 0 = 0) : bval (a.take n) = bval a := by
  have h1 := take_drop_val a n
  rw [drop_zero_val h] at h1
  omega

theorem canon_take {a : List Int} (h : Dig a) {n : Nat} (hn : n ≤ a.length) (hl : n = 0 ∨ a.getD (n - 1) 0 ≠ 0) : Canon (a.take n) := by
  refine ⟨h.take n, fun hne => ?_⟩
  rcases hl with rfl | hl
  · simp at hne
  · have hn0 : n ≠ 0 := by rintro rfl; simp at hne
    rw [List.getLast_eq_getElem]
    rw [List.getD_eq_getElem?_getD, List.getElem?_eq_getElem (by omega)] at hl
    simp only [List.getElem_take, List.length_take]
    have e : min n a.length - 1 = n - 1 := by omega
    simpa [e] using hl

end Go.Proofs.Ytommpclkiiffpaa
