/- Plain facts on decimal digits (no program in sight): the digits of a number, the lowest first; the text of a number. -/
set_option linter.unusedVariables false
namespace Go.Proofs.YthdbchghhpoadaaDoor

def dig8 (n : Int) : UInt8 := UInt8.ofNat (48 + (n % 10)).toNat
theorem dig8_val (n : Int) : ((dig8 n).toNat : Int) = 48 + n % 10 := by
  unfold dig8
  rw [UInt8.toNat_ofNat']
  omega
/-- The digits, the lowest first (at most so many). -/
def lowD : Nat → Int → List UInt8
  | 0, _ => []
  | f + 1, n => if n ≤ 0 then [] else dig8 n :: lowD f (n / 10)
theorem lowD_zero (f : Nat) : lowD f 0 = [] := by cases f <;> simp [lowD]
theorem lowD_len : ∀ (f : Nat) (n : Int), (lowD f n).length ≤ f
  | 0, _ => by simp [lowD]
  | f + 1, n => by
    unfold lowD; split
    · simp
    · simp; exact lowD_len f _
/-- The digits of a size; 0 has one. -/
def digL (n : Int) : List UInt8 := if n = 0 then [48] else lowD 50 n
/-- The text of a number. -/
def txtL (z : Int) : List UInt8 := (if z < 0 then [45] else []) ++ (digL (z.natAbs : Int)).reverse
def txt (z : Int) : ByteArray := ⟨(txtL z).toArray⟩

/-- What has been told of a size N, and what is left of it. -/
def TI (N x : Int) (bs : List UInt8) (f : Nat) : Prop := 0 ≤ x ∧ x < (10 : Int) ^ f ∧ ((bs ++ lowD f x = digL N ∧ (0 < x ∨ bs ≠ [])) ∨ (N = 0 ∧ x = 0 ∧ bs = []))
theorem TI.start {N : Int} (h0 : 0 ≤ N) (h1 : N < (10 : Int) ^ 50) : TI N N [] 50 := by
  refine ⟨h0, h1, ?_⟩
  by_cases h : N = 0
  · exact .inr ⟨h, h, rfl⟩
  · exact .inl ⟨by unfold digL; rw [if_neg h]; rfl, .inl (by omega)⟩
theorem TI.step {N x : Int} {bs : List UInt8} {f : Nat} (h : TI N x bs f) (hx : 0 < x ∨ bs = []) : TI N (x / 10) (bs ++ [dig8 x]) (f - 1) ∧ bs.length + 1 + (f - 1) ≤ bs.length + max f 1 := by
  obtain ⟨h0, h1, h2⟩ := h
  have hlt : x / 10 < (10 : Int) ^ (f - 1) ∨ x = 0 := by
    cases f with
    | zero => right; simp at h1; omega
    | succ f => left; rw [Int.pow_succ] at h1; simp; omega
  refine ⟨⟨by omega, ?_, ?_⟩, by omega⟩
  · rcases hlt with h | h
    · exact h
    · subst h; exact Int.pow_pos (by omega)
  · left
    refine ⟨?_, .inr (by simp)⟩
    rcases h2 with ⟨h2, h3⟩ | ⟨rfl, rfl, rfl⟩
    · by_cases hp : 0 < x
      · cases f with
        | zero => simp at h1; omega
        | succ f =>
          rw [lowD, if_neg (by omega)] at h2
          simp only [Nat.add_sub_cancel, List.append_assoc, List.singleton_append]
          exact h2
      · have hb : bs = [] := by
          rcases hx with h | h
          · exact absurd h hp
          · exact h
        rcases h3 with h | h
        · exact absurd h hp
        · exact absurd hb h
    · rw [show (0 : Int) / 10 = 0 by decide, lowD_zero]
      decide
theorem TI.len {N x : Int} {bs : List UInt8} {f : Nat} (h : TI N x bs f) (hx : 0 < x ∨ bs = []) (hl : bs.length + f ≤ 51) (hb : bs = [] → f = 50) : (bs ++ [dig8 x]).length + (f - 1) ≤ 51 := by
  obtain ⟨h0, h1, _⟩ := h
  simp only [List.length_append, List.length_singleton]
  by_cases e : bs = []
  · have := hb e; subst e; simp; omega
  · have hp : 0 < x := by
      rcases hx with h | h
      · exact h
      · exact absurd h e
    cases f with
    | zero => simp at h1; omega
    | succ f => omega
theorem TI.done {N : Int} {bs : List UInt8} {f : Nat} (h : TI N 0 bs f) (hb : bs ≠ []) : bs = digL N := by
  obtain ⟨_, _, ⟨h, _⟩ | ⟨_, _, h⟩⟩ := h
  · rw [lowD_zero, List.append_nil] at h; exact h
  · exact absurd h hb

end Go.Proofs.YthdbchghhpoadaaDoor
