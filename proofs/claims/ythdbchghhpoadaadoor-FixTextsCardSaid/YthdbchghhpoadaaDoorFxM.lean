/- Plain facts on numbers in parts of 65536 as texts (no program in sight). -/
import Derived.Test.YthdbchghhpoadaaDoorFx4
import Derived.Test.YthdbchghhpoadaaDoorFx2
import Derived.Test.YthdbchghhpoadaaDoorTxt
import Derived.Test.YthdbchghhpoadaaDoorJC
import Derived.Lib.ItoaNum
set_option linter.unusedVariables false
set_option linter.unusedSimpArgs false
namespace Go.Proofs.YthdbchghhpoadaaDoor
open Go.RowKit Go.Lib
/-- A number in parts of 65536 as a text. -/
def sT (x : Int) : List UInt8 := showT x (decDigits (x.natAbs / 65536))
theorem lowD_dec : ∀ (f u : Nat), 0 < u → u < 10 ^ f → (lowD f (u : Int)).reverse = decDigits u
  | 0, u, h0, h1 => by simp at h1; omega
  | f + 1, u, h0, h1 => by
    have e8 : dig8 (u : Int) = UInt8.ofNat (48 + u % 10) := by
      unfold dig8
      rw [show (48 + (u : Int) % 10).toNat = 48 + u % 10 by omega]
    have e : lowD (f + 1) (u : Int) = dig8 (u : Int) :: lowD f ((u / 10 : Nat) : Int) := by
      show (if (u : Int) ≤ 0 then [] else _) = _
      rw [if_neg (by omega), show (u : Int) / 10 = ((u / 10 : Nat) : Int) by omega]
    rw [e, List.reverse_cons, e8]
    by_cases h : u < 10
    · rw [decDigits, dif_pos h, show u / 10 = 0 by omega, show ((0 : Nat) : Int) = 0 from rfl, lowD_zero, show u % 10 = u by omega]; rfl
    · rw [decDigits, dif_neg h, lowD_dec f (u / 10) (by omega) (by rw [Nat.pow_succ] at h1; omega)]
theorem digL_dec (u : Nat) (h : u < 10 ^ 50) : (digL (u : Int)).reverse = decDigits u := by
  unfold digL
  by_cases h0 : u = 0
  · subst h0; rw [if_pos (by omega), decDigits, dif_pos (by omega)]; rfl
  · rw [if_neg (by omega), lowD_dec 50 u (by omega) h]
theorem txt_nat (u : Nat) (h : u < 10 ^ 50) : txt (u : Int) = ⟨(decDigits u).toArray⟩ := by
  unfold txt txtL
  rw [if_neg (by omega), List.nil_append, show ((u : Int).natAbs : Int) = (u : Int) by omega, digL_dec u h]
def isD (l : List UInt8) : Prop := ∀ c ∈ l, 48 ≤ c.toNat ∧ c.toNat ≤ 57
instance (l : List UInt8) : Decidable (isD l) := by unfold isD; infer_instance
def decL (l : List UInt8) : Nat := l.foldl (fun a c => 10 * a + (c.toNat - 48)) 0
theorem decL_app (l : List UInt8) (c : UInt8) : decL (l ++ [c]) = 10 * decL l + (c.toNat - 48) := by simp [decL, List.foldl_append]
theorem fold_from : ∀ (l : List UInt8) (a : Nat), l.foldl (fun a c => 10 * a + (c.toNat - 48)) a = a * 10 ^ l.length + decL l
  | [], a => by simp [decL]
  | c :: l, a => by
    show l.foldl _ (10 * a + (c.toNat - 48)) = a * 10 ^ (l.length + 1) + l.foldl _ (10 * 0 + (c.toNat - 48))
    rw [fold_from l, fold_from l, Nat.pow_succ, Nat.add_mul, show a * (10 ^ l.length * 10) = 10 * a * 10 ^ l.length by rw [Nat.mul_comm 10 a, Nat.mul_assoc, Nat.mul_comm 10]]
    simp [Nat.add_assoc]
theorem decL_cons (c : UInt8) (l : List UInt8) : decL (c :: l) = (c.toNat - 48) * 10 ^ l.length + decL l := by
  show l.foldl _ (10 * 0 + (c.toNat - 48)) = _
  rw [fold_from]; simp
theorem isD_app {a b : List UInt8} : isD (a ++ b) ↔ isD a ∧ isD b := by
  unfold isD
  constructor
  · intro h; exact ⟨fun c hc => h c (List.mem_append_left _ hc), fun c hc => h c (List.mem_append_right _ hc)⟩
  · rintro ⟨h1, h2⟩ c hc
    rcases List.mem_append.1 hc with h | h
    · exact h1 c h
    · exact h2 c h
theorem decL_lt : ∀ {l : List UInt8}, isD l → decL l < 10 ^ l.length
  | [], _ => by simp [decL]
  | c :: l, h => by
    have h1 := h c (by simp)
    have h2 : decL l < 10 ^ l.length := decL_lt fun x hx => h x (by simp [hx])
    rw [decL_cons, List.length_cons, Nat.pow_succ]
    have h3 : (c.toNat - 48) * 10 ^ l.length ≤ 9 * 10 ^ l.length := Nat.mul_le_mul_right _ (by omega)
    omega
theorem byte48 {d : Nat} (h : d < 10) : (UInt8.ofNat (48 + d)).toNat = 48 + d := by
  rw [UInt8.toNat_ofNat']
  exact Nat.mod_eq_of_lt (by omega)
theorem dec_facts : ∀ u : Nat, isD (decDigits u) ∧ decL (decDigits u) = u ∧ decDigits u ≠ [] := by
  intro u
  induction u using Nat.strongRecOn with
  | _ u ih =>
    rw [decDigits]
    split
    · rename_i h
      refine ⟨?_, ?_, by simp⟩
      · intro c hc
        obtain rfl : c = UInt8.ofNat (48 + u) := by simpa using hc
        rw [byte48 h]; omega
      · show 10 * 0 + ((UInt8.ofNat (48 + u)).toNat - 48) = u
        rw [byte48 h]; omega
    · rename_i h
      obtain ⟨h1, h2, h3⟩ := ih (u / 10) (by omega)
      refine ⟨isD_app.2 ⟨h1, ?_⟩, ?_, by simp⟩
      · intro c hc
        obtain rfl : c = UInt8.ofNat (48 + u % 10) := by simpa using hc
        rw [byte48 (by omega)]; omega
      · rw [decL_app, h2, byte48 (by omega)]; omega
theorem dec_len : ∀ (k u : Nat), u < 10 ^ (k + 1) → (decDigits u).length ≤ k + 1
  | 0, u, h => by rw [decDigits, dif_pos (by simpa using h)]; simp
  | k + 1, u, h => by
    rw [decDigits]
    split
    · simp
    · have := dec_len k (u / 10) (by rw [Nat.pow_succ] at h; omega)
      simp only [List.length_append, List.length_cons, List.length_nil]; omega
theorem dig_dgt {p : Nat} (h : p < 65536) : 48 ≤ (dig p).toNat ∧ (dig p).toNat ≤ 57 ∧ (dig p).toNat - 48 = p * 10 / 65536 := by
  have := dig_val h
  omega
theorem dgs_facts : ∀ (f p : Nat), p < 65536 → 2 ^ (16 - f) ∣ p → f ≤ 16 → isD (dgs f p) ∧ (dgs f p).length ≤ f ∧ decL (dgs f p) * 65536 = p * 10 ^ (dgs f p).length
  | 0, p, hp, hd, _ => by
    have h0 : p = 0 := by
      rcases Nat.eq_zero_or_pos p with h | h
      · exact h
      · have := Nat.le_of_dvd h hd
        have e : (2 : Nat) ^ (16 - 0) = 65536 := by decide
        omega
    subst h0
    refine ⟨fun c hc => by simp [dgs] at hc, by simp [dgs], by simp [dgs, decL]⟩
  | f + 1, p, hp, hd, hf => by
    by_cases h0 : p = 0
    · subst h0
      rw [dgs_zero]
      exact ⟨fun c hc => by simp at hc, by simp, by simp [decL]⟩
    · rw [dgs_pos h0]
      obtain ⟨h1, h2, h3⟩ := dig_dgt hp
      have hs := dv_step (k := 16 - (f + 1)) (by omega) hd
      rw [show 16 - (f + 1) + 1 = 16 - f by omega] at hs
      obtain ⟨i1, i2, i3⟩ := dgs_facts f (p * 10 % 65536) (by omega) hs (by omega)
      refine ⟨fun c hc => ?_, by simp; omega, ?_⟩
      · rcases List.mem_cons.1 hc with rfl | hc
        · omega
        · exact i1 c hc
      · rw [decL_cons, h3, List.length_cons, Nat.pow_succ, Nat.add_mul, i3]
        have e : p * 10 = p * 10 / 65536 * 65536 + p * 10 % 65536 := by omega
        generalize 10 ^ (dgs f (p * 10 % 65536)).length = T
        generalize p * 10 / 65536 = q at e ⊢
        generalize p * 10 % 65536 = r at e ⊢
        rw [show p * (T * 10) = p * 10 * T by rw [Nat.mul_assoc, Nat.mul_comm 10 T], e, Nat.add_mul, show q * T * 65536 = q * 65536 * T by rw [Nat.mul_assoc, Nat.mul_comm T, ← Nat.mul_assoc]]
/-- A text parted at its first point. -/
def cutD : List UInt8 → List UInt8 × Option (List UInt8)
  | [] => ([], none)
  | c :: t => if c = 46 then ([], some t) else (c :: (cutD t).1, (cutD t).2)
theorem isD_no {l : List UInt8} (h : isD l) : 46 ∉ l ∧ 45 ∉ l := ⟨fun hm => by have := h _ hm; simp at this, fun hm => by have := h _ hm; simp at this⟩
theorem cutD_app : ∀ {h : List UInt8} (r : List UInt8), 46 ∉ h → cutD (h ++ 46 :: r) = (h, some r)
  | [], r, _ => by simp [cutD]
  | c :: h, r, hn => by
    have hc : c ≠ 46 := fun e => hn (by simp [e])
    show (if c = 46 then _ else _) = _
    have ih := cutD_app (h := h) r (fun hm => hn (by simp [hm]))
    rw [if_neg hc]
    show (c :: (cutD (h ++ 46 :: r)).1, (cutD (h ++ 46 :: r)).2) = _
    rw [ih]
theorem cutD_no : ∀ {h : List UInt8}, 46 ∉ h → cutD h = (h, none)
  | [], _ => rfl
  | c :: h, hn => by
    have hc : c ≠ 46 := fun e => hn (by simp [e])
    show (if c = 46 then _ else _) = _
    rw [if_neg hc, cutD_no (fun hm => hn (by simp [hm]))]
theorem cutD_cases : ∀ (t : List UInt8), (46 ∉ t ∧ cutD t = (t, none)) ∨ ∃ h r, t = h ++ 46 :: r ∧ 46 ∉ h ∧ cutD t = (h, some r)
  | [] => .inl ⟨by simp, rfl⟩
  | c :: t => by
    by_cases hc : c = 46
    · subst hc; exact .inr ⟨[], t, rfl, by simp, by simp [cutD]⟩
    · have e : cutD (c :: t) = (c :: (cutD t).1, (cutD t).2) := by show (if c = 46 then _ else _) = _; rw [if_neg hc]
      rcases cutD_cases t with ⟨h1, h2⟩ | ⟨h, r, h1, h2, h3⟩
      · exact .inl ⟨by simp [h1]; exact fun e => hc e.symm, by rw [e, h2]⟩
      · exact .inr ⟨c :: h, r, by rw [h1]; rfl, by simp [h2]; exact fun e => hc e.symm, by rw [e, h3]⟩
def numO (l : List UInt8) : Option Nat := if 0 < l.length ∧ l.length ≤ 18 ∧ isD l then some (decL l) else none
def partO (l : List UInt8) : Option Nat := if 0 < l.length ∧ l.length ≤ 16 ∧ isD l then some (decL l * 65536 / 10 ^ l.length) else none
/-- The size that a text without a sign may be; the program's. -/
def candU (t : List UInt8) : Option Int :=
  match numO (cutD t).1 with
  | none => none
  | some n => if 140737488355328 < n then none else
    match (cutD t).2 with
    | none => some ((n : Int) * 65536)
    | some r => match partO r with
      | none => none
      | some p => some ((n : Int) * 65536 + p)
/-- The document's. -/
def candV (t : List UInt8) : Option Int :=
  if 60 < t.length then none else
  if ¬ (0 < (cutD t).1.length ∧ isD (cutD t).1) then none else
  match (cutD t).2 with
  | none => some ((decL (cutD t).1 : Int) * 65536)
  | some r => if 0 < r.length ∧ isD r then some ((decL (cutD t).1 : Int) * 65536 + ((decL r * 65536 / 10 ^ r.length : Nat) : Int)) else none
def signed (f : List UInt8 → Option Int) (l : List UInt8) : Option Int := if l.head? = some 45 then (f l.tail).map (fun z => -z) else f l
/-- What is told of a text, of the number that it may be. -/
def finT (c : Option Int) (l : List UInt8) : Int × Bool :=
  match c with
  | some z => if fitsB z 63 = true ∧ sT z = l then (z, true) else (0, false)
  | none => (0, false)
def sU (u p : Nat) : List UInt8 := decDigits u ++ (if p = 0 then [] else 46 :: dgs 16 p)
theorem sT_eq (x : Int) : sT x = (if x < 0 then [45] else []) ++ sU (x.natAbs / 65536) (x.natAbs % 65536) := by
  unfold sT showT sU
  rw [List.append_assoc]
theorem sU_head (u p : Nat) : (sU u p).head? ≠ some 45 := by
  obtain ⟨h1, -, h3⟩ := dec_facts u
  unfold sU
  cases hd : decDigits u with
  | nil => exact absurd hd h3
  | cons c l =>
    rw [hd] at h1
    have := h1 c (by simp)
    simp
    rintro rfl
    simp at this
theorem exact_div {a b c : Nat} (hb : 0 < b) (h : a = c * b) : a / b = c := by rw [h, Nat.mul_div_cancel _ hb]
theorem cand_both (u p : Nat) (hu : u ≤ 140737488355328) (hp : p < 65536) : candU (sU u p) = some ((u : Int) * 65536 + p) ∧ candV (sU u p) = some ((u : Int) * 65536 + p) := by
  obtain ⟨h1, h2, h3⟩ := dec_facts u
  have hl := dec_len 14 u (by omega)
  have hl0 : 0 < (decDigits u).length := List.length_pos_iff.2 h3
  obtain ⟨d1, d2, d3⟩ := dgs_facts 16 p hp (by simp) (by omega)
  unfold sU
  by_cases h0 : p = 0
  · subst h0
    rw [if_pos rfl, List.append_nil]
    have hc := cutD_no (isD_no h1).1
    unfold candU candV
    rw [hc]
    constructor
    · simp only [numO]
      rw [if_pos ⟨hl0, by omega, h1⟩, h2]
      simp only []
      rw [if_neg (by omega)]; simp
    · rw [if_neg (by omega), if_neg (fun hh => hh ⟨hl0, h1⟩)]
      simp only []
      rw [h2]; simp
  · rw [if_neg h0]
    have hc := cutD_app (dgs 16 p) (isD_no h1).1
    have hne : 0 < (dgs 16 p).length := by rw [dgs_pos h0]; simp
    have hq : decL (dgs 16 p) * 65536 / 10 ^ (dgs 16 p).length = p := exact_div (Nat.pow_pos (by omega)) d3
    unfold candU candV
    rw [hc]
    constructor
    · simp only [numO]
      rw [if_pos ⟨hl0, by omega, h1⟩, h2]
      simp only [partO]
      rw [if_neg (by omega), if_pos ⟨hne, d2, d1⟩, hq]
    · rw [if_neg (by simp only [List.length_append, List.length_cons]; omega), if_neg (fun hh => hh ⟨hl0, h1⟩)]
      simp only []
      rw [if_pos ⟨hne, d1⟩, h2, hq]
theorem signed_sT {f : List UInt8 → Option Int} (hf : ∀ u p : Nat, u ≤ 140737488355328 → p < 65536 → f (sU u p) = some ((u : Int) * 65536 + p)) (x : Int) (hx : I64 x) : signed f (sT x) = some x := by
  rw [sT_eq]
  have hb : x.natAbs / 65536 ≤ 140737488355328 := by unfold I64 at hx; omega
  have h := hf (x.natAbs / 65536) (x.natAbs % 65536) hb (by omega)
  unfold signed
  by_cases hn : x < 0
  · rw [if_pos hn, if_pos (by simp)]
    show (f (sU (x.natAbs / 65536) (x.natAbs % 65536))).map _ = _
    rw [h]
    simp only [Option.map_some, Option.some.injEq]
    omega
  · rw [if_neg hn, List.nil_append, if_neg (sU_head _ _), h]
    simp only [Option.some.injEq]
    omega
theorem finT_at (x : Int) (hx : I64 x) : finT (some x) (sT x) = (x, true) := by
  unfold finT
  simp only []
  rw [if_pos (by exact ⟨fits_63.2 hx, trivial⟩)]
theorem finT_no {c : Option Int} {l : List UInt8} (h : ¬ ∃ x, I64 x ∧ sT x = l) : finT c l = (0, false) := by
  unfold finT
  cases c with
  | none => rfl
  | some z => simp only []; rw [if_neg]; rintro ⟨h1, h2⟩; exact h ⟨z, fits_63.1 h1, h2⟩
theorem finT_same (l : List UInt8) : finT (signed candU l) l = finT (signed candV l) l := by
  by_cases h : ∃ x, I64 x ∧ sT x = l
  · obtain ⟨x, hx, rfl⟩ := h
    rw [signed_sT (fun u p hu hp => (cand_both u p hu hp).1) x hx, signed_sT (fun u p hu hp => (cand_both u p hu hp).2) x hx]
  · rw [finT_no h, finT_no h]
theorem finT_back (x : Int) (hx : I64 x) : finT (signed candU (sT x)) (sT x) = (x, true) := by
  rw [signed_sT (fun u p hu hp => (cand_both u p hu hp).1) x hx, finT_at x hx]
theorem finT_true {c : Option Int} {l : List UInt8} {z : Int} (h : finT c l = (z, true)) : I64 z ∧ sT z = l := by
  unfold finT at h
  cases c with
  | none => simp at h
  | some y =>
    simp only [] at h
    split at h
    · rename_i hh
      simp at h
      subst h
      exact ⟨fits_63.1 hh.1, hh.2⟩
    · simp at h
theorem sT_len (x : Int) (hx : I64 x) : (sT x).length ≤ 40 := by
  rw [sT_eq]
  have hb : x.natAbs / 65536 ≤ 140737488355328 := by unfold I64 at hx; omega
  have hl := dec_len 14 (x.natAbs / 65536) (by omega)
  obtain ⟨d1, d2, d3⟩ := dgs_facts 16 (x.natAbs % 65536) (by omega) (by simp) (by omega)
  unfold sU
  rw [List.length_append, List.length_append]
  have e1 : ((if x < 0 then [45] else [] : List UInt8)).length ≤ 1 := by split <;> simp
  have e2 : ((if x.natAbs % 65536 = 0 then [] else 46 :: dgs 16 (x.natAbs % 65536) : List UInt8)).length ≤ 17 := by
    split
    · simp
    · simp; omega
  omega
end Go.Proofs.YthdbchghhpoadaaDoor
