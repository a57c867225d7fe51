/- What all walks of this seat use: imports, how an integer's well-formedness reads as bounds, facts kept from the walk. | Plain facts on lists of digits of base 32768 (no program in sight): the number of a list, what taking, appending, setting do to it, what the order of digits says. | Plain facts on long division by two digits (no program in sight): what bits.Div64 reckons. | From a walk to the given statement: for a law (one bool back, its arguments read as before) whose walk returns true and leaves all that was there as it was ('Below'), whatever the arguments' types. | How an argument of a struct's or an array's type by value (nested or not), and a slice of such, is opened into its one-cell parts: by the type's 'leaves', a closed list of offsets and types. | Small things of many walks: 'no further from 0 than', products' bounds, wraps that do nothing, contracts of callees that turn nothing; the document's In and Down. | Whether a place is right: the test, and the document's Right. | Rows of int64 that came in, or lie in an array of the call's own; slices.IndexFunc and ContainsFunc over them. | How an argument that is a row of int64 is opened. | Rows of three int64 each: how they read, how such an argument is opened. | math/bits.Add64 and Sub64 as laws of their calls (in whole numbers). -/
import Derived.Test.YthdbchghhpoadaaDoorRows
import Derived.WalkKit
import Derived.WalkSpells
import Derived.WalkLawsBesides
import Derived.ProofKit
import Derived.OpenShut
import Derived.Outline
import Derived.Laws.EntriesVeiled
import Derived.Lib.Hide
import Derived.Deep.QuietTactic
import Derived.BigQuiet
import Derived.Carry
import Derived.Below
import Derived.KernelRfl
import Derived.Deep.Slices
import Derived.ChangeSlices
import Derived.ChangeShapes
import Derived.WideShapes
import Derived.Laws.Externs
set_option linter.unusedVariables false
namespace Go.Proofs.YthdbchghhpoadaaDoor
open Go.RowKit

/-- An int64's bounds. -/
def I64 (x : Int) : Prop := -9223372036854775808 ≤ x ∧ x ≤ 9223372036854775807
def U64 (x : Int) : Prop := 0 ≤ x ∧ x ≤ 18446744073709551615

theorem i64_of_wf {x : Int} (h : (Lit.int .i64 x).wf = true) : I64 x := by
  simp [Lit.wf, IntKind.min, IntKind.max, IntKind.signed, IntKind.bits] at h
  exact ⟨by omega, by omega⟩
theorem u64_of_wf {x : Int} (h : (Lit.int .u64 x).wf = true) : U64 x := by
  simp [Lit.wf, IntKind.min, IntKind.max, IntKind.signed, IntKind.bits] at h
  exact ⟨by omega, by omega⟩

theorem i32_of_wf {x : Int} (h : (Lit.int .i32 x).wf = true) : -2147483648 ≤ x ∧ x ≤ 2147483647 := by
  simp [Lit.wf, IntKind.min, IntKind.max, IntKind.signed, IntKind.bits] at h
  exact ⟨by omega, by omega⟩
theorem i16_of_wf {x : Int} (h : (Lit.int .i16 x).wf = true) : -32768 ≤ x ∧ x ≤ 32767 := by
  simp [Lit.wf, IntKind.min, IntKind.max, IntKind.signed, IntKind.bits] at h
  exact ⟨by omega, by omega⟩
theorem i8_of_wf {x : Int} (h : (Lit.int .i8 x).wf = true) : -128 ≤ x ∧ x ≤ 127 := by
  simp [Lit.wf, IntKind.min, IntKind.max, IntKind.signed, IntKind.bits] at h
  exact ⟨by omega, by omega⟩
theorem u8_of_wf {x : Int} (h : (Lit.int .u8 x).wf = true) : 0 ≤ x ∧ x ≤ 255 := by
  simp [Lit.wf, IntKind.min, IntKind.max, IntKind.signed, IntKind.bits] at h
  exact ⟨by omega, by omega⟩

/-- Draws turn nothing. -/
theorem below_drawn {B : Nat} {a w : World} (h : Below B a w) (n : Nat) : Below B a (w.drewN n) := ⟨h.os, h.tape, h.output, h.size, h.block⟩

/-- A new block; a call that leaves what was there as it was; a draw: the steps of 'Below', from the heap as the walk began. -/
theorem below_new {w w1 : World} (h : Below w.heap.size w w1) (o : Obj) : Below w.heap.size w (w1.alloc o) := h.alloc h.size o
theorem below_next {w w1 w2 : World} (h : Below w.heap.size w w1) (h2 : Below w1.heap.size w1 w2) : Below w.heap.size w w2 := h.trans (h2.mono h.size)
theorem below_drew {w w1 : World} (h : Below w.heap.size w w1) : Below w.heap.size w w1.drew := h.drew
theorem below_set {w w1 : World} (h : Below w.heap.size w w1) {b o : Nat} (hb : w.heap.size ≤ b) (u : Value) : Below w.heap.size w (w1.setCell ⟨b, o, none⟩ u) := h.setCell (p := ⟨b, o, none⟩) hb u
theorem below_of_eq {w w1 : World} (h : w = w1) : Below w.heap.size w w1 := by subst h; exact Below.refl _ _
/-- What was there reads as it did, in the walk's own words. -/
theorem below_reads {W w1 : World} (hb : Below W.heap.size W w1) :
    (∀ b o, b < W.heap.size → w1.cell? ⟨b, o, none⟩ = W.cell? ⟨b, o, none⟩) ∧ (∀ b o, b < W.heap.size → w1.frozen? ⟨b, o, none⟩ = W.frozen? ⟨b, o, none⟩) :=
  ⟨fun b o h => hb.cell (p := ⟨b, o, none⟩) h, fun b o h => hb.frozen (p := ⟨b, o, none⟩) h⟩

theorem ret_bool {a b : Bool} (h : a = b) : Ending.returned (.bool a) = .returned (.bool b) := by rw [h]
theorem ret_int {k : IntKind} {a b : Int} (h : a = b) : Ending.returned (.int k a) = .returned (.int k b) := by rw [h]
theorem ret_int2 {k l : IntKind} {a b c d : Int} (h : a = b) (h' : c = d) : Ending.returned (.tuple #[.int k a, .int l c]) = .returned (.tuple #[.int k b, .int l d]) := by rw [h, h']

/-! ### Go's quotient and remainder, rounded towards 0, in the words of the one that is rounded down -/
theorem tdiv_exact {a b : Int} (h : a.tmod b = 0) : a.tdiv b = a / b := by
  rw [Int.tdiv_eq_ediv, if_pos (.inr (Int.dvd_of_tmod_eq_zero h)), Int.add_zero]
theorem tdiv_pos {a b : Int} (h : 0 ≤ a) : a.tdiv b = a / b := by
  rw [Int.tdiv_eq_ediv, if_pos (.inl h), Int.add_zero]
theorem tdiv_neg_step {a b : Int} (ha : a < 0) (hb : 0 < b) (h : a.tmod b ≠ 0) : a.tdiv b = a / b + 1 := by
  rw [Int.tdiv_eq_ediv, if_neg, Int.sign_eq_one_of_pos hb]
  rintro (h1 | h1)
  · omega
  · exact h (Int.tmod_eq_zero_of_dvd h1)
theorem tmod_exact {a b : Int} (h : 0 ≤ a) : a.tmod b = a % b := by
  rw [Int.tmod_eq_emod, if_pos (.inl h)]; simp
theorem tmod_zero_iff {a b : Int} : a.tmod b = 0 ↔ a % b = 0 := by
  rw [← Int.dvd_iff_tmod_eq_zero, Int.dvd_iff_emod_eq_zero]
theorem ediv_bounds {a b : Int} (ha : I64 a) (hb : 0 < b) : I64 (a / b) := by
  have h1 := Int.mul_ediv_add_emod a b
  have h2 := Int.emod_nonneg a (show b ≠ 0 by omega)
  have h3 := Int.emod_lt_of_pos a hb
  obtain ⟨l, u⟩ := ha
  constructor
  · by_cases h : 0 ≤ a / b
    · omega
    · have h4 : b * (a / b + 1) ≤ 1 * (a / b + 1) := Int.mul_le_mul_of_nonpos_right (by omega) (by omega)
      rw [Int.mul_add, Int.mul_one] at h4
      omega
  · by_cases h : a / b ≤ 0
    · omega
    · have : 1 * (a / b) ≤ b * (a / b) := Int.mul_le_mul_of_nonneg_right (by omega) (by omega)
      omega

/-! ### Wraps within a wrap fall away: int64's arithmetic is that of remainders -/
theorem wrap64_shift (x k : Int) : wrap64 (x + 18446744073709551616 * k) = wrap64 x := by unfold wrap64; omega
theorem wrap64_is (x : Int) : ∃ k, wrap64 x = x + 18446744073709551616 * k := ⟨-((x + 9223372036854775808) / 18446744073709551616), by unfold wrap64; omega⟩
theorem wr_wr (a : Int) : wrap64 (wrap64 a) = wrap64 a := by unfold wrap64; omega
theorem wr_add_l (a b : Int) : wrap64 (wrap64 a + b) = wrap64 (a + b) := by unfold wrap64; omega
theorem wr_add_r (a b : Int) : wrap64 (a + wrap64 b) = wrap64 (a + b) := by unfold wrap64; omega
theorem wr_sub_l (a b : Int) : wrap64 (wrap64 a - b) = wrap64 (a - b) := by unfold wrap64; omega
theorem wr_sub_r (a b : Int) : wrap64 (a - wrap64 b) = wrap64 (a - b) := by unfold wrap64; omega
theorem wr_neg (a : Int) : wrap64 (-wrap64 a) = wrap64 (-a) := by unfold wrap64; omega
theorem wr_mul_l (a b : Int) : wrap64 (wrap64 a * b) = wrap64 (a * b) := by
  obtain ⟨k, hk⟩ := wrap64_is a
  rw [hk, Int.add_mul, Int.mul_assoc, wrap64_shift]
theorem wr_mul_r (a b : Int) : wrap64 (a * wrap64 b) = wrap64 (a * b) := by rw [Int.mul_comm, wr_mul_l, Int.mul_comm]
theorem wr_in {n : Int} (h0 : -9223372036854775808 ≤ n) (h1 : n ≤ 9223372036854775807) : wrap64 n = n := IntWalk.wrap64_in n ⟨h0, by omega⟩

end Go.Proofs.YthdbchghhpoadaaDoor

namespace Go.Proofs.YthdbchghhpoadaaDoor

/-- The base. -/
def BB : Int := 32768
theorem BB_eq : BB = 32768 := rfl
theorem BB_pos : 0 < BB := by unfold BB; omega

/-- The number of a list of digits, the lowest first. -/
def bval : List Int → Int
  | [] => 0
  | d :: ds => d + 32768 * bval ds

def Dig (ds : List Int) : Prop := ∀ d ∈ ds, 0 ≤ d ∧ d < 32768

/-- No nought at the end. -/
def Canon (ds : List Int) : Prop := Dig ds ∧ ∀ h : ds ≠ [], ds.getLast h ≠ 0

/-- 32768 to a power. -/
def P2 (n : Nat) : Int := (32768 : Int) ^ n

theorem P2_zero : P2 0 = 1 := rfl
theorem P2_succ (n : Nat) : P2 (n + 1) = 32768 * P2 n := by unfold P2; rw [Int.pow_succ, Int.mul_comm]
theorem P2_pos (n : Nat) : 0 < P2 n := by unfold P2; exact Int.pow_pos (by omega)
theorem P2_add (m n : Nat) : P2 (m + n) = P2 m * P2 n := by unfold P2; exact Int.pow_add ..

theorem bval_nil : bval [] = 0 := rfl
theorem bval_cons (d : Int) (ds : List Int) : bval (d :: ds) = d + 32768 * bval ds := rfl

theorem bval_append (a b : List Int) : bval (a ++ b) = bval a + P2 a.length * bval b := by
  induction a with
  | nil => simp [bval, P2_zero]
  | cons d ds ih =>
    simp only [List.cons_append, bval_cons, List.length_cons, P2_succ, ih]
    grind

theorem bval_snoc (a : List Int) (d : Int) : bval (a ++ [d]) = bval a + P2 a.length * d := by
  rw [bval_append]; simp [bval]

theorem Dig.nil : Dig [] := fun _ h => by cases h
theorem Dig.cons {d : Int} {ds : List Int} (h : Dig (d :: ds)) : (0 ≤ d ∧ d < 32768) ∧ Dig ds :=
  ⟨h d (by simp), fun x hx => h x (by simp [hx])⟩
theorem Dig.mk {d : Int} {ds : List Int} (h : 0 ≤ d ∧ d < 32768) (hs : Dig ds) : Dig (d :: ds) := fun x hx => by
  rcases List.mem_cons.1 hx with rfl | hx
  · exact h
  · exact hs x hx
theorem Dig.append {a b : List Int} (ha : Dig a) (hb : Dig b) : Dig (a ++ b) := fun x hx => by
  rcases List.mem_append.1 hx with h | h
  · exact ha x h
  · exact hb x h
theorem Dig.snoc {a : List Int} {d : Int} (ha : Dig a) (h : 0 ≤ d ∧ d < 32768) : Dig (a ++ [d]) := ha.append (Dig.mk h Dig.nil)
theorem Dig.take {a : List Int} (ha : Dig a) (n : Nat) : Dig (a.take n) := fun x hx => ha x (List.mem_of_mem_take hx)
theorem Dig.drop {a : List Int} (ha : Dig a) (n : Nat) : Dig (a.drop n) := fun x hx => ha x (List.mem_of_mem_drop hx)
theorem Dig.set {a : List Int} (ha : Dig a) (n : Nat) {d : Int} (h : 0 ≤ d ∧ d < 32768) : Dig (a.set n d) := fun x hx => by
  rcases List.mem_or_eq_of_mem_set hx with h' | rfl
  · exact ha x h'
  · exact h
theorem Dig.at {a : List Int} (ha : Dig a) (i : Nat) : 0 ≤ a.getD i 0 ∧ a.getD i 0 < 32768 := by
  by_cases h : i < a.length
  · rw [List.getD_eq_getElem?_getD, List.getElem?_eq_getElem h]
    exact ha _ (List.getElem_mem h)
  · rw [List.getD_eq_getElem?_getD, List.getElem?_eq_none (by omega)]
    simp

theorem bval_nonneg : ∀ {ds : List Int}, Dig ds → 0 ≤ bval ds
  | [], _ => by simp [bval]
  | d :: ds, h => by
    have := bval_nonneg h.cons.2
    have := h.cons.1
    simp only [bval_cons]; omega

theorem bval_lt : ∀ {ds : List Int}, Dig ds → bval ds < P2 ds.length
  | [], _ => by simp [bval, P2_zero]
  | d :: ds, h => by
    have := bval_lt h.cons.2
    have := h.cons.1
    simp only [bval_cons, List.length_cons, P2_succ]; omega

theorem bval_low : ∀ {ds : List Int}, Canon ds → ds ≠ [] → P2 (ds.length - 1) ≤ bval ds
  | [], _, h => absurd rfl h
  | [d], h, _ => by
    have h1 := h.1.cons.1
    have h2 : d ≠ 0 := h.2 (by simp)
    simp [bval, P2_zero]; omega
  | d :: e :: ds, h, _ => by
    have hc : Canon (e :: ds) := ⟨h.1.cons.2, fun hn => by have := h.2 (by simp); simpa using this⟩
    have h1 := bval_low hc (by simp)
    have h2 := h.1.cons.1
    simp only [List.length_cons, Nat.add_sub_cancel] at h1 ⊢
    rw [bval_cons, P2_succ]; omega

theorem Canon.nil : Canon [] := ⟨Dig.nil, fun h => absurd rfl h⟩

theorem Canon.zero_iff {ds : List Int} (h : Canon ds) : bval ds = 0 ↔ ds = [] := by
  constructor
  · intro h0
    rcases Classical.em (ds = []) with h1 | h1
    · exact h1
    · have := bval_low h h1
      have := P2_pos (ds.length - 1)
      omega
  · rintro rfl; rfl

theorem Canon.pos {ds : List Int} (h : Canon ds) (hn : ds ≠ []) : 0 < bval ds := by
  have := bval_low h hn
  have := P2_pos (ds.length - 1)
  omega

theorem P2_mono {m n : Nat} (h : m ≤ n) : P2 m ≤ P2 n := by
  obtain ⟨k, rfl⟩ := Nat.exists_eq_add_of_le h
  induction k with
  | zero => exact Int.le_refl _
  | succ k ih => 
    have := ih (by omega)
    have h2 := P2_pos (m + k)
    rw [← Nat.add_assoc, P2_succ]; omega

theorem P2_lt {m n : Nat} (h : P2 m < P2 n) : m < n := by
  rcases Nat.lt_or_ge m n with h1 | h1
  · exact h1
  · have := P2_mono h1; omega

/-- How many digits a number below a power has at most. -/
theorem Canon.length_le {ds : List Int} (h : Canon ds) {n : Nat} (hx : bval ds < P2 n) : ds.length ≤ n := by
  rcases Classical.em (ds = []) with rfl | h1
  · simp
  · have h2 := bval_low h h1
    have h3 : P2 (ds.length - 1) < P2 n := by omega
    have h4 := P2_lt h3
    have h5 : ds.length ≠ 0 := fun e => h1 (List.eq_nil_of_length_eq_zero e)
    omega

theorem take_succ_val (a : List Int) (i : Nat) : bval (a.take (i + 1)) = bval (a.take i) + P2 i * a.getD i 0 := by
  by_cases h : i < a.length
  · rw [List.take_succ_eq_append_getElem h, bval_snoc, List.length_take_of_le (by omega), List.getD_eq_getElem?_getD, List.getElem?_eq_getElem h]
    rfl
  · rw [List.take_of_length_le (by omega), List.take_of_length_le (by omega), List.getD_eq_getElem?_getD, List.getElem?_eq_none (by omega)]
    simp

theorem drop_val (a : List Int) (i : Nat) : bval (a.drop i) = a.getD i 0 + 32768 * bval (a.drop (i + 1)) := by
  by_cases h : i < a.length
  · rw [List.drop_eq_getElem_cons h, bval_cons, List.getD_eq_getElem?_getD, List.getElem?_eq_getElem h]
    rfl
  · rw [List.drop_of_length_le (by omega), List.drop_of_length_le (by omega), List.getD_eq_getElem?_getD, List.getElem?_eq_none (by omega)]
    simp [bval]

theorem take_drop_val (a : List Int) (i : Nat) : bval a = bval (a.take i) + P2 i * bval (a.drop i) := by
  induction i with
  | zero => simp [bval, P2_zero]
  | succ i ih =>
    rw [ih, take_succ_val, drop_val a i, P2_succ]
    grind

theorem take_lt {a : List Int} (h : Dig a) (i : Nat) : 0 ≤ bval (a.take i) ∧ bval (a.take i) < P2 i := by
  refine ⟨bval_nonneg (h.take i), ?_⟩
  have h1 := bval_lt (h.take i)
  have h2 : P2 (a.take i).length ≤ P2 i := P2_mono (by simp; omega)
  omega

/-- The first digit that differs, from above, decides. -/
theorem less_of_digit {a b : List Int} (ha : Dig a) (hb : Dig b) {i : Nat} (he : bval (a.drop (i + 1)) = bval (b.drop (i + 1))) (h : a.getD i 0 < b.getD i 0) : bval a < bval b := by
  rw [take_drop_val a i, take_drop_val b i, drop_val a i, drop_val b i, he]
  have h1 := take_lt ha i
  have h2 := take_lt hb i
  have h3 := P2_pos i
  have h4 : P2 i * (a.getD i 0 + 32768 * bval (b.drop (i + 1)) + 1) ≤ P2 i * (b.getD i 0 + 32768 * bval (b.drop (i + 1))) := Int.mul_le_mul_of_nonneg_left (by omega) (by omega)
  rw [Int.mul_add _ _ 1, Int.mul_one] at h4
  omega

theorem set_val : ∀ (a : List Int) (i : Nat) (v : Int), i < a.length → bval (a.set i v) = bval a + P2 i * (v - a.getD i 0)
  | [], _, _, h => by simp at h
  | d :: ds, 0, v, _ => by simp [bval, P2_zero]; omega
  | d :: ds, i + 1, v, h => by
    have := set_val ds i v (by simpa using h)
    simp only [List.set_cons_succ, bval_cons, this, P2_succ, List.getD_cons_succ]
    grind

theorem zeros_val : ∀ (n : Nat), bval (List.replicate n 0) = 0
  | 0 => rfl
  | n + 1 => by rw [List.replicate_succ, bval_cons, zeros_val n]; rfl

theorem Dig.zeros (n : Nat) : Dig (List.replicate n 0) := fun d h => by
  have := (List.mem_replicate.1 h).2; omega

/-- All digits from a place on are 0. -/
theorem drop_zero_val : ∀ {a : List Int} {n : Nat}, (∀ i, n ≤ i → a.getD i 0 = 0) → bval (a.drop n) = 0 := by
  intro a
  induction a with
  | nil => intro n _; simp [bval]
  | cons d ds ih =>
    intro n h
    cases n with
    | zero =>
      have h0 := h 0 (Nat.le_refl _)
      have h1 := ih (n := 0) (fun i _ => by have := h (i + 1) (by omega); simpa using this)
      simp at h0 h1
      simp [bval_cons, h0, h1]
    | succ n =>
      have h1 := ih (n := n) (fun i hi => by have := h (i + 1) (by omega); simpa using this)
      simpa using h1

theorem take_val_of_zero {a : List Int} {n : Nat} (h : ∀ i, n ≤ i → a.getD i 0 = 0) : bval (a.take n) = bval a := by
  have h1 := take_drop_val a n
  rw [drop_zero_val h] at h1
  omega

theorem canon_take {a : List Int} (h : Dig a) {n : Nat} (hn : n ≤ a.length) (hl : n = 0 ∨ a.getD (n - 1) 0 ≠ 0) : Canon (a.take n) := by
  refine ⟨h.take n, fun hne => ?_⟩
  rcases hl with rfl | hl
  · simp at hne
  · have hn0 : n ≠ 0 := by rintro rfl; simp at hne
    rw [List.getLast_eq_getElem]
    rw [List.getD_eq_getElem?_getD, List.getElem?_eq_getElem (by omega)] at hl
    simp only [List.getElem_take, List.length_take]
    have e : min n a.length - 1 = n - 1 := by omega
    simpa [e] using hl

end Go.Proofs.YthdbchghhpoadaaDoor

set_option linter.unusedVariables false
namespace Go.Proofs.YthdbchghhpoadaaDoor

/-- A guess q of a digit, what is left r: at a divisor y1 * 2^32 + y0, at u, and the digit u1. -/
def DInv (y1 y0 u u1 q r : Int) : Prop := q * y1 + r = u ∧ 0 ≤ r ∧ 0 ≤ q ∧ q ≤ 4294967297 ∧ (u * 4294967296 + u1) / (y1 * 4294967296 + y0) ≤ q

theorem DInv.start {y1 y0 u u1 : Int} (hy1 : 2147483648 ≤ y1) (hy0 : 0 ≤ y0) (hy0' : y0 < 4294967296) (hu : 0 ≤ u) (huy : u < y1 * 4294967296 + y0) (h0 : 0 ≤ u1) (h1 : u1 < 4294967296) :
    DInv y1 y0 u u1 (u / y1) (u % y1) := by
  have e := Int.mul_ediv_add_emod u y1
  have r0 := Int.emod_nonneg u (show y1 ≠ 0 by omega)
  have r1 := Int.emod_lt_of_pos u (show 0 < y1 by omega)
  have q0 : 0 ≤ u / y1 := Int.ediv_nonneg hu (by omega)
  refine ⟨by rw [Int.mul_comm]; exact e, r0, q0, ?_, ?_⟩
  · have : u / y1 < 4294967298 := Int.ediv_lt_of_lt_mul (by omega) (by omega)
    omega
  · have h : (u * 4294967296 + u1) / (y1 * 4294967296 + y0) < u / y1 + 1 := by
      refine Int.ediv_lt_of_lt_mul (by omega) ?_
      generalize u / y1 = q at *
      generalize u % y1 = r at *
      have h2 : 0 ≤ (q + 1) * y0 := Int.mul_nonneg (by omega) hy0
      have h3 : (q + 1) * (y1 * 4294967296 + y0) = (y1 * q + y1) * 4294967296 + (q + 1) * y0 := by grind
      rw [h3]
      omega
    omega

theorem DInv.lt {y1 y0 u u1 : Int} (hy1 : 2147483648 ≤ y1) (hy0 : 0 ≤ y0) (hu : 0 ≤ u) (huy : u < y1 * 4294967296 + y0) (h0 : 0 ≤ u1) (h1 : u1 < 4294967296) :
    (u * 4294967296 + u1) / (y1 * 4294967296 + y0) < 4294967296 := Int.ediv_lt_of_lt_mul (by omega) (by omega)

theorem DInv.step {y1 y0 u u1 q r : Int} (h : DInv y1 y0 u u1 q r) (hy1 : 2147483648 ≤ y1) (hy0 : 0 ≤ y0) (hu : 0 ≤ u) (huy : u < y1 * 4294967296 + y0) (h0 : 0 ≤ u1) (h1 : u1 < 4294967296)
    (hc : 4294967296 ≤ q ∨ 4294967296 * r + u1 < q * y0) : DInv y1 y0 u u1 (q - 1) (r + y1) ∧ q - 1 ≤ 4294967296 ∧ 0 < q := by
  obtain ⟨a, b, c, d, e⟩ := h
  have hlt := DInv.lt (u1 := u1) hy1 hy0 hu huy h0 h1
  have hq : (u * 4294967296 + u1) / (y1 * 4294967296 + y0) < q := by
    rcases hc with hc | hc
    · omega
    · refine Int.ediv_lt_of_lt_mul (by omega) ?_
      have h3 : q * (y1 * 4294967296 + y0) = (q * y1) * 4294967296 + q * y0 := by grind
      rw [h3]
      omega
  have hq0 : 0 ≤ (u * 4294967296 + u1) / (y1 * 4294967296 + y0) := Int.ediv_nonneg (by omega) (by omega)
  exact ⟨⟨by grind, by omega, by omega, by omega, by omega⟩, by omega, by omega⟩

theorem DInv.done {y1 y0 u u1 q r : Int} (h : DInv y1 y0 u u1 q r) (hy1 : 2147483648 ≤ y1) (hy0 : 0 ≤ y0) (hy0' : y0 < 4294967296) (h0 : 0 ≤ u1)
    (hc : q * y0 ≤ 4294967296 * r + u1) : q = (u * 4294967296 + u1) / (y1 * 4294967296 + y0) := by
  obtain ⟨a, b, c, d, e⟩ := h
  have h2 : q ≤ (u * 4294967296 + u1) / (y1 * 4294967296 + y0) := by
    refine Int.le_ediv_of_mul_le (by omega) ?_
    have h3 : q * (y1 * 4294967296 + y0) = (q * y1) * 4294967296 + q * y0 := by grind
    rw [h3]
    omega
  omega

theorem DInv.broke {y1 y0 u u1 q r : Int} (h : DInv y1 y0 u u1 q r) (hq : q ≤ 4294967296) (hr : 4294967296 ≤ r) (hy0 : 0 ≤ y0) (hy0' : y0 < 4294967296) (h0 : 0 ≤ u1) : q * y0 ≤ 4294967296 * r + u1 := by
  have h2 : q * y0 ≤ 4294967296 * y0 := Int.mul_le_mul_of_nonneg_right hq hy0
  omega

/-- No room is lost in the test. -/
theorem DInv.room {y1 y0 u u1 q r : Int} (h : DInv y1 y0 u u1 q r) (hy0 : 0 ≤ y0) (hy0' : y0 < 4294967296) : 0 ≤ q * y0 ∧ q * y0 ≤ 18446744073709551615 := by
  refine ⟨Int.mul_nonneg h.2.2.1 hy0, ?_⟩
  have h2 : q * y0 ≤ 4294967297 * y0 := Int.mul_le_mul_of_nonneg_right h.2.2.2.1 hy0
  omega

/-- Both digits. -/
theorem div_two {N y' a : Int} (hy : 0 < y') (u0 : Int) (h0 : 0 ≤ u0) (h1 : u0 < 4294967296) (hN : N = a * 4294967296 + u0) :
    N / y' = (a / y') * 4294967296 + ((a % y') * 4294967296 + u0) / y' ∧ N % y' = ((a % y') * 4294967296 + u0) % y' := by
  have e := Int.mul_ediv_add_emod a y'
  generalize a / y' = q at *
  generalize a % y' = r at *
  have h : N = (r * 4294967296 + u0) + y' * (q * 4294967296) := by rw [hN, ← e]; grind
  rw [h]
  constructor
  · rw [Int.add_mul_ediv_left _ _ (by omega)]; omega
  · rw [Int.add_mul_emod_self_left]

theorem div_scaled {N y s : Int} (hs : 0 < s) : (N * s) / (y * s) = N / y ∧ (N * s) % (y * s) = (N % y) * s :=
  by
  have h := Int.mul_ediv_mul_of_pos_left N y hs
  refine ⟨h, ?_⟩
  rw [Int.emod_def, h, Int.emod_def]
  grind

end Go.Proofs.YthdbchghhpoadaaDoor

namespace Go.Proofs.YthdbchghhpoadaaDoor
open Go.ChangeShapes Go.WideShapes Go.ChangeAt Go.RowKit

theorem own : ownKnob Tryd.prog.godebug = none := by kernel_rfl
theorem laidOut : laidOutB Tryd.prog = true := by kernel_rfl

section
variable {H : Type} {enc : TypeId × Value → H}

/-- Each argument reads as it did, where nothing that was there has turned. -/
theorem trodAll_kept {W W' : World} (hb : Below W.heap.size W W') :
    ∀ (ts : List TypeId) (vs : List Value) (ds : List (DataW H)) (ps : List MemPlace), (ts.all fun t => Tryd.prog.readableRec t && decide (t < Tryd.prog.types.size)) = true →
      DataW.TrodAll enc Tryd.prog W 0 (fun _ => true) true ts vs ds ps → (∀ x ∈ ps, x.block < W.heap.size) →
      DataW.TrodAll enc Tryd.prog W' 0 (fun b => decide (b < W.heap.size)) true ts vs ds ps := by
  intro ts
  induction ts with
  | nil =>
    intro vs ds ps _ h _
    cases vs <;> cases ds <;> first | exact h | cases h
  | cons t ts ih =>
    intro vs ds ps hr h hlt
    simp only [List.all_cons, Bool.and_eq_true, decide_eq_true_eq] at hr
    obtain ⟨v, vs', d, ds', p, q, rfl, rfl, rfl, h0, h1⟩ := trodAll_cons h
    exact ⟨p, q, Below.trod laidOut hr.1.1 hr.1.2 h0 hb (fun x hx => hlt x (List.mem_append.2 (.inl hx))),
      ih vs' ds' q hr.2 h1 (fun x hx => hlt x (List.mem_append.2 (.inr hx))), rfl⟩

theorem law_post {f : Func} {s : ChangeSpec} {tb : TypeId} {W W' : World} {args : Array Value} {ds : List (DataW H)} {before : List MemPlace}
    (hv : s.vars = []) (hr : f.resultTypes = #[tb]) (hbool : Tryd.prog.underlying tb = some .bool)
    (hread : (f.params.toList.all fun t => Tryd.prog.readableRec t && decide (t < Tryd.prog.types.size)) = true)
    (hW : DataW.Whole enc Tryd.prog f.params.toList s.vars false W args.toList ds [] before)
    (hfn : s.fn H ds = { results := [.lit (.bool true)], args := ds }) (hb : Below W.heap.size W W') :
    s.post enc Tryd.prog f false true false false W args (.bool true) W' := by
  have hW0 := hW
  obtain ⟨p, q, hA, hV, rfl, hfz, hnd⟩ := hW
  rw [hv] at hV
  obtain ⟨-, rfl⟩ := trodVars_none hV
  have hlt : ∀ x ∈ p, x.block < W.heap.size := fun x hx => hW0.lt x (by simpa using hx)
  refine ⟨ds, [], p ++ [], [], p, [], hW0, ?_, ?_, ?_, hb.frame _, fun h => by cases h⟩
  · rw [List.append_nil, hfn, hr]
    exact trodAll_mk1 (shut_bool hbool _)
  · rw [List.append_nil, hfn]
    exact trodAll_kept hb _ _ _ _ hread hA hlt
  · rw [List.append_nil, hfn, hv]
    rfl

end

set_option maxRecDepth 100000 in
/-- The statement, out of the walk and the closed facts of its row. -/
theorem law_lifted {K : FuncId} {f : Func} {s : ChangeSpec} {conds : List PathCond} {tb : TypeId} (os : Os) (started : os.Started) (H : Type) (enc : TypeId × Value → H)
    (noInit : Tryd.prog.inits.idxOf? K = none) (hfn : Tryd.prog.funcs[K]? = some f)
    (witness : ∃ (w : World) (tape : Tape) (i : Input), w.os = os ∧ (w.forCall tape i).Shaped Tryd.prog ∧ i.vars = [] ∧ Input.okWide Tryd.prog (w.forCall tape i) .any w.heap.size K i ∧
      s.pre6 enc Tryd.prog f conds false (w.forCall tape i).memory i.args ∧ ({} : Assume).holds Tryd.prog (lone (Frame.enter Tryd.prog K i.args .normal) [] (w.forCall tape i)))
    (hv : s.vars = []) (hr : f.resultTypes = #[tb]) (hbool : Tryd.prog.underlying tb = some .bool)
    (hread : (f.params.toList.all fun t => Tryd.prog.readableRec t && decide (t < Tryd.prog.types.size)) = true)
    (walk : ∀ (W : World) (base : Nat) (args : Array Value) (ds : List (DataW H)) (p : List MemPlace),
      (∀ (j : Nat) t v, f.params[j]? = some t → args[j]? = some v → Value.okWide Tryd.prog W .any base t v) →
      DataW.TrodAll enc Tryd.prog W 0 (fun _ => true) true f.params.toList args.toList ds p →
      s.fn H ds = { results := [.lit (.bool true)], args := ds } ∧ Calls Tryd.prog K args W fun e W' => e = .returned (.bool true) ∧ Below W.heap.size W W') :
    ReturnsInHanded {} Tryd.checked os K .any (s.pre6 enc Tryd.prog f conds false) (s.post enc Tryd.prog f false true false false) := by
  refine returnsInHanded_of_change (C := Tryd.checked) own started noInit hfn witness ?_
  intro W base args ds gs before hval hW _ _
  have hW' := hW
  obtain ⟨p, q, hA, hV, rfl, hfz, hnd⟩ := hW
  rw [hv] at hV
  obtain ⟨rfl, rfl⟩ := trodVars_none hV
  obtain ⟨hfn', hc⟩ := walk W base args ds p hval hA
  refine hc.mono fun e W' ⟨he, hb⟩ => ?_
  exact ⟨_, he, law_post hv hr hbool hread hW' hfn' hb⟩

end Go.Proofs.YthdbchghhpoadaaDoor

namespace Go.Proofs.YthdbchghhpoadaaDoor
open Go.ChangeShapes Go.WideShapes Go.ChangeAt Go.RowKit Go.Deep

/-- The one-cell parts of a type: at which offset, of which type. -/
def leaves (P : Program) : Nat → TypeId → Option (List (Nat × TypeId))
  | 0, _ => none
  | n + 1, t =>
    match P.underlying t with
    | some (.struct fs) => (fs.toList.mapM fun f => (leaves P n f.type).map fun l => l.map fun x => (f.offset + x.1, x.2)).map List.flatten
    | some (.array k e) => (leaves P n e).map fun l => (List.range k).flatMap fun i => l.map fun x => (i * P.cellsOf e + x.1, x.2)
    | some _ => some [(0, t)]
    | none => none

section
variable {H : Type} {enc : TypeId × Value → H} {P : Program} {w : World} {base : Nat} {spare : Nat → Bool} {held : Bool}

theorem mapM_mem {α β : Type} {f : α → Option β} : ∀ {l : List α} {ys : List β}, l.mapM f = some ys → ∀ (y : β), y ∈ ys → ∃ x ∈ l, f x = some y
  | [], ys, h, y, hy => by simp at h; subst h; cases hy
  | a :: l, ys, h, y, hy => by
    rw [List.mapM_cons] at h
    simp only [Option.bind_eq_bind, Option.bind_eq_some_iff, Option.pure_def, Option.some.injEq] at h
    obtain ⟨z, hz, zs, hzs, rfl⟩ := h
    rcases List.mem_cons.1 hy with rfl | hy
    · exact ⟨a, by simp, hz⟩
    · obtain ⟨x, hx, hfx⟩ := mapM_mem hzs y hy
      exact ⟨x, by simp [hx], hfx⟩

/-- A type of one cell reads one cell. -/
theorem trod_single {fuel : Nat} {t : TypeId} {cs : List Value} {x : DataW H × List MemPlace} {d : TypeDesc} (ht : P.underlying t = some d) (hs : ∀ fs, d ≠ .struct fs) (ha : ∀ k e, d ≠ .array k e)
    (h : DataW.trod enc P w base spare held fuel t cs = some x) : ∃ c, cs = [c] := by
  cases fuel with
  | zero => simp [DataW.trod] at h
  | succ n =>
    unfold DataW.trod at h
    rw [ht] at h
    split at h <;> first | exact ⟨_, rfl⟩ | (rename_i e; injection e with e; exact absurd e (hs _)) | (rename_i e; injection e with e; exact absurd e (ha _ _)) | cases h

theorem drop_take_at {cs : List Value} {o s i : Nat} {c : Value} (h : ((cs.drop o).take s)[i]? = some c) : cs[o + i]? = some c := by
  rw [List.getElem?_take] at h
  split at h
  · rwa [List.getElem?_drop] at h
  · cases h

/-- Each part has its cell, and reads. -/
theorem trod_leaves : ∀ (n : Nat) {t : TypeId} {ls : List (Nat × TypeId)} (_ : leaves P n t = some ls) {fuel : Nat} {cs : List Value} {x : DataW H × List MemPlace}
    (_ : DataW.trod enc P w base spare held fuel t cs = some x), ∀ o l, (o, l) ∈ ls → ∃ c y fuel', cs[o]? = some c ∧ DataW.trod enc P w base spare held fuel' l [c] = some y := by
  intro n
  induction n with
  | zero => intro t ls h; simp [leaves] at h
  | succ n ih =>
    intro t ls hl fuel cs x h o l hm
    unfold leaves at hl
    split at hl
    · rename_i fs hu
      simp only [Option.map_eq_some_iff] at hl
      obtain ⟨lls, hlls, rfl⟩ := hl
      obtain ⟨l1, hl1, hm⟩ := List.mem_flatten.1 hm
      obtain ⟨f, hf, hfl⟩ := mapM_mem hlls l1 hl1
      simp only [Option.map_eq_some_iff] at hfl
      obtain ⟨l2, hl2, rfl⟩ := hfl
      obtain ⟨⟨o', l'⟩, hm', he⟩ := List.mem_map.1 hm
      simp only [Prod.mk.injEq] at he
      obtain ⟨rfl, rfl⟩ := he
      obtain ⟨xs, m, _, _, _, hlen, hg⟩ := DataW.trod_struct hu h
      obtain ⟨i, hi, hfi⟩ := List.mem_iff_getElem.1 hf
      have hfi' : fs[i]? = some f := by
        rw [Array.getElem?_eq_getElem (by simpa using hi)]
        simpa using hfi
      have hg' := hg i f hfi'
      have hil : i < xs.length := by rw [hlen]; simpa using hi
      rw [List.getElem?_eq_getElem hil] at hg'
      obtain ⟨c, y, fuel', hc, hy⟩ := ih hl2 hg' _ _ hm'
      exact ⟨c, y, fuel', drop_take_at hc, hy⟩
    · rename_i k e hu
      simp only [Option.map_eq_some_iff] at hl
      obtain ⟨l2, hl2, rfl⟩ := hl
      obtain ⟨i, hi, hm⟩ := List.mem_flatMap.1 hm
      obtain ⟨⟨o', l'⟩, hm', he⟩ := List.mem_map.1 hm
      simp only [Prod.mk.injEq] at he
      obtain ⟨rfl, rfl⟩ := he
      obtain ⟨xs, m, _, _, _, hlen, hg⟩ := DataW.trod_array hu h
      have hik : i < k := by simpa using hi
      have hg' := hg i hik
      rw [List.getElem?_eq_getElem (by omega)] at hg'
      obtain ⟨c, y, fuel', hc, hy⟩ := ih hl2 hg' _ _ hm'
      exact ⟨c, y, fuel', drop_take_at hc, hy⟩
    · rename_i d hns hna hu
      injection hl with hl
      subst hl
      simp only [List.mem_singleton, Prod.mk.injEq] at hm
      obtain ⟨rfl, rfl⟩ := hm
      obtain ⟨c, rfl⟩ := trod_single hu (fun fs e => hns fs e) (fun k e he => hna k e he) h
      exact ⟨c, x, fuel, rfl, h⟩
    · cases hl

/-- A part that is an integer. -/
theorem leaf_int {k : IntKind} {l : TypeId} {c : Value} {y : DataW H × List MemPlace} {fuel : Nat} (hl : P.underlying l = some (.int k)) (h : DataW.trod enc P w base spare held fuel l [c] = some y) :
    ∃ n, c = .int k n ∧ (Lit.int k n).wf = true := by
  obtain ⟨n, hc, _, hw⟩ := DataW.trod_int hl h
  exact ⟨n, by simpa using hc, hw⟩

/-- An argument by value whose type is a struct: its cells. -/
theorem open_struct {t : TypeId} {fs : Array Field} {r : Reach} {b0 : Nat} {v : Value} (hu : P.underlying t = some (.struct fs)) (hv : Value.okWide P w r b0 t v) : ∃ cs : Array Value, v = .agg cs ∧ cs.size = P.cellsOf t := okWide_struct hu hv

theorem open_array {t e : TypeId} {k : Nat} {r : Reach} {b0 : Nat} {v : Value} (hu : P.underlying t = some (.array k e)) (hv : Value.okWide P w r b0 t v) : ∃ cs : Array Value, v = .agg cs ∧ cs.size = P.cellsOf t := by
  simp only [Value.okWide, hu] at hv
  obtain ⟨cs, h1, h2, _⟩ := hv
  exact ⟨cs, h1, h2⟩

/-- A type whose parts are integers alone, one behind the other: their kinds. -/
def intLeaves (P : Program) (n : Nat) (t : TypeId) : Option (List IntKind) :=
  (leaves P n t).bind fun ls => if ls.map (·.1) = List.range ls.length then ls.mapM fun x => match P.underlying x.2 with
    | some (.int k) => some k
    | _ => none
  else none

theorem mapM_at {α β : Type} {f : α → Option β} : ∀ {l : List α} {ys : List β}, l.mapM f = some ys → ys.length = l.length ∧ ∀ (i : Nat) (y : β), ys[i]? = some y → ∃ x, l[i]? = some x ∧ f x = some y
  | [], ys, h => by simp at h; subst h; exact ⟨rfl, fun i y hy => by simp at hy⟩
  | a :: l, ys, h => by
    rw [List.mapM_cons] at h
    simp only [Option.bind_eq_bind, Option.bind_eq_some_iff, Option.pure_def, Option.some.injEq] at h
    obtain ⟨z, hz, zs, hzs, rfl⟩ := h
    obtain ⟨h1, h2⟩ := mapM_at hzs
    refine ⟨by simp [h1], fun i y hy => ?_⟩
    cases i with
    | zero => simp at hy; subst hy; exact ⟨a, rfl, hz⟩
    | succ i => exact h2 i y (by simpa using hy)

/-- Integers as cells. -/
def intCells (ks : List IntKind) (ns : List Int) : List Value := List.zipWith Value.int ks ns

theorem cells_ints : ∀ (ks : List IntKind) (cs : List Value), cs.length = ks.length → (∀ (i : Nat) (k : IntKind), ks[i]? = some k → ∃ n : Int, cs[i]? = some (Value.int k n) ∧ (Lit.int k n).wf = true) →
    ∃ ns : List Int, ns.length = ks.length ∧ cs = intCells ks ns ∧ ∀ (i : Nat) (k : IntKind) (n : Int), ks[i]? = some k → ns[i]? = some n → (Lit.int k n).wf = true
  | [], cs, hl, _ => ⟨[], rfl, by cases cs <;> simp_all [intCells], fun i k n h => by simp at h⟩
  | k :: ks, [], hl, _ => by simp at hl
  | k :: ks, c :: cs, hl, h => by
    obtain ⟨n, hn, hw⟩ := h 0 k rfl
    obtain ⟨ns, h1, h2, h3⟩ := cells_ints ks cs (by simpa using hl) (fun i k' hk' => by simpa using h (i + 1) k' (by simpa using hk'))
    refine ⟨n :: ns, by simp [h1], ?_, ?_⟩
    · simp at hn; subst hn; rw [h2]; rfl
    · intro i k' n' hk hn'
      cases i with
      | zero => simp at hk hn'; subst hk; subst hn'; exact hw
      | succ i => exact h3 i k' n' (by simpa using hk) (by simpa using hn')

theorem trod_ints {n : Nat} {t : TypeId} {ks : List IntKind} (hk : intLeaves P n t = some ks) (hC : P.cellsOf t = ks.length) {fuel : Nat} {cs : List Value} {x : DataW H × List MemPlace} (hl : cs.length = P.cellsOf t)
    (h : DataW.trod enc P w base spare held fuel t cs = some x) :
    ∃ ns : List Int, ns.length = ks.length ∧ cs = intCells ks ns ∧ ∀ (i : Nat) (k : IntKind) (n : Int), ks[i]? = some k → ns[i]? = some n → (Lit.int k n).wf = true := by
  refine cells_ints ks cs (by omega) fun i k hik => ?_
  unfold intLeaves at hk
  simp only [Option.bind_eq_some_iff] at hk
  obtain ⟨ls, hls, hk⟩ := hk
  split at hk
  · rename_i hr
    obtain ⟨h1, h2⟩ := mapM_at hk
    obtain ⟨⟨o, l⟩, hx, hfx⟩ := h2 i k hik
    have ho : o = i := by
      have hh : (ls.map (·.1))[i]? = some o := by rw [List.getElem?_map, hx]; rfl
      rw [hr] at hh
      have := List.getElem?_eq_some_iff.1 hh
      obtain ⟨_, e⟩ := this
      simpa using e.symm
    subst ho
    obtain ⟨c, y, fuel', hc, hy⟩ := trod_leaves n hls h _ _ (List.mem_of_getElem? hx)
    split at hfx
    · rename_i k' hu
      injection hfx with hfx
      subst hfx
      obtain ⟨m, rfl, hw⟩ := leaf_int hu hy
      exact ⟨m, hc, hw⟩
    · cases hfx
  · cases hk

/-- An argument of such a type, by value. -/
theorem open_vals {n : Nat} {t : TypeId} {ks : List IntKind} (hk : intLeaves P n t = some ks) (hC : P.cellsOf t = ks.length) {v : Value} {d : DataW H} {p : List MemPlace}
    (hv : ∃ cs : Array Value, v = .agg cs ∧ cs.size = P.cellsOf t) (h : DataW.Trod enc P w base spare held t v d p) :
    ∃ ns : List Int, ns.length = ks.length ∧ v = .agg (intCells ks ns).toArray ∧ ∀ (i : Nat) (k : IntKind) (n : Int), ks[i]? = some k → ns[i]? = some n → (Lit.int k n).wf = true := by
  obtain ⟨cs, rfl, hs⟩ := hv
  obtain ⟨fuel, hf⟩ := h
  obtain ⟨ns, h1, h2, h3⟩ := trod_ints hk hC (by simpa [Value.cells] using hs) hf
  refine ⟨ns, h1, ?_, h3⟩
  rw [← h2]
  simp [Value.cells]

end
end Go.Proofs.YthdbchghhpoadaaDoor

set_option linter.unusedVariables false
namespace Go.Proofs.YthdbchghhpoadaaDoor
open Go.RowKit

/-- No further from 0 than another one. -/
def inI (x m : Int) : Bool := decide (-m ≤ x ∧ x ≤ m)
theorem inI_iff {x m : Int} : inI x m = true ↔ -m ≤ x ∧ x ≤ m := by unfold inI; simp
theorem inI_f {x m : Int} : inI x m = false ↔ ¬ (-m ≤ x ∧ x ≤ m) := by unfold inI; simp
theorem dec_both (p : Prop) [Decidable p] : (p ∧ decide p = true) ∨ (¬ p ∧ decide p = false) := by
  by_cases h : p
  · exact .inl ⟨h, decide_eq_true h⟩
  · exact .inr ⟨h, decide_eq_false h⟩
theorem mul_in {a b A B : Int} (h : -A ≤ a ∧ a ≤ A) (h' : -B ≤ b ∧ b ≤ B) : -(A * B) ≤ a * b ∧ a * b ≤ A * B := by
  have e : ((a * b).natAbs : Int) = (a.natAbs : Int) * b.natAbs := by rw [Int.natAbs_mul, Int.natCast_mul]
  have : (a.natAbs : Int) * b.natAbs ≤ A * B := Int.mul_le_mul (by omega) (by omega) (by omega) (by omega)
  omega
theorem sq_nonneg (x : Int) : 0 ≤ x * x := by
  rcases Int.le_total 0 x with h | h
  · exact Int.mul_nonneg h h
  · exact Int.mul_nonneg_of_nonpos_of_nonpos h h
theorem down_in {x A : Int} (h : -(65536 * A) ≤ x ∧ x ≤ 65536 * A) : -A ≤ x / 65536 ∧ x / 65536 ≤ A := by omega
theorem iw {x : Int} (h : -9223372036854775808 ≤ x ∧ x ≤ 9223372036854775807) : IntKind.i64.wrap x = x := by rw [IntKind.wrap_i64]; omega
theorem ww {x : Int} (h : -9223372036854775808 ≤ x ∧ x ≤ 9223372036854775807) : wrap64 x = x := wr_in h.1 h.2
theorem quiet_same {P : Program} {f : FuncId} {args : Array Value} {w : World} {n : Nat} {v : Value}
    (h : Calls P f args (w.drewN n) fun e w' => e = .returned v ∧ w.drewN n = w') : Calls P f args (w.drewN n) fun e w'' => e = .returned v ∧ ∃ m, w'' = w.drewN m :=
  h.mono fun _ _ ⟨he, hm⟩ => ⟨he, n, hm.symm⟩

theorem div_near {x y B : Int} (hy : 1 ≤ y) (h0 : -B ≤ x) (h1 : x ≤ B) (hB : 0 ≤ B) : -B ≤ x / y ∧ x / y ≤ B := by
  constructor
  · refine Int.le_ediv_of_mul_le (by omega) ?_
    have : B * 1 ≤ B * y := Int.mul_le_mul_of_nonneg_left hy hB
    rw [Int.neg_mul]; omega
  · have : x / y ≤ B := by
      by_cases h : 0 ≤ x
      · exact Int.le_trans (Int.ediv_le_self _ h) h1
      · have := Int.ediv_lt_of_lt_mul (a := x) (b := 1) (c := y) (by omega) (by omega)
        omega
    exact this

end Go.Proofs.YthdbchghhpoadaaDoor

set_option linter.unusedVariables false
namespace Go.Proofs.YthdbchghhpoadaaDoor
open Go.RowKit

/-- Whether a place is right. -/
def rightI (px py d : Int) : Bool := inI px 1048576 && inI py 1048576 && decide (1 ≤ d) && decide (d ≤ 16)
theorem rightI_iff {px py d : Int} : rightI px py d = true ↔ (-1048576 ≤ px ∧ px ≤ 1048576) ∧ (-1048576 ≤ py ∧ py ≤ 1048576) ∧ 1 ≤ d ∧ d ≤ 16 := by
  unfold rightI inI; simp [and_assoc]
theorem right_last {px py d : Int} (hp : rightI px py d = false) (hb : inI px 1048576 = true) (hb1 : inI py 1048576 = true) (h : 1 ≤ d) : d > 16 := by
  refine Decidable.byContradiction fun h' => ?_
  have := rightI_iff (px := px) (py := py) (d := d)
  rw [hp] at this
  exact absurd (this.2 ⟨inI_iff.1 hb, inI_iff.1 hb1, by omega, by omega⟩) (by simp)

end Go.Proofs.YthdbchghhpoadaaDoor

set_option linter.unusedVariables false
namespace Go.Proofs.YthdbchghhpoadaaDoor
open Go.RowKit

/-- A slice that reads as the numbers zs. -/
def IS (w : World) (v : Value) (zs : List Int) : Prop := ∃ A cap, v = .slice A zs.length cap ∧ zs.length ≤ cap ∧ (cap : Int) ≤ 9223372036854775807 ∧ (∀ z ∈ zs, I64 z) ∧
  (zs ≠ [] → ∃ b off, A = some ⟨b, off, none⟩ ∧ b < w.heap.size ∧ ∀ i, i < zs.length → w.cell? ⟨b, off + i, none⟩ = some (.int .i64 (zs.getD i 0)))
theorem IS.below {w w1 : World} {v : Value} {zs : List Int} (h : IS w v zs) (hb : Below w.heap.size w w1) : IS w1 v zs := by
  obtain ⟨A, cap, rfl, h1, h2, h3, h4⟩ := h
  refine ⟨A, cap, rfl, h1, h2, h3, fun hz => ?_⟩
  obtain ⟨b, off, rfl, hlt, hc⟩ := h4 hz
  exact ⟨b, off, rfl, Nat.lt_of_lt_of_le hlt hb.size, fun i hi => by rw [hb.cell (p := ⟨b, off + i, none⟩) hlt]; exact hc i hi⟩
theorem IS.form {w : World} {v : Value} {zs : List Int} (h : IS w v zs) : ∃ A cap, v = .slice A zs.length cap := by
  obtain ⟨A, cap, rfl, -⟩ := h; exact ⟨_, _, rfl⟩
theorem IS.len {w : World} {v : Value} {zs : List Int} (h : IS w v zs) : (zs.length : Int) ≤ 9223372036854775807 := by
  obtain ⟨A, cap, rfl, h1, h2, -⟩ := h; omega
theorem IS.some {w : World} {v : Value} {zs : List Int} (h : IS w v zs) (hz : zs ≠ []) : ∃ b off cap, v = .slice (.some ⟨b, off, none⟩) zs.length cap ∧ zs.length ≤ cap ∧ (cap : Int) ≤ 9223372036854775807 ∧ b < w.heap.size ∧ ∀ i, i < zs.length → w.cell? ⟨b, off + i, none⟩ = .some (.int .i64 (zs.getD i 0)) := by
  obtain ⟨A, cap, rfl, h1, h2, h3, h4⟩ := h
  obtain ⟨b, off, rfl, hlt, hc⟩ := h4 hz
  exact ⟨b, off, cap, rfl, h1, h2, hlt, hc⟩

def GiveIdx (a : Bool) (w : World) (e : Ending) (w' : World) : Prop := ∃ r : Int, e = .returned (.int .i64 r) ∧ w = w' ∧ decide (r ≥ 0) = a
theorem any_step {p : Int → Bool} {zs : List Int} {k : Nat} (hk : k < zs.length) : (zs.take (k + 1)).any p = ((zs.take k).any p || p (zs.getD k 0)) := by
  rw [List.take_add_one, List.any_append]
  simp [List.getD, List.getElem?_eq_getElem hk]


end Go.Proofs.YthdbchghhpoadaaDoor

namespace Go.Proofs.YthdbchghhpoadaaDoor
open Go.ChangeShapes Go.WideShapes Go.ChangeAt Go.RowKit

theorem open_is {P : Program} {H : Type} {enc : TypeId × Value → H} {t e : TypeId} (ht : P.underlying t = some (.slice e)) (he : P.underlying e = some (.int .i64)) (hc : P.cellsOf e = 1) {W : World} {base : Nat} {v : Value} {d : DataW H} {p : List MemPlace}
    (hval : Value.okWide P W .any base t v) (h : DataW.Trod enc P W 0 (fun _ => true) true t v d p) : ∃ zs, IS W v zs := by
  obtain ⟨a0, len, cap, rfl⟩ := okWide_slice ht hval
  obtain ⟨fuel, hf⟩ := h
  rcases open_ints ht he hc hf with ⟨hcs, hx⟩ | ⟨a, len', cap', zs, hcs, _, hl, hm, hz, hx, hcell, hwz⟩
  · simp [Value.cells] at hcs
    obtain ⟨rfl, rfl, rfl⟩ := hcs
    exact ⟨[], none, 0, rfl, by simp, by simp, by simp, fun h => absurd rfl h⟩
  · simp [Value.cells] at hcs
    obtain ⟨rfl, rfl, rfl⟩ := hcs
    simp only [if_true] at hz
    have hlen : (zs.take len).length = len := by rw [List.length_take]; omega
    refine ⟨zs.take len, some a, cap, by rw [hlen], by rw [hlen]; exact hl, by unfold maxLen at hm; omega, fun z hz' => i64_of_wf (hwz z (List.mem_of_mem_take hz')), fun hne => ?_⟩
    have hpos : 0 < len := by
      cases len with
      | zero => simp at hne
      | succ n => omega
    have g0 := hcell 0 (by omega)
    have hb : a.block < W.heap.size := by
      rcases Nat.lt_or_ge a.block W.heap.size with h | h
      · exact h
      · simp [World.cell?, Addr.add, Array.getElem?_eq_none h] at g0
    obtain ⟨b, off, spot⟩ := a
    have hspot : spot = none := by simpa [Addr.add] using World.cell?_spot g0
    subst hspot
    refine ⟨b, off, rfl, hb, fun i hi => ?_⟩
    rw [hlen] at hi
    have gi := hcell i (by omega)
    have e1 : (⟨b, off, none⟩ : Addr).add i = ⟨b, off + i, none⟩ := by
      unfold Addr.add; split
      · rename_i h; subst h; rfl
      · rfl
    rw [e1] at gi
    rw [gi]
    simp [List.getD, hi]

end Go.Proofs.YthdbchghhpoadaaDoor

namespace Go.Proofs.YthdbchghhpoadaaDoor
open Go.ChangeShapes Go.WideShapes Go.ChangeAt Go.RowKit Go.Deep

abbrev P3 := Int × Int × Int
/-- A slice that reads as the triples ps. -/
def PS (w : World) (v : Value) (ps : List P3) : Prop := ∃ A cap, v = .slice A ps.length cap ∧ ps.length ≤ cap ∧ (cap : Int) ≤ 9223372036854775807 ∧ (∀ p ∈ ps, I64 p.1 ∧ I64 p.2.1 ∧ I64 p.2.2) ∧
  (ps ≠ [] → ∃ b off, A = some ⟨b, off, none⟩ ∧ b < w.heap.size ∧ ∀ i, i < ps.length → w.cell? ⟨b, off + i * 3, none⟩ = some (.int .i64 (ps.getD i (0, 0, 0)).1) ∧ w.cell? ⟨b, off + i * 3 + 1, none⟩ = some (.int .i64 (ps.getD i (0, 0, 0)).2.1) ∧ w.cell? ⟨b, off + i * 3 + 2, none⟩ = some (.int .i64 (ps.getD i (0, 0, 0)).2.2))
theorem PS.below {w w1 : World} {v : Value} {ps : List P3} (h : PS w v ps) (hb : Below w.heap.size w w1) : PS w1 v ps := by
  obtain ⟨A, cap, rfl, h1, h2, h3, h4⟩ := h
  refine ⟨A, cap, rfl, h1, h2, h3, fun hz => ?_⟩
  obtain ⟨b, off, rfl, hlt, hc⟩ := h4 hz
  refine ⟨b, off, rfl, Nat.lt_of_lt_of_le hlt hb.size, fun i hi => ?_⟩
  rw [hb.cell (p := ⟨b, off + i * 3, none⟩) hlt, hb.cell (p := ⟨b, off + i * 3 + 1, none⟩) hlt, hb.cell (p := ⟨b, off + i * 3 + 2, none⟩) hlt]
  exact hc i hi
theorem PS.form {w : World} {v : Value} {ps : List P3} (h : PS w v ps) : ∃ A cap, v = .slice A ps.length cap := by
  obtain ⟨A, cap, rfl, -⟩ := h; exact ⟨_, _, rfl⟩
theorem PS.len {w : World} {v : Value} {ps : List P3} (h : PS w v ps) : (ps.length : Int) ≤ 9223372036854775807 := by
  obtain ⟨A, cap, rfl, h1, h2, -⟩ := h; omega

theorem open_ps {P : Program} {H : Type} {enc : TypeId × Value → H} {t e : TypeId} {n : Nat} (ht : P.underlying t = some (.slice e)) (hk : intLeaves P n e = some [.i64, .i64, .i64]) (hC : P.cellsOf e = 3) {W : World} {base : Nat} {v : Value} {d : DataW H} {p : List MemPlace}
    (hval : Value.okWide P W .any base t v) (h : DataW.Trod enc P W 0 (fun _ => true) true t v d p) : ∃ ps, PS W v ps := by
  obtain ⟨a0, len, cap, rfl⟩ := okWide_slice ht hval
  obtain ⟨fuel, hf⟩ := h
  rcases open_slice ht hf with ⟨hcs, hx⟩ | ⟨a, len', cap', m, n', D, Pl, hcs, _, hl, hm, hmm, -, hx⟩
  · simp [Value.cells] at hcs
    obtain ⟨rfl, rfl, rfl⟩ := hcs
    exact ⟨[], none, 0, rfl, by simp, by simp, by simp, fun h => absurd rfl h⟩
  · simp [Value.cells] at hcs
    obtain ⟨rfl, rfl, rfl⟩ := hcs
    simp only [if_true] at hmm
    obtain ⟨f, hF⟩ := choose_lt (α := P3) (p := fun i q => (W.cell? (a.add (i * 3)) = some (.int .i64 q.1) ∧ W.cell? ((a.add (i * 3)).add 1) = some (.int .i64 q.2.1) ∧ W.cell? ((a.add (i * 3)).add 2) = some (.int .i64 q.2.2)) ∧ I64 q.1 ∧ I64 q.2.1 ∧ I64 q.2.2) (n := m) (fun i hi => by
      obtain ⟨cs', g1, g2⟩ := hx i hi
      rw [hC] at g1
      obtain ⟨_, hlen, hat⟩ := World.cells?_some g1
      obtain ⟨ns, hn, rfl, hw⟩ := trod_ints hk (by simpa using hC) (by rw [hlen, hC]) g2
      match ns, hn with
      | [x, y, z], _ =>
        refine ⟨(x, y, z), ⟨?_, ?_, ?_⟩, i64_of_wf (hw 0 .i64 x rfl rfl), i64_of_wf (hw 1 .i64 y rfl rfl), i64_of_wf (hw 2 .i64 z rfl rfl)⟩
        · have := hat 0 (by omega); simpa [Addr.add, intCells] using this
        · have := hat 1 (by omega); simpa [intCells] using this
        · have := hat 2 (by omega); simpa [intCells] using this)
    have hlen : ((List.range len).map f).length = len := by simp
    refine ⟨(List.range len).map f, some a, cap, by rw [hlen], by rw [hlen]; exact hl, by unfold maxLen at hm; omega, fun q hq => ?_, fun hne => ?_⟩
    · obtain ⟨i, hi, rfl⟩ := List.mem_map.1 hq
      exact (hF i (by have := List.mem_range.1 hi; omega)).2
    · have hpos : 0 < len := by
        cases len with
        | zero => simp at hne
        | succ n => omega
      have g0 := (hF 0 (by omega)).1.1
      rw [Nat.zero_mul] at g0
      have hb : a.block < W.heap.size := by
        rcases Nat.lt_or_ge a.block W.heap.size with h | h
        · exact h
        · simp [World.cell?, Addr.add, Array.getElem?_eq_none h] at g0
      obtain ⟨b, off, spot⟩ := a
      have hspot : spot = none := by simpa [Addr.add] using World.cell?_spot g0
      subst hspot
      have ad : ∀ (o j : Nat), (⟨b, o, none⟩ : Addr).add j = ⟨b, o + j, none⟩ := fun o j => by
        unfold Addr.add; split
        · rename_i h; subst h; rfl
        · rfl
      refine ⟨b, off, rfl, hb, fun i hi => ?_⟩
      rw [hlen] at hi
      have gi := (hF i (by omega)).1
      rw [ad, ad, ad] at gi
      have e : ((List.range len).map f).getD i (0, 0, 0) = f i := by simp [List.getD, hi]
      rw [e]
      exact gi

end Go.Proofs.YthdbchghhpoadaaDoor

set_option linter.unusedVariables false
namespace Go.Proofs.YthdbchghhpoadaaDoor
open Go.RowKit

def sub64Entry : Array Value → Sem Value := fun args => do
  let (x, y, b) ← Extern.MathBitsCarry.three "Sub64" args
  pure (Extern.MathBitsCarry.pair ((x + Extern.MathBitsCarry.m64 - y - b) % Extern.MathBitsCarry.m64) (if x < y + b then 1 else 0))

theorem run_sub64 (x y b : Nat) (hb : b ≤ 1) (w : World) :
    (sub64Entry #[.int .u64 x, .int .u64 y, .int .u64 b]).run Tryd.prog w =
      .ok (.tuple #[.int .u64 (((x + 18446744073709551616 - y - b) % 18446744073709551616 : Nat) : Int), .int .u64 ((if x < y + b then 1 else 0 : Nat) : Int)]) w := by
  have : b = 0 ∨ b = 1 := by omega
  rcases this with rfl | rfl <;> rfl

theorem add64_law (x y c : Int) (hx : U64 x) (hy : U64 y) (hc0 : 0 ≤ c) (hc : c ≤ 1) (w : World) :
    (callFunc 53 #[.int .u64 x, .int .u64 y, .int .u64 c]).run Tryd.prog w =
      .ok (.value (.tuple #[.int .u64 ((x + y + c) % 18446744073709551616), .int .u64 ((x + y + c) / 18446744073709551616)])) w := by
  rw [run_callFunc_extern Tryd.func53 (by kernel_rfl) (by kernel_rfl) (by kernel_rfl) (e := add64Entry) (by kernel_rfl), run_add64 x y c hx.1 hy.1 hc0 hc]
  simp only [Result.andThen]

theorem sub64_law (x y c : Int) (hx : U64 x) (hy : U64 y) (hc0 : 0 ≤ c) (hc : c ≤ 1) (w : World) :
    (callFunc 54 #[.int .u64 x, .int .u64 y, .int .u64 c]).run Tryd.prog w =
      .ok (.value (.tuple #[.int .u64 ((x - y - c) % 18446744073709551616), .int .u64 (if x < y + c then 1 else 0)])) w := by
  obtain ⟨a, rfl⟩ := Int.eq_ofNat_of_zero_le hx.1
  obtain ⟨b, rfl⟩ := Int.eq_ofNat_of_zero_le hy.1
  obtain ⟨d, rfl⟩ := Int.eq_ofNat_of_zero_le hc0
  have h1 := hx.2; have h2 := hy.2
  rw [run_callFunc_extern Tryd.func54 (by kernel_rfl) (by kernel_rfl) (by kernel_rfl) (e := sub64Entry) (by kernel_rfl), run_sub64 a b d (by omega)]
  simp only [Result.andThen]
  have e1 : (((a + 18446744073709551616 - b - d) % 18446744073709551616 : Nat) : Int) = ((a : Int) - b - d) % 18446744073709551616 := by omega
  have e2 : ((if a < b + d then 1 else 0 : Nat) : Int) = if (a : Int) < b + d then 1 else 0 := by split <;> split <;> omega
  rw [e1, e2]

/-- The same, with names for what comes back. -/
theorem add64_ex (x y c : Int) (hx : U64 x) (hy : U64 y) (hc0 : 0 ≤ c) (hc : c ≤ 1) : ∃ s d : Int, U64 s ∧ 0 ≤ d ∧ d ≤ 1 ∧ Hid (d * 18446744073709551616 + s = x + y + c) ∧
    ∀ w : World, (callFunc 53 #[.int .u64 x, .int .u64 y, .int .u64 c]).run Tryd.prog w = .ok (.value (.tuple #[.int .u64 s, .int .u64 d])) w := by
  refine ⟨_, _, ?_, ?_, ?_, ?_, fun w => add64_law x y c hx hy hc0 hc w⟩
  · unfold U64 at *; omega
  · unfold U64 at *; omega
  · unfold U64 at *; omega
  · show _ = _; omega
theorem sub64_ex (x y c : Int) (hx : U64 x) (hy : U64 y) (hc0 : 0 ≤ c) (hc : c ≤ 1) : ∃ s d : Int, U64 s ∧ 0 ≤ d ∧ d ≤ 1 ∧ Hid (s - d * 18446744073709551616 = x - y - c) ∧
    ∀ w : World, (callFunc 54 #[.int .u64 x, .int .u64 y, .int .u64 c]).run Tryd.prog w = .ok (.value (.tuple #[.int .u64 s, .int .u64 d])) w := by
  refine ⟨_, _, ?_, ?_, ?_, ?_, fun w => sub64_law x y c hx hy hc0 hc w⟩
  · unfold U64 at *; omega
  · split <;> omega
  · split <;> omega
  · show _ = _; unfold U64 at *; split <;> omega

end Go.Proofs.YthdbchghhpoadaaDoor
