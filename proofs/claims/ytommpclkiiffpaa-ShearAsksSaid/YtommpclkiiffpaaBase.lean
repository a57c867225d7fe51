/- What all walks of this seat use: imports, how an integer's well-formedness reads as bounds, facts kept from the walk. -/
import Derived.Test.YtommpclkiiffpaaRows
import Derived.WalkKit
import Derived.WalkSpells
import Derived.WalkLawsBesides
import Derived.ProofKit
import Derived.OpenShut
import Derived.Outline
import Derived.Laws.EntriesVeiled
import Derived.Lib.Hide
import Derived.Deep.QuietTactic
import Derived.BigQuiet
set_option linter.unusedVariables false
namespace Go.Proofs.Ytommpclkiiffpaa
open Go.RowKit

/-- An int64's bounds. -/
def I64 (x : Int) : Prop := -9223372036854775808 ≤ x ∧ x ≤ 9223372036854775807
def U64 (x : Int) : Prop := 0 ≤ x ∧ x ≤ 18446744073709551615

theorem i64_of_wf {x : Int} (h : (Lit.int .i64 x).wf = true) : I64 x := by
  simp [Lit.wf, IntKind.min, IntKind.max, IntKind.signed, IntKind.bits] at h
  exact ⟨by omega, by omega⟩
theorem u64_of_wf {x : Int} (h : (Lit.int .u64 x).wf = true) : U64 x := by
  simp [Lit.wf, IntKind.min, IntKind.max, IntKind.signed, IntKind.bits] at h
  exact ⟨by omega, by omega⟩

theorem i32_of_wf {x : Int} (h : (Lit.int .i32 x).wf = true) : -2147483648 ≤ x ∧ x ≤ 2147483647 := by
  simp [Lit.wf, IntKind.min, IntKind.max, IntKind.signed, IntKind.bits] at h
  exact ⟨by omega, by omega⟩
theorem i16_of_wf {x : Int} (h : (Lit.int .i16 x).wf = true) : -32768 ≤ x ∧ x ≤ 32767 := by
  simp [Lit.wf, IntKind.min, IntKind.max, IntKind.signed, IntKind.bits] at h
  exact ⟨by omega, by omega⟩
theorem i8_of_wf {x : Int} (h : (Lit.int .i8 x).wf = true) : -128 ≤ x ∧ x ≤ 127 := by
  simp [Lit.wf, IntKind.min, IntKind.max, IntKind.signed, IntKind.bits] at h
  exact ⟨by omega, by omega⟩
theorem u8_of_wf {x : Int} (h : (Lit.int .u8 x).wf = true) : 0 ≤ x ∧ x ≤ 255 := by
  simp [Lit.wf, IntKind.min, IntKind.max, IntKind.signed, IntKind.bits] at h
  exact ⟨by omega, by omega⟩

/-- Draws turn nothing. -/
theorem below_drawn {B : Nat} {a w : World} (h : Below B a w) (n : Nat) : Below B a (w.drewN n) := ⟨h.os, h.tape, h.output, h.size, h.block⟩

/-- A new block; a call that leaves what was there as it was; a draw: the steps of 'Below', from the heap as the walk began. -/
theorem below_new {w w1 : World} (h : Below w.heap.size w w1) (o : Obj) : Below w.heap.size w (w1.alloc o) := h.alloc h.size o
theorem below_next {w w1 w2 : World} (h : Below w.heap.size w w1) (h2 : Below w1.heap.size w1 w2) : Below w.heap.size w w2 := h.trans (h2.mono h.size)
theorem below_drew {w w1 : World} (h : Below w.heap.size w w1) : Below w.heap.size w w1.drew := h.drew
theorem below_set {w w1 : World} (h : Below w.heap.size w w1) {b o : Nat} (hb : w.heap.size ≤ b) (u : Value) : Below w.heap.size w (w1.setCell ⟨b, o, none⟩ u) := h.setCell (p := ⟨b, o, none⟩) hb u
theorem below_of_eq {w w1 : World} (h : w = w1) : Below w.heap.size w w1 := by subst h; exact Below.refl _ _
/-- What was there reads as it did, in the walk's own words. -/
theorem below_reads {W w1 : World} (hb : Below W.heap.size W w1) :
    (∀ b o, b < W.heap.size → w1.cell? ⟨b, o, none⟩ = W.cell? ⟨b, o, none⟩) ∧ (∀ b o, b < W.heap.size → w1.frozen? ⟨b, o, none⟩ = W.frozen? ⟨b, o, none⟩) :=
  ⟨fun b o h => hb.cell (p := ⟨b, o, none⟩) h, fun b o h => hb.frozen (p := ⟨b, o, none⟩) h⟩

theorem ret_bool {a b : Bool} (h : a = b) : Ending.returned (.bool a) = .returned (.bool b) := by rw [h]
theorem ret_int {k : IntKind} {a b : Int} (h : a = b) : Ending.returned (.int k a) = .returned (.int k b) := by rw [h]
theorem ret_int2 {k l : IntKind} {a b c d : Int} (h : a = b) (h' : c = d) : Ending.returned (.tuple #[.int k a, .int l c]) = .returned (.tuple #[.int k b, .int l d]) := by rw [h, h']

/-! ### Go's quotient and remainder, rounded towards 0, in the words of the one that is rounded down -/
theorem tdiv_exact {a b : Int} (h : a.tmod b = 0) : a.tdiv b = a / b := by
  rw [Int.tdiv_eq_ediv, if_pos (.inr (Int.dvd_of_tmod_eq_zero h)), Int.add_zero]
theorem tdiv_pos {a b : Int} (h : 0 ≤ a) : a.tdiv b = a / b := by
  rw [Int.tdiv_eq_ediv, if_pos (.inl h), Int.add_zero]
theorem tdiv_neg_step {a b : Int} (ha : a < 0) (hb : 0 < b) (h : a.tmod b ≠ 0) : a.tdiv b = a / b + 1 := by
  rw [Int.tdiv_eq_ediv, if_neg, Int.sign_eq_one_of_pos hb]
  rintro (h1 | h1)
  · omega
  · exact h (Int.tmod_eq_zero_of_dvd h1)
theorem tmod_exact {a b : Int} (h : 0 ≤ a) : a.tmod b = a % b := by
  rw [Int.tmod_eq_emod, if_pos (.inl h)]; simp
theorem tmod_zero_iff {a b : Int} : a.tmod b = 0 ↔ a % b = 0 := by
  rw [← Int.dvd_iff_tmod_eq_zero, Int.dvd_iff_emod_eq_zero]
theorem ediv_bounds {a b : Int} (ha : I64 a) (hb : 0 < b) : I64 (a / b) := by
  have h1 := Int.mul_ediv_add_emod a b
  have h2 := Int.emod_nonneg a (show b ≠ 0 by omega)
  have h3 := Int.emod_lt_of_pos a hb
  obtain ⟨l, u⟩ := ha
  constructor
  · by_cases h : 0 ≤ a / b
    · omega
    · have h4 : b * (a / b + 1) ≤ 1 * (a / b + 1) := Int.mul_le_mul_of_nonpos_right (by omega) (by omega)
      rw [Int.mul_add, Int.mul_one] at h4
      omega
  · by_cases h : a / b ≤ 0
    · omega
    · have : 1 * (a / b) ≤ b * (a / b) := Int.mul_le_mul_of_nonneg_right (by omega) (by omega)
      omega

/-! ### Wraps within a wrap fall away: int64's arithmetic is that of remainders -/
theorem wrap64_shift (x k : Int) : wrap64 (x + 18446744073709551616 * k) = wrap64 x := by unfold wrap64; omega
theorem wrap64_is (x : Int) : ∃ k, wrap64 x = x + 18446744073709551616 * k := ⟨-((x + 9223372036854775808) / 18446744073709551616), by unfold wrap64; omega⟩
theorem wr_wr (a : Int) : wrap64 (wrap64 a) = wrap64 a := by unfold wrap64; omega
theorem wr_add_l (a b : Int) : wrap64 (wrap64 a + b) = wrap64 (a + b) := by unfold wrap64; omega
theorem wr_add_r (a b : Int) : wrap64 (a + wrap64 b) = wrap64 (a + b) := by unfold wrap64; omega
theorem wr_sub_l (a b : Int) : wrap64 (wrap64 a - b) = wrap64 (a - b) := by unfold wrap64; omega
theorem wr_sub_r (a b : Int) : wrap64 (a - wrap64 b) = wrap64 (a - b) := by unfold wrap64; omega
theorem wr_neg (a : Int) : wrap64 (-wrap64 a) = wrap64 (-a) := by unfold wrap64; omega
theorem wr_mul_l (a b : Int) : wrap64 (wrap64 a * b) = wrap64 (a * b) := by
  obtain ⟨k, hk⟩ := wrap64_is a
  rw [hk, Int.add_mul, Int.mul_assoc, wrap64_shift]
theorem wr_mul_r (a b : Int) : wrap64 (a * wrap64 b) = wrap64 (a * b) := by rw [Int.mul_comm, wr_mul_l, Int.mul_comm]
theorem wr_in {n : Int} (h0 : -9223372036854775808 ≤ n) (h1 : n ≤ 9223372036854775807) : wrap64 n = n := IntWalk.wrap64_in n ⟨h0, by omega⟩

end Go.Proofs.Ytommpclkiiffpaa
