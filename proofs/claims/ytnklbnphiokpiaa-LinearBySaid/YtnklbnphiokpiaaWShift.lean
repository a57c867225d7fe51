/- Walks of wide.Shr, shl, Shl. -/
import Derived.Test.YtnklbnphiokpiaaShiftLaw
set_option linter.unusedVariables false
namespace Go.Proofs.Ytnklbnphiokpiaa
open Go.RowKit

theorem give_w_res {z hi lo : Int} {w w1 : World} {e : Ending} (he : e = .returned (wv hi lo)) (hb : Below w.heap.size w w1) (h : W128 z hi lo) : GiveW z w e w1 := ⟨_, _, he, hb, h⟩

def GiveW2 (z : Int) (w : World) (e : Ending) (w' : World) : Prop := ∃ hi lo k, e = .returned (wv hi lo) ∧ Below w.heap.size w w' ∧ W128 (z + k * 340282366920938463463374607431768211456) hi lo
theorem cmpI_nz {x : Int} (h : cmpI x 0 = 0) : x = 0 := by unfold cmpI at h; split at h <;> (try split at h) <;> omega
theorem W128.halves {z hi lo : Int} (h : W128 z hi lo) : hi = z / 18446744073709551616 ∧ lo = z % 18446744073709551616 := by unfold W128 U64 at h; omega
theorem W128.mk {z : Int} (h : I128 z) : W128 z (z / 18446744073709551616) (z % 18446744073709551616) := by unfold I128 at h; unfold W128 I64 U64; omega
theorem GiveW.fixed {z : Int} {w : World} {e : Ending} {w' : World} (h : GiveW z w e w') : e = .returned (wv (z / 18446744073709551616) (z % 18446744073709551616)) ∧ Below w.heap.size w w' := by
  obtain ⟨hi, lo, rfl, hb, h⟩ := h
  rw [← h.halves.1, ← h.halves.2]; exact ⟨rfl, hb⟩
theorem I128.shr {z : Int} (h : I128 z) (n : Nat) : I128 (z / 2 ^ n) := by
  have p := two_pos n
  have e := Int.mul_ediv_add_emod z (2 ^ n)
  unfold I128 at *
  rcases Int.lt_or_le z 0 with hz | hz
  · have h1 : z / 2 ^ n < 0 := Int.ediv_neg_of_neg_of_pos hz p
    have h2 : z * 1 ≤ z / 2 ^ n := by
      refine Int.le_ediv_of_mul_le p ?_
      rw [Int.mul_one]
      have : z * 2 ^ n ≤ z * 1 := Int.mul_le_mul_of_nonpos_left (by omega) (by omega)
      omega
    omega
  · have h1 : 0 ≤ z / 2 ^ n := Int.ediv_nonneg hz (by omega)
    have h2 : z / 2 ^ n ≤ z := Int.ediv_le_self _ hz
    omega
theorem I128.of_mul {x p : Int} (hp : 0 < p) (h : I128 (x * p)) : I128 x := by
  unfold I128 at *
  have h1 : x.natAbs ≤ (x * p).natAbs := by
    rw [Int.natAbs_mul]; exact Nat.le_mul_of_pos_right _ (by omega)
  rcases Int.lt_or_le x 0 with hx | hx
  · have : x * p ≤ x * 1 := Int.mul_le_mul_of_nonpos_left (by omega) (by omega)
    omega
  · have : x * 1 ≤ x * p := Int.mul_le_mul_of_nonneg_left (by omega) hx
    omega
theorem not_room {x : Int} (hx : x ≠ 0) {n : Nat} (hn : 128 ≤ n) : ¬ I128 (x * 2 ^ n) := by
  intro h
  have en : 128 + (n - 128) = n := by omega
  have e : (2 : Int) ^ n = 2 ^ 128 * 2 ^ (n - 128) := by rw [← Int.pow_add, en]
  rw [e, ← Int.mul_assoc] at h
  have h2 := I128.of_mul (two_pos _) h
  have e64 : (2 : Int) ^ 64 = 18446744073709551616 := by decide
  have e128 : (2 : Int) ^ 128 = 18446744073709551616 * 18446744073709551616 := by rw [← e64]; exact Int.pow_add 2 64 64
  rw [e128] at h2
  unfold I128 at h2; omega
theorem wide_eq {x y ah al bh bl : Int} (hx : W128 x ah al) (hy : W128 y bh bl) : (ah == bh && al == bl) = true ↔ x = y := by
  have := (W128.cmp hx hy).2
  simp only [Bool.and_eq_true, beq_iff_eq]; omega

end Go.Proofs.Ytnklbnphiokpiaa
