/- The plain law of a long division's digit, and of rounding down. -/
import Derived.Test.YtnklbnphiokpiaaBig7
set_option linter.unusedVariables false
namespace Go.Proofs.Ytnklbnphiokpiaa
open Go.RowKit

/-- The three digits from a place down. -/
def hd3 (ds : List Int) (k : Nat) : Int := (dg ds k * 32768 + dg ds ((k : Int) - 1)) * 32768 + dg ds ((k : Int) - 2)
def scS (k : Nat) : Int := if k = 1 then 1 else P2 (k - 2)
def scT (k : Nat) : Int := if k = 1 then 32768 else 1
theorem scS_pos (k : Nat) : 0 < scS k := by unfold scS; split; omega; exact P2_pos _
theorem scT_pos (k : Nat) : 0 < scT k := by unfold scT; split <;> omega

theorem drop_none {ds : List Int} (h : Dig ds) {n : Nat} (hx : bval ds < P2 n) : bval (ds.drop n) = 0 := by
  have h1 := take_drop_val ds n
  have h2 := bval_nonneg (h.drop n)
  have h3 := bval_nonneg (h.take n)
  have h4 := P2_pos n
  rcases Int.lt_or_le 0 (bval (ds.drop n)) with h5 | h5
  · have h6 : P2 n * 1 ≤ P2 n * bval (ds.drop n) := Int.mul_le_mul_of_nonneg_left (by omega) (by omega)
    omega
  · omega

theorem hd3_spec {ds : List Int} (h : Dig ds) {k : Nat} (hk : 0 < k) (hx : bval ds < P2 (k + 1)) :
    hd3 ds k * scS k ≤ bval ds * scT k ∧ bval ds * scT k < (hd3 ds k + 1) * scS k := by
  have h0 := drop_none h hx
  by_cases h1 : k = 1
  · subst h1
    have e1 := drop_val ds 1
    have e0 := drop_val ds 0
    rw [List.drop_zero] at e0
    unfold hd3 scS scT
    rw [if_pos rfl, if_pos rfl, show ((1 : Nat) : Int) - 1 = ((0 : Nat) : Int) by omega, dg_nat, dg_nat, dg_neg ds (by omega)]
    simp only [Nat.zero_add] at *
    omega
  · obtain ⟨j, rfl⟩ : ∃ j, k = j + 2 := ⟨k - 2, by omega⟩
    unfold hd3 scS scT
    rw [if_neg h1, if_neg h1, show ((j + 2 : Nat) : Int) - 1 = ((j + 1 : Nat) : Int) by omega, show ((j + 2 : Nat) : Int) - 2 = ((j : Nat) : Int) by omega, dg_nat, dg_nat, dg_nat, show j + 2 - 2 = j by omega]
    have e2 := drop_val ds (j + 2)
    have e1 := drop_val ds (j + 1)
    have e0 := drop_val ds j
    have hv := take_drop_val ds j
    have ⟨t0, t1⟩ := take_lt h j
    have hs : (ds.getD (j + 2) 0 * 32768 + ds.getD (j + 1) 0) * 32768 + ds.getD j 0 = bval (ds.drop j) := by
      rw [show j + 2 + 1 = j + 3 by omega] at h0 e2
      rw [show j + 1 + 1 = j + 2 by omega] at e1
      omega
    rw [hs]
    generalize bval (ds.drop j) = D at *
    generalize P2 j = P at *
    rw [Int.mul_one, Int.add_mul, Int.one_mul, Int.mul_comm D P]
    omega

/-- The digit of a long division lies between what the first digits tell. -/
theorem digit_est {F t S T R B : Int} (hS : 0 < S) (hT : 0 < T) (hB : 0 < B) (hR : 0 ≤ R) (hRB : R < 32768 * B) (ht : 0 < t) (hF : 0 ≤ F)
    (f1 : F * S ≤ R * T) (f2 : R * T < (F + 1) * S) (t1 : t * S ≤ B * T) (t2 : B * T < (t + 1) * S) :
    0 ≤ F / (t + 1) ∧ F / (t + 1) ≤ R / B ∧ R / B ≤ (F + 1) / t ∧ R / B ≤ 32767 ∧ 0 ≤ R / B := by
  have l0 : 0 ≤ F / (t + 1) := Int.ediv_nonneg hF (by omega)
  have q0 : 0 ≤ R / B := Int.ediv_nonneg hR (by omega)
  refine ⟨l0, ?_, ?_, ?_, q0⟩
  · rw [Int.le_ediv_iff_mul_le hB]
    have h1 : F / (t + 1) * (t + 1) ≤ F := Int.ediv_mul_le _ (by omega)
    generalize F / (t + 1) = l at *
    refine Int.le_of_mul_le_mul_right (a := T) ?_ hT
    have h2 : l * (B * T) ≤ l * ((t + 1) * S) := Int.mul_le_mul_of_nonneg_left (by omega) l0
    have h3 : l * (t + 1) * S ≤ F * S := Int.mul_le_mul_of_nonneg_right h1 (by omega)
    rw [Int.mul_assoc]
    rw [Int.mul_assoc] at h3
    omega
  · rw [Int.le_ediv_iff_mul_le ht]
    have h1 : R / B * B ≤ R := Int.ediv_mul_le _ (by omega)
    generalize R / B = q at *
    have h2 : q * (t * S) ≤ q * (B * T) := Int.mul_le_mul_of_nonneg_left t1 q0
    have h3 : q * B * T ≤ R * T := Int.mul_le_mul_of_nonneg_right h1 (by omega)
    rw [Int.mul_assoc] at h3
    refine Int.le_of_lt (Int.lt_of_mul_lt_mul_right (a := S) ?_ (by omega))
    rw [Int.mul_assoc]
    omega
  · have : R / B < 32768 := by rw [Int.ediv_lt_iff_lt_mul hB]; omega
    omega

theorem top_pos {bd : List Int} (h : Canon bd) (hn : bd ≠ []) : 0 < hd3 bd bd.length := by
  have hl : 0 < bd.length := by cases bd with | nil => exact absurd rfl hn | cons => simp
  have h1 := (hd3_spec h.1 hl (by have := bval_lt h.1; have := P2_mono (show bd.length ≤ bd.length + 1 by omega); omega)).2
  have h2 := bval_low h hn
  have h3 : P2 (bd.length - 1) * scT bd.length ≤ bval bd * scT bd.length := Int.mul_le_mul_of_nonneg_right h2 (by have := scT_pos bd.length; omega)
  have h4 : P2 (bd.length - 1) * scT bd.length = 32768 * scS bd.length := by
    unfold scS scT
    split
    · next e => rw [e]; simp [P2_zero]
    · next e => rw [show bd.length - 1 = bd.length - 2 + 1 by omega, P2_succ]; omega
  have h5 := scS_pos bd.length
  have h6 : 32768 * scS bd.length < (hd3 bd bd.length + 1) * scS bd.length := by omega
  have h7 := Int.lt_of_mul_lt_mul_right h6 (by omega)
  omega

/-- Rounding down, by the signs and the bare quotient. -/
theorem fdiv_eq (x y : Int) (hy : y ≠ 0) : x.fdiv y = if sgn x = sgn y then (x.natAbs : Int) / y.natAbs else if (x.natAbs : Int) % y.natAbs = 0 then -((x.natAbs : Int) / y.natAbs) else -((x.natAbs : Int) / y.natAbs + 1) := by
  have key : ∀ p q : Int, 0 ≤ p → 0 < q → (-p).fdiv q = if p % q = 0 then -(p / q) else -(p / q + 1) := by
    intro p q hp hq
    rw [Int.fdiv_eq_ediv_of_nonneg _ (by omega)]
    have e := Int.mul_ediv_add_emod p q
    have m0 := Int.emod_nonneg p (show q ≠ 0 by omega)
    have m1 := Int.emod_lt_of_pos p hq
    generalize p % q = m at *
    generalize p / q = d at *
    subst e
    split
    · next h => subst h; rw [Int.add_zero, ← Int.mul_neg, Int.mul_ediv_cancel_left _ (by omega)]
    · next h =>
      refine (Int.ediv_emod_unique hq (a := -(q * d + m)) (r := q - m) (q := -(d + 1))).2 ⟨by grind, by omega, by omega⟩ |>.1
  have kneg : ∀ p q : Int, p.fdiv q = (-p).fdiv (-q) := fun p q => (Int.neg_fdiv_neg p q).symm
  rcases Int.lt_or_le x 0 with hx | hx <;> rcases Int.lt_or_le y 0 with hy' | hy'
  · rw [sgn_t hx, sgn_t hy', if_pos rfl, kneg, Int.fdiv_eq_ediv_of_nonneg _ (by omega), show (x.natAbs : Int) = -x by omega, show (y.natAbs : Int) = -y by omega]
  · rw [sgn_t hx, sgn_f hy', if_neg (by decide), show (x.natAbs : Int) = -x by omega, show (y.natAbs : Int) = y by omega]
    have := key (-x) y (by omega) (by omega)
    rwa [Int.neg_neg] at this
  · rw [sgn_f hx, sgn_t hy', if_neg (by decide), show (x.natAbs : Int) = x by omega, show (y.natAbs : Int) = -y by omega, kneg]
    exact key x (-y) (by omega) (by omega)
  · rw [sgn_f hx, sgn_f hy', if_pos rfl, Int.fdiv_eq_ediv_of_nonneg _ (by omega), show (x.natAbs : Int) = x by omega, show (y.natAbs : Int) = y by omega]

end Go.Proofs.Ytnklbnphiokpiaa
