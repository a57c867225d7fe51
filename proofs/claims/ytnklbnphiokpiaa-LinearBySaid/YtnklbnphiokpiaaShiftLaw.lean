/- Plain facts on shifts of numbers of two halves. -/
import Derived.Test.YtnklbnphiokpiaaWide1
import Derived.Test.YtnklbnphiokpiaaDiv64
set_option linter.unusedVariables false
namespace Go.Proofs.Ytnklbnphiokpiaa
open Go.RowKit

theorem bits_or_comm (a b : Int) (a0 : 0 ≤ a) (a1 : a ≤ 18446744073709551615) (b0 : 0 ≤ b) (b1 : b ≤ 18446744073709551615) : bits .or .u64 a b = bits .or .u64 b a := by
  obtain ⟨m, rfl⟩ := Int.eq_ofNat_of_zero_le a0
  obtain ⟨n, rfl⟩ := Int.eq_ofNat_of_zero_le b0
  rw [bits_or_u64_nat _ _ (by omega) (by omega), bits_or_u64_nat _ _ (by omega) (by omega), Nat.or_comm]

theorem wrap_mul (a : Int) (n : Nat) : IntKind.u64.wrap (IntKind.u64.wrap a * 2 ^ n) = IntKind.u64.wrap (a * 2 ^ n) := by
  obtain ⟨k, hk⟩ := wrap_u64_mod a
  rw [hk, Int.add_mul, Int.mul_assoc, IntKind.wrap_u64, IntKind.wrap_u64, Int.add_mul_emod_self_left]

/-- A number moved up: what stays within the low half. -/
theorem wrap_up (a : Int) (n : Nat) (hn : n ≤ 64) : IntKind.u64.wrap (a * 2 ^ (64 - n)) = (a % 2 ^ n) * 2 ^ (64 - n) := by
  have e : (2 : Int) ^ n * 2 ^ (64 - n) = 18446744073709551616 := by rw [← Int.pow_add, show n + (64 - n) = 64 by omega]; decide
  rw [IntKind.wrap_u64, ← e]
  exact (div_scaled (N := a) (y := 2 ^ n) (two_pos _)).2

theorem pow_join (n : Nat) (hn : n ≤ 64) : (2 : Int) ^ n * 2 ^ (64 - n) = 18446744073709551616 := by rw [← Int.pow_add, show n + (64 - n) = 64 by omega]; decide

theorem ediv_i64 {a : Int} (n : Nat) (h : I64 a) : I64 (a / 2 ^ n) := ediv_bounds h (two_pos n)

theorem shr_mid_law {x ah al : Int} {n : Nat} (h : W128 x ah al) (h0 : 0 < n) (h1 : n < 64) : W128 (x / 2 ^ n) (ah / 2 ^ n) (bits .or .u64 (al / 2 ^ n) (IntKind.u64.wrap (IntKind.u64.wrap ah * 2 ^ (64 - n)))) := by
  obtain ⟨a1, ⟨a20, a21⟩, rfl⟩ := h
  have e := pow_join n (by omega)
  have p1 := two_pos n
  have p2 := two_pos (64 - n)
  have l0 : 0 ≤ al / 2 ^ n := Int.ediv_nonneg a20 (by omega)
  have l1 : al / 2 ^ n < 2 ^ (64 - n) := Int.ediv_lt_of_lt_mul p1 (by rw [Int.mul_comm, e]; omega)
  have m0 := Int.emod_nonneg ah (show (2 : Int) ^ n ≠ 0 by omega)
  have m1 := Int.emod_lt_of_pos ah p1
  have hm : (ah % 2 ^ n + 1) * 2 ^ (64 - n) ≤ 2 ^ n * 2 ^ (64 - n) := Int.mul_le_mul_of_nonneg_right (by omega) (by omega)
  rw [e, Int.add_mul, Int.one_mul] at hm
  have h64 : (2 : Int) ^ (64 - n) ≤ 2 ^ 63 := two_le (by omega)
  rw [show (2 : Int) ^ 63 = 9223372036854775808 by decide] at h64
  have hp : 0 ≤ (ah % 2 ^ n) * 2 ^ (64 - n) := Int.mul_nonneg m0 (by omega)
  have hor : bits .or .u64 (al / 2 ^ n) (IntKind.u64.wrap (IntKind.u64.wrap ah * 2 ^ (64 - n))) = (ah % 2 ^ n) * 2 ^ (64 - n) + al / 2 ^ n := by
    rw [wrap_mul, wrap_up ah n (by omega), bits_or_comm _ _ l0 (by omega) hp (by omega)]
    have h := or_join (ah % 2 ^ n) (al / 2 ^ n) (64 - n) (by omega) m0 (by omega) l0 l1
    rwa [IntKind.wrap_u64, Int.emod_eq_of_lt hp (by omega)] at h
  rw [hor]
  refine ⟨ediv_i64 n a1, ⟨by omega, by omega⟩, ?_⟩
  have d := Int.mul_ediv_add_emod ah (2 ^ n)
  have e2 : ah * 18446744073709551616 + al = al + 2 ^ n * (ah * 2 ^ (64 - n)) := by rw [← e]; grind
  rw [e2, Int.add_mul_ediv_left _ _ (by omega)]
  have e3 : ah * 2 ^ (64 - n) = (ah / 2 ^ n) * 18446744073709551616 + ah % 2 ^ n * 2 ^ (64 - n) := by
    rw [← e]
    generalize ah / 2 ^ n = q at *
    generalize ah % 2 ^ n = r at *
    rw [← d]; grind
  rw [e3]; omega

theorem div_half {x ah al : Int} {n : Nat} (h : W128 x ah al) (hn : 64 ≤ n) : x / 2 ^ n = ah / 2 ^ (n - 64) := by
  obtain ⟨_, ⟨a20, a21⟩, rfl⟩ := h
  have e : (2 : Int) ^ n = 18446744073709551616 * 2 ^ (n - 64) := by rw [show (18446744073709551616 : Int) = 2 ^ 64 by decide, ← Int.pow_add]; congr 1; omega
  rw [e, ← Int.ediv_ediv_of_nonneg (by omega)]
  congr 1
  omega
theorem div_far {a : Int} (h : I64 a) {m : Nat} (hm : 63 ≤ m) : a / 2 ^ m = a / 9223372036854775808 := by
  have p : (2 : Int) ^ 63 ≤ 2 ^ m := two_le hm
  rw [show (2 : Int) ^ 63 = 9223372036854775808 by decide] at p
  obtain ⟨a0, a1⟩ := h
  rcases Int.lt_or_le a 0 with hn | hn
  · have e1 : a / 2 ^ m = -1 := by
      refine (Int.ediv_eq_iff_of_pos (by omega)).2 ⟨by omega, by omega⟩
    rw [e1]; omega
  · rw [Int.ediv_eq_zero_of_lt hn (by omega)]; omega
theorem shr_far_law {x ah al y : Int} {n : Nat} (h : W128 x ah al) (hn : 64 ≤ n) (hy : y = ah / 2 ^ (n - 64)) : W128 (x / 2 ^ n) (ah / 9223372036854775808) (IntKind.u64.wrap y) := by
  rw [div_half h hn, ← hy]
  have h1 := ediv_i64 (n - 64) h.1
  rw [← hy] at h1
  have h2 : ah / 9223372036854775808 = y / 9223372036854775808 := by
    have p := two_pos (n - 64)
    subst hy
    obtain ⟨⟨a0, a1⟩, _⟩ := h
    rcases Int.lt_or_le ah 0 with hl | hl
    · have : ah / 2 ^ (n - 64) < 0 := Int.ediv_neg_of_neg_of_pos hl p
      unfold I64 at h1; omega
    · have : 0 ≤ ah / 2 ^ (n - 64) := Int.ediv_nonneg hl (by omega)
      unfold I64 at h1; omega
  rw [h2, IntKind.wrap_u64]
  unfold W128 I64 U64; unfold I64 at h1; omega

theorem shl_mid_law {x ah al : Int} {n : Nat} (h : W128 x ah al) (h0 : 0 < n) (h1 : n < 64) :
    ∃ k : Int, W128 (x * 2 ^ n + k * 340282366920938463463374607431768211456) (wrap64 (bits .or .u64 (IntKind.u64.wrap (IntKind.u64.wrap ah * 2 ^ n)) (al / 2 ^ (64 - n)))) (IntKind.u64.wrap (al * 2 ^ n)) := by
  obtain ⟨a1, ⟨a20, a21⟩, rfl⟩ := h
  obtain ⟨s1, s2, s3⟩ := pow_split al n (by omega) a20 a21
  have e := pow_join (64 - n) (by omega)
  rw [show 64 - (64 - n) = n by omega] at e
  have u := wrap_up ah (64 - n) (by omega)
  rw [show 64 - (64 - n) = n by omega] at u
  have m0 := Int.emod_nonneg ah (show (2 : Int) ^ (64 - n) ≠ 0 by have := two_pos (64 - n); omega)
  have m1 := Int.emod_lt_of_pos ah (two_pos (64 - n))
  have p := two_pos n
  have hm : (ah % 2 ^ (64 - n) + 1) * 2 ^ n ≤ 2 ^ (64 - n) * 2 ^ n := Int.mul_le_mul_of_nonneg_right (by omega) (by omega)
  rw [e, Int.add_mul, Int.one_mul] at hm
  have hp : 0 ≤ (ah % 2 ^ (64 - n)) * 2 ^ n := Int.mul_nonneg m0 (by omega)
  have hor : bits .or .u64 (IntKind.u64.wrap (IntKind.u64.wrap ah * 2 ^ n)) (al / 2 ^ (64 - n)) = (ah % 2 ^ (64 - n)) * 2 ^ n + al / 2 ^ (64 - n) := by
    rw [wrap_mul, u]
    have h := or_join (ah % 2 ^ (64 - n)) (al / 2 ^ (64 - n)) n (by omega) m0 (by omega) s2 s1
    rwa [IntKind.wrap_u64, Int.emod_eq_of_lt hp (by omega)] at h
  rw [hor]
  obtain ⟨k1, hk1⟩ := wrap64_mod ((ah % 2 ^ (64 - n)) * 2 ^ n + al / 2 ^ (64 - n))
  have d := Int.mul_ediv_add_emod ah (2 ^ (64 - n))
  have hah : ah * 2 ^ n = (ah / 2 ^ (64 - n)) * 18446744073709551616 + ah % 2 ^ (64 - n) * 2 ^ n := by
    rw [← e]
    generalize ah / 2 ^ (64 - n) = q at *
    generalize ah % 2 ^ (64 - n) = r at *
    rw [← d]; grind
  refine ⟨k1 - ah / 2 ^ (64 - n), wrap64_in64 _, wrap_u64_in _, ?_⟩
  rw [hk1]
  have e2 : (ah * 18446744073709551616 + al) * 2 ^ n = ah * 2 ^ n * 18446744073709551616 + al * 2 ^ n := by grind
  rw [e2, hah, ← s3]
  grind
theorem shl_far_law {x ah al : Int} {n : Nat} (h : W128 x ah al) (h0 : 64 ≤ n) (h1 : n ≤ 127) :
    ∃ k : Int, W128 (x * 2 ^ n + k * 340282366920938463463374607431768211456) (wrap64 (IntKind.u64.wrap (al * 2 ^ (n - 64)))) 0 := by
  obtain ⟨a1, ⟨a20, a21⟩, rfl⟩ := h
  obtain ⟨k1, hk1⟩ := wrap64_mod (IntKind.u64.wrap (al * 2 ^ (n - 64)))
  obtain ⟨k2, hk2⟩ := wrap_u64_mod (al * 2 ^ (n - 64))
  have e : (2 : Int) ^ n = 18446744073709551616 * 2 ^ (n - 64) := by rw [show (18446744073709551616 : Int) = 2 ^ 64 by decide, ← Int.pow_add]; congr 1; omega
  refine ⟨k1 + k2 - ah * 2 ^ (n - 64), wrap64_in64 _, ⟨by omega, by omega⟩, ?_⟩
  rw [hk1, hk2, e]
  grind

/-- Moved up and down again: the number, if it has room; another one, if it has none. -/
theorem shl_back {x S k : Int} {n : Nat} (hn : n ≤ 127) (hx : I128 x) (hS : I128 S) (h : S = x * 2 ^ n + k * 340282366920938463463374607431768211456) : (I128 (x * 2 ^ n) → S = x * 2 ^ n) ∧ (S / 2 ^ n = x ↔ I128 (x * 2 ^ n)) := by
  have p := two_pos n
  have e : (340282366920938463463374607431768211456 : Int) = 2 ^ n * 2 ^ (128 - n) := by rw [← Int.pow_add, show n + (128 - n) = 128 by omega]; decide
  have h1 : I128 (x * 2 ^ n) → S = x * 2 ^ n := by
    intro hf
    unfold I128 at hf hS
    have : k = 0 := by omega
    subst this; omega
  refine ⟨h1, ?_, ?_⟩
  · intro hd
    have hk : S = x * 2 ^ n + 2 ^ n * (k * 2 ^ (128 - n)) := by rw [h, e]; grind
    rw [hk, Int.add_mul_ediv_left _ _ (by omega), Int.mul_ediv_cancel _ (by omega)] at hd
    have hz : k * 2 ^ (128 - n) = 0 := by omega
    have hk0 : k = 0 := by
      rcases Int.mul_eq_zero.1 hz with h | h
      · exact h
      · have := two_pos (128 - n); omega
    subst hk0
    rw [show S = x * 2 ^ n by omega] at hS
    exact hS
  · intro hf
    rw [h1 hf, Int.mul_ediv_cancel _ (by omega)]

end Go.Proofs.Ytnklbnphiokpiaa
