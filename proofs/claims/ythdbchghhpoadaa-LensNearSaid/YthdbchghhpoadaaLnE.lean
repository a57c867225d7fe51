/- Plain: how far off a number in parts is from a fraction; sums, products, numbers rounded down. -/
import Derived.Test.YthdbchghhpoadaaRat1
set_option linter.unusedVariables false
set_option linter.unusedSimpArgs false
namespace Go.Proofs.Ythdbchghhpoadaa
/-- S times a fraction differs from a number by no more than e. -/
def ER (S p q n e : Int) : Prop := 0 < q ∧ S * p - n * q ≤ e * q ∧ -(e * q) ≤ S * p - n * q
theorem ER.of {S p q n : Int} (h : 0 < q) (e : S * p = n * q) : ER S p q n 0 := ⟨h, by rw [e, Int.zero_mul]; omega, by rw [e, Int.zero_mul]; omega⟩
theorem ER.more {S p q n e f : Int} (h : ER S p q n e) (hf : e ≤ f) : ER S p q n f := by
  obtain ⟨h1, h2, h3⟩ := h
  have : e * q ≤ f * q := Int.mul_le_mul_of_nonneg_right hf (by omega)
  exact ⟨h1, by omega, by omega⟩
theorem ER.add {S p q n e x y m f : Int} (h : ER S p q n e) (k : ER S x y m f) : ER S (p * y + x * q) (q * y) (n + m) (e + f) := by
  obtain ⟨h1, h2, h3⟩ := h
  obtain ⟨k1, k2, k3⟩ := k
  have a1 := Int.mul_le_mul_of_nonneg_right h2 (Int.le_of_lt k1)
  have a2 := Int.mul_le_mul_of_nonneg_right h3 (Int.le_of_lt k1)
  have b1 := Int.mul_le_mul_of_nonneg_right k2 (Int.le_of_lt h1)
  have b2 := Int.mul_le_mul_of_nonneg_right k3 (Int.le_of_lt h1)
  refine ⟨Int.mul_pos h1 k1, ?_, ?_⟩ <;> grind
theorem er_abs {a b A B : Int} (h1 : a ≤ A) (h2 : -A ≤ a) (k1 : b ≤ B) (k2 : -B ≤ b) : a * b ≤ A * B ∧ -(A * B) ≤ a * b := by
  have hA : 0 ≤ A := by omega
  have hB : 0 ≤ B := by omega
  have n1 : (a * b).natAbs ≤ (A * B).natAbs := by
    rw [Int.natAbs_mul, Int.natAbs_mul]
    exact Nat.mul_le_mul (by omega) (by omega)
  have n2 : 0 ≤ A * B := Int.mul_nonneg hA hB
  omega
theorem ER.mul {S T p q n e x y m f N M : Int} (h : ER S p q n e) (k : ER T x y m f) (n1 : n ≤ N) (n2 : -N ≤ n) (m1 : m ≤ M) (m2 : -M ≤ m) : ER (S * T) (p * x) (q * y) (n * m) (e * M + f * N + e * f) := by
  obtain ⟨h1, h2, h3⟩ := h
  obtain ⟨k1, k2, k3⟩ := k
  have hqy := Int.mul_pos h1 k1
  obtain ⟨a, ha⟩ : ∃ a, a = S * p - n * q := ⟨_, rfl⟩
  obtain ⟨b, hb⟩ : ∃ b, b = T * x - m * y := ⟨_, rfl⟩
  rw [← ha] at h2 h3
  rw [← hb] at k2 k3
  have c1 := er_abs h2 (by omega) k2 (by omega)
  have c2 := er_abs h2 (by omega) m1 m2
  have c3 := er_abs n1 n2 k2 (by omega)
  have c4 := Int.mul_le_mul_of_nonneg_right c2.1 (Int.le_of_lt k1)
  have c5 := Int.mul_le_mul_of_nonneg_right c2.2 (Int.le_of_lt k1)
  have c6 := Int.mul_le_mul_of_nonneg_right c3.1 (Int.le_of_lt h1)
  have c7 := Int.mul_le_mul_of_nonneg_right c3.2 (Int.le_of_lt h1)
  have e1 : S * T * (p * x) - n * m * (q * y) = a * b + a * m * y + n * b * q := by rw [ha, hb]; grind
  rw [ER, e1]
  refine ⟨hqy, ?_, ?_⟩ <;> grind
theorem ER.down {S p q n e : Int} (h : ER (65536 * S) p q n e) (f : Int) (hf : e + 65535 ≤ 65536 * f) : ER S p q (n / 65536) f := by
  obtain ⟨h1, h2, h3⟩ := h
  have r1 := Int.mul_ediv_add_emod n 65536
  have r2 := Int.emod_lt_of_pos n (show (0 : Int) < 65536 by omega)
  have r3 := Int.emod_nonneg n (show (65536 : Int) ≠ 0 by omega)
  generalize n / 65536 = k at *
  generalize n % 65536 = r at *
  have a1 : r * q ≤ 65535 * q := Int.mul_le_mul_of_nonneg_right (by omega) (by omega)
  have a2 : 0 ≤ r * q := Int.mul_nonneg r3 (by omega)
  have a3 : (e + 65535) * q ≤ 65536 * f * q := Int.mul_le_mul_of_nonneg_right hf (by omega)
  have a4 : n * q = 65536 * (k * q) + r * q := by rw [← r1]; grind
  have a5 : 65536 * S * p = 65536 * (S * p) := Int.mul_assoc _ _ _
  have a6 : 65536 * f * q = 65536 * (f * q) := Int.mul_assoc _ _ _
  have a7 : (e + 65535) * q = e * q + 65535 * q := Int.add_mul _ _ _
  unfold ER
  rw [a4, a5] at h2 h3
  rw [a6, a7] at a3
  generalize S * p = u at *
  generalize k * q = v at *
  generalize f * q = t at *
  generalize e * q = s at *
  generalize r * q = z at *
  refine ⟨h1, ?_, ?_⟩ <;> omega
end Go.Proofs.Ythdbchghhpoadaa
