/- math/bits.Mul64: the product of two numbers of 64 bits, in two halves. -/
import Derived.Test.YtbldgbenlmjmjaaJA
import Derived.Lib.Mul64
import Derived.Laws.Bits64b
set_option linter.unusedVariables false
namespace Go.Proofs.Ytbldgbenlmjmjaa
open Go.RowKit

theorem low32 (a : Nat) (ha : a < 18446744073709551616) : bits .and .u64 (a : Int) 4294967295 = ((a % 4294967296 : Nat) : Int) := by
  have e : a &&& 4294967295 = a % 4294967296 := Nat.and_two_pow_sub_one_eq_mod a 32
  rw [← e]
  exact bits_and_u64_nat a 4294967295 ha (by omega)
theorem div32 (a : Nat) : (a : Int) / 4294967296 = ((a / 4294967296 : Nat) : Int) := by omega
theorem in64 (a : Nat) (ha : a < 18446744073709551616) : IntKind.u64.wrap (a : Int) = (a : Int) := by rw [IntKind.wrap_u64]; omega
theorem mod64 (a : Nat) : IntKind.u64.wrap (a : Int) = ((a % 18446744073709551616 : Nat) : Int) := by rw [IntKind.wrap_u64]; omega

def Halves (z : Int) (w : World) (e : Ending) (w' : World) : Prop := ∃ hi lo : Int, e = .returned (.tuple #[.int .u64 hi, .int .u64 lo]) ∧ U64 hi ∧ U64 lo ∧ hi * 18446744073709551616 + lo = z ∧ w = w'

set_option maxHeartbeats 1000000 in
set_option maxRecDepth 10000 in
theorem mul64_any (x y : Int) (hx : U64 x) (hy : U64 y) (w : World) : Calls Try.prog 95 #[.int .u64 x, .int .u64 y] w (Halves (x * y) w) := by
  obtain ⟨a, rfl⟩ := Int.eq_ofNat_of_zero_le hx.1
  obtain ⟨b, rfl⟩ := Int.eq_ofNat_of_zero_le hy.1
  have ha : a < 18446744073709551616 := by have := hx.2; omega
  have hb : b < 18446744073709551616 := by have := hy.2; omega
  obtain ⟨p1, p2, p3, top⟩ := Lib.mul64_hi a b ha hb
  have q1 := Lib.half_mul_le (a := a / 4294967296) (b := b / 4294967296) (by omega) (by omega)
  have q2 := Lib.half_mul_le (a := a / 4294967296) (b := b % 4294967296) (by omega) (by omega)
  have q3 := Lib.half_mul_le (a := a % 4294967296) (b := b / 4294967296) (by omega) (by omega)
  have r1 := in64 _ p1
  have r2 := in64 _ p2
  have r3 := in64 _ p3
  have r4 := in64 (a / 4294967296 * (b % 4294967296)) (by omega)
  have r5 := in64 (a % 4294967296 * (b / 4294967296)) (by omega)
  have r6 := in64 (a / 4294967296 * (b / 4294967296)) (by omega)
  have r7 := in64 (a / 4294967296 * (b / 4294967296) + (a / 4294967296 * (b % 4294967296) + a % 4294967296 * (b % 4294967296) / 4294967296) / 4294967296) (by omega)
  have r8 := in64 (a / 4294967296 * (b / 4294967296) + (a / 4294967296 * (b % 4294967296) + a % 4294967296 * (b % 4294967296) / 4294967296) / 4294967296 + ((a / 4294967296 * (b % 4294967296) + a % 4294967296 * (b % 4294967296) / 4294967296) % 4294967296 + a % 4294967296 * (b / 4294967296)) / 4294967296) (by omega)
  have s2 := low32 _ p2
  have HP : Hid ((a : Int) * b = ((a * b / 18446744073709551616 : Nat) : Int) * 18446744073709551616 + ((a * b % 18446744073709551616 : Nat) : Int) ∧ a * b / 18446744073709551616 < 18446744073709551616) := by
    refine ⟨by rw [← Int.natCast_mul]; omega, ?_⟩
    exact Nat.div_lt_of_lt_mul (Nat.mul_lt_mul'' ha hb)
  replace r1 := Lib.hid r1; replace r2 := Lib.hid r2; replace r3 := Lib.hid r3; replace r4 := Lib.hid r4; replace r5 := Lib.hid r5; replace r6 := Lib.hid r6; replace r7 := Lib.hid r7; replace r8 := Lib.hid r8; replace s2 := Lib.hid s2; replace top := Lib.hid top
  clear hx hy p1 p2 p3 q1 q2 q3
  go_enter Try.func95, Try.ntmps95
  go_wp2
  simp only [low32 a ha, low32 b hb, div32, (Int.natCast_mul _ _).symm, (Int.natCast_add _ _).symm, r1.out, r2.out, r3.out, r4.out, r5.out, r6.out, r7.out, r8.out, s2.out, mod64 (a * b)]
  rw [top.out]
  go_ret2
  refine ⟨_, _, rfl, ?_, ?_, ?_, rfl⟩
  · have := HP.out.2; exact ⟨by omega, by omega⟩
  · exact ⟨by omega, by omega⟩
  · rw [← HP.out.1]; rfl

end Go.Proofs.Ytbldgbenlmjmjaa
