/- math/bits.Mul64: the product of two numbers of 64 bits, in two halves. -/
import Derived.Test.YtnklbnphiokpiaaJA
import Derived.Lib.Mul64
import Derived.Laws.Bits64b
set_option linter.unusedVariables false
namespace Go.Proofs.Ytnklbnphiokpiaa
open Go.RowKit

theorem low32 (a : Nat) (ha : a < 18446744073709551616) : bits .and .u64 (a : Int) 4294967295 = ((a % 4294967296 : Nat) : Int) := by
  have e : a &&& 4294967295 = a % 4294967296 := Nat.and_two_pow_sub_one_eq_mod a 32
  rw [← e]
  exact bits_and_u64_nat a 4294967295 ha (by omega)
theorem div32 (a : Nat) : (a : Int) / 4294967296 = ((a / 4294967296 : Nat) : Int) := by omega
theorem in64 (a : Nat) (ha : a < 18446744073709551616) : IntKind.u64.wrap (a : Int) = (a : Int) := by rw [IntKind.wrap_u64]; omega
theorem mod64 (a : Nat) : IntKind.u64.wrap (a : Int) = ((a % 18446744073709551616 : Nat) : Int) := by rw [IntKind.wrap_u64]; omega

def Halves (z : Int) (w : World) (e : Ending) (w' : World) : Prop := ∃ hi lo : Int, e = .returned (.tuple #[.int .u64 hi, .int .u64 lo]) ∧ U64 hi ∧ U64 lo ∧ hi * 18446744073709551616 + lo = z ∧ w = w'

end Go.Proofs.Ytnklbnphiokpiaa
