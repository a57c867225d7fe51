/- Walks of wide's sizes (apart, abs, plus, minus, signed), of wide.Mul and Scale. -/
import Derived.Test.YtnklbnphiokpiaaWide1
import Derived.Test.YtnklbnphiokpiaaMul64
set_option linter.unusedVariables false
namespace Go.Proofs.Ytnklbnphiokpiaa
open Go.RowKit

abbrev sv (hi lo : Int) : Value := .agg #[.int .u64 hi, .int .u64 lo]
/-- Two halves of a size. -/
def S128 (n hi lo : Int) : Prop := U64 hi ∧ U64 lo ∧ hi * 18446744073709551616 + lo = n
def GiveS (x : Int) (w : World) (e : Ending) (w' : World) : Prop := ∃ hi lo, e = .returned (.tuple #[sv hi lo, .bool (sgn x)]) ∧ Below w.heap.size w w' ∧ S128 (x.natAbs : Int) hi lo

theorem ret_u64bool {a b : Int} {c d : Bool} (h : a = b) (h' : c = d) : Ending.returned (.tuple #[.int .u64 a, .bool c]) = .returned (.tuple #[.int .u64 b, .bool d]) := by rw [h, h']
theorem apart_law {ah al s c t d u : Int} (a1 : I64 ah) (a2 : U64 al) (hn : ah < 0) (hs : U64 s) (h1 : s - c * 18446744073709551616 = 0 - al - 0) (c0 : 0 ≤ c) (c1 : c ≤ 1)
    (hu : U64 u) (hu' : ∃ k : Int, u = ah + 18446744073709551616 * k) (ht : U64 t) (h2 : t - d * 18446744073709551616 = 0 - u - c) (d0 : 0 ≤ d) (d1 : d ≤ 1) : S128 ((ah * 18446744073709551616 + al).natAbs : Int) t s := by
  obtain ⟨k1, hu'⟩ := hu'
  unfold I64 U64 at *
  unfold S128 U64
  omega

theorem minus_law {hi lo s c t d : Int} (a1 : U64 hi) (a2 : U64 lo) (hn : hi < 9223372036854775808 ∨ hi = 9223372036854775808 ∧ lo = 0) (hs : U64 s) (h1 : s - c * 18446744073709551616 = 0 - lo - 0) (c0 : 0 ≤ c) (c1 : c ≤ 1)
    (ht : U64 t) (h2 : t - d * 18446744073709551616 = 0 - hi - c) (d0 : 0 ≤ d) (d1 : d ≤ 1) : WB (-(hi * 18446744073709551616 + lo)) (wrap64 t) s true := by
  have e := wrap64_in64 t
  obtain ⟨k, hk⟩ := wrap64_mod t
  generalize wrap64 t = H at *
  refine .inl ⟨?_, rfl, ?_⟩
  · unfold I128; unfold I64 U64 at *; omega
  · unfold W128; unfold I64 U64 at *; omega

end Go.Proofs.Ytnklbnphiokpiaa
