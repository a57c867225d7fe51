/- Walks of wide's signed, of wide.Mul and Scale. -/
import Derived.Test.YtnklbnphiokpiaaWide2
set_option linter.unusedVariables false
namespace Go.Proofs.Ytnklbnphiokpiaa
open Go.RowKit

theorem WB.of_room {z hi lo : Int} {ok : Bool} (h : WB z hi lo ok) (hz : I128 z) : W128 z hi lo := by
  rcases h with ⟨_, _, h⟩ | ⟨h, _⟩
  · exact h
  · exact absurd hz h
theorem sgn_mul2 (x y : Int) (b : Bool) (hb : b = (sgn x != sgn y)) : (if b then -((x.natAbs : Int) * y.natAbs) else (x.natAbs : Int) * y.natAbs) = x * y := by
  subst hb; exact (sgn_mul x y).symm
theorem abs_u64 {x : Int} (h : I64 x) : U64 (x.natAbs : Int) := by unfold I64 at h; unfold U64; omega
theorem mul_room {x y : Int} (hx : I64 x) (hy : I64 y) : I128 (x * y) := by
  have h := Wd.mul (i64_wd hx) (i64_wd hy)
  unfold I128
  have e : (2 : Int) ^ (63 + 63) = 85070591730234615865843651857942052864 := by decide
  unfold Wd at h; rw [e] at h; omega

theorem scale_law {n y hi lo over mid h2 l2 c s : Int} (hn : S128 n hi lo) (hy : 0 ≤ y) (e1 : over * 18446744073709551616 + mid = hi * y) (e2 : h2 * 18446744073709551616 + l2 = lo * y) (e3 : c * 18446744073709551616 + s = h2 + mid + 0)
    (o : U64 over) (m : U64 mid) (l : U64 l2) (hs : U64 s) (c0 : 0 ≤ c) : n * y = (over + c) * 340282366920938463463374607431768211456 + s * 18446744073709551616 + l2 := by
  obtain ⟨_, _, rfl⟩ := hn
  have : (hi * 18446744073709551616 + lo) * y = hi * y * 18446744073709551616 + lo * y := by grind
  omega

end Go.Proofs.Ytnklbnphiokpiaa
