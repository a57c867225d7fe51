/- math/bits.Add64 and Sub64 as laws of their calls (in whole numbers). -/
import Derived.Test.YtommpclkiiffpaaBase
import Derived.Laws.Externs
set_option linter.unusedVariables false
namespace Go.Proofs.Ytommpclkiiffpaa
open Go.RowKit

def sub64Entry : Array Value → Sem Value := fun args => do
  let (x, y, b) ← Extern.MathBitsCarry.three "Sub64" args
  pure (Extern.MathBitsCarry.pair ((x + Extern.MathBitsCarry.m64 - y - b) % Extern.MathBitsCarry.m64) (if x < y + b then 1 else 0))

theorem run_sub64 (x y b : Nat) (hb : b ≤ 1) (w : World) :
    (sub64Entry #[.int .u64 x, .int .u64 y, .int .u64 b]).run Try.prog w =
      .ok (.tuple #[.int .u64 (((x + 18446744073709551616 - y - b) % 18446744073709551616 : Nat) : Int), .int .u64 ((if x < y + b then 1 else 0 : Nat) : Int)]) w := by
  have : b = 0 ∨ b = 1 := by omega
  rcases this with rfl | rfl <;> rfl

theorem add64_law (x y c : Int) (hx : U64 x) (hy : U64 y) (hc0 : 0 ≤ c) (hc : c ≤ 1) (w : World) :
    (callFunc 76 #[.int .u64 x, .int .u64 y, .int .u64 c]).run Try.prog w =
      .ok (.value (.tuple #[.int .u64 ((x + y + c) % 18446744073709551616), .int .u64 ((x + y + c) / 18446744073709551616)])) w := by
  rw [run_callFunc_extern Try.func76 (by kernel_rfl) (by kernel_rfl) (by kernel_rfl) (e := add64Entry) (by kernel_rfl), run_add64 x y c hx.1 hy.1 hc0 hc]
  simp only [Result.andThen]

theorem sub64_law (x y c : Int) (hx : U64 x) (hy : U64 y) (hc0 : 0 ≤ c) (hc : c ≤ 1) (w : World) :
    (callFunc 109 #[.int .u64 x, .int .u64 y, .int .u64 c]).run Try.prog w =
      .ok (.value (.tuple #[.int .u64 ((x - y - c) % 18446744073709551616), .int .u64 (if x < y + c then 1 else 0)])) w := by
  obtain ⟨a, rfl⟩ := Int.eq_ofNat_of_zero_le hx.1
  obtain ⟨b, rfl⟩ := Int.eq_ofNat_of_zero_le hy.1
  obtain ⟨d, rfl⟩ := Int.eq_ofNat_of_zero_le hc0
  have h1 := hx.2; have h2 := hy.2
  rw [run_callFunc_extern Try.func109 (by kernel_rfl) (by kernel_rfl) (by kernel_rfl) (e := sub64Entry) (by kernel_rfl), run_sub64 a b d (by omega)]
  simp only [Result.andThen]
  have e1 : (((a + 18446744073709551616 - b - d) % 18446744073709551616 : Nat) : Int) = ((a : Int) - b - d) % 18446744073709551616 := by omega
  have e2 : ((if a < b + d then 1 else 0 : Nat) : Int) = if (a : Int) < b + d then 1 else 0 := by split <;> split <;> omega
  rw [e1, e2]

/-- The same, with names for what comes back. -/
theorem add64_ex (x y c : Int) (hx : U64 x) (hy : U64 y) (hc0 : 0 ≤ c) (hc : c ≤ 1) : ∃ s d : Int, U64 s ∧ 0 ≤ d ∧ d ≤ 1 ∧ Hid (d * 18446744073709551616 + s = x + y + c) ∧
    ∀ w : World, (callFunc 76 #[.int .u64 x, .int .u64 y, .int .u64 c]).run Try.prog w = .ok (.value (.tuple #[.int .u64 s, .int .u64 d])) w := by
  refine ⟨_, _, ?_, ?_, ?_, ?_, fun w => add64_law x y c hx hy hc0 hc w⟩
  · unfold U64 at *; omega
  · unfold U64 at *; omega
  · unfold U64 at *; omega
  · show _ = _; omega
theorem sub64_ex (x y c : Int) (hx : U64 x) (hy : U64 y) (hc0 : 0 ≤ c) (hc : c ≤ 1) : ∃ s d : Int, U64 s ∧ 0 ≤ d ∧ d ≤ 1 ∧ Hid (s - d * 18446744073709551616 = x - y - c) ∧
    ∀ w : World, (callFunc 109 #[.int .u64 x, .int .u64 y, .int .u64 c]).run Try.prog w = .ok (.value (.tuple #[.int .u64 s, .int .u64 d])) w := by
  refine ⟨_, _, ?_, ?_, ?_, ?_, fun w => sub64_law x y c hx hy hc0 hc w⟩
  · unfold U64 at *; omega
  · split <;> omega
  · split <;> omega
  · show _ = _; unfold U64 at *; split <;> omega

end Go.Proofs.Ytommpclkiiffpaa
