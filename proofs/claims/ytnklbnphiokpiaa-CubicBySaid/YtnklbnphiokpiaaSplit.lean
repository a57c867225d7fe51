/- Contracts of 'Split': a number in whole pixels, rounded down, and what is left (the program's and the document's). -/
import Derived.Test.YtnklbnphiokpiaaScal
set_option linter.unusedVariables false
namespace Go.Proofs.Ytnklbnphiokpiaa
open Go.RowKit

theorem and_low16 (u : Int) : bits .and .i64 u 65535 = u % 65536 := by
  show IntKind.i64.wrap ((BitVec.ofInt 64 u &&& BitVec.ofInt 64 65535).toNat : Int) = _
  have h1 : (BitVec.ofInt 64 65535).toNat = 2 ^ 16 - 1 := by decide
  rw [BitVec.toNat_and, h1, Nat.and_two_pow_sub_one_eq_mod, BitVec.toNat_ofInt, IntKind.wrap_i64]
  have h2 : ((u % ((2 : Nat) ^ 64 : Nat)).toNat % 2 ^ 16 : Nat) = (u % 65536).toNat := by omega
  rw [h2]
  omega

theorem wsplit_any (u : Int) (h : I64 u) (w : World) :
    Calls Try.prog 24 #[.int .i64 u] w fun e w' => e = .returned (.tuple #[.int .i64 (u / 65536), .int .i64 (u % 65536)]) ∧ w = w' := by
  obtain ⟨h1, h2⟩ := h
  have H := and_low16 u
  go_enter Try.func24, Try.ntmps24
  go_wp2
  go_ret2
  exact ⟨ret_int2 (by omega) rfl, rfl⟩

theorem rsplit_any (u : Int) (h : I64 u) (w : World) :
    Calls Try.prog 25 #[.int .i64 u] w fun e w' => e = .returned (.tuple #[.int .i64 (u / 65536), .int .i64 (u % 65536)]) ∧ w = w' := by
  have hh := h
  obtain ⟨h1, h2⟩ := h
  go_enter Try.func25, Try.ntmps25
  go_wp2_with (go_at_call 68; refine (down_any _ _ hh (by omega) (by omega) _).mono ?_; rintro e w' ⟨rfl, rfl⟩)
  go_ret2
  exact ⟨ret_int2 rfl (by omega), rfl⟩

end Go.Proofs.Ytnklbnphiokpiaa
