/- The chapter's examples: numbers, parts and texts of them. -/
import Derived.Test.YthdbchghhpoadaaDoorFx5
set_option linter.unusedVariables false
set_option linter.unusedSimpArgs false
namespace Go.Proofs.YthdbchghhpoadaaDoor
open Go.RowKit
theorem dg1 : ∀ k, k < (⟨#[49]⟩ : ByteArray).size → 48 ≤ dgt ⟨#[49]⟩ k ∧ dgt ⟨#[49]⟩ k ≤ 57 := by decide +kernel
theorem dg5 : ∀ k, k < (⟨#[53]⟩ : ByteArray).size → 48 ≤ dgt ⟨#[53]⟩ k ∧ dgt ⟨#[53]⟩ k ≤ 57 := by decide +kernel
theorem dg50 : ∀ k, k < (⟨#[53, 48]⟩ : ByteArray).size → 48 ≤ dgt ⟨#[53, 48]⟩ k ∧ dgt ⟨#[53, 48]⟩ k ≤ 57 := by decide +kernel
theorem num_1 (w : World) : Calls Tryd.prog 48 #[.string ⟨#[49]⟩] w fun e w' => e = .returned (.tuple #[.int .u64 1, .bool true]) ∧ Below w.heap.size w w' := by
  have h := number_ok ⟨#[49]⟩ (by decide +kernel) (by decide +kernel) (by decide +kernel) dg1 w
  rw [show decV ⟨#[49]⟩ (⟨#[49]⟩ : ByteArray).size = 1 by decide +kernel] at h
  exact h
theorem par_5 (w : World) : Calls Tryd.prog 49 #[.string ⟨#[53]⟩] w fun e w' => e = .returned (.tuple #[.int .i64 32768, .bool true]) ∧ Below w.heap.size w w' := by
  have h := parts_ok ⟨#[53]⟩ (by decide +kernel) (by decide +kernel) (by decide +kernel) dg5 w
  rw [show (decV ⟨#[53]⟩ (⟨#[53]⟩ : ByteArray).size : Int) * 65536 / ((10 ^ (⟨#[53]⟩ : ByteArray).size : Nat) : Int) = 32768 by decide +kernel] at h
  exact h
theorem par_50 (w : World) : Calls Tryd.prog 49 #[.string ⟨#[53, 48]⟩] w fun e w' => e = .returned (.tuple #[.int .i64 32768, .bool true]) ∧ Below w.heap.size w w' := by
  have h := parts_ok ⟨#[53, 48]⟩ (by decide +kernel) (by decide +kernel) (by decide +kernel) dg50 w
  rw [show (decV ⟨#[53, 48]⟩ (⟨#[53, 48]⟩ : ByteArray).size : Int) * 65536 / ((10 ^ (⟨#[53, 48]⟩ : ByteArray).size : Nat) : Int) = 32768 by decide +kernel] at h
  exact h
theorem show_q (w : World) : Calls Tryd.prog 21 #[.int .i64 98304] w fun e w' => e = .returned (.string ⟨#[49, 46, 53]⟩) ∧ Below w.heap.size w w' := by
  have h := show_any 98304 (by unfold I64; omega) [49] (by decide) (fun w => by
    rw [show (((98304 : Int).natAbs / 65536 : Nat) : Int) = 1 by decide +kernel]
    exact (fmt_1 w).mono fun e w' ⟨h1, h2⟩ => ⟨h1, by subst h2; exact Below.refl _ _⟩) w
  rw [show showT 98304 [49] = [49, 46, 53] by decide +kernel] at h
  exact h
theorem show_m (w : World) : Calls Tryd.prog 21 #[.int .i64 (-1)] w fun e w' => e = .returned (.string ⟨#[45, 48, 46, 48, 48, 48, 48, 49, 53, 50, 53, 56, 55, 56, 57, 48, 54, 50, 53]⟩) ∧ Below w.heap.size w w' := by
  have h := show_any (-1) (by unfold I64; omega) [48] (by decide) (fun w => by
    rw [show (((-1 : Int).natAbs / 65536 : Nat) : Int) = 0 by decide +kernel]
    exact (fmt_0 w).mono fun e w' ⟨h1, h2⟩ => ⟨h1, by subst h2; exact Below.refl _ _⟩) w
  rw [show showT (-1) [48] = [45, 48, 46, 48, 48, 48, 48, 49, 53, 50, 53, 56, 55, 56, 57, 48, 54, 50, 53] by decide +kernel] at h
  exact h
end Go.Proofs.YthdbchghhpoadaaDoor
