/- strconv.FormatUint of a small number; strings.CutPrefix and strings.Cut at the texts of the chapter's examples. -/
import Derived.Test.YthdbchghhpoadaaDoorJA
import Derived.Laws.Externs
import Derived.Laws.IdiomStrings
set_option linter.unusedVariables false
set_option linter.unusedSimpArgs false
namespace Go.Proofs.YthdbchghhpoadaaDoor
open Go.RowKit
theorem fmt_0_c (w : World) : Calls Tryd.prog 71 #[.int .i64 0] w fun e w' => e = .returned (.string ⟨#[48]⟩) ∧ w = w' := by
  go_enter Tryd.func71, Tryd.ntmps71
  go_wp2_with fail
  go_ret
  exact ⟨rfl, rfl⟩
theorem fmt_0_b (w : World) : Calls Tryd.prog 65 #[.int .u64 0, .int .i64 10] w fun e w' => e = .returned (.string ⟨#[48]⟩) ∧ w = w' := by
  have C := Lib.hid (fun w => fmt_0_c w)
  go_enter Tryd.func65, Tryd.ntmps65
  go_wp2_with fail
  refine (C.out _).mono ?_; rintro e w9 ⟨rfl, rfl⟩
  go_wp2_with fail
  go_ret
  exact ⟨rfl, rfl⟩
theorem fmt_0 (w : World) : Calls Tryd.prog 45 #[.int .u64 0, .int .i64 10] w fun e w' => e = .returned (.string ⟨#[48]⟩) ∧ w = w' := by
  have C := Lib.hid (fun w => fmt_0_b w)
  go_enter Tryd.func45, Tryd.ntmps45
  go_wp2_with fail
  refine (C.out _).mono ?_; rintro e w9 ⟨rfl, rfl⟩
  go_wp2_with fail
  go_ret
  exact ⟨rfl, rfl⟩
theorem fmt_1_c (w : World) : Calls Tryd.prog 71 #[.int .i64 1] w fun e w' => e = .returned (.string ⟨#[49]⟩) ∧ w = w' := by
  go_enter Tryd.func71, Tryd.ntmps71
  go_wp2_with fail
  go_ret
  exact ⟨rfl, rfl⟩
theorem fmt_1_b (w : World) : Calls Tryd.prog 65 #[.int .u64 1, .int .i64 10] w fun e w' => e = .returned (.string ⟨#[49]⟩) ∧ w = w' := by
  have C := Lib.hid (fun w => fmt_1_c w)
  go_enter Tryd.func65, Tryd.ntmps65
  go_wp2_with fail
  refine (C.out _).mono ?_; rintro e w9 ⟨rfl, rfl⟩
  go_wp2_with fail
  go_ret
  exact ⟨rfl, rfl⟩
theorem fmt_1 (w : World) : Calls Tryd.prog 45 #[.int .u64 1, .int .i64 10] w fun e w' => e = .returned (.string ⟨#[49]⟩) ∧ w = w' := by
  have C := Lib.hid (fun w => fmt_1_b w)
  go_enter Tryd.func45, Tryd.ntmps45
  go_wp2_with fail
  refine (C.out _).mono ?_; rintro e w9 ⟨rfl, rfl⟩
  go_wp2_with fail
  go_ret
  exact ⟨rfl, rfl⟩
end Go.Proofs.YthdbchghhpoadaaDoor
