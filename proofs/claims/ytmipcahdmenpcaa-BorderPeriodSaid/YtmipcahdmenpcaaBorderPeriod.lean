/- Proved: for any mode, place, number of things and number of periods, BorderPeriod returns true (behind a period the same thing stands again; a step leads to the thing itself or to one beside it). No condition. -/
import Derived.Test.YtmipcahdmenpcaaLift
import Derived.Test.YtmipcahdmenpcaaOpen
import Derived.Test.YtmipcahdmenpcaaPeriodLaw
namespace Go.Proofs.Ytmipcahdmenpcaa.borderPeriod
open Go.ChangeShapes Go.WideShapes Go.ChangeAt Go.RowKit Go.Deep

theorem leaves0 : intLeaves Try.prog 8 57 = some [.i64, .i32, .i64, .i16] := by kernel_rfl
theorem cellsOf0 : Try.prog.cellsOf 57 = 4 := by kernel_rfl
set_option maxRecDepth 100000 in
theorem lifted (os : Os) (started : os.Started) (H : Type) (enc : TypeId × Value → H) :
    ReturnsInHanded {} Try.checked os 8 .any (Rows.borderPeriodSpec.pre6 enc Try.prog Try.f8 Rows.borderPeriodRow.domain false) (Rows.borderPeriodSpec.post enc Try.prog Try.f8 false true false false) := by
  refine law_lifted os started H enc (by kernel_rfl) Try.func8
    (ChangeSpec.witness6 (enc := enc) (C := Try.checked) false ⟨#[], #[.agg #[.int .i64 0, .int .i32 0, .int .i64 0, .int .i16 0]], []⟩ 8 (by kernel_rfl) (by kernel_rfl) (by kernel_rfl) (by kernel_rfl)) rfl (by kernel_rfl) Try.underlying4 (by kernel_rfl) ?_
  intro W base args ds p hval hA
  rw [Try.params8] at hA hval
  obtain ⟨v0, vs0, d0, ds0, p0, q0, hargs, rfl, rfl, h0, r0⟩ := trodAll_cons hA
  obtain ⟨rfl, rfl, rfl⟩ := trodAll_nil r0
  obtain rfl : args = #[v0] := by cases args; simp_all
  refine ⟨rfl, ?_⟩
  obtain ⟨ns0, hn0, rfl, hw0⟩ := open_vals leaves0 cellsOf0 (open_struct Try.underlying57 (hval 0 57 v0 rfl rfl)) h0
  obtain ⟨a0_0, a0_1, a0_2, a0_3, rfl⟩ : ∃ x0 x1 x2 x3, ns0 = [x0, x1, x2, x3] := by
    match ns0, hn0 with
    | [x0, x1, x2, x3], _ => exact ⟨_, _, _, _, rfl⟩
  have b0_0 := i64_of_wf (hw0 0 .i64 a0_0 rfl rfl)
  have b0_1 := i32_of_wf (hw0 1 .i32 a0_1 rfl rfl)
  have b0_2 := i64_of_wf (hw0 2 .i64 a0_2 rfl rfl)
  have b0_3 := i16_of_wf (hw0 3 .i16 a0_3 rfl rfl)
  exact borderPeriod_any a0_0 a0_1 a0_2 a0_3 b0_0 b0_1 b0_2 b0_3 W

theorem proved : Rows.BorderPeriodSaid :=
  OpenClaim.holds_of_wide 8 Try.f8 rfl rfl rfl rfl rfl rfl rfl ⟨rfl, rfl, rfl, rfl, rfl⟩ rfl rfl rfl rfl rfl (by kernel_rfl) Try.func8 (by kernel_rfl)
    (of_decide_eq_true (by kernel_rfl)) (by unfold Func.isWrapper; first | (rw [if_pos (by decide +kernel)]; kernel_rfl) | (rw [if_neg (by decide +kernel)]; exact ⟨rfl, rfl⟩))
    (fun os started H enc _ => lifted os started H enc)
#print axioms proved
end Go.Proofs.Ytmipcahdmenpcaa.borderPeriod
