/- Proved: for any two matrices, MatTurned returns true (a matrix times its adjugate, either way, is its determinant where row and column are the same and else 0; the determinant of a product is the product of both). No condition. -/
import Derived.Test.YthoakbjnofhpbaaJA
import Derived.Test.YthoakbjnofhpbaaTuW
namespace Go.Proofs.Ythoakbjnofhpbaa.matTurned
open Go.ChangeShapes Go.WideShapes Go.ChangeAt Go.RowKit Go.Deep

theorem leaves0 : intLeaves Try.prog 8 56 = some [.i64, .i64, .i64, .i64, .i64, .i64, .i64, .i64, .i64] := by kernel_rfl
theorem cellsOf0 : Try.prog.cellsOf 56 = 9 := by kernel_rfl
theorem leaves1 : intLeaves Try.prog 8 56 = some [.i64, .i64, .i64, .i64, .i64, .i64, .i64, .i64, .i64] := by kernel_rfl
theorem cellsOf1 : Try.prog.cellsOf 56 = 9 := by kernel_rfl
set_option maxRecDepth 100000 in
theorem lifted (os : Os) (started : os.Started) (H : Type) (enc : TypeId × Value → H) :
    ReturnsInHanded {} Try.checked os 9 .any (Rows.matTurnedSpec.pre6 enc Try.prog Try.f9 Rows.matTurnedRow.domain false) (Rows.matTurnedSpec.post enc Try.prog Try.f9 false true false false) := by
  refine law_lifted os started H enc (by kernel_rfl) Try.func9
    (ChangeSpec.witness6 (enc := enc) (C := Try.checked) false ⟨#[], #[.agg #[.int .i64 0, .int .i64 0, .int .i64 0, .int .i64 0, .int .i64 0, .int .i64 0, .int .i64 0, .int .i64 0, .int .i64 0], .agg #[.int .i64 0, .int .i64 0, .int .i64 0, .int .i64 0, .int .i64 0, .int .i64 0, .int .i64 0, .int .i64 0, .int .i64 0]], []⟩ 8 (by kernel_rfl) (by kernel_rfl) (by kernel_rfl) (by kernel_rfl)) rfl (by kernel_rfl) Try.underlying4 (by kernel_rfl) ?_
  intro W base args ds p hval hA
  rw [Try.params9] at hA hval
  obtain ⟨v0, vs0, d0, ds0, p0, q0, hargs, rfl, rfl, h0, r0⟩ := trodAll_cons hA
  obtain ⟨v1, vs1, d1, ds1, p1, q1, rfl, rfl, rfl, h1, r1⟩ := trodAll_cons r0
  obtain ⟨rfl, rfl, rfl⟩ := trodAll_nil r1
  obtain rfl : args = #[v0, v1] := by cases args; simp_all
  refine ⟨rfl, ?_⟩
  obtain ⟨ns0, hn0, rfl, hw0⟩ := open_vals leaves0 cellsOf0 (open_array Try.underlying56 (hval 0 56 v0 rfl rfl)) h0
  obtain ⟨a0_0, a0_1, a0_2, a0_3, a0_4, a0_5, a0_6, a0_7, a0_8, rfl⟩ : ∃ x0 x1 x2 x3 x4 x5 x6 x7 x8, ns0 = [x0, x1, x2, x3, x4, x5, x6, x7, x8] := by
    match ns0, hn0 with
    | [x0, x1, x2, x3, x4, x5, x6, x7, x8], _ => exact ⟨_, _, _, _, _, _, _, _, _, rfl⟩
  have b0_0 := i64_of_wf (hw0 0 .i64 a0_0 rfl rfl)
  have b0_1 := i64_of_wf (hw0 1 .i64 a0_1 rfl rfl)
  have b0_2 := i64_of_wf (hw0 2 .i64 a0_2 rfl rfl)
  have b0_3 := i64_of_wf (hw0 3 .i64 a0_3 rfl rfl)
  have b0_4 := i64_of_wf (hw0 4 .i64 a0_4 rfl rfl)
  have b0_5 := i64_of_wf (hw0 5 .i64 a0_5 rfl rfl)
  have b0_6 := i64_of_wf (hw0 6 .i64 a0_6 rfl rfl)
  have b0_7 := i64_of_wf (hw0 7 .i64 a0_7 rfl rfl)
  have b0_8 := i64_of_wf (hw0 8 .i64 a0_8 rfl rfl)
  obtain ⟨ns1, hn1, rfl, hw1⟩ := open_vals leaves1 cellsOf1 (open_array Try.underlying56 (hval 1 56 v1 rfl rfl)) h1
  obtain ⟨a1_0, a1_1, a1_2, a1_3, a1_4, a1_5, a1_6, a1_7, a1_8, rfl⟩ : ∃ x0 x1 x2 x3 x4 x5 x6 x7 x8, ns1 = [x0, x1, x2, x3, x4, x5, x6, x7, x8] := by
    match ns1, hn1 with
    | [x0, x1, x2, x3, x4, x5, x6, x7, x8], _ => exact ⟨_, _, _, _, _, _, _, _, _, rfl⟩
  have b1_0 := i64_of_wf (hw1 0 .i64 a1_0 rfl rfl)
  have b1_1 := i64_of_wf (hw1 1 .i64 a1_1 rfl rfl)
  have b1_2 := i64_of_wf (hw1 2 .i64 a1_2 rfl rfl)
  have b1_3 := i64_of_wf (hw1 3 .i64 a1_3 rfl rfl)
  have b1_4 := i64_of_wf (hw1 4 .i64 a1_4 rfl rfl)
  have b1_5 := i64_of_wf (hw1 5 .i64 a1_5 rfl rfl)
  have b1_6 := i64_of_wf (hw1 6 .i64 a1_6 rfl rfl)
  have b1_7 := i64_of_wf (hw1 7 .i64 a1_7 rfl rfl)
  have b1_8 := i64_of_wf (hw1 8 .i64 a1_8 rfl rfl)
  exact matTurned_any a0_0 a0_1 a0_2 a0_3 a0_4 a0_5 a0_6 a0_7 a0_8 a1_0 a1_1 a1_2 a1_3 a1_4 a1_5 a1_6 a1_7 a1_8 (nine_all b0_0 b0_1 b0_2 b0_3 b0_4 b0_5 b0_6 b0_7 b0_8) (nine_all b1_0 b1_1 b1_2 b1_3 b1_4 b1_5 b1_6 b1_7 b1_8) W

theorem proved : Rows.MatTurnedSaid :=
  OpenClaim.holds_of_wide 9 Try.f9 rfl rfl rfl rfl rfl rfl rfl ⟨rfl, rfl, rfl, rfl, rfl⟩ rfl rfl rfl rfl rfl (by kernel_rfl) Try.func9 (by kernel_rfl)
    (of_decide_eq_true (by kernel_rfl)) (by unfold Func.isWrapper; first | (rw [if_pos (by decide +kernel)]; kernel_rfl) | (rw [if_neg (by decide +kernel)]; exact ⟨rfl, rfl⟩))
    (fun os started H enc _ => lifted os started H enc)
#print axioms proved
end Go.Proofs.Ythoakbjnofhpbaa.matTurned
