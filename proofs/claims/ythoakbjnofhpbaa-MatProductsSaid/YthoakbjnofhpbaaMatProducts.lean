/- Proved: for any two matrices and any column, MatProducts returns true (the product of the two, and of the first with the column, are the document's, or none where a number is too far from 0). No condition. -/
import Derived.Test.YthoakbjnofhpbaaJA
import Derived.Test.YthoakbjnofhpbaaMpL
namespace Go.Proofs.Ythoakbjnofhpbaa.matProducts
open Go.ChangeShapes Go.WideShapes Go.ChangeAt Go.RowKit Go.Deep

theorem leaves0 : intLeaves Try.prog 8 56 = some [.i64, .i64, .i64, .i64, .i64, .i64, .i64, .i64, .i64] := by kernel_rfl
theorem cellsOf0 : Try.prog.cellsOf 56 = 9 := by kernel_rfl
theorem leaves1 : intLeaves Try.prog 8 56 = some [.i64, .i64, .i64, .i64, .i64, .i64, .i64, .i64, .i64] := by kernel_rfl
theorem cellsOf1 : Try.prog.cellsOf 56 = 9 := by kernel_rfl
theorem leaves2 : intLeaves Try.prog 8 79 = some [.i64, .i64, .i64] := by kernel_rfl
theorem cellsOf2 : Try.prog.cellsOf 79 = 3 := by kernel_rfl
set_option maxRecDepth 100000 in
theorem lifted (os : Os) (started : os.Started) (H : Type) (enc : TypeId × Value → H) :
    ReturnsInHanded {} Try.checked os 8 .any (Rows.matProductsSpec.pre6 enc Try.prog Try.f8 Rows.matProductsRow.domain false) (Rows.matProductsSpec.post enc Try.prog Try.f8 false true false false) := by
  refine law_lifted os started H enc (by kernel_rfl) Try.func8
    (ChangeSpec.witness6 (enc := enc) (C := Try.checked) false ⟨#[], #[.agg #[.int .i64 0, .int .i64 0, .int .i64 0, .int .i64 0, .int .i64 0, .int .i64 0, .int .i64 0, .int .i64 0, .int .i64 0], .agg #[.int .i64 0, .int .i64 0, .int .i64 0, .int .i64 0, .int .i64 0, .int .i64 0, .int .i64 0, .int .i64 0, .int .i64 0], .agg #[.int .i64 0, .int .i64 0, .int .i64 0]], []⟩ 8 (by kernel_rfl) (by kernel_rfl) (by kernel_rfl) (by kernel_rfl)) rfl (by kernel_rfl) Try.underlying4 (by kernel_rfl) ?_
  intro W base args ds p hval hA
  rw [Try.params8] at hA hval
  obtain ⟨v0, vs0, d0, ds0, p0, q0, hargs, rfl, rfl, h0, r0⟩ := trodAll_cons hA
  obtain ⟨v1, vs1, d1, ds1, p1, q1, rfl, rfl, rfl, h1, r1⟩ := trodAll_cons r0
  obtain ⟨v2, vs2, d2, ds2, p2, q2, rfl, rfl, rfl, h2, r2⟩ := trodAll_cons r1
  obtain ⟨rfl, rfl, rfl⟩ := trodAll_nil r2
  obtain rfl : args = #[v0, v1, v2] := by cases args; simp_all
  refine ⟨rfl, ?_⟩
  obtain ⟨ns0, hn0, rfl, hw0⟩ := open_vals leaves0 cellsOf0 (open_array Try.underlying56 (hval 0 56 v0 rfl rfl)) h0
  obtain ⟨a0_0, a0_1, a0_2, a0_3, a0_4, a0_5, a0_6, a0_7, a0_8, rfl⟩ : ∃ x0 x1 x2 x3 x4 x5 x6 x7 x8, ns0 = [x0, x1, x2, x3, x4, x5, x6, x7, x8] := by
    match ns0, hn0 with
    | [x0, x1, x2, x3, x4, x5, x6, x7, x8], _ => exact ⟨_, _, _, _, _, _, _, _, _, rfl⟩
  have b0_0 := i64_of_wf (hw0 0 .i64 a0_0 rfl rfl)
  have b0_1 := i64_of_wf (hw0 1 .i64 a0_1 rfl rfl)
  have b0_2 := i64_of_wf (hw0 2 .i64 a0_2 rfl rfl)
  have b0_3 := i64_of_wf (hw0 3 .i64 a0_3 rfl rfl)
  have b0_4 := i64_of_wf (hw0 4 .i64 a0_4 rfl rfl)
  have b0_5 := i64_of_wf (hw0 5 .i64 a0_5 rfl rfl)
  have b0_6 := i64_of_wf (hw0 6 .i64 a0_6 rfl rfl)
  have b0_7 := i64_of_wf (hw0 7 .i64 a0_7 rfl rfl)
  have b0_8 := i64_of_wf (hw0 8 .i64 a0_8 rfl rfl)
  obtain ⟨ns1, hn1, rfl, hw1⟩ := open_vals leaves1 cellsOf1 (open_array Try.underlying56 (hval 1 56 v1 rfl rfl)) h1
  obtain ⟨a1_0, a1_1, a1_2, a1_3, a1_4, a1_5, a1_6, a1_7, a1_8, rfl⟩ : ∃ x0 x1 x2 x3 x4 x5 x6 x7 x8, ns1 = [x0, x1, x2, x3, x4, x5, x6, x7, x8] := by
    match ns1, hn1 with
    | [x0, x1, x2, x3, x4, x5, x6, x7, x8], _ => exact ⟨_, _, _, _, _, _, _, _, _, rfl⟩
  have b1_0 := i64_of_wf (hw1 0 .i64 a1_0 rfl rfl)
  have b1_1 := i64_of_wf (hw1 1 .i64 a1_1 rfl rfl)
  have b1_2 := i64_of_wf (hw1 2 .i64 a1_2 rfl rfl)
  have b1_3 := i64_of_wf (hw1 3 .i64 a1_3 rfl rfl)
  have b1_4 := i64_of_wf (hw1 4 .i64 a1_4 rfl rfl)
  have b1_5 := i64_of_wf (hw1 5 .i64 a1_5 rfl rfl)
  have b1_6 := i64_of_wf (hw1 6 .i64 a1_6 rfl rfl)
  have b1_7 := i64_of_wf (hw1 7 .i64 a1_7 rfl rfl)
  have b1_8 := i64_of_wf (hw1 8 .i64 a1_8 rfl rfl)
  obtain ⟨ns2, hn2, rfl, hw2⟩ := open_vals leaves2 cellsOf2 (open_array Try.underlying79 (hval 2 79 v2 rfl rfl)) h2
  obtain ⟨a2_0, a2_1, a2_2, rfl⟩ : ∃ x0 x1 x2, ns2 = [x0, x1, x2] := by
    match ns2, hn2 with
    | [x0, x1, x2], _ => exact ⟨_, _, _, rfl⟩
  have b2_0 := i64_of_wf (hw2 0 .i64 a2_0 rfl rfl)
  have b2_1 := i64_of_wf (hw2 1 .i64 a2_1 rfl rfl)
  have b2_2 := i64_of_wf (hw2 2 .i64 a2_2 rfl rfl)
  exact matProducts_any a0_0 a0_1 a0_2 a0_3 a0_4 a0_5 a0_6 a0_7 a0_8 a1_0 a1_1 a1_2 a1_3 a1_4 a1_5 a1_6 a1_7 a1_8 a2_0 a2_1 a2_2 (nine_all2 b0_0 b0_1 b0_2 b0_3 b0_4 b0_5 b0_6 b0_7 b0_8) (nine_all2 b1_0 b1_1 b1_2 b1_3 b1_4 b1_5 b1_6 b1_7 b1_8) (three_all b2_0 b2_1 b2_2) W

theorem proved : Rows.MatProductsSaid :=
  OpenClaim.holds_of_wide 8 Try.f8 rfl rfl rfl rfl rfl rfl rfl ⟨rfl, rfl, rfl, rfl, rfl⟩ rfl rfl rfl rfl rfl (by kernel_rfl) Try.func8 (by kernel_rfl)
    (of_decide_eq_true (by kernel_rfl)) (by unfold Func.isWrapper; first | (rw [if_pos (by decide +kernel)]; kernel_rfl) | (rw [if_neg (by decide +kernel)]; exact ⟨rfl, rfl⟩))
    (fun os started H enc _ => lifted os started H enc)
#print axioms proved
end Go.Proofs.Ythoakbjnofhpbaa.matProducts
