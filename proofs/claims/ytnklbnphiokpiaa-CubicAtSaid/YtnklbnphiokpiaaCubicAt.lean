/- Proved: for any image, border and place, CubicAt returns true (what a curve through sixteen pixels tells of the place, or why it cannot be told, is the document's; at the middle of a pixel it is that pixel, of one colour it is that). No condition. -/
import Derived.Test.YtnklbnphiokpiaaJA
import Derived.Test.YtnklbnphiokpiaaCuAW
namespace Go.Proofs.Ytnklbnphiokpiaa.cubicAt
open Go.ChangeShapes Go.WideShapes Go.ChangeAt Go.RowKit Go.Deep

theorem leaves1 : intLeaves Try.prog 8 58 = some [.i64, .u8, .u8, .u8, .u8] := by kernel_rfl
theorem cellsOf1 : Try.prog.cellsOf 58 = 5 := by kernel_rfl
theorem leaves2 : intLeaves Try.prog 8 22 = some [.i64, .i64] := by kernel_rfl
theorem cellsOf2 : Try.prog.cellsOf 22 = 2 := by kernel_rfl
theorem leavesI : leaves Try.prog 8 55 = some [(0, 3), (1, 3), (2, 3), (3, 33)] := by kernel_rfl
theorem cellsI : Try.prog.cellsOf 55 = 4 := by kernel_rfl
theorem cells_u8 : Try.prog.cellsOf 5 = 1 := by kernel_rfl
set_option maxRecDepth 100000 in
theorem lifted (os : Os) (started : os.Started) (H : Type) (enc : TypeId × Value → H) :
    ReturnsInHanded {} Try.checked os 9 .any (Rows.cubicAtSpec.pre6 enc Try.prog Try.f9 Rows.cubicAtRow.domain false) (Rows.cubicAtSpec.post enc Try.prog Try.f9 false true false false) := by
  refine law_lifted os started H enc (by kernel_rfl) Try.func9
    (ChangeSpec.witness6 (enc := enc) (C := Try.checked) false ⟨#[], #[.agg #[.int .i64 0, .int .i64 0, .int .i64 0, .slice none 0 0], .agg #[.int .i64 0, .int .u8 0, .int .u8 0, .int .u8 0, .int .u8 0], .agg #[.int .i64 0, .int .i64 0]], []⟩ 8 (by kernel_rfl) (by kernel_rfl) (by kernel_rfl) (by kernel_rfl)) rfl (by kernel_rfl) Try.underlying4 (by kernel_rfl) ?_
  intro W base args ds p hval hA
  rw [Try.params9] at hA hval
  obtain ⟨v0, vs0, d0, ds0, p0, q0, hargs, rfl, rfl, h0, r0⟩ := trodAll_cons hA
  obtain ⟨v1, vs1, d1, ds1, p1, q1, rfl, rfl, rfl, h1, r1⟩ := trodAll_cons r0
  obtain ⟨v2, vs2, d2, ds2, p2, q2, rfl, rfl, rfl, h2, r2⟩ := trodAll_cons r1
  obtain ⟨rfl, rfl, rfl⟩ := trodAll_nil r2
  obtain rfl : args = #[v0, v1, v2] := by cases args; simp_all
  refine ⟨rfl, ?_⟩
  obtain ⟨W0, H0, C0, s0, zs0, rfl, im0⟩ := open_img leavesI cellsI Try.underlying3 Try.underlying33 Try.underlying5 cells_u8 (open_struct Try.underlying55 (hval 0 55 v0 rfl rfl)) h0
  obtain ⟨ns1, hn1, rfl, hw1⟩ := open_vals leaves1 cellsOf1 (open_struct Try.underlying58 (hval 1 58 v1 rfl rfl)) h1
  obtain ⟨a1_0, a1_1, a1_2, a1_3, a1_4, rfl⟩ : ∃ x0 x1 x2 x3 x4, ns1 = [x0, x1, x2, x3, x4] := by
    match ns1, hn1 with
    | [x0, x1, x2, x3, x4], _ => exact ⟨_, _, _, _, _, rfl⟩
  have b1_0 := i64_of_wf (hw1 0 .i64 a1_0 rfl rfl)
  have b1_1 := u8_of_wf (hw1 1 .u8 a1_1 rfl rfl)
  have b1_2 := u8_of_wf (hw1 2 .u8 a1_2 rfl rfl)
  have b1_3 := u8_of_wf (hw1 3 .u8 a1_3 rfl rfl)
  have b1_4 := u8_of_wf (hw1 4 .u8 a1_4 rfl rfl)
  obtain ⟨ns2, hn2, rfl, hw2⟩ := open_vals leaves2 cellsOf2 (open_array Try.underlying22 (hval 2 22 v2 rfl rfl)) h2
  obtain ⟨a2_0, a2_1, rfl⟩ : ∃ x0 x1, ns2 = [x0, x1] := by
    match ns2, hn2 with
    | [x0, x1], _ => exact ⟨_, _, rfl⟩
  have b2_0 := i64_of_wf (hw2 0 .i64 a2_0 rfl rfl)
  have b2_1 := i64_of_wf (hw2 1 .i64 a2_1 rfl rfl)
  exact cubicAt_any W0 H0 C0 a1_0 a1_1 a1_2 a1_3 a1_4 a2_0 a2_1 s0 zs0 b1_0 (col_all b1_1 b1_2 b1_3 b1_4) W im0

theorem proved : Rows.CubicAtSaid :=
  OpenClaim.holds_of_wide 9 Try.f9 rfl rfl rfl rfl rfl rfl rfl ⟨rfl, rfl, rfl, rfl, rfl⟩ rfl rfl rfl rfl rfl (by kernel_rfl) Try.func9 (by kernel_rfl)
    (of_decide_eq_true (by kernel_rfl)) (by unfold Func.isWrapper; first | (rw [if_pos (by decide +kernel)]; kernel_rfl) | (rw [if_neg (by decide +kernel)]; exact ⟨rfl, rfl⟩))
    (fun os started H enc _ => lifted os started H enc)
#print axioms proved
end Go.Proofs.Ytnklbnphiokpiaa.cubicAt
