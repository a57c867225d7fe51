/- Proved: for any number of channels, any place and any bytes, CubicBy returns true (cubic.By asks for the sixteen pixels around a place alone, and tells the document's mix of them; of a wrong place or number, or with nobody to ask, nothing). No condition. -/
import Derived.Test.YtnklbnphiokpiaaJA
import Derived.Test.YtnklbnphiokpiaaCuB
namespace Go.Proofs.Ytnklbnphiokpiaa.cubicBy
open Go.ChangeShapes Go.WideShapes Go.ChangeAt Go.RowKit Go.Deep

theorem leaves1 : intLeaves Try.prog 8 22 = some [.i64, .i64] := by kernel_rfl
theorem cellsOf1 : Try.prog.cellsOf 22 = 2 := by kernel_rfl
theorem cells_u8 : Try.prog.cellsOf 5 = 1 := by kernel_rfl
set_option maxRecDepth 100000 in
theorem lifted (os : Os) (started : os.Started) (H : Type) (enc : TypeId × Value → H) :
    ReturnsInHanded {} Try.checked os 8 .any (Rows.cubicBySpec.pre6 enc Try.prog Try.f8 Rows.cubicByRow.domain false) (Rows.cubicBySpec.post enc Try.prog Try.f8 false true false false) := by
  refine law_lifted os started H enc (by kernel_rfl) Try.func8
    (ChangeSpec.witness6 (enc := enc) (C := Try.checked) false ⟨#[], #[.int .i64 0, .agg #[.int .i64 0, .int .i64 0], .slice none 0 0], []⟩ 8 (by kernel_rfl) (by kernel_rfl) (by kernel_rfl) (by kernel_rfl)) rfl (by kernel_rfl) Try.underlying4 (by kernel_rfl) ?_
  intro W base args ds p hval hA
  rw [Try.params8] at hA hval
  obtain ⟨v0, vs0, d0, ds0, p0, q0, hargs, rfl, rfl, h0, r0⟩ := trodAll_cons hA
  obtain ⟨v1, vs1, d1, ds1, p1, q1, rfl, rfl, rfl, h1, r1⟩ := trodAll_cons r0
  obtain ⟨v2, vs2, d2, ds2, p2, q2, rfl, rfl, rfl, h2, r2⟩ := trodAll_cons r1
  obtain ⟨rfl, rfl, rfl⟩ := trodAll_nil r2
  obtain rfl : args = #[v0, v1, v2] := by cases args; simp_all
  refine ⟨rfl, ?_⟩
  obtain ⟨a0, rfl, rfl, rfl, w0⟩ := open_int Try.underlying3 (hval 0 3 v0 rfl rfl) h0
  have b0 := i64_of_wf w0
  obtain ⟨ns1, hn1, rfl, hw1⟩ := open_vals leaves1 cellsOf1 (open_array Try.underlying22 (hval 1 22 v1 rfl rfl)) h1
  obtain ⟨a1_0, a1_1, rfl⟩ : ∃ x0 x1, ns1 = [x0, x1] := by
    match ns1, hn1 with
    | [x0, x1], _ => exact ⟨_, _, rfl⟩
  have b1_0 := i64_of_wf (hw1 0 .i64 a1_0 rfl rfl)
  have b1_1 := i64_of_wf (hw1 1 .i64 a1_1 rfl rfl)
  obtain ⟨zs2, is2⟩ := open_bs Try.underlying33 Try.underlying5 cells_u8 (hval 2 33 v2 rfl rfl) h2
  exact cubicBy_any a0 a1_0 a1_1 b1_0 b1_1 v2 zs2 W is2

theorem proved : Rows.CubicBySaid :=
  OpenClaim.holds_of_wide 8 Try.f8 rfl rfl rfl rfl rfl rfl rfl ⟨rfl, rfl, rfl, rfl, rfl⟩ rfl rfl rfl rfl rfl (by kernel_rfl) Try.func8 (by kernel_rfl)
    (of_decide_eq_true (by kernel_rfl)) (by unfold Func.isWrapper; first | (rw [if_pos (by decide +kernel)]; kernel_rfl) | (rw [if_neg (by decide +kernel)]; exact ⟨rfl, rfl⟩))
    (fun os started H enc _ => lifted os started H enc)
#print axioms proved
end Go.Proofs.Ytnklbnphiokpiaa.cubicBy
