/- Proved: for any four numbers and any place, MeshPlain returns true (a mesh that changes nothing is the document's, and each place of it comes from itself). No condition. -/
import Derived.Test.YthoakbjnofhpbaaJA
import Derived.Test.YthoakbjnofhpbaaMePl
namespace Go.Proofs.Ythoakbjnofhpbaa.meshPlain
open Go.ChangeShapes Go.WideShapes Go.ChangeAt Go.RowKit Go.Deep

theorem leaves0 : intLeaves Try.prog 8 22 = some [.i64, .i64, .i64, .i64] := by kernel_rfl
theorem cellsOf0 : Try.prog.cellsOf 22 = 4 := by kernel_rfl
theorem leaves1 : intLeaves Try.prog 8 24 = some [.i64, .i64, .i64] := by kernel_rfl
theorem cellsOf1 : Try.prog.cellsOf 24 = 3 := by kernel_rfl
set_option maxRecDepth 100000 in
theorem lifted (os : Os) (started : os.Started) (H : Type) (enc : TypeId × Value → H) :
    ReturnsInHanded {} Try.checked os 3 .any (Rows.meshPlainSpec.pre6 enc Try.prog Try.f3 Rows.meshPlainRow.domain false) (Rows.meshPlainSpec.post enc Try.prog Try.f3 false true false false) := by
  refine law_lifted os started H enc (by kernel_rfl) Try.func3
    (ChangeSpec.witness6 (enc := enc) (C := Try.checked) false ⟨#[], #[.agg #[.int .i64 0, .int .i64 0, .int .i64 0, .int .i64 0], .agg #[.int .i64 0, .int .i64 0, .int .i64 0]], []⟩ 8 (by kernel_rfl) (by kernel_rfl) (by kernel_rfl) (by kernel_rfl)) rfl (by kernel_rfl) Try.underlying4 (by kernel_rfl) ?_
  intro W base args ds p hval hA
  rw [Try.params3] at hA hval
  obtain ⟨v0, vs0, d0, ds0, p0, q0, hargs, rfl, rfl, h0, r0⟩ := trodAll_cons hA
  obtain ⟨v1, vs1, d1, ds1, p1, q1, rfl, rfl, rfl, h1, r1⟩ := trodAll_cons r0
  obtain ⟨rfl, rfl, rfl⟩ := trodAll_nil r1
  obtain rfl : args = #[v0, v1] := by cases args; simp_all
  refine ⟨rfl, ?_⟩
  obtain ⟨ns0, hn0, rfl, hw0⟩ := open_vals leaves0 cellsOf0 (open_array Try.underlying22 (hval 0 22 v0 rfl rfl)) h0
  obtain ⟨a0_0, a0_1, a0_2, a0_3, rfl⟩ : ∃ x0 x1 x2 x3, ns0 = [x0, x1, x2, x3] := by
    match ns0, hn0 with
    | [x0, x1, x2, x3], _ => exact ⟨_, _, _, _, rfl⟩
  have b0_0 := i64_of_wf (hw0 0 .i64 a0_0 rfl rfl)
  have b0_1 := i64_of_wf (hw0 1 .i64 a0_1 rfl rfl)
  have b0_2 := i64_of_wf (hw0 2 .i64 a0_2 rfl rfl)
  have b0_3 := i64_of_wf (hw0 3 .i64 a0_3 rfl rfl)
  obtain ⟨ns1, hn1, rfl, hw1⟩ := open_vals leaves1 cellsOf1 (open_struct Try.underlying24 (hval 1 24 v1 rfl rfl)) h1
  obtain ⟨a1_0, a1_1, a1_2, rfl⟩ : ∃ x0 x1 x2, ns1 = [x0, x1, x2] := by
    match ns1, hn1 with
    | [x0, x1, x2], _ => exact ⟨_, _, _, rfl⟩
  have b1_0 := i64_of_wf (hw1 0 .i64 a1_0 rfl rfl)
  have b1_1 := i64_of_wf (hw1 1 .i64 a1_1 rfl rfl)
  have b1_2 := i64_of_wf (hw1 2 .i64 a1_2 rfl rfl)
  exact meshPlain_any a0_0 a0_1 a0_2 a0_3 a1_0 a1_1 a1_2 b1_0 b1_1 W

theorem proved : Rows.MeshPlainSaid :=
  OpenClaim.holds_of_wide 3 Try.f3 rfl rfl rfl rfl rfl rfl rfl ⟨rfl, rfl, rfl, rfl, rfl⟩ rfl rfl rfl rfl rfl (by kernel_rfl) Try.func3 (by kernel_rfl)
    (of_decide_eq_true (by kernel_rfl)) (by unfold Func.isWrapper; first | (rw [if_pos (by decide +kernel)]; kernel_rfl) | (rw [if_neg (by decide +kernel)]; exact ⟨rfl, rfl⟩))
    (fun os started H enc _ => lifted os started H enc)
#print axioms proved
end Go.Proofs.Ythoakbjnofhpbaa.meshPlain
