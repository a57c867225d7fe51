/- Proved: for any numbers of a lens, any size and any place, LensNear returns true (where the place comes from lies as near to the document's exact place as the map says). No condition. -/
import Derived.Test.YthdbchghhpoadaaJA
import Derived.Test.YthdbchghhpoadaaLnW
namespace Go.Proofs.Ythdbchghhpoadaa.lensNear
open Go.ChangeShapes Go.WideShapes Go.ChangeAt Go.RowKit Go.Deep

theorem leaves1 : intLeaves Try.prog 8 41 = some [.i64, .i64] := by kernel_rfl
theorem cellsOf1 : Try.prog.cellsOf 41 = 2 := by kernel_rfl
theorem leaves2 : intLeaves Try.prog 8 43 = some [.i64, .i64, .i64] := by kernel_rfl
theorem cellsOf2 : Try.prog.cellsOf 43 = 3 := by kernel_rfl
theorem cells_i64 : Try.prog.cellsOf 2 = 1 := by kernel_rfl
set_option maxRecDepth 100000 in
theorem lifted (os : Os) (started : os.Started) (H : Type) (enc : TypeId × Value → H) :
    ReturnsInHanded {} Try.checked os 6 .any (Rows.lensNearSpec.pre6 enc Try.prog Try.f6 Rows.lensNearRow.domain false) (Rows.lensNearSpec.post enc Try.prog Try.f6 false true false false) := by
  refine law_lifted os started H enc (by kernel_rfl) Try.func6
    (ChangeSpec.witness6 (enc := enc) (C := Try.checked) false ⟨#[], #[.slice none 0 0, .agg #[.int .i64 0, .int .i64 0], .agg #[.int .i64 0, .int .i64 0, .int .i64 0]], []⟩ 8 (by kernel_rfl) (by kernel_rfl) (by kernel_rfl) (by kernel_rfl)) rfl (by kernel_rfl) Try.underlying4 (by kernel_rfl) ?_
  intro W base args ds p hval hA
  rw [Try.params6] at hA hval
  obtain ⟨v0, vs0, d0, ds0, p0, q0, hargs, rfl, rfl, h0, r0⟩ := trodAll_cons hA
  obtain ⟨v1, vs1, d1, ds1, p1, q1, rfl, rfl, rfl, h1, r1⟩ := trodAll_cons r0
  obtain ⟨v2, vs2, d2, ds2, p2, q2, rfl, rfl, rfl, h2, r2⟩ := trodAll_cons r1
  obtain ⟨rfl, rfl, rfl⟩ := trodAll_nil r2
  obtain rfl : args = #[v0, v1, v2] := by cases args; simp_all
  refine ⟨rfl, ?_⟩
  obtain ⟨zs0, is0⟩ := open_is Try.underlying22 Try.underlying2 cells_i64 (hval 0 22 v0 rfl rfl) h0
  obtain ⟨ns1, hn1, rfl, hw1⟩ := open_vals leaves1 cellsOf1 (open_array Try.underlying41 (hval 1 41 v1 rfl rfl)) h1
  obtain ⟨a1_0, a1_1, rfl⟩ : ∃ x0 x1, ns1 = [x0, x1] := by
    match ns1, hn1 with
    | [x0, x1], _ => exact ⟨_, _, rfl⟩
  have b1_0 := i64_of_wf (hw1 0 .i64 a1_0 rfl rfl)
  have b1_1 := i64_of_wf (hw1 1 .i64 a1_1 rfl rfl)
  obtain ⟨ns2, hn2, rfl, hw2⟩ := open_vals leaves2 cellsOf2 (open_struct Try.underlying43 (hval 2 43 v2 rfl rfl)) h2
  obtain ⟨a2_0, a2_1, a2_2, rfl⟩ : ∃ x0 x1 x2, ns2 = [x0, x1, x2] := by
    match ns2, hn2 with
    | [x0, x1, x2], _ => exact ⟨_, _, _, rfl⟩
  have b2_0 := i64_of_wf (hw2 0 .i64 a2_0 rfl rfl)
  have b2_1 := i64_of_wf (hw2 1 .i64 a2_1 rfl rfl)
  have b2_2 := i64_of_wf (hw2 2 .i64 a2_2 rfl rfl)
  exact lensNear_any v0 zs0 a1_0 a1_1 a2_0 a2_1 a2_2 b1_0 b1_1 W is0

theorem proved : Rows.LensNearSaid :=
  OpenClaim.holds_of_wide 6 Try.f6 rfl rfl rfl rfl rfl rfl rfl ⟨rfl, rfl, rfl, rfl, rfl⟩ rfl rfl rfl rfl rfl (by kernel_rfl) Try.func6 (by kernel_rfl)
    (of_decide_eq_true (by kernel_rfl)) (by unfold Func.isWrapper; first | (rw [if_pos (by decide +kernel)]; kernel_rfl) | (rw [if_neg (by decide +kernel)]; exact ⟨rfl, rfl⟩))
    (fun os started H enc _ => lifted os started H enc)
#print axioms proved
end Go.Proofs.Ythdbchghhpoadaa.lensNear
