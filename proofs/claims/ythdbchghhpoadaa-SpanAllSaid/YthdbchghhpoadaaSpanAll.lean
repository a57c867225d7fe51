/- Proved: for any numbers of a map and any sizes, SpanAll returns true (the rows that have pixels of the first image, in order, and how many pixels these are, are the document's). No condition. -/
import Derived.Test.YthdbchghhpoadaaJA
import Derived.Test.YthdbchghhpoadaaSp9
namespace Go.Proofs.Ythdbchghhpoadaa.spanAll
open Go.ChangeShapes Go.WideShapes Go.ChangeAt Go.RowKit Go.Deep

theorem leaves1 : intLeaves Try.prog 8 24 = some [.i64, .i64, .i64, .i64, .i64, .i64] := by kernel_rfl
theorem cellsOf1 : Try.prog.cellsOf 24 = 6 := by kernel_rfl
theorem cells_i64 : Try.prog.cellsOf 2 = 1 := by kernel_rfl
set_option maxRecDepth 100000 in
theorem lifted (os : Os) (started : os.Started) (H : Type) (enc : TypeId × Value → H) :
    ReturnsInHanded {} Try.checked os 5 .any (Rows.spanAllSpec.pre6 enc Try.prog Try.f5 Rows.spanAllRow.domain false) (Rows.spanAllSpec.post enc Try.prog Try.f5 false true false false) := by
  refine law_lifted os started H enc (by kernel_rfl) Try.func5
    (ChangeSpec.witness6 (enc := enc) (C := Try.checked) false ⟨#[], #[.slice none 0 0, .agg #[.int .i64 0, .int .i64 0, .int .i64 0, .int .i64 0, .int .i64 0, .int .i64 0]], []⟩ 8 (by kernel_rfl) (by kernel_rfl) (by kernel_rfl) (by kernel_rfl)) rfl (by kernel_rfl) Try.underlying4 (by kernel_rfl) ?_
  intro W base args ds p hval hA
  rw [Try.params5] at hA hval
  obtain ⟨v0, vs0, d0, ds0, p0, q0, hargs, rfl, rfl, h0, r0⟩ := trodAll_cons hA
  obtain ⟨v1, vs1, d1, ds1, p1, q1, rfl, rfl, rfl, h1, r1⟩ := trodAll_cons r0
  obtain ⟨rfl, rfl, rfl⟩ := trodAll_nil r1
  obtain rfl : args = #[v0, v1] := by cases args; simp_all
  refine ⟨rfl, ?_⟩
  obtain ⟨zs0, is0⟩ := open_is Try.underlying22 Try.underlying2 cells_i64 (hval 0 22 v0 rfl rfl) h0
  obtain ⟨ns1, hn1, rfl, hw1⟩ := open_vals leaves1 cellsOf1 (open_struct Try.underlying24 (hval 1 24 v1 rfl rfl)) h1
  obtain ⟨a1_0, a1_1, a1_2, a1_3, a1_4, a1_5, rfl⟩ : ∃ x0 x1 x2 x3 x4 x5, ns1 = [x0, x1, x2, x3, x4, x5] := by
    match ns1, hn1 with
    | [x0, x1, x2, x3, x4, x5], _ => exact ⟨_, _, _, _, _, _, rfl⟩
  have b1_0 := i64_of_wf (hw1 0 .i64 a1_0 rfl rfl)
  have b1_1 := i64_of_wf (hw1 1 .i64 a1_1 rfl rfl)
  have b1_2 := i64_of_wf (hw1 2 .i64 a1_2 rfl rfl)
  have b1_3 := i64_of_wf (hw1 3 .i64 a1_3 rfl rfl)
  have b1_4 := i64_of_wf (hw1 4 .i64 a1_4 rfl rfl)
  have b1_5 := i64_of_wf (hw1 5 .i64 a1_5 rfl rfl)
  exact spanAll_any v0 zs0 a1_0 a1_1 a1_2 a1_3 a1_4 a1_5 b1_2 b1_3 W is0

theorem proved : Rows.SpanAllSaid :=
  OpenClaim.holds_of_wide 5 Try.f5 rfl rfl rfl rfl rfl rfl rfl ⟨rfl, rfl, rfl, rfl, rfl⟩ rfl rfl rfl rfl rfl (by kernel_rfl) Try.func5 (by kernel_rfl)
    (of_decide_eq_true (by kernel_rfl)) (by unfold Func.isWrapper; first | (rw [if_pos (by decide +kernel)]; kernel_rfl) | (rw [if_neg (by decide +kernel)]; exact ⟨rfl, rfl⟩))
    (fun os started H enc _ => lifted os started H enc)
#print axioms proved
end Go.Proofs.Ythdbchghhpoadaa.spanAll
