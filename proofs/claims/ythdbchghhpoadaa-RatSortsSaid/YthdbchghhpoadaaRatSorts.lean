/- Proved: for any fractions, RatSorts returns true (rat.Sort puts at most 60 of them in order, equal ones as they stood; none, if one is wrong). No condition. -/
import Derived.Test.YthdbchghhpoadaaJA
import Derived.Test.YthdbchghhpoadaaSoF
namespace Go.Proofs.Ythdbchghhpoadaa.ratSorts
open Go.ChangeShapes Go.WideShapes Go.ChangeAt Go.RowKit Go.Deep

theorem leavesQ : intLeaves Try.prog 8 63 = some [.i64, .i64] := by kernel_rfl
theorem cellsQ : Try.prog.cellsOf 63 = 2 := by kernel_rfl
set_option maxRecDepth 100000 in
theorem lifted (os : Os) (started : os.Started) (H : Type) (enc : TypeId × Value → H) :
    ReturnsInHanded {} Try.checked os 7 .any (Rows.ratSortsSpec.pre6 enc Try.prog Try.f7 Rows.ratSortsRow.domain false) (Rows.ratSortsSpec.post enc Try.prog Try.f7 false true false false) := by
  refine law_lifted os started H enc (by kernel_rfl) Try.func7
    (ChangeSpec.witness6 (enc := enc) (C := Try.checked) false ⟨#[], #[.slice none 0 0], []⟩ 8 (by kernel_rfl) (by kernel_rfl) (by kernel_rfl) (by kernel_rfl)) rfl (by kernel_rfl) Try.underlying4 (by kernel_rfl) ?_
  intro W base args ds p hval hA
  rw [Try.params7] at hA hval
  obtain ⟨v0, vs0, d0, ds0, p0, q0, hargs, rfl, rfl, h0, r0⟩ := trodAll_cons hA
  obtain ⟨rfl, rfl, rfl⟩ := trodAll_nil r0
  obtain rfl : args = #[v0] := by cases args; simp_all
  refine ⟨rfl, ?_⟩
  obtain ⟨qs0, is0⟩ := open_qs Try.underlying60 leavesQ cellsQ (hval 0 60 v0 rfl rfl) h0
  exact ratSorts_any v0 qs0 W is0

theorem proved : Rows.RatSortsSaid :=
  OpenClaim.holds_of_wide 7 Try.f7 rfl rfl rfl rfl rfl rfl rfl ⟨rfl, rfl, rfl, rfl, rfl⟩ rfl rfl rfl rfl rfl (by kernel_rfl) Try.func7 (by kernel_rfl)
    (of_decide_eq_true (by kernel_rfl)) (by unfold Func.isWrapper; first | (rw [if_pos (by decide +kernel)]; kernel_rfl) | (rw [if_neg (by decide +kernel)]; exact ⟨rfl, rfl⟩))
    (fun os started H enc _ => lifted os started H enc)
#print axioms proved
end Go.Proofs.Ythdbchghhpoadaa.ratSorts
