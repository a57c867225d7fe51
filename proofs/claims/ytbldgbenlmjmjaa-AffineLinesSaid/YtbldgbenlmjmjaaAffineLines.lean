/- Proved: for any numbers of a map and any places, AffineLines returns true (the three numbers of columns, and of rows, lead to where each place comes from). No condition. -/
import Derived.Test.YtbldgbenlmjmjaaJA
import Derived.Test.YtbldgbenlmjmjaaAffLW
namespace Go.Proofs.Ytbldgbenlmjmjaa.affineLines
open Go.ChangeShapes Go.WideShapes Go.ChangeAt Go.RowKit Go.Deep

theorem leavesP : intLeaves Try.prog 8 35 = some [.i64, .i64, .i64] := by kernel_rfl
theorem cellsP : Try.prog.cellsOf 35 = 3 := by kernel_rfl
theorem cells_i64 : Try.prog.cellsOf 2 = 1 := by kernel_rfl
set_option maxRecDepth 100000 in
theorem lifted (os : Os) (started : os.Started) (H : Type) (enc : TypeId × Value → H) :
    ReturnsInHanded {} Try.checked os 6 .any (Rows.affineLinesSpec.pre6 enc Try.prog Try.f6 Rows.affineLinesRow.domain false) (Rows.affineLinesSpec.post enc Try.prog Try.f6 false true false false) := by
  refine law_lifted os started H enc (by kernel_rfl) Try.func6
    (ChangeSpec.witness6 (enc := enc) (C := Try.checked) false ⟨#[], #[.slice none 0 0, .slice none 0 0], []⟩ 8 (by kernel_rfl) (by kernel_rfl) (by kernel_rfl) (by kernel_rfl)) rfl (by kernel_rfl) Try.underlying4 (by kernel_rfl) ?_
  intro W base args ds p hval hA
  rw [Try.params6] at hA hval
  obtain ⟨v0, vs0, d0, ds0, p0, q0, hargs, rfl, rfl, h0, r0⟩ := trodAll_cons hA
  obtain ⟨v1, vs1, d1, ds1, p1, q1, rfl, rfl, rfl, h1, r1⟩ := trodAll_cons r0
  obtain ⟨rfl, rfl, rfl⟩ := trodAll_nil r1
  obtain rfl : args = #[v0, v1] := by cases args; simp_all
  refine ⟨rfl, ?_⟩
  obtain ⟨zs0, is0⟩ := open_is Try.underlying22 Try.underlying2 cells_i64 (hval 0 22 v0 rfl rfl) h0
  obtain ⟨ps1, is1⟩ := open_ps Try.underlying41 leavesP cellsP (hval 1 41 v1 rfl rfl) h1
  exact affineLines_any v0 v1 zs0 ps1 W is0 is1

theorem proved : Rows.AffineLinesSaid :=
  OpenClaim.holds_of_wide 6 Try.f6 rfl rfl rfl rfl rfl rfl rfl ⟨rfl, rfl, rfl, rfl, rfl⟩ rfl rfl rfl rfl rfl (by kernel_rfl) Try.func6 (by kernel_rfl)
    (of_decide_eq_true (by kernel_rfl)) (by unfold Func.isWrapper; first | (rw [if_pos (by decide +kernel)]; kernel_rfl) | (rw [if_neg (by decide +kernel)]; exact ⟨rfl, rfl⟩))
    (fun os started H enc _ => lifted os started H enc)
#print axioms proved
end Go.Proofs.Ytbldgbenlmjmjaa.affineLines
