/- Proved: for any two int64 and any place, AffineMoves returns true (by the map that changes nothing each place comes from itself, by one that moves from so much less). No condition. -/
import Derived.Test.YtbldgbenlmjmjaaJA
import Derived.Test.YtbldgbenlmjmjaaAffL
namespace Go.Proofs.Ytbldgbenlmjmjaa.affineMoves
open Go.ChangeShapes Go.WideShapes Go.ChangeAt Go.RowKit Go.Deep

theorem leaves2 : intLeaves Try.prog 8 35 = some [.i64, .i64, .i64] := by kernel_rfl
theorem cellsOf2 : Try.prog.cellsOf 35 = 3 := by kernel_rfl
set_option maxRecDepth 100000 in
theorem lifted (os : Os) (started : os.Started) (H : Type) (enc : TypeId × Value → H) :
    ReturnsInHanded {} Try.checked os 4 .any (Rows.affineMovesSpec.pre6 enc Try.prog Try.f4 Rows.affineMovesRow.domain false) (Rows.affineMovesSpec.post enc Try.prog Try.f4 false true false false) := by
  refine law_lifted os started H enc (by kernel_rfl) Try.func4
    (ChangeSpec.witness6 (enc := enc) (C := Try.checked) false ⟨#[], #[.int .i64 0, .int .i64 0, .agg #[.int .i64 0, .int .i64 0, .int .i64 0]], []⟩ 8 (by kernel_rfl) (by kernel_rfl) (by kernel_rfl) (by kernel_rfl)) rfl (by kernel_rfl) Try.underlying4 (by kernel_rfl) ?_
  intro W base args ds p hval hA
  rw [Try.params4] at hA hval
  obtain ⟨v0, vs0, d0, ds0, p0, q0, hargs, rfl, rfl, h0, r0⟩ := trodAll_cons hA
  obtain ⟨v1, vs1, d1, ds1, p1, q1, rfl, rfl, rfl, h1, r1⟩ := trodAll_cons r0
  obtain ⟨v2, vs2, d2, ds2, p2, q2, rfl, rfl, rfl, h2, r2⟩ := trodAll_cons r1
  obtain ⟨rfl, rfl, rfl⟩ := trodAll_nil r2
  obtain rfl : args = #[v0, v1, v2] := by cases args; simp_all
  refine ⟨rfl, ?_⟩
  obtain ⟨a0, rfl, rfl, rfl, w0⟩ := open_int Try.underlying2 (hval 0 2 v0 rfl rfl) h0
  have b0 := i64_of_wf w0
  obtain ⟨a1, rfl, rfl, rfl, w1⟩ := open_int Try.underlying2 (hval 1 2 v1 rfl rfl) h1
  have b1 := i64_of_wf w1
  obtain ⟨ns2, hn2, rfl, hw2⟩ := open_vals leaves2 cellsOf2 (open_struct Try.underlying35 (hval 2 35 v2 rfl rfl)) h2
  obtain ⟨a2_0, a2_1, a2_2, rfl⟩ : ∃ x0 x1 x2, ns2 = [x0, x1, x2] := by
    match ns2, hn2 with
    | [x0, x1, x2], _ => exact ⟨_, _, _, rfl⟩
  have b2_0 := i64_of_wf (hw2 0 .i64 a2_0 rfl rfl)
  have b2_1 := i64_of_wf (hw2 1 .i64 a2_1 rfl rfl)
  have b2_2 := i64_of_wf (hw2 2 .i64 a2_2 rfl rfl)
  exact affineMoves_any a0 a1 a2_0 a2_1 a2_2 b0 b1 W

theorem proved : Rows.AffineMovesSaid :=
  OpenClaim.holds_of_wide 4 Try.f4 rfl rfl rfl rfl rfl rfl rfl ⟨rfl, rfl, rfl, rfl, rfl⟩ rfl rfl rfl rfl rfl (by kernel_rfl) Try.func4 (by kernel_rfl)
    (of_decide_eq_true (by kernel_rfl)) (by unfold Func.isWrapper; first | (rw [if_pos (by decide +kernel)]; kernel_rfl) | (rw [if_neg (by decide +kernel)]; exact ⟨rfl, rfl⟩))
    (fun os started H enc _ => lifted os started H enc)
#print axioms proved
end Go.Proofs.Ytbldgbenlmjmjaa.affineMoves
