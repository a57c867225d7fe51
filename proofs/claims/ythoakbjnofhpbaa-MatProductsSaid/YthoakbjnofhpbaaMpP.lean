/- ref05.Mul tells what mat.Mul and mat.Put tell. -/
import Derived.Test.YthoakbjnofhpbaaMs1
import Derived.Test.YthoakbjnofhpbaaMs2
import Derived.Test.YthoakbjnofhpbaaMl2
set_option linter.unusedVariables false
set_option linter.unusedSimpArgs false
namespace Go.Proofs.Ythoakbjnofhpbaa
open Go.RowKit
theorem mul_same (ms ns : List Int) : muI ms ns 3 = (List.range 9).map (mulF ms ns) := by
  unfold muI
  refine List.map_congr_left fun i hi => ?_
  have h9 : i < 9 := by simpa using hi
  simp only [muT, mulF, mAt]
  rw [show 3 * (i / 3) + 0 = i / 3 % 3 * 3 + 0 % 3 by omega, show 3 * (i / 3) + 1 = i / 3 % 3 * 3 + 1 % 3 by omega, show 3 * (i / 3) + 2 = i / 3 % 3 * 3 + 2 % 3 by omega,
    show 3 * 0 + i % 3 = 0 % 3 * 3 + i % 3 % 3 by omega, show 3 * 1 + i % 3 = 1 % 3 * 3 + i % 3 % 3 by omega, show 3 * 2 + i % 3 = 2 % 3 * 3 + i % 3 % 3 by omega, Int.zero_add]
theorem put_same (ms : List Int) (x0 x1 x2 : Int) : muI ms [x0, x1, x2] 1 = (List.range 3).map (putF ms x0 x1 x2) := by
  unfold muI
  refine List.map_congr_left fun i hi => ?_
  have h9 : i < 3 := by simpa using hi
  simp only [muT, putF, mAt]
  rw [show i / 1 = i by omega, show i % 1 = 0 by omega, show 3 * i + 0 = i % 3 * 3 + 0 % 3 by omega, show 3 * i + 1 = i % 3 * 3 + 1 % 3 by omega, show 3 * i + 2 = i % 3 * 3 + 2 % 3 by omega, Int.zero_add]
  rfl
theorem WS.three {w : World} {g : Nat} {T : TypeId} {h0 l0 h1 l1 h2 l2 : Int} {F : Nat → Int} (ha : AtB w g #[.int .i64 h0, .int .u64 l0, .int .i64 h1, .int .u64 l1, .int .i64 h2, .int .u64 l2] T) (f0 : W128 (F 0) h0 l0) (f1 : W128 (F 1) h1 l1) (f2 : W128 (F 2) h2 l2) : WS w (.slice (some ⟨g, 0, none⟩) 3 3) ((List.range 3).map F) := by
  refine ⟨g, 3, rfl, ha.lt, by simp, fun i hi => ?_⟩
  have hi : i < 3 := by simpa using hi
  have e : ((List.range 3).map F).getD i 0 = F i := by simp [List.getD, hi]
  rw [e]
  match i, hi with
  | 0, _ => exact ⟨h0, l0, ha.cell 0 rfl, ha.cell 1 rfl, f0⟩
  | 1, _ => exact ⟨h1, l1, ha.cell 2 rfl, ha.cell 3 rfl, f1⟩
  | 2, _ => exact ⟨h2, l2, ha.cell 4 rfl, ha.cell 5 rfl, f2⟩
  | n + 3, h => omega
theorem eq6 (w : World) : (Op.equalIn 10000 W3T (.agg #[.int .i64 0, .int .u64 0, .int .i64 0, .int .u64 0, .int .i64 0, .int .u64 0]) (.agg #[.int .i64 0, .int .u64 0, .int .i64 0, .int .u64 0, .int .i64 0, .int .u64 0])).run Try.prog w = .ok true w := by kernel_rfl
theorem put_built : Try.prog.built W3T [] = some #[.int .i64 0, .int .u64 0, .int .i64 0, .int .u64 0, .int .i64 0, .int .u64 0] := by kernel_rfl
theorem far_i32 {zs : List Int} (hf : zs.any farM = false) : ∀ z ∈ zs, I32s z := fun z h => by
  rw [List.any_eq_false] at hf
  exact farM_iff.1 (by simpa using hf z h)
end Go.Proofs.Ythoakbjnofhpbaa
