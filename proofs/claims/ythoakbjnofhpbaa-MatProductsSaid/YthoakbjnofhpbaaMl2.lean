/- law05.alike on one number; a box of nine wide numbers as a row. -/
import Derived.Test.YthoakbjnofhpbaaMl1
import Derived.Test.YthoakbjnofhpbaaMp0
set_option linter.unusedVariables false
set_option linter.unusedSimpArgs false
namespace Go.Proofs.Ythoakbjnofhpbaa
open Go.RowKit
theorem BL.one {w : World} {g : Nat} {z : Int} {s : Value} (h : AtB w g #[.bool (sgn z), s] BT) (hb : BR w (.agg #[.bool (sgn z), s]) z) : BL w 0 (.slice (some ⟨g, 0, none⟩) 1 1) [z] :=
  ⟨[(z, s)], rfl, ⟨rfl, .inr ⟨g, 1, #[.bool (sgn z), s], rfl, Nat.zero_le _, h, Nat.le_refl _, by unfold maxLen; omega, rfl, rfl⟩⟩, fun p hp => by
    rw [List.mem_singleton] at hp; subst hp; exact hb⟩
theorem WS.one {w : World} {g : Nat} {z h l : Int} {T : TypeId} (ha : AtB w g #[.int .i64 h, .int .u64 l] T) (hw : W128 z h l) : WS w (.slice (some ⟨g, 0, none⟩) 1 1) [z] :=
  ⟨g, 1, rfl, ha.lt, Nat.le_refl _, fun i hi => by
    obtain rfl : i = 0 := by simpa using hi
    exact ⟨h, l, ha.cell 0 rfl, ha.cell 1 rfl, hw⟩⟩
theorem alike_one (z h l : Int) (g g2 : Nat) (s : Value) (T : TypeId) (w : World) (hz : Wd 200 z) (hw : W128 z h l) (ha : AtB w g #[.int .i64 h, .int .u64 l] T) (h2 : AtB w g2 #[.bool (sgn z), s] BT) (hb : BR w (.agg #[.bool (sgn z), s]) z) :
    Calls Try.prog 38 #[.slice (some ⟨g, 0, none⟩) 1 1, .slice (some ⟨g2, 0, none⟩) 1 1] w fun e w' => e = .returned (.bool true) ∧ Below w.heap.size w w' :=
  alike_any _ _ [z] 0 w (WS.one ha hw) (BL.one h2 hb) (by simp) (by simp) (fun i => getD_wd (fun y hy => by rw [List.mem_singleton] at hy; subst hy; exact hz) i)
theorem WS.nine {w : World} {g : Nat} {T : TypeId} {h0 l0 h1 l1 h2 l2 h3 l3 h4 l4 h5 l5 h6 l6 h7 l7 h8 l8 : Int} {F : Nat → Int} (ha : AtB w g #[.int .i64 h0, .int .u64 l0, .int .i64 h1, .int .u64 l1, .int .i64 h2, .int .u64 l2, .int .i64 h3, .int .u64 l3, .int .i64 h4, .int .u64 l4, .int .i64 h5, .int .u64 l5, .int .i64 h6, .int .u64 l6, .int .i64 h7, .int .u64 l7, .int .i64 h8, .int .u64 l8] T) (f0 : W128 (F 0) h0 l0) (f1 : W128 (F 1) h1 l1) (f2 : W128 (F 2) h2 l2) (f3 : W128 (F 3) h3 l3) (f4 : W128 (F 4) h4 l4) (f5 : W128 (F 5) h5 l5) (f6 : W128 (F 6) h6 l6) (f7 : W128 (F 7) h7 l7) (f8 : W128 (F 8) h8 l8) : WS w (.slice (some ⟨g, 0, none⟩) 9 9) ((List.range 9).map F) := by
  refine ⟨g, 9, rfl, ha.lt, by simp, fun i hi => ?_⟩
  have hi : i < 9 := by simpa using hi
  have e : ((List.range 9).map F).getD i 0 = F i := by simp [List.getD, hi]
  rw [e]
  match i, hi with
  | 0, _ => exact ⟨h0, l0, ha.cell 0 rfl, ha.cell 1 rfl, f0⟩
  | 1, _ => exact ⟨h1, l1, ha.cell 2 rfl, ha.cell 3 rfl, f1⟩
  | 2, _ => exact ⟨h2, l2, ha.cell 4 rfl, ha.cell 5 rfl, f2⟩
  | 3, _ => exact ⟨h3, l3, ha.cell 6 rfl, ha.cell 7 rfl, f3⟩
  | 4, _ => exact ⟨h4, l4, ha.cell 8 rfl, ha.cell 9 rfl, f4⟩
  | 5, _ => exact ⟨h5, l5, ha.cell 10 rfl, ha.cell 11 rfl, f5⟩
  | 6, _ => exact ⟨h6, l6, ha.cell 12 rfl, ha.cell 13 rfl, f6⟩
  | 7, _ => exact ⟨h7, l7, ha.cell 14 rfl, ha.cell 15 rfl, f7⟩
  | 8, _ => exact ⟨h8, l8, ha.cell 16 rfl, ha.cell 17 rfl, f8⟩
  | n + 9, h => omega
end Go.Proofs.Ythoakbjnofhpbaa
