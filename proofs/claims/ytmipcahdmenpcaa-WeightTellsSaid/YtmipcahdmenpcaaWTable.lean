/- The walk of weight.Table: a slice of 256 rows of four weights. -/
import Derived.Test.YtmipcahdmenpcaaWeight
set_option linter.unusedVariables false
namespace Go.Proofs.Ytmipcahdmenpcaa
open Go.RowKit

def cwv (t : Int) (j : Nat) : Value := .int .i64 (match j with | 0 => cw0 t | 1 => cw1 t | 2 => cw2 t | _ => cw3 t)

/-- Block g holds, from its beginning on, k rows of four weights; it has 1024 cells. -/
def TabAt (w : World) (g k : Nat) : Prop :=
  ∃ cs : Array Value, w.heap[g]? = some (.cells cs 40 (0, 0)) ∧ cs.size = 1024 ∧ ∀ i j : Nat, i < k → j < 4 → cs[i * 4 + j]? = some (cwv i j)

theorem info_arr4 : (Try.prog.info? 40).map (fun i => (i.zero, i.size, i.bytes)) = some (some (.agg #[.int .i64 0, .int .i64 0, .int .i64 0, .int .i64 0]), 4, 32) := by kernel_rfl

theorem make_tab : ∃ cs : Array Value, cs.size = 1024 ∧ ∀ w : World, (Instr.makeSlice 44 (.int .i64 256) (.int .i64 256)).run Try.prog w = .ok (.slice (some ⟨w.heap.size, 0, none⟩) 256 256) (w.alloc (.cells cs 40)) := by
  obtain ⟨i, hi, he⟩ := Option.map_eq_some_iff.1 info_arr4
  simp only [Prod.mk.injEq] at he
  obtain ⟨hz, hs, hb⟩ := he
  refine ⟨madeCells (Value.agg #[.int .i64 0, .int .i64 0, .int .i64 0, .int .i64 0]).cells 1024, size_madeCells _ _, fun w => ?_⟩
  have h := run_make (P := Try.prog) w 44 40 i _ Try.underlying44 hi hz .i64 .i64 256 256 (by omega) (by omega) (by rw [hb]; omega) (by omega)
  rw [hs] at h
  exact h

theorem heap_new (w : World) (o : Obj) : (w.alloc o).heap[w.heap.size]? = some o := by
  show (w.heap.push o)[w.heap.size]? = _
  simp

theorem tab_cell {w : World} {g k : Nat} (h : TabAt w g k) (o : Nat) (ho : o < 1024) : (∃ v, w.cell? ⟨g, o, none⟩ = some v) ∧ w.frozen? ⟨g, o, none⟩ = false := by
  obtain ⟨cs, h1, h2, h3⟩ := h
  refine ⟨⟨cs[o]'(by omega), ?_⟩, ?_⟩
  · rw [cell_of_row w g o cs _ _ h1, Array.getElem?_eq_getElem (by omega)]
  · simp [World.frozen?, h1]

theorem tab_below {w w1 : World} {g k : Nat} (h : TabAt w g k) (hb : Below w.heap.size w w1) (hg : g < w.heap.size) : TabAt w1 g k := by
  obtain ⟨cs, h1, h2, h3⟩ := h
  exact ⟨cs, (hb.block g hg).trans h1, h2, h3⟩

theorem heap_set {w : World} {g o : Nat} {cs : Array Value} {t : TypeId} {fr : Nat × Nat} (h : w.heap[g]? = some (.cells cs t fr)) (v : Value) : (w.setCell ⟨g, o, none⟩ v).heap[g]? = some (.cells (cs.setIfInBounds o v) t fr) := by
  simp [World.setCell, Array.getElem?_modify, h]

theorem tab_step {w : World} {g k : Nat} (h : TabAt w g k) (hk : k < 256) :
    TabAt ((((w.setCell ⟨g, k * 4, none⟩ (cwv k 0)).setCell ⟨g, k * 4 + 1, none⟩ (cwv k 1)).setCell ⟨g, k * 4 + 2, none⟩ (cwv k 2)).setCell ⟨g, k * 4 + 3, none⟩ (cwv k 3)) g (k + 1) := by
  obtain ⟨cs, h1, h2, h3⟩ := h
  refine ⟨_, heap_set (heap_set (heap_set (heap_set h1 _) _) _) _, by simp [h2], fun i j hi hj => ?_⟩
  simp only [Array.getElem?_setIfInBounds, Array.size_setIfInBounds, h2]
  by_cases hik : i = k
  · subst hik
    have : j = 0 ∨ j = 1 ∨ j = 2 ∨ j = 3 := by omega
    rcases this with rfl | rfl | rfl | rfl
    · rw [if_neg (by omega), if_neg (by omega), if_neg (by omega), if_pos (by omega), if_pos (by omega)]
    · rw [if_neg (by omega), if_neg (by omega), if_pos (by omega), if_pos (by omega)]
    · rw [if_neg (by omega), if_pos (by omega), if_pos (by omega)]
    · rw [if_pos (by omega), if_pos (by omega)]
  · rw [if_neg (by omega), if_neg (by omega), if_neg (by omega), if_neg (by omega)]
    exact h3 i j (by omega) hj

set_option maxRecDepth 100000 in
theorem table_any (w : World) :
    Calls Try.prog 28 #[] w fun e w' => ∃ g, w.heap.size ≤ g ∧ e = .returned (.slice (some ⟨g, 0, none⟩) 256 256) ∧ TabAt w' g 256 ∧ Below w.heap.size w w' := by
  obtain ⟨cs, hcs, mk⟩ := make_tab
  go_enter Try.func28, Try.ntmps28
  go_wp2_with fail
  go_loopw [6] (fun i wr => ∃ k : Nat, k ≤ 256 ∧ i = .int .i64 k ∧ TabAt wr w.heap.size k ∧ Below w.heap.size w wr ∧ w.heap.size < wr.heap.size) (fun i _ => 256 - (intOf i).toNat)
  case atStart =>
    exact ⟨0, by omega, rfl, ⟨cs, heap_new _ _, hcs, fun i j hi => absurd hi (by omega)⟩, below_new (Below.refl _ _) _, by simp⟩
  case round =>
    obtain ⟨k, hk, rfl, htab, hbel, hsz⟩ := hrel
    by_cases hlt : k < 256
    · obtain ⟨⟨u0, c0⟩, f0⟩ := tab_cell htab (k * 4) (by omega)
      obtain ⟨⟨u1, c1⟩, f1⟩ := tab_cell htab (k * 4 + 1) (by omega)
      obtain ⟨⟨u2, c2⟩, f2⟩ := tab_cell htab (k * 4 + 2) (by omega)
      obtain ⟨⟨u3, c3⟩, f3⟩ := tab_cell htab (k * 4 + 3) (by omega)
      have HT := Lib.hid htab
      clear htab
      go_wp2_with fail
      refine (wcubic_any k (by omega) (by omega) _).mono ?_; rintro e w1 ⟨rfl, hb1⟩
      have hc1 := below_reads hb1
      go_wp2_with fail
      go_roundw
      case rel =>
        have z1 := hb1.size
        exact ⟨k + 1, by omega, by go_num, tab_step (tab_below HT.out hb1 hsz) hlt, below_set (below_set (below_set (below_set (below_next hbel hb1) (Nat.le_refl _) _) (Nat.le_refl _) _) (Nat.le_refl _) _) (Nat.le_refl _) _, by simp; omega⟩
      case measure => simp [intOf]; omega
    · obtain rfl : k = 256 := by omega
      have HT := Lib.hid htab
      clear htab
      go_wp2_with fail
      go_ret
      exact ⟨_, Nat.le_refl _, rfl, HT.out, hbel⟩

end Go.Proofs.Ytmipcahdmenpcaa
