/- The walk of WeightTells. -/
import Derived.Test.YtmipcahdmenpcaaWTable
set_option linter.unusedVariables false
namespace Go.Proofs.Ytmipcahdmenpcaa
open Go.RowKit

theorem tab_val {w : World} {g : Nat} (h : TabAt w g 256) (k j : Nat) (hk : k < 256) (hj : j < 4) : w.cell? ⟨g, k * 4 + j, none⟩ = some (cwv k j) := by
  obtain ⟨cs, h1, h2, h3⟩ := h
  rw [cell_of_row w g _ cs _ _ h1]
  exact h3 k j hk hj
theorem tab_lt {w : World} {g k : Nat} (h : TabAt w g k) : g < w.heap.size := by
  obtain ⟨cs, h1, _⟩ := h
  exact (Array.getElem?_eq_some_iff.1 h1).1

set_option maxRecDepth 100000 in
set_option maxHeartbeats 1000000 in
theorem weightTells_ii (f t : Int) (f0 : 0 ≤ f) (f1 : f ≤ 65536) (t0 : 0 ≤ t) (t1 : t ≤ 256) (w : World) :
    Calls Try.prog 6 #[.int .i64 f, .int .i64 t] w fun e w' => e = .returned (.bool true) ∧ Below w.heap.size w w' := by
  have q2 := eq_arr2
  have q4 := eq_arr4
  go_enter Try.func6, Try.ntmps6
  go_wp2_with fail
  refine (wlinear_in f f0 f1 _).mono ?_; rintro e w1 ⟨rfl, hb1⟩
  go_wp2_with fail
  refine (wCubic_in t t0 t1 _).mono ?_; rintro e w2 ⟨rfl, hb2⟩
  obtain ⟨hc2, hf2⟩ := below_reads hb2
  have hz2 : w1.heap.size < w2.heap.size := by have := hb2.size; simp at this; omega
  go_wp2_with fail
  refine (rlinear_any f f0 f1 _).mono ?_; rintro e w' ⟨rfl, rfl⟩
  go_wp2_with fail
  go_quiet (fail)
  go_wp2_with fail
  refine (rcubic_any t t0 t1 _).mono ?_; rintro e w' ⟨rfl, rfl⟩
  go_wp2_with fail
  go_quiet (fail)
  go_wp2_with fail
  refine (table_any _).mono ?_; rintro e w3 ⟨g, hg, rfl, htab, hb3⟩
  have HT := Lib.hid htab
  have hB : Below w.heap.size w w3 := by
    refine below_next ?_ hb3
    repeat (first | exact below_next (below_new hb1 _) hb2 | apply below_new | apply below_drawn)
  clear htab hg hb1 hb2 hb3 hc2 hf2 hz2
  go_wp2_with fail
  go_loopw [12] (fun i wr => ∃ k : Nat, k ≤ 256 ∧ i = .int .i64 k ∧ TabAt wr g 256 ∧ Below w.heap.size w wr) (fun i _ => 256 - (intOf i).toNat)
  case atStart => exact ⟨0, by omega, rfl, HT.out, hB⟩
  case round =>
    obtain ⟨k, hk, rfl, htab, hbel⟩ := hrel
    by_cases hlt : k < 256
    · have c0 := tab_val htab k 0 hlt (by omega)
      have c1 := tab_val htab k 1 hlt (by omega)
      have c2 := tab_val htab k 2 hlt (by omega)
      have c3 := tab_val htab k 3 hlt (by omega)
      simp only [cwv, Nat.add_zero] at c0 c1 c2 c3
      have hgl := tab_lt htab
      have HR := Lib.hid htab
      clear htab
      go_wp2_with fail
      refine (rcubic_any k (by omega) (by omega) _).mono ?_; rintro e w' ⟨rfl, rfl⟩
      go_wp2_with fail
      go_quiet (fail)
      go_wp2_with fail
      go_roundw
      case rel => exact ⟨k + 1, by omega, by go_num, tab_below HR.out (below_drawn (below_new (Below.refl _ _) _) _) hgl, below_next hbel (below_drawn (below_new (Below.refl _ _) _) _)⟩
      case measure => simp [intOf]; omega
    · obtain rfl : k = 256 := by omega
      clear htab
      go_wp2_with fail
      refine (weight_alive _).mono ?_; rintro e w4 ⟨rfl, hb4⟩
      go_wp2_with fail
      go_ret
      exact ⟨rfl, below_next hbel hb4⟩

set_option maxRecDepth 100000 in
set_option maxHeartbeats 1000000 in
theorem weightTells_io (f t : Int) (f0 : 0 ≤ f) (f1 : f ≤ 65536) (t0 : t < 0 ∨ 256 < t) (w : World) :
    Calls Try.prog 6 #[.int .i64 f, .int .i64 t] w fun e w' => e = .returned (.bool true) ∧ Below w.heap.size w w' := by
  have q2 := eq_arr2
  have q4 := eq_arr4
  have FC := Lib.hid (fun w => wCubic_out t t0 w)
  rcases t0 with t0 | t0
  all_goals
    go_enter Try.func6, Try.ntmps6
    go_wp2_with fail
    refine (wlinear_in f f0 f1 _).mono ?_; rintro e w1 ⟨rfl, hb1⟩
    go_wp2_with fail
    refine (FC.out _).mono ?_; rintro e w2 ⟨rfl, hb2⟩
    obtain ⟨hc2, hf2⟩ := below_reads hb2
    have hz2 : w1.heap.size < w2.heap.size := by have := hb2.size; simp at this; omega
    go_wp2_with fail
    refine (rlinear_any f f0 f1 _).mono ?_; rintro e w' ⟨rfl, rfl⟩
    go_wp2_with fail
    go_quiet (fail)
    go_wp2_with fail
    refine (table_any _).mono ?_; rintro e w3 ⟨g, hg, rfl, htab, hb3⟩
    have HT := Lib.hid htab
    have hB : Below w.heap.size w w3 := by
      refine below_next ?_ hb3
      repeat (first | exact below_next (below_new hb1 _) hb2 | apply below_new | apply below_drawn)
    clear htab hg hb1 hb2 hb3 hc2 hf2 hz2
    go_wp2_with fail
    go_loopw [12] (fun i wr => ∃ k : Nat, k ≤ 256 ∧ i = .int .i64 k ∧ TabAt wr g 256 ∧ Below w.heap.size w wr) (fun i _ => 256 - (intOf i).toNat)
    case atStart => exact ⟨0, by omega, rfl, HT.out, hB⟩
    case round =>
      obtain ⟨k, hk, rfl, htab, hbel⟩ := hrel
      by_cases hlt : k < 256
      · have c0 := tab_val htab k 0 hlt (by omega)
        have c1 := tab_val htab k 1 hlt (by omega)
        have c2 := tab_val htab k 2 hlt (by omega)
        have c3 := tab_val htab k 3 hlt (by omega)
        simp only [cwv, Nat.add_zero] at c0 c1 c2 c3
        have hgl := tab_lt htab
        have HR := Lib.hid htab
        clear htab
        go_wp2_with fail
        refine (rcubic_any k (by omega) (by omega) _).mono ?_; rintro e w' ⟨rfl, rfl⟩
        go_wp2_with fail
        go_quiet (fail)
        go_wp2_with fail
        go_roundw
        case rel => exact ⟨k + 1, by omega, by go_num, tab_below HR.out (below_drawn (below_new (Below.refl _ _) _) _) hgl, below_next hbel (below_drawn (below_new (Below.refl _ _) _) _)⟩
        case measure => simp [intOf]; omega
      · obtain rfl : k = 256 := by omega
        clear htab
        go_wp2_with fail
        refine (weight_alive _).mono ?_; rintro e w4 ⟨rfl, hb4⟩
        go_wp2_with fail
        go_ret
        exact ⟨rfl, below_next hbel hb4⟩

set_option maxRecDepth 100000 in
set_option maxHeartbeats 1000000 in
theorem weightTells_oi (f t : Int) (f0 : f < 0 ∨ 65536 < f) (t0 : 0 ≤ t) (t1 : t ≤ 256) (w : World) :
    Calls Try.prog 6 #[.int .i64 f, .int .i64 t] w fun e w' => e = .returned (.bool true) ∧ Below w.heap.size w w' := by
  have q2 := eq_arr2
  have q4 := eq_arr4
  have FL := Lib.hid (fun w => wlinear_out f f0 w)
  rcases f0 with f0 | f0
  all_goals
    go_enter Try.func6, Try.ntmps6
    go_wp2_with fail
    refine (FL.out _).mono ?_; rintro e w1 ⟨rfl, hb1⟩
    go_wp2_with fail
    refine (wCubic_in t t0 t1 _).mono ?_; rintro e w2 ⟨rfl, hb2⟩
    obtain ⟨hc2, hf2⟩ := below_reads hb2
    have hz2 : w1.heap.size < w2.heap.size := by have := hb2.size; simp at this; omega
    go_wp2_with fail
    refine (rcubic_any t t0 t1 _).mono ?_; rintro e w' ⟨rfl, rfl⟩
    go_wp2_with fail
    go_quiet (fail)
    go_wp2_with fail
    refine (table_any _).mono ?_; rintro e w3 ⟨g, hg, rfl, htab, hb3⟩
    have HT := Lib.hid htab
    have hB : Below w.heap.size w w3 := by
      refine below_next ?_ hb3
      repeat (first | exact below_next (below_new hb1 _) hb2 | apply below_new | apply below_drawn)
    clear htab hg hb1 hb2 hb3 hc2 hf2 hz2
    go_wp2_with fail
    go_loopw [12] (fun i wr => ∃ k : Nat, k ≤ 256 ∧ i = .int .i64 k ∧ TabAt wr g 256 ∧ Below w.heap.size w wr) (fun i _ => 256 - (intOf i).toNat)
    case atStart => exact ⟨0, by omega, rfl, HT.out, hB⟩
    case round =>
      obtain ⟨k, hk, rfl, htab, hbel⟩ := hrel
      by_cases hlt : k < 256
      · have c0 := tab_val htab k 0 hlt (by omega)
        have c1 := tab_val htab k 1 hlt (by omega)
        have c2 := tab_val htab k 2 hlt (by omega)
        have c3 := tab_val htab k 3 hlt (by omega)
        simp only [cwv, Nat.add_zero] at c0 c1 c2 c3
        have hgl := tab_lt htab
        have HR := Lib.hid htab
        clear htab
        go_wp2_with fail
        refine (rcubic_any k (by omega) (by omega) _).mono ?_; rintro e w' ⟨rfl, rfl⟩
        go_wp2_with fail
        go_quiet (fail)
        go_wp2_with fail
        go_roundw
        case rel => exact ⟨k + 1, by omega, by go_num, tab_below HR.out (below_drawn (below_new (Below.refl _ _) _) _) hgl, below_next hbel (below_drawn (below_new (Below.refl _ _) _) _)⟩
        case measure => simp [intOf]; omega
      · obtain rfl : k = 256 := by omega
        clear htab
        go_wp2_with fail
        refine (weight_alive _).mono ?_; rintro e w4 ⟨rfl, hb4⟩
        go_wp2_with fail
        go_ret
        exact ⟨rfl, below_next hbel hb4⟩

set_option maxRecDepth 100000 in
set_option maxHeartbeats 1000000 in
theorem weightTells_oo (f t : Int) (f0 : f < 0 ∨ 65536 < f) (t0 : t < 0 ∨ 256 < t) (w : World) :
    Calls Try.prog 6 #[.int .i64 f, .int .i64 t] w fun e w' => e = .returned (.bool true) ∧ Below w.heap.size w w' := by
  have q2 := eq_arr2
  have q4 := eq_arr4
  have FL := Lib.hid (fun w => wlinear_out f f0 w)
  have FC := Lib.hid (fun w => wCubic_out t t0 w)
  rcases f0 with f0 | f0
  all_goals
    rcases t0 with t0 | t0
    all_goals
      go_enter Try.func6, Try.ntmps6
      go_wp2_with fail
      refine (FL.out _).mono ?_; rintro e w1 ⟨rfl, hb1⟩
      go_wp2_with fail
      refine (FC.out _).mono ?_; rintro e w2 ⟨rfl, hb2⟩
      obtain ⟨hc2, hf2⟩ := below_reads hb2
      have hz2 : w1.heap.size < w2.heap.size := by have := hb2.size; simp at this; omega
      go_wp2_with fail
      refine (table_any _).mono ?_; rintro e w3 ⟨g, hg, rfl, htab, hb3⟩
      have HT := Lib.hid htab
      have hB : Below w.heap.size w w3 := by
        refine below_next ?_ hb3
        repeat (first | exact below_next (below_new hb1 _) hb2 | apply below_new | apply below_drawn)
      clear htab hg hb1 hb2 hb3 hc2 hf2 hz2
      go_wp2_with fail
      go_loopw [12] (fun i wr => ∃ k : Nat, k ≤ 256 ∧ i = .int .i64 k ∧ TabAt wr g 256 ∧ Below w.heap.size w wr) (fun i _ => 256 - (intOf i).toNat)
      case atStart => exact ⟨0, by omega, rfl, HT.out, hB⟩
      case round =>
        obtain ⟨k, hk, rfl, htab, hbel⟩ := hrel
        by_cases hlt : k < 256
        · have c0 := tab_val htab k 0 hlt (by omega)
          have c1 := tab_val htab k 1 hlt (by omega)
          have c2 := tab_val htab k 2 hlt (by omega)
          have c3 := tab_val htab k 3 hlt (by omega)
          simp only [cwv, Nat.add_zero] at c0 c1 c2 c3
          have hgl := tab_lt htab
          have HR := Lib.hid htab
          clear htab
          go_wp2_with fail
          refine (rcubic_any k (by omega) (by omega) _).mono ?_; rintro e w' ⟨rfl, rfl⟩
          go_wp2_with fail
          go_quiet (fail)
          go_wp2_with fail
          go_roundw
          case rel => exact ⟨k + 1, by omega, by go_num, tab_below HR.out (below_drawn (below_new (Below.refl _ _) _) _) hgl, below_next hbel (below_drawn (below_new (Below.refl _ _) _) _)⟩
          case measure => simp [intOf]; omega
        · obtain rfl : k = 256 := by omega
          clear htab
          go_wp2_with fail
          refine (weight_alive _).mono ?_; rintro e w4 ⟨rfl, hb4⟩
          go_wp2_with fail
          go_ret
          exact ⟨rfl, below_next hbel hb4⟩

theorem weightTells_any (f t : Int) (w : World) :
    Calls Try.prog 6 #[.int .i64 f, .int .i64 t] w fun e w' => e = .returned (.bool true) ∧ Below w.heap.size w w' := by
  by_cases hf : 0 ≤ f ∧ f ≤ 65536
  · by_cases ht : 0 ≤ t ∧ t ≤ 256
    · exact weightTells_ii f t hf.1 hf.2 ht.1 ht.2 w
    · exact weightTells_io f t hf.1 hf.2 (by omega) w
  · by_cases ht : 0 ≤ t ∧ t ≤ 256
    · exact weightTells_oi f t (by omega) ht.1 ht.2 w
    · exact weightTells_oo f t (by omega) (by omega) w

end Go.Proofs.Ytmipcahdmenpcaa
