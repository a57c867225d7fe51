/- Walks over the weights of four pixels (weight.cubic) and the document's (anamorphref27.Cubic): the same four polynomials. -/
import Derived.Test.YtnklbnphiokpiaaJA
import Derived.LoopN
import Derived.Test.YtnklbnphiokpiaaEqArr
set_option linter.unusedVariables false
namespace Go.Proofs.Ytnklbnphiokpiaa
open Go.RowKit

def cw0 (t : Int) : Int := -(t * t * t) + 512 * (t * t) - 65536 * t
def cw1 (t : Int) : Int := 3 * (t * t * t) - 1280 * (t * t) + 33554432
def cw2 (t : Int) : Int := -(3 * (t * t * t)) + 1024 * (t * t) + 65536 * t
def cw3 (t : Int) : Int := t * t * t - 256 * (t * t)

/-- The bounds of the products on the way. -/
theorem pow_bounds (t : Int) (h0 : 0 ≤ t) (h1 : t ≤ 256) : 0 ≤ t * t ∧ t * t ≤ 65536 ∧ 0 ≤ t * t * t ∧ t * t * t ≤ 16777216 := by
  have a : 0 ≤ t * t := Int.mul_nonneg h0 h0
  have b : t * t ≤ 256 * 256 := Int.mul_le_mul h1 h1 h0 (by omega)
  have c : 0 ≤ t * t * t := Int.mul_nonneg a h0
  have d : t * t * t ≤ 65536 * 256 := Int.mul_le_mul (by omega) h1 h0 (by omega)
  omega

theorem cw0_wrap {t x : Int} (h0 : 0 ≤ t) (h1 : t ≤ 256) (h : x = cw0 t) : wrap64 x = cw0 t := by
  obtain ⟨b1, b2, b3, b4⟩ := pow_bounds t h0 h1
  subst h; exact wr_in (by unfold cw0; omega) (by unfold cw0; omega)
theorem cw1_wrap {t x : Int} (h0 : 0 ≤ t) (h1 : t ≤ 256) (h : x = cw1 t) : wrap64 x = cw1 t := by
  obtain ⟨b1, b2, b3, b4⟩ := pow_bounds t h0 h1
  subst h; exact wr_in (by unfold cw1; omega) (by unfold cw1; omega)
theorem cw2_wrap {t x : Int} (h0 : 0 ≤ t) (h1 : t ≤ 256) (h : x = cw2 t) : wrap64 x = cw2 t := by
  obtain ⟨b1, b2, b3, b4⟩ := pow_bounds t h0 h1
  subst h; exact wr_in (by unfold cw2; omega) (by unfold cw2; omega)
theorem cw3_wrap {t x : Int} (h0 : 0 ≤ t) (h1 : t ≤ 256) (h : x = cw3 t) : wrap64 x = cw3 t := by
  obtain ⟨b1, b2, b3, b4⟩ := pow_bounds t h0 h1
  subst h; exact wr_in (by unfold cw3; omega) (by unfold cw3; omega)

theorem curve0 (t : Int) (h0 : 0 ≤ t) (h1 : t ≤ 256) (w : World) :
    Calls Try.prog 92 #[.agg #[.int .i64 (-1), .int .i64 2, .int .i64 (-1), .int .i64 0], .int .i64 t] w fun e w' => e = .returned (.int .i64 (cw0 t)) ∧ ∃ c : Array Value, w' = w.alloc (.cells c 121) := by
  go_enter Try.func92, Try.ntmps92
  go_wp2
  go_ret
  exact ⟨ret_int (by show wrap64 _ = _; simp only [wr_wr, wr_add_l, wr_mul_l]; exact cw0_wrap h0 h1 (by unfold cw0; grind)), _, rfl⟩
theorem curve1 (t : Int) (h0 : 0 ≤ t) (h1 : t ≤ 256) (w : World) :
    Calls Try.prog 92 #[.agg #[.int .i64 3, .int .i64 (-5), .int .i64 0, .int .i64 2], .int .i64 t] w fun e w' => e = .returned (.int .i64 (cw1 t)) ∧ ∃ c : Array Value, w' = w.alloc (.cells c 121) := by
  go_enter Try.func92, Try.ntmps92
  go_wp2
  go_ret
  exact ⟨ret_int (by show wrap64 _ = _; simp only [wr_wr, wr_add_l, wr_mul_l]; exact cw1_wrap h0 h1 (by unfold cw1; grind)), _, rfl⟩
theorem curve2 (t : Int) (h0 : 0 ≤ t) (h1 : t ≤ 256) (w : World) :
    Calls Try.prog 92 #[.agg #[.int .i64 (-3), .int .i64 4, .int .i64 1, .int .i64 0], .int .i64 t] w fun e w' => e = .returned (.int .i64 (cw2 t)) ∧ ∃ c : Array Value, w' = w.alloc (.cells c 121) := by
  go_enter Try.func92, Try.ntmps92
  go_wp2
  go_ret
  exact ⟨ret_int (by show wrap64 _ = _; simp only [wr_wr, wr_add_l, wr_mul_l]; exact cw2_wrap h0 h1 (by unfold cw2; grind)), _, rfl⟩
theorem curve3 (t : Int) (h0 : 0 ≤ t) (h1 : t ≤ 256) (w : World) :
    Calls Try.prog 92 #[.agg #[.int .i64 1, .int .i64 (-1), .int .i64 0, .int .i64 0], .int .i64 t] w fun e w' => e = .returned (.int .i64 (cw3 t)) ∧ ∃ c : Array Value, w' = w.alloc (.cells c 121) := by
  go_enter Try.func92, Try.ntmps92
  go_wp2
  go_ret
  exact ⟨ret_int (by show wrap64 _ = _; simp only [wr_wr, wr_mul_l]; exact cw3_wrap h0 h1 (by unfold cw3; grind)), _, rfl⟩

theorem curves_any (w : World) :
    Calls Try.prog 91 #[] w fun e w' => e = .returned (.agg #[.int .i64 (-1), .int .i64 2, .int .i64 (-1), .int .i64 0, .int .i64 3, .int .i64 (-5), .int .i64 0, .int .i64 2, .int .i64 (-3), .int .i64 4, .int .i64 1, .int .i64 0, .int .i64 1, .int .i64 (-1), .int .i64 0, .int .i64 0]) ∧ ∃ c : Array Value, w' = w.alloc (.cells c 122) := by
  go_enter Try.func91, Try.ntmps91
  go_wp2
  simp [bodyPost, results, Try.results91, go_sem]
  exact ⟨_, rfl⟩

def cvs : Value := .agg #[.int .i64 (-1), .int .i64 2, .int .i64 (-1), .int .i64 0, .int .i64 3, .int .i64 (-5), .int .i64 0, .int .i64 2, .int .i64 (-3), .int .i64 4, .int .i64 1, .int .i64 0, .int .i64 1, .int .i64 (-1), .int .i64 0, .int .i64 0]

set_option maxRecDepth 100000 in
theorem wcubic_any (t : Int) (h0 : 0 ≤ t) (h1 : t ≤ 256) (w : World) :
    Calls Try.prog 57 #[.int .i64 t] w fun e w' => e = .returned (.agg #[.int .i64 (cw0 t), .int .i64 (cw1 t), .int .i64 (cw2 t), .int .i64 (cw3 t)]) ∧ Below w.heap.size w w' := by
  have i0 : ∀ w, (Instr.index 122 (.agg #[.int .i64 (-1), .int .i64 2, .int .i64 (-1), .int .i64 0, .int .i64 3, .int .i64 (-5), .int .i64 0, .int .i64 2, .int .i64 (-3), .int .i64 4, .int .i64 1, .int .i64 0, .int .i64 1, .int .i64 (-1), .int .i64 0, .int .i64 0]) (.int .i64 0)).run Try.prog w = .ok (.agg #[.int .i64 (-1), .int .i64 2, .int .i64 (-1), .int .i64 0]) w := fun _ => by kernel_rfl
  have i1 : ∀ w, (Instr.index 122 (.agg #[.int .i64 (-1), .int .i64 2, .int .i64 (-1), .int .i64 0, .int .i64 3, .int .i64 (-5), .int .i64 0, .int .i64 2, .int .i64 (-3), .int .i64 4, .int .i64 1, .int .i64 0, .int .i64 1, .int .i64 (-1), .int .i64 0, .int .i64 0]) (.int .i64 1)).run Try.prog w = .ok (.agg #[.int .i64 3, .int .i64 (-5), .int .i64 0, .int .i64 2]) w := fun _ => by kernel_rfl
  have i2 : ∀ w, (Instr.index 122 (.agg #[.int .i64 (-1), .int .i64 2, .int .i64 (-1), .int .i64 0, .int .i64 3, .int .i64 (-5), .int .i64 0, .int .i64 2, .int .i64 (-3), .int .i64 4, .int .i64 1, .int .i64 0, .int .i64 1, .int .i64 (-1), .int .i64 0, .int .i64 0]) (.int .i64 2)).run Try.prog w = .ok (.agg #[.int .i64 (-3), .int .i64 4, .int .i64 1, .int .i64 0]) w := fun _ => by kernel_rfl
  have i3 : ∀ w, (Instr.index 122 (.agg #[.int .i64 (-1), .int .i64 2, .int .i64 (-1), .int .i64 0, .int .i64 3, .int .i64 (-5), .int .i64 0, .int .i64 2, .int .i64 (-3), .int .i64 4, .int .i64 1, .int .i64 0, .int .i64 1, .int .i64 (-1), .int .i64 0, .int .i64 0]) (.int .i64 3)).run Try.prog w = .ok (.agg #[.int .i64 1, .int .i64 (-1), .int .i64 0, .int .i64 0]) w := fun _ => by kernel_rfl
  go_enter Try.func57, Try.ntmps57
  go_wp2_with fail
  refine (curves_any _).mono ?_; rintro e w' ⟨rfl, c, rfl⟩
  go_wp2_with fail
  refine wp_loop_rounds 5 ?_
  rw [rounds_succ]
  go_wp2_with fail
  refine (curve0 t h0 h1 _).mono ?_; rintro e w' ⟨rfl, c0, rfl⟩
  go_wp2_with fail
  rw [rounds_succ]
  go_wp2_with fail
  refine (curve1 t h0 h1 _).mono ?_; rintro e w' ⟨rfl, c1, rfl⟩
  go_wp2_with fail
  rw [rounds_succ]
  go_wp2_with fail
  refine (curve2 t h0 h1 _).mono ?_; rintro e w' ⟨rfl, c2, rfl⟩
  go_wp2_with fail
  rw [rounds_succ]
  go_wp2_with fail
  refine (curve3 t h0 h1 _).mono ?_; rintro e w' ⟨rfl, c3, rfl⟩
  go_wp2_with fail
  rw [rounds_succ]
  go_wp2_with fail
  simp [bodyPost, results, Try.results57, go_sem]
  repeat (first | exact Below.refl _ _ | apply below_new)

theorem ints4 {a b c d a' b' c' d' : Int} (h1 : a = a') (h2 : b = b') (h3 : c = c') (h4 : d = d') :
    (#[.int .i64 a, .int .i64 b, .int .i64 c, .int .i64 d] : Array Value) = #[.int .i64 a', .int .i64 b', .int .i64 c', .int .i64 d'] := by rw [h1, h2, h3, h4]

theorem rcubic_any (t : Int) (h0 : 0 ≤ t) (h1 : t ≤ 256) (w : World) :
    Calls Try.prog 46 #[.int .i64 t] w fun e w' =>
      e = .returned (.slice (some ⟨w.heap.size, 0, none⟩) 4 4) ∧ w' = w.alloc (.cells #[.int .i64 (cw0 t), .int .i64 (cw1 t), .int .i64 (cw2 t), .int .i64 (cw3 t)] 2) := by
  go_enter Try.func46, Try.ntmps46
  go_wp2_with fail
  go_ret
  refine ⟨rfl, congrArg (fun c => w.alloc (.cells c 2)) (ints4 ?_ ?_ ?_ ?_)⟩
  · simp only [wr_add_l, wr_add_r, wr_mul_l, wr_sub_l]
    exact cw0_wrap h0 h1 (by unfold cw0; grind)
  · simp only [wr_add_l, wr_mul_l, wr_sub_l, wr_sub_r]
    exact cw1_wrap h0 h1 (by unfold cw1; grind)
  · simp only [wr_add_l, wr_add_r, wr_mul_l]
    exact cw2_wrap h0 h1 (by unfold cw2; grind)
  · simp only [wr_mul_l, wr_sub_l, wr_sub_r]
    exact cw3_wrap h0 h1 (by unfold cw3; grind)

theorem rlinear_any (f : Int) (h0 : 0 ≤ f) (h1 : f ≤ 65536) (w : World) :
    Calls Try.prog 54 #[.int .i64 f] w fun e w' =>
      e = .returned (.slice (some ⟨w.heap.size, 0, none⟩) 2 2) ∧ w' = w.alloc (.cells #[.int .i64 (65536 - f), .int .i64 f] 2) := by
  go_enter Try.func54, Try.ntmps54
  go_wp2_with fail
  go_ret
  exact ⟨rfl, rfl⟩

theorem wlinear_in (f : Int) (h0 : 0 ≤ f) (h1 : f ≤ 65536) (w : World) :
    Calls Try.prog 14 #[.int .i64 f] w fun e w' => e = .returned (.tuple #[.agg #[.int .i64 (65536 - f), .int .i64 f], .int .i64 0]) ∧ Below w.heap.size w w' := by
  go_enter Try.func14, Try.ntmps14
  go_wp2_with fail
  refine bodyPost_ret (v := .tuple #[.agg #[.int .i64 (65536 - f), .int .i64 f], .int .i64 0]) (by simp [results, Try.results14, go_sem]) rfl ⟨rfl, ?_⟩
  repeat (first | exact Below.refl _ _ | apply below_new)

theorem wlinear_out (f : Int) (h : f < 0 ∨ 65536 < f) (w : World) :
    Calls Try.prog 14 #[.int .i64 f] w fun e w' => e = .returned (.tuple #[.agg #[.int .i64 0, .int .i64 0], .int .i64 11]) ∧ Below w.heap.size w w' := by
  rcases h with h | h
  all_goals
    go_enter Try.func14, Try.ntmps14
    go_wp2_with fail
    refine bodyPost_ret (v := .tuple #[.agg #[.int .i64 0, .int .i64 0], .int .i64 11]) (by simp [results, Try.results14, go_sem]) rfl ⟨rfl, ?_⟩
    repeat (first | exact Below.refl _ _ | apply below_new)

theorem wCubic_in (t : Int) (h0 : 0 ≤ t) (h1 : t ≤ 256) (w : World) :
    Calls Try.prog 15 #[.int .i64 t] w fun e w' => e = .returned (.tuple #[.agg #[.int .i64 (cw0 t), .int .i64 (cw1 t), .int .i64 (cw2 t), .int .i64 (cw3 t)], .int .i64 0]) ∧ Below w.heap.size w w' := by
  go_enter Try.func15, Try.ntmps15
  go_wp2_with fail
  refine (wcubic_any t h0 h1 _).mono ?_; rintro e w1 ⟨rfl, hb1⟩
  have hc1 := below_reads hb1
  go_wp2_with fail
  refine bodyPost_ret (v := .tuple #[.agg #[.int .i64 (cw0 t), .int .i64 (cw1 t), .int .i64 (cw2 t), .int .i64 (cw3 t)], .int .i64 0]) (by simp [results, Try.results15, go_sem, hc1]) rfl ⟨rfl, ?_⟩
  repeat refine below_set ?_ (Nat.le_refl _) _
  exact below_next (below_new (Below.refl _ _) _) hb1

theorem wCubic_out (t : Int) (h : t < 0 ∨ 256 < t) (w : World) :
    Calls Try.prog 15 #[.int .i64 t] w fun e w' => e = .returned (.tuple #[.agg #[.int .i64 0, .int .i64 0, .int .i64 0, .int .i64 0], .int .i64 11]) ∧ Below w.heap.size w w' := by
  rcases h with h | h
  all_goals
    go_enter Try.func15, Try.ntmps15
    go_wp2_with fail
    refine bodyPost_ret (v := .tuple #[.agg #[.int .i64 0, .int .i64 0, .int .i64 0, .int .i64 0], .int .i64 11]) (by simp [results, Try.results15, go_sem]) rfl ⟨rfl, ?_⟩
    repeat (first | exact Below.refl _ _ | apply below_new)

theorem info_i64 : (Try.prog.info? 2).map (fun i => i.size) = some 1 := by kernel_rfl
theorem eq_arr2 (a b : Int) (w : World) : (Op.equalIn 10000 22 (.agg #[.int .i64 a, .int .i64 b]) (.agg #[.int .i64 a, .int .i64 b])).run Try.prog w = .ok true w := by
  obtain ⟨i, hi, hs⟩ := Option.map_eq_some_iff.1 info_i64
  exact run_eq_arr w [a, b] Try.underlying22 Try.underlying2 hi hs 9998
theorem eq_arr4 (a b c d : Int) (w : World) : (Op.equalIn 10000 26 (.agg #[.int .i64 a, .int .i64 b, .int .i64 c, .int .i64 d]) (.agg #[.int .i64 a, .int .i64 b, .int .i64 c, .int .i64 d])).run Try.prog w = .ok true w := by
  obtain ⟨i, hi, hs⟩ := Option.map_eq_some_iff.1 info_i64
  exact run_eq_arr w [a, b, c, d] Try.underlying26 Try.underlying2 hi hs 9998

set_option maxRecDepth 100000 in
theorem weight_alive (w : World) :
    Calls Try.prog 16 #[] w fun e w' => e = .returned (.bool true) ∧ Below w.heap.size w w' := by
  have C := Lib.hid (fun w => wCubic_in 0 (by omega) (by omega) w)
  have e1 : cw0 0 = 0 := by decide
  have e2 : cw1 0 = 33554432 := by decide
  have e3 : cw2 0 = 0 := by decide
  have e4 : cw3 0 = 0 := by decide
  rw [e1, e2, e3, e4] at C
  clear e1 e2 e3 e4
  go_enter Try.func16, Try.ntmps16
  go_wp2_with fail
  refine (wlinear_in 16384 (by omega) (by omega) _).mono ?_; rintro e w1 ⟨rfl, hb1⟩
  go_wp2_with fail
  refine (C.out _).mono ?_; rintro e w2 ⟨rfl, hb2⟩
  have hc2 := below_reads hb2
  have hz2 : w1.heap.size < w2.heap.size := by have := hb2.size; simp at this; omega
  have q2 := eq_arr2
  have q4 := eq_arr4
  go_wp2_with fail
  go_ret
  exact ⟨rfl, below_new (below_next (below_new hb1 _) hb2) _⟩

end Go.Proofs.Ytnklbnphiokpiaa
