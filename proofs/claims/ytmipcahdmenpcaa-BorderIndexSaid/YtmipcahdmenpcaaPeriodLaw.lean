/- The walk of BorderPeriod: behind a period the same thing stands again; a step leads to the thing itself or to one beside it. -/
import Derived.Test.YtmipcahdmenpcaaPeriod
set_option linter.unusedVariables false
namespace Go.Proofs.Ytmipcahdmenpcaa
open Go.RowKit

theorem border_alive (w : World) :
    Calls Try.prog 33 #[] w fun e w' => e = .returned (.bool true) ∧ Below w.heap.size w w' := by
  have e1 := Lib.hid (show bI 3 (-1) 3 = 0 from by decide)
  have e2 := Lib.hid (show bI 3 5 3 = 0 from by decide)
  have e3 := Lib.hid (show bI 2 (-1) 3 = 2 from by decide)
  have e4 := Lib.hid (show bOk 2 (-1) 3 = true from by decide)
  have c1 := fun w => (bindex_any 3 (-1) 3 ⟨by omega, by omega⟩ ⟨by omega, by omega⟩ ⟨by omega, by omega⟩ w)
  have c2 := fun w => (bindex_any 3 5 3 ⟨by omega, by omega⟩ ⟨by omega, by omega⟩ ⟨by omega, by omega⟩ w)
  have c3 := fun w => (bindex_any 2 (-1) 3 ⟨by omega, by omega⟩ ⟨by omega, by omega⟩ ⟨by omega, by omega⟩ w)
  simp only [e1.out, e2.out, e3.out, e4.out] at c1 c2 c3
  have C1 := Lib.hid c1; have C2 := Lib.hid c2; have C3 := Lib.hid c3
  clear c1 c2 c3 e1 e2 e3 e4
  go_enter Try.func33, Try.ntmps33
  go_wp2_with fail
  refine (C1.out _).mono ?_; rintro e w1 ⟨rfl, hb1⟩
  go_wp2_with fail
  refine (C2.out _).mono ?_; rintro e w2 ⟨rfl, hb2⟩
  go_wp2_with fail
  refine (C3.out _).mono ?_; rintro e w3 ⟨rfl, hb3⟩
  go_wp2_with fail
  go_ret
  exact ⟨rfl, hb1.trans ((hb2.mono hb1.size).trans (hb3.mono (Nat.le_trans hb1.size hb2.size)))⟩

theorem bP_bounds (mode n : Int) (h1 : 1 ≤ n) (h2 : n ≤ 2147483648) : 0 ≤ bP mode n ∧ bP mode n ≤ 4294967296 := by
  unfold bP; split
  · omega
  · split <;> omega

/-- A quarter of a million times a period has room. -/
theorem times_bounds (times p : Int) (t1 : -32768 ≤ times) (t2 : times ≤ 32767) (p1 : 0 ≤ p) (p2 : p ≤ 4294967296) : -140737488355328 ≤ times * p ∧ times * p ≤ 140737488355328 := by
  constructor
  · have h : -32768 * p ≤ times * p := Int.mul_le_mul_of_nonneg_right t1 p1
    omega
  · have h : times * p ≤ 32767 * p := Int.mul_le_mul_of_nonneg_right t2 p1
    omega

theorem borderPeriod_out (mode i n times : Int) (hm : I64 mode) (i1 : -2147483648 ≤ i) (i2 : i ≤ 2147483647) (c : n < 1 ∨ 2147483648 < n) (w : World) :
    Calls Try.prog 8 #[.agg #[.int .i64 mode, .int .i32 i, .int .i64 n, .int .i16 times]] w fun e w' => e = .returned (.bool true) ∧ Below w.heap.size w w' := by
  cases e2 : (mode == 2)
  all_goals
    cases e3 : (mode == 3)
    all_goals
      rcases c with c | c
      all_goals
        go_enter Try.func8, Try.ntmps8
        go_wp2_with fail
        go_quiet (fail)
        go_wp2_with (first | (go_at_call 34; refine (period_out _ _ (by omega) _).mono ?_; rintro e w' ⟨rfl, rfl⟩) | (go_at_call 33; refine (border_alive _).mono ?_; rintro e w1 ⟨rfl, hb1⟩))
        go_ret
        exact ⟨rfl, (below_drawn ((Below.refl _ _).alloc (Nat.le_refl _) _) _).trans (hb1.mono (by simp))⟩

theorem borderPeriod_1 (i n times : Int) (i1 : -2147483648 ≤ i) (i2 : i ≤ 2147483647) (t1 : -32768 ≤ times) (t2 : times ≤ 32767) (n1 : 1 ≤ n) (n2 : n ≤ 2147483648) (w : World) :
    Calls Try.prog 8 #[.agg #[.int .i64 1, .int .i32 i, .int .i64 n, .int .i16 times]] w fun e w' => e = .returned (.bool true) ∧ Below w.heap.size w w' := by
  have HP : Hid (bP 1 n = 0) := rfl
  have P : ∀ w, Calls Try.prog 34 #[.int .i64 1, .int .i64 n] w fun e w' => e = .returned (.int .i64 (0)) ∧ w = w' := fun w => by rw [← HP.out]; exact period_in 1 n ⟨by omega, by omega⟩ n1 n2 w
  have C1 := Lib.hid (fun w => bindex_any 1 i n ⟨by omega, by omega⟩ ⟨by omega, by omega⟩ ⟨by omega, by omega⟩ w)
  have C3 := Lib.hid (fun w => bindex_any 1 (i + 1) n ⟨by omega, by omega⟩ ⟨by omega, by omega⟩ ⟨by omega, by omega⟩ w)
  have P' := Lib.hid P
  clear P
  obtain ⟨s1, s2⟩ := bI_step 1 i n n1 (by omega)
  obtain ⟨x1, x2⟩ := @bI_bounds 1 i n n1
  obtain ⟨y1, y2⟩ := @bI_bounds 1 (i + 1) n n1
  have o1 : bOk 1 i n = true := bOk_t (by omega)
  have o2 : bOk 1 (i + 1) n = true := bOk_t (by omega)
  rw [o1] at C1
  rw [o2] at C3
  clear o1 o2
  go_enter Try.func8, Try.ntmps8
  go_wp2_with fail
  go_quiet (fail)
  go_wp2_with fail
  refine (P'.out _).mono ?_; rintro e w' ⟨rfl, rfl⟩
  go_wp2_with fail
  refine (C1.out _).mono ?_; rintro e w1 ⟨rfl, hb1⟩
  go_wp2_with fail
  refine (C1.out _).mono ?_; rintro e w2 ⟨rfl, hb2⟩
  go_wp2_with fail
  refine (C3.out _).mono ?_; rintro e w3 ⟨rfl, hb3⟩
  go_wp2_with fail
  refine (border_alive _).mono ?_; rintro e w4 ⟨rfl, hb4⟩
  go_wp2_with fail
  go_ret
  have z0 : w.heap.size ≤ w1.heap.size := by have := hb1.size; simp at this; omega
  have z1 := hb2.size
  have z2 := hb3.size
  exact ⟨rfl, (((((below_drawn ((Below.refl _ _).alloc (Nat.le_refl _) _) _).trans (hb1.mono (by simp))).trans (hb2.mono (by omega))).trans (hb3.mono (by omega))).trans (hb4.mono (by omega)))⟩

theorem borderPeriod_2 (i n times : Int) (i1 : -2147483648 ≤ i) (i2 : i ≤ 2147483647) (t1 : -32768 ≤ times) (t2 : times ≤ 32767) (n1 : 1 ≤ n) (n2 : n ≤ 2147483648) (w : World) :
    Calls Try.prog 8 #[.agg #[.int .i64 2, .int .i32 i, .int .i64 n, .int .i16 times]] w fun e w' => e = .returned (.bool true) ∧ Below w.heap.size w w' := by
  have HP : Hid (bP 2 n = n) := rfl
  have P : ∀ w, Calls Try.prog 34 #[.int .i64 2, .int .i64 n] w fun e w' => e = .returned (.int .i64 (n)) ∧ w = w' := fun w => by rw [← HP.out]; exact period_in 2 n ⟨by omega, by omega⟩ n1 n2 w
  have C1 := Lib.hid (fun w => bindex_any 2 i n ⟨by omega, by omega⟩ ⟨by omega, by omega⟩ ⟨by omega, by omega⟩ w)
  obtain ⟨q1, q2⟩ := times_bounds times (n) t1 t2 (by omega) (by omega)
  have C2 : Hid (∀ w, Calls Try.prog 30 #[.int .i64 2, .int .i64 (i + times * (n)), .int .i64 n] w fun e w' => e = .returned (.tuple #[.int .i64 (bI 2 i n), .bool (bOk 2 i n)]) ∧ Below w.heap.size w w') := fun w => by
    rw [← bI_period 2 i times n n1, ← bOk_period 2 i times n, HP.out]
    exact bindex_any 2 _ n ⟨by omega, by omega⟩ ⟨by omega, by omega⟩ ⟨by omega, by omega⟩ w
  have C3 := Lib.hid (fun w => bindex_any 2 (i + 1) n ⟨by omega, by omega⟩ ⟨by omega, by omega⟩ ⟨by omega, by omega⟩ w)
  have P' := Lib.hid P
  clear P
  go_enter Try.func8, Try.ntmps8
  go_wp2_with fail
  go_quiet (fail)
  go_wp2_with fail
  refine (P'.out _).mono ?_; rintro e w' ⟨rfl, rfl⟩
  go_wp2_with fail
  refine (C1.out _).mono ?_; rintro e w1 ⟨rfl, hb1⟩
  go_wp2_with fail
  refine (C2.out _).mono ?_; rintro e w2 ⟨rfl, hb2⟩
  go_wp2_with fail
  refine (C3.out _).mono ?_; rintro e w3 ⟨rfl, hb3⟩
  go_wp2_with fail
  refine (border_alive _).mono ?_; rintro e w4 ⟨rfl, hb4⟩
  go_wp2_with fail
  go_ret
  have z0 : w.heap.size ≤ w1.heap.size := by have := hb1.size; simp at this; omega
  have z1 := hb2.size
  have z2 := hb3.size
  exact ⟨rfl, (((((below_drawn ((Below.refl _ _).alloc (Nat.le_refl _) _) _).trans (hb1.mono (by simp))).trans (hb2.mono (by omega))).trans (hb3.mono (by omega))).trans (hb4.mono (by omega)))⟩

theorem borderPeriod_3 (i n times : Int) (i1 : -2147483648 ≤ i) (i2 : i ≤ 2147483647) (t1 : -32768 ≤ times) (t2 : times ≤ 32767) (n1 : 1 ≤ n) (n2 : n ≤ 2147483648) (w : World) :
    Calls Try.prog 8 #[.agg #[.int .i64 3, .int .i32 i, .int .i64 n, .int .i16 times]] w fun e w' => e = .returned (.bool true) ∧ Below w.heap.size w w' := by
  have HP : Hid (bP 3 n = 2 * n) := rfl
  have P : ∀ w, Calls Try.prog 34 #[.int .i64 3, .int .i64 n] w fun e w' => e = .returned (.int .i64 (2 * n)) ∧ w = w' := fun w => by rw [← HP.out]; exact period_in 3 n ⟨by omega, by omega⟩ n1 n2 w
  have C1 := Lib.hid (fun w => bindex_any 3 i n ⟨by omega, by omega⟩ ⟨by omega, by omega⟩ ⟨by omega, by omega⟩ w)
  obtain ⟨q1, q2⟩ := times_bounds times (2 * n) t1 t2 (by omega) (by omega)
  have C2 : Hid (∀ w, Calls Try.prog 30 #[.int .i64 3, .int .i64 (i + times * (2 * n)), .int .i64 n] w fun e w' => e = .returned (.tuple #[.int .i64 (bI 3 i n), .bool (bOk 3 i n)]) ∧ Below w.heap.size w w') := fun w => by
    rw [← bI_period 3 i times n n1, ← bOk_period 3 i times n, HP.out]
    exact bindex_any 3 _ n ⟨by omega, by omega⟩ ⟨by omega, by omega⟩ ⟨by omega, by omega⟩ w
  have C3 := Lib.hid (fun w => bindex_any 3 (i + 1) n ⟨by omega, by omega⟩ ⟨by omega, by omega⟩ ⟨by omega, by omega⟩ w)
  have P' := Lib.hid P
  clear P
  obtain ⟨s1, s2⟩ := bI_step 3 i n n1 (by omega)
  obtain ⟨x1, x2⟩ := @bI_bounds 3 i n n1
  obtain ⟨y1, y2⟩ := @bI_bounds 3 (i + 1) n n1
  have o1 : bOk 3 i n = true := bOk_t (by omega)
  have o2 : bOk 3 (i + 1) n = true := bOk_t (by omega)
  rw [o1] at C1 C2
  rw [o2] at C3
  clear o1 o2
  go_enter Try.func8, Try.ntmps8
  go_wp2_with fail
  go_quiet (fail)
  go_wp2_with fail
  refine (P'.out _).mono ?_; rintro e w' ⟨rfl, rfl⟩
  go_wp2_with fail
  refine (C1.out _).mono ?_; rintro e w1 ⟨rfl, hb1⟩
  go_wp2_with fail
  refine (C2.out _).mono ?_; rintro e w2 ⟨rfl, hb2⟩
  go_wp2_with fail
  refine (C3.out _).mono ?_; rintro e w3 ⟨rfl, hb3⟩
  go_wp2_with fail
  refine (border_alive _).mono ?_; rintro e w4 ⟨rfl, hb4⟩
  go_wp2_with fail
  go_ret
  have z0 : w.heap.size ≤ w1.heap.size := by have := hb1.size; simp at this; omega
  have z1 := hb2.size
  have z2 := hb3.size
  exact ⟨rfl, (((((below_drawn ((Below.refl _ _).alloc (Nat.le_refl _) _) _).trans (hb1.mono (by simp))).trans (hb2.mono (by omega))).trans (hb3.mono (by omega))).trans (hb4.mono (by omega)))⟩

theorem borderPeriod_x (mode i n times : Int) (i1 : -2147483648 ≤ i) (i2 : i ≤ 2147483647) (t1 : -32768 ≤ times) (t2 : times ≤ 32767) (n1 : 1 ≤ n) (n2 : n ≤ 2147483648) (hm : I64 mode) (e1 : (mode == 1) = false) (e2 : (mode == 2) = false) (e3 : (mode == 3) = false) (w : World) :
    Calls Try.prog 8 #[.agg #[.int .i64 mode, .int .i32 i, .int .i64 n, .int .i16 times]] w fun e w' => e = .returned (.bool true) ∧ Below w.heap.size w w' := by
  have HP : Hid (bP mode n = 0) := by unfold bP; rw [if_neg (by simpa using e2), if_neg (by simpa using e3)]; rfl
  have P : ∀ w, Calls Try.prog 34 #[.int .i64 mode, .int .i64 n] w fun e w' => e = .returned (.int .i64 (0)) ∧ w = w' := fun w => by rw [← HP.out]; exact period_in mode n hm n1 n2 w
  have C1 := Lib.hid (fun w => bindex_any mode i n hm ⟨by omega, by omega⟩ ⟨by omega, by omega⟩ w)
  have C3 := Lib.hid (fun w => bindex_any mode (i + 1) n hm ⟨by omega, by omega⟩ ⟨by omega, by omega⟩ w)
  have P' := Lib.hid P
  clear P
  go_enter Try.func8, Try.ntmps8
  go_wp2_with fail
  go_quiet (fail)
  go_wp2_with fail
  refine (P'.out _).mono ?_; rintro e w' ⟨rfl, rfl⟩
  go_wp2_with fail
  refine (C1.out _).mono ?_; rintro e w1 ⟨rfl, hb1⟩
  go_wp2_with fail
  refine (C1.out _).mono ?_; rintro e w2 ⟨rfl, hb2⟩
  go_wp2_with fail
  refine (C3.out _).mono ?_; rintro e w3 ⟨rfl, hb3⟩
  go_wp2_with fail
  refine (border_alive _).mono ?_; rintro e w4 ⟨rfl, hb4⟩
  go_wp2_with fail
  go_ret
  have z0 : w.heap.size ≤ w1.heap.size := by have := hb1.size; simp at this; omega
  have z1 := hb2.size
  have z2 := hb3.size
  exact ⟨rfl, (((((below_drawn ((Below.refl _ _).alloc (Nat.le_refl _) _) _).trans (hb1.mono (by simp))).trans (hb2.mono (by omega))).trans (hb3.mono (by omega))).trans (hb4.mono (by omega)))⟩

theorem borderPeriod_any (mode i n times : Int) (hm : I64 mode) (hi : -2147483648 ≤ i ∧ i ≤ 2147483647) (hn : I64 n) (ht : -32768 ≤ times ∧ times ≤ 32767) (w : World) :
    Calls Try.prog 8 #[.agg #[.int .i64 mode, .int .i32 i, .int .i64 n, .int .i16 times]] w fun e w' => e = .returned (.bool true) ∧ Below w.heap.size w w' := by
  obtain ⟨i1, i2⟩ := hi
  obtain ⟨t1, t2⟩ := ht
  by_cases c : n < 1 ∨ 2147483648 < n
  · exact borderPeriod_out mode i n times hm i1 i2 c w
  · have n1 : 1 ≤ n := by omega
    have n2 : n ≤ 2147483648 := by omega
    clear c
    cases e1 : (mode == 1)
    · cases e2 : (mode == 2)
      · cases e3 : (mode == 3)
        · exact borderPeriod_x mode i n times i1 i2 t1 t2 n1 n2 hm e1 e2 e3 w
        · obtain rfl : mode = 3 := by simpa using e3
          exact borderPeriod_3 i n times i1 i2 t1 t2 n1 n2 w
      · obtain rfl : mode = 2 := by simpa using e2
        exact borderPeriod_2 i n times i1 i2 t1 t2 n1 n2 w
    · obtain rfl : mode = 1 := by simpa using e1
      exact borderPeriod_1 i n times i1 i2 t1 t2 n1 n2 w

end Go.Proofs.Ytmipcahdmenpcaa
