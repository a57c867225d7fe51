/- The walk of BorderPeriod: behind a period the same thing stands again; a step leads to the thing itself or to one beside it. -/
import Derived.Test.YtnklbnphiokpiaaPeriod
set_option linter.unusedVariables false
namespace Go.Proofs.Ytnklbnphiokpiaa
open Go.RowKit

theorem border_alive (w : World) :
    Calls Try.prog 40 #[] w fun e w' => e = .returned (.bool true) ∧ Below w.heap.size w w' := by
  have e1 := Lib.hid (show bI 3 (-1) 3 = 0 from by decide)
  have e2 := Lib.hid (show bI 3 5 3 = 0 from by decide)
  have e3 := Lib.hid (show bI 2 (-1) 3 = 2 from by decide)
  have e4 := Lib.hid (show bOk 2 (-1) 3 = true from by decide)
  have c1 := fun w => (bindex_any 3 (-1) 3 ⟨by omega, by omega⟩ ⟨by omega, by omega⟩ ⟨by omega, by omega⟩ w)
  have c2 := fun w => (bindex_any 3 5 3 ⟨by omega, by omega⟩ ⟨by omega, by omega⟩ ⟨by omega, by omega⟩ w)
  have c3 := fun w => (bindex_any 2 (-1) 3 ⟨by omega, by omega⟩ ⟨by omega, by omega⟩ ⟨by omega, by omega⟩ w)
  simp only [e1.out, e2.out, e3.out, e4.out] at c1 c2 c3
  have C1 := Lib.hid c1; have C2 := Lib.hid c2; have C3 := Lib.hid c3
  clear c1 c2 c3 e1 e2 e3 e4
  go_enter Try.func40, Try.ntmps40
  go_wp2_with fail
  refine (C1.out _).mono ?_; rintro e w1 ⟨rfl, hb1⟩
  go_wp2_with fail
  refine (C2.out _).mono ?_; rintro e w2 ⟨rfl, hb2⟩
  go_wp2_with fail
  refine (C3.out _).mono ?_; rintro e w3 ⟨rfl, hb3⟩
  go_wp2_with fail
  go_ret
  exact ⟨rfl, hb1.trans ((hb2.mono hb1.size).trans (hb3.mono (Nat.le_trans hb1.size hb2.size)))⟩

theorem bP_bounds (mode n : Int) (h1 : 1 ≤ n) (h2 : n ≤ 2147483648) : 0 ≤ bP mode n ∧ bP mode n ≤ 4294967296 := by
  unfold bP; split
  · omega
  · split <;> omega

/-- A quarter of a million times a period has room. -/
theorem times_bounds (times p : Int) (t1 : -32768 ≤ times) (t2 : times ≤ 32767) (p1 : 0 ≤ p) (p2 : p ≤ 4294967296) : -140737488355328 ≤ times * p ∧ times * p ≤ 140737488355328 := by
  constructor
  · have h : -32768 * p ≤ times * p := Int.mul_le_mul_of_nonneg_right t1 p1
    omega
  · have h : times * p ≤ 32767 * p := Int.mul_le_mul_of_nonneg_right t2 p1
    omega

end Go.Proofs.Ytnklbnphiokpiaa
