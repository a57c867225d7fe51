/- Contracts of the document's small functions of the lens: Right, down, Axis. -/
import Derived.Test.YtmipcahdmenpcaaLens6
set_option linter.unusedVariables false
namespace Go.Proofs.Ytmipcahdmenpcaa
open Go.RowKit

set_option maxRecDepth 100000 in
theorem rright (px py d : Int) (w : World) : Calls Try.prog 36 #[.int .i64 px, .int .i64 py, .int .i64 d] w fun e w' => e = .returned (.bool (rightI px py d)) ∧ w = w' := by
  have CI := Lib.hid (fun x w => rin x 1048576 (by omega) (by omega) w)
  have HR : Hid (rightI px py d = (inI px 1048576 && inI py 1048576 && decide (1 ≤ d) && decide (d ≤ 16))) := rfl
  generalize rightI px py d = R at *
  rcases hb : inI px 1048576 with _ | _
  · rw [hb] at HR
    go_enter Try.func36, Try.ntmps36
    go_wp2_with fail
    have BB : Hid (Below w.heap.size w w) := Below.refl _ _
    refine (CI.out _ _).mono ?_
    rintro e w9 ⟨rfl, rfl⟩
    rw [hb]
    go_wp2_with fail
    go_ret
    exact ⟨ret_bool (by rw [HR.out]; simp), rfl⟩
  rcases hb1 : inI py 1048576 with _ | _
  · rw [hb1] at HR
    go_enter Try.func36, Try.ntmps36
    go_wp2_with fail
    have BB : Hid (Below w.heap.size w w) := Below.refl _ _
    refine (CI.out _ _).mono ?_
    rintro e w9 ⟨rfl, rfl⟩
    rw [hb]
    go_wp2_with fail
    refine (CI.out _ _).mono ?_
    rintro e w9 ⟨rfl, rfl⟩
    rw [hb1]
    go_wp2_with fail
    go_ret
    exact ⟨ret_bool (by rw [HR.out]; simp), rfl⟩
  rw [hb, hb1] at HR
  rcases dec_both (d ≥ 1) with ⟨h, hd⟩ | ⟨h, hd⟩
  · rw [decide_eq_true h] at HR
    rcases dec_both (d ≤ 16) with ⟨h', hd'⟩ | ⟨h', hd'⟩
    · rw [decide_eq_true h'] at HR
      clear h h'
      go_enter Try.func36, Try.ntmps36
      go_wp2_with fail
      have BB : Hid (Below w.heap.size w w) := Below.refl _ _
      refine (CI.out _ _).mono ?_
      rintro e w9 ⟨rfl, rfl⟩
      rw [hb]
      go_wp2_with fail
      refine (CI.out _ _).mono ?_
      rintro e w9 ⟨rfl, rfl⟩
      rw [hb1]
      go_wp2_with fail
      go_ret
      exact ⟨ret_bool (by rw [HR.out]; simp), rfl⟩
    · rw [decide_eq_false h'] at HR
      clear h h'
      go_enter Try.func36, Try.ntmps36
      go_wp2_with fail
      have BB : Hid (Below w.heap.size w w) := Below.refl _ _
      refine (CI.out _ _).mono ?_
      rintro e w9 ⟨rfl, rfl⟩
      rw [hb]
      go_wp2_with fail
      refine (CI.out _ _).mono ?_
      rintro e w9 ⟨rfl, rfl⟩
      rw [hb1]
      go_wp2_with fail
      go_ret
      exact ⟨ret_bool (by rw [HR.out]; simp), rfl⟩
  · rw [decide_eq_false h] at HR
    clear h
    go_enter Try.func36, Try.ntmps36
    go_wp2_with fail
    have BB : Hid (Below w.heap.size w w) := Below.refl _ _
    refine (CI.out _ _).mono ?_
    rintro e w9 ⟨rfl, rfl⟩
    rw [hb]
    go_wp2_with fail
    refine (CI.out _ _).mono ?_
    rintro e w9 ⟨rfl, rfl⟩
    rw [hb1]
    go_wp2_with fail
    go_ret
    exact ⟨ret_bool (by rw [HR.out]; simp), rfl⟩

theorem rdn (x : Int) (hx : I64 x) (w : World) : Calls Try.prog 82 #[.int .i64 x] w fun e w' => e = .returned (.int .i64 (x / 65536)) ∧ w = w' := by
  have C := Lib.hid (fun w => rdown x 65536 hx (by omega) (by omega) w)
  go_enter Try.func82, Try.ntmps82
  go_wp2_with fail
  have BB : Hid (Below w.heap.size w w) := Below.refl _ _
  refine (C.out _).mono ?_
  rintro e w9 ⟨rfl, rfl⟩
  go_wp2_with fail
  go_ret
  exact ⟨rfl, rfl⟩

set_option maxRecDepth 100000 in
theorem raxis (p d mid f : Int) (h : Ax p d mid f) (w : World) : Calls Try.prog 75 #[.int .i64 p, .int .i64 d, .int .i64 mid, .int .i64 f] w fun e w' => e = .returned (.int .i64 (axI p d mid f)) ∧ w = w' := by
  obtain ⟨p0, p1', d0, d1, m0, m1, f0, f1⟩ := h
  obtain ⟨q0, q1⟩ := div_near (x := 65536 * p) (y := d) (B := 68719476736) d0 (by omega) (by omega) (by omega)
  have C1 := Lib.hid (fun w => rdown (65536 * p) d ⟨by omega, by omega⟩ (by omega) (by omega) w)
  have C2 := Lib.hid (fun w => rdown ((65536 * p) / d - mid) f ⟨by omega, by omega⟩ (by omega) (by omega) w)
  have e1 : wrap64 (65536 * p) = 65536 * p := wr_in (by omega) (by omega)
  have e2 : wrap64 ((65536 * p) / d - mid) = (65536 * p) / d - mid := wr_in (by omega) (by omega)
  have HX : Hid (((65536 * p) / d - mid) / f = axI p d mid f) := rfl
  clear p0 p1' d0 d1 m0 m1 f0 f1 q0 q1
  generalize axI p d mid f = X at *
  generalize 65536 * p / d = q at *
  go_enter Try.func75, Try.ntmps75
  go_wp2_with fail
  have BB : Hid (Below w.heap.size w w) := Below.refl _ _
  refine (C1.out _).mono ?_
  rintro e w9 ⟨rfl, rfl⟩
  go_wp2_with fail
  refine (C2.out _).mono ?_
  rintro e w9 ⟨rfl, rfl⟩
  go_wp2_with fail
  go_ret
  exact ⟨ret_int HX.out, rfl⟩

end Go.Proofs.Ytmipcahdmenpcaa
