/- Contracts of the lens' axis, far, bend. -/
import Derived.Test.YthdbchghhpoadaaLens2
import Derived.Test.YthdbchghhpoadaaJC
set_option linter.unusedVariables false
namespace Go.Proofs.Ythdbchghhpoadaa
open Go.RowKit

abbrev LT : TypeId := 80
abbrev lensCells (cx cy f k1 k2 p1 p2 : Int) : Array Value := #[.int .i64 cx, .int .i64 cy, .int .i64 f, .int .i64 k1, .int .i64 k2, .int .i64 p1, .int .i64 p2]
/-- How far a place is from a middle, in focuses. -/
def axI (p d mid f : Int) : Int := ((65536 * p) / d - mid) / f
def farI (cx cy f px py d : Int) : Bool := !inI (axI px d cx f) 262144 || !inI (axI py d cy f) 262144

/-- A place, a divisor, a middle, a focus as they may be. -/
structure Ax (p d mid f : Int) : Prop where
  p0 : -1048576 ≤ p
  p1 : p ≤ 1048576
  d0 : 1 ≤ d
  d1 : d ≤ 16
  m0 : -2147483648 ≤ mid
  m1 : mid ≤ 2147483648
  f0 : 1 ≤ f
  f1 : f ≤ 32768

set_option maxRecDepth 100000 in
set_option maxHeartbeats 1000000 in
theorem laxis (g : Nat) (cx cy f k1 k2 p1 p2 p d mid : Int) (h : Ax p d mid f) (w : World) (hm : AtB w g (lensCells cx cy f k1 k2 p1 p2) LT) :
    Calls Try.prog 42 #[.pointer (some ⟨g, 0, none⟩), .int .i64 p, .int .i64 d, .int .i64 mid] w fun e w' => e = .returned (.int .i64 (axI p d mid f)) ∧ w = w' := by
  obtain ⟨p0, p1', d0, d1, m0, m1, f0, f1⟩ := h
  obtain ⟨q0, q1⟩ := div_near (x := 65536 * p) (y := d) (B := 68719476736) d0 (by omega) (by omega) (by omega)
  have C1 := Lib.hid (fun w => qfloor_pos (65536 * p) d ⟨by omega, by omega⟩ (by omega) (by omega) w)
  have C2 := Lib.hid (fun w => qfloor_pos ((65536 * p) / d - mid) f ⟨by omega, by omega⟩ (by omega) (by omega) w)
  have e1 : wrap64 (65536 * p) = 65536 * p := wr_in (by omega) (by omega)
  have e2 : wrap64 ((65536 * p) / d - mid) = (65536 * p) / d - mid := wr_in (by omega) (by omega)
  obtain ⟨c0, c1, c2, c3, c4, c5, c6, z0, z1, z2, z3, z4, z5, z6⟩ := reads7 hm
  have hg := hm.lt
  have HX : Hid (((65536 * p) / d - mid) / f = axI p d mid f) := rfl
  clear p0 p1' d0 d1 m0 m1 f0 f1 q0 q1 hm
  generalize axI p d mid f = X at *
  generalize 65536 * p / d = q at *
  go_enter Try.func42, Try.ntmps42
  go_wp2_with fail
  have BB : Hid (Below w.heap.size w w) := Below.refl _ _
  refine (C1.out _).mono ?_
  rintro e w9 ⟨rfl, rfl⟩
  go_wp2_with fail
  refine (C2.out _).mono ?_
  rintro e w9 ⟨rfl, rfl⟩
  go_wp2_with fail
  go_ret
  exact ⟨ret_int HX.out, rfl⟩

theorem in_axis {x : Int} : (-262144 ≤ x ∧ x ≤ 262144) ↔ inI x 262144 = true := inI_iff.symm

set_option maxRecDepth 100000 in
set_option maxHeartbeats 2000000 in
theorem lfar (g : Nat) (cx cy f k1 k2 p1 p2 px py d : Int) (hx : Ax px d cx f) (hy : Ax py d cy f) (w : World) (hm : AtB w g (lensCells cx cy f k1 k2 p1 p2) LT) :
    Calls Try.prog 39 #[.pointer (some ⟨g, 0, none⟩), .int .i64 px, .int .i64 py, .int .i64 d] w fun e w' => e = .returned (.bool (farI cx cy f px py d)) ∧ w = w' := by
  have C1 := Lib.hid (laxis g cx cy f k1 k2 p1 p2 px d cx hx w hm)
  have C2 := Lib.hid (laxis g cx cy f k1 k2 p1 p2 py d cy hy w hm)
  have CI := Lib.hid (fun x w => lin x 262144 (by omega) (by omega) w)
  obtain ⟨c0, c1, c2, c3, c4, c5, c6, z0, z1, z2, z3, z4, z5, z6⟩ := reads7 hm
  have hg := hm.lt
  clear hx hy hm
  have HX : Hid (farI cx cy f px py d = (!inI (axI px d cx f) 262144 || !inI (axI py d cy f) 262144)) := rfl
  generalize farI cx cy f px py d = X at *
  generalize axI px d cx f = x at *
  generalize axI py d cy f = y at *
  cases hb : inI x 262144
  · rw [hb] at HX
    go_enter Try.func39, Try.ntmps39
    go_wp2_with fail
    have BB : Hid (Below w.heap.size w w) := Below.refl _ _
    refine (C1.out).mono ?_
    rintro e w9 ⟨rfl, rfl⟩
    go_wp2_with fail
    refine (CI.out _ _).mono ?_
    rintro e w9 ⟨rfl, rfl⟩
    rw [hb]
    go_wp2_with fail
    go_ret
    exact ⟨ret_bool HX.out.symm, rfl⟩
  · rw [hb] at HX
    go_enter Try.func39, Try.ntmps39
    go_wp2_with fail
    have BB : Hid (Below w.heap.size w w) := Below.refl _ _
    refine (C1.out).mono ?_
    rintro e w9 ⟨rfl, rfl⟩
    go_wp2_with fail
    refine (CI.out _ _).mono ?_
    rintro e w9 ⟨rfl, rfl⟩
    rw [hb]
    go_wp2_with fail
    refine (C2.out).mono ?_
    rintro e w9 ⟨rfl, rfl⟩
    go_wp2_with fail
    refine (CI.out _ _).mono ?_
    rintro e w9 ⟨rfl, rfl⟩
    go_wp2_with fail
    go_ret
    exact ⟨ret_bool HX.out.symm, rfl⟩

end Go.Proofs.Ythdbchghhpoadaa
