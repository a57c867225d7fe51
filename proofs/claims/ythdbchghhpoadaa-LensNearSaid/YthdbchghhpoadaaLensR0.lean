/- Contracts of the document's small functions of the lens: Right, down, Axis. -/
import Derived.Test.YthdbchghhpoadaaLens6
set_option linter.unusedVariables false
namespace Go.Proofs.Ythdbchghhpoadaa
open Go.RowKit

set_option maxRecDepth 100000 in
theorem raxis (p d mid f : Int) (h : Ax p d mid f) (w : World) : Calls Try.prog 40 #[.int .i64 p, .int .i64 d, .int .i64 mid, .int .i64 f] w fun e w' => e = .returned (.int .i64 (axI p d mid f)) ∧ w = w' := by
  obtain ⟨p0, p1', d0, d1, m0, m1, f0, f1⟩ := h
  obtain ⟨q0, q1⟩ := div_near (x := 65536 * p) (y := d) (B := 68719476736) d0 (by omega) (by omega) (by omega)
  have C1 := Lib.hid (fun w => rdown (65536 * p) d ⟨by omega, by omega⟩ (by omega) (by omega) w)
  have C2 := Lib.hid (fun w => rdown ((65536 * p) / d - mid) f ⟨by omega, by omega⟩ (by omega) (by omega) w)
  have e1 : wrap64 (65536 * p) = 65536 * p := wr_in (by omega) (by omega)
  have e2 : wrap64 ((65536 * p) / d - mid) = (65536 * p) / d - mid := wr_in (by omega) (by omega)
  have HX : Hid (((65536 * p) / d - mid) / f = axI p d mid f) := rfl
  clear p0 p1' d0 d1 m0 m1 f0 f1 q0 q1
  generalize axI p d mid f = X at *
  generalize 65536 * p / d = q at *
  go_enter Try.func40, Try.ntmps40
  go_wp2_with fail
  have BB : Hid (Below w.heap.size w w) := Below.refl _ _
  refine (C1.out _).mono ?_
  rintro e w9 ⟨rfl, rfl⟩
  go_wp2_with fail
  refine (C2.out _).mono ?_
  rintro e w9 ⟨rfl, rfl⟩
  go_wp2_with fail
  go_ret
  exact ⟨ret_int HX.out, rfl⟩

end Go.Proofs.Ythdbchghhpoadaa
