/- Contract of the lens' bend. -/
import Derived.Test.YthdbchghhpoadaaLens3
import Derived.Deep.QuietTactic
set_option linter.unusedVariables false
namespace Go.Proofs.Ythdbchghhpoadaa
open Go.RowKit

def lr (x y : Int) : Int := (x * x + y * y) / 65536
def lg (k1 k2 r : Int) : Int := 65536 + k1 * r / 65536 + k2 * (r * r / 65536) / 65536
def lB (k1 k2 x y s o : Int) : Int := x * lg k1 k2 (lr x y) / 65536 + o * (2 * x * y / 65536) / 65536 + s * (lr x y + 2 * x * x / 65536) / 65536

/-- The bounds of all that is reckoned. -/
theorem bend_facts {k1 k2 x y s o : Int} (hx : -262144 ≤ x ∧ x ≤ 262144) (hy : -262144 ≤ y ∧ y ≤ 262144) (h1 : -65536 ≤ k1 ∧ k1 ≤ 65536) (h2 : -65536 ≤ k2 ∧ k2 ≤ 65536) (hs : -65536 ≤ s ∧ s ≤ 65536) (ho : -65536 ≤ o ∧ o ≤ 65536) :
    (-68719476736 ≤ x * x ∧ x * x ≤ 68719476736) ∧ (-68719476736 ≤ y * y ∧ y * y ≤ 68719476736) ∧ (0 ≤ lr x y ∧ lr x y ≤ 2097152) ∧ (-137438953472 ≤ k1 * lr x y ∧ k1 * lr x y ≤ 137438953472) ∧
    (0 ≤ lr x y * lr x y ∧ lr x y * lr x y ≤ 4398046511104) ∧ (-4398046511104 ≤ k2 * (lr x y * lr x y / 65536) ∧ k2 * (lr x y * lr x y / 65536) ≤ 4398046511104) ∧ (-134217728 ≤ lg k1 k2 (lr x y) ∧ lg k1 k2 (lr x y) ≤ 134217728) ∧
    (-35184372088832 ≤ x * lg k1 k2 (lr x y) ∧ x * lg k1 k2 (lr x y) ≤ 35184372088832) ∧ (-137438953472 ≤ 2 * x * y ∧ 2 * x * y ≤ 137438953472) ∧ (-137438953472 ≤ o * (2 * x * y / 65536) ∧ o * (2 * x * y / 65536) ≤ 137438953472) ∧
    (0 ≤ 2 * x * x ∧ 2 * x * x ≤ 137438953472) ∧ (-274877906944 ≤ s * (lr x y + 2 * x * x / 65536) ∧ s * (lr x y + 2 * x * x / 65536) ≤ 274877906944) ∧ (-1073741824 ≤ lB k1 k2 x y s o ∧ lB k1 k2 x y s o ≤ 1073741824) := by
  have a1 := mul_in hx hx
  have a2 := mul_in hy hy
  have p1 := sq_nonneg x
  have p2 := sq_nonneg y
  have r0 : 0 ≤ lr x y ∧ lr x y ≤ 2097152 := by unfold lr; omega
  have a3 := mul_in h1 (b := lr x y) (B := 2097152) (by omega)
  have a4 := mul_in (a := lr x y) (b := lr x y) (A := 2097152) (B := 2097152) (by omega) (by omega)
  have p4 := sq_nonneg (lr x y)
  have a5 := mul_in h2 (b := lr x y * lr x y / 65536) (B := 67108864) (by omega)
  have g0 : -134217728 ≤ lg k1 k2 (lr x y) ∧ lg k1 k2 (lr x y) ≤ 134217728 := by unfold lg; omega
  have a6 := mul_in hx g0
  have a7 := mul_in (a := 2 * x) (A := 524288) (by omega) hy
  have a8 := mul_in ho (b := 2 * x * y / 65536) (B := 2097152) (by omega)
  have e9 : 2 * x * x = 2 * (x * x) := Int.mul_assoc 2 x x
  have a9 := mul_in hs (b := lr x y + 2 * x * x / 65536) (B := 4194304) (by omega)
  refine ⟨by omega, by omega, r0, by omega, by omega, by omega, g0, by omega, by omega, by omega, by omega, by omega, ?_⟩
  unfold lB; omega

set_option maxRecDepth 100000 in
set_option maxHeartbeats 4000000 in
theorem lbend (g : Nat) (cx cy f k1 k2 p1 p2 x y s o : Int) (hx : -262144 ≤ x ∧ x ≤ 262144) (hy : -262144 ≤ y ∧ y ≤ 262144) (h1 : -65536 ≤ k1 ∧ k1 ≤ 65536) (h2 : -65536 ≤ k2 ∧ k2 ≤ 65536) (hs : -65536 ≤ s ∧ s ≤ 65536) (ho : -65536 ≤ o ∧ o ≤ 65536)
    (w : World) (hm : AtB w g (lensCells cx cy f k1 k2 p1 p2) LT) :
    Calls Try.prog 43 #[.pointer (some ⟨g, 0, none⟩), .int .i64 x, .int .i64 y, .int .i64 s, .int .i64 o] w fun e w' => e = .returned (.int .i64 (lB k1 k2 x y s o)) ∧ ∃ m, w' = w.drewN m := by
  obtain ⟨b1, b2, b3, b4, b5, b6, b7, b8, b9, b10, b11, b12, b13⟩ := bend_facts hx hy h1 h2 hs ho
  have CD := Lib.hid (fun x w => ldown x w)
  have e1 : wrap64 (x * x) = x * x := ww (by omega)
  have e2 : wrap64 (y * y) = y * y := ww (by omega)
  have e3 : wrap64 (x * x + y * y) = x * x + y * y := ww (by omega)
  have r1 : (x * x + y * y) / 65536 = lr x y := rfl
  have i1 : IntKind.i64.wrap (k1 * lr x y) = k1 * lr x y := iw (by omega)
  have i2 : IntKind.i64.wrap (lr x y * lr x y) = lr x y * lr x y := iw (by omega)
  have i3 : IntKind.i64.wrap (k2 * (lr x y * lr x y / 65536)) = k2 * (lr x y * lr x y / 65536) := iw (by omega)
  have i4 : IntKind.i64.wrap (65536 + k1 * lr x y / 65536) = 65536 + k1 * lr x y / 65536 := iw (by omega)
  have i5 : wrap64 (lg k1 k2 (lr x y)) = lg k1 k2 (lr x y) := ww (by omega)
  have r2 : 65536 + k1 * lr x y / 65536 + k2 * (lr x y * lr x y / 65536) / 65536 = lg k1 k2 (lr x y) := rfl
  have e4 : wrap64 (x * lg k1 k2 (lr x y)) = x * lg k1 k2 (lr x y) := ww (by omega)
  have e5 : wrap64 (2 * x) = 2 * x := ww (by omega)
  have e6 : wrap64 (2 * x * y) = 2 * x * y := ww (by omega)
  have e7 : wrap64 (o * (2 * x * y / 65536)) = o * (2 * x * y / 65536) := ww (by omega)
  have e8 : wrap64 (2 * x * x) = 2 * x * x := ww (by omega)
  have e9 : wrap64 (lr x y + 2 * x * x / 65536) = lr x y + 2 * x * x / 65536 := ww (by omega)
  have e10 : wrap64 (s * (lr x y + 2 * x * x / 65536)) = s * (lr x y + 2 * x * x / 65536) := ww (by omega)
  have e11 : wrap64 (x * lg k1 k2 (lr x y) / 65536 + o * (2 * x * y / 65536) / 65536) = x * lg k1 k2 (lr x y) / 65536 + o * (2 * x * y / 65536) / 65536 := ww (by omega)
  have e12 : wrap64 (lB k1 k2 x y s o) = lB k1 k2 x y s o := ww (by omega)
  have HB : Hid (lB k1 k2 x y s o = x * lg k1 k2 (lr x y) / 65536 + o * (2 * x * y / 65536) / 65536 + s * (lr x y + 2 * x * x / 65536) / 65536) := rfl
  rw [HB.out] at e12
  generalize lB k1 k2 x y s o = B at *
  obtain ⟨c0, c1, c2, c3, c4, c5, c6, z0, z1, z2, z3, z4, z5, z6⟩ := reads7 hm
  have hg := hm.lt
  clear hx hy h1 h2 hs ho b1 b2 b3 b4 b5 b6 b7 b8 b9 b10 b11 b12 b13 hm
  go_enter Try.func43, Try.ntmps43
  go_wp2_with fail
  have BB : Hid (Below w.heap.size w w) := Below.refl _ _
  refine (CD.out _ _).mono ?_
  rintro e w9 ⟨rfl, rfl⟩
  go_wp2_with fail
  go_quiet ((go_at_call 75; refine quiet_same (CD.out _ _)))
  go_wp2_with fail
  refine (CD.out _ _).mono ?_
  rintro e w9 ⟨rfl, rfl⟩
  go_wp2_with fail
  refine (CD.out _ _).mono ?_
  rintro e w9 ⟨rfl, rfl⟩
  go_wp2_with fail
  refine (CD.out _ _).mono ?_
  rintro e w9 ⟨rfl, rfl⟩
  go_wp2_with fail
  refine (CD.out _ _).mono ?_
  rintro e w9 ⟨rfl, rfl⟩
  go_wp2_with fail
  refine (CD.out _ _).mono ?_
  rintro e w9 ⟨rfl, rfl⟩
  go_wp2_with fail
  go_ret
  exact ⟨ret_int (e12.trans HB.out.symm), _, rfl⟩

end Go.Proofs.Ythdbchghhpoadaa
