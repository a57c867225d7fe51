/- Contracts of the slants' Bounds, Quarter. -/
import Derived.Test.YtommpclkiiffpaaShear3
set_option linter.unusedVariables false
namespace Go.Proofs.Ytommpclkiiffpaa
open Go.RowKit

def bndX (a b : Int) : Int := 65536 + ((a.natAbs : Int) * (65536 + (b.natAbs : Int)) + 131071) / 131072
def bndY (b : Int) : Int := 32768 + ((b.natAbs : Int) + 1) / 2

theorem up_any (x k : Int) (hx : 0 ≤ x) (hx' : x ≤ 4611686018427387904) (hk : 1 ≤ k) (hk' : k ≤ 1048576) (w : World) : Calls Try.prog 70 #[.int .i64 x, .int .i64 k] w fun e w' => e = .returned (.int .i64 ((x + k - 1) / k)) ∧ w = w' := by
  have e1 : wrap64 (x + k) = x + k := ww (by omega)
  have e2 : wrap64 (x + k - 1) = x + k - 1 := ww (by omega)
  have hk0 : (k == 0) = false := by simp; omega
  have hk1 : (k == -1) = false := by simp; omega
  have e3 : (x + k - 1).tdiv k = (x + k - 1) / k := tdiv_pos (by omega)
  have h4 : wrap64 ((x + k - 1) / k) = (x + k - 1) / k := by
    have := Int.ediv_le_self k (show 0 ≤ x + k - 1 by omega)
    have := Int.ediv_nonneg (show 0 ≤ x + k - 1 by omega) (show 0 ≤ k by omega)
    exact ww (by omega)
  go_enter Try.func70, Try.ntmps70
  go_wp2
  go_ret
  exact ⟨ret_int h4, rfl⟩

theorem shbounds_nil (w : World) : Calls Try.prog 37 #[.pointer none] w fun e w' => e = .returned (.tuple #[.int .i64 0, .int .i64 0]) ∧ w = w' := by
  go_enter Try.func37, Try.ntmps37
  go_wp2
  go_ret2
  exact ⟨rfl, rfl⟩

set_option maxRecDepth 100000 in
set_option maxHeartbeats 8000000 in
theorem shbounds (g : Nat) (a b cx cy : Int) (hM : SM a b cx cy) (w : World) (hm : AtB w g (shCells a b cx cy) ST) :
    Calls Try.prog 37 #[.pointer (some ⟨g, 0, none⟩)] w fun e w' => e = .returned (.tuple #[.int .i64 (bndX a b), .int .i64 (bndY b)]) ∧ Below w.heap.size w w' := by
  obtain ⟨ha, hb, hx, hy⟩ := hM
  obtain ⟨c0, c1, c2, c3, z0, z1, z2, z3⟩ := reads4 hm
  have hg := hm.lt
  have i1 : IntKind.i64.wrap (-a) = -a := iw (by omega)
  have i2 : IntKind.i64.wrap (-b) = -b := iw (by omega)
  have x1 : (if a < -a then -a else a) = (a.natAbs : Int) := by split <;> omega
  have x2 : (if b < -b then -b else b) = (b.natAbs : Int) := by split <;> omega
  have H1 : Hid (bndX a b = 65536 + ((a.natAbs : Int) * (65536 + (b.natAbs : Int)) + 131071) / 131072) := rfl
  have H2 : Hid (bndY b = 32768 + ((b.natAbs : Int) + 1) / 2) := rfl
  have n0 : 0 ≤ (a.natAbs : Int) ∧ (a.natAbs : Int) ≤ 262144 := by omega
  have n1 : 0 ≤ (b.natAbs : Int) ∧ (b.natAbs : Int) ≤ 262144 := by omega
  generalize (a.natAbs : Int) = A at *
  generalize (b.natAbs : Int) = B at *
  have m1 := mul_in (a := A) (A := 262144) (b := 65536 + B) (B := 327680) (by omega) (by omega)
  have m0 : 0 ≤ A * (65536 + B) := Int.mul_nonneg (by omega) (by omega)
  have CU1 := Lib.hid (fun w => up_any (A * (65536 + B)) 131072 m0 (by omega) (by omega) (by omega) w)
  have CU2 := Lib.hid (fun w => up_any B 2 (by omega) (by omega) (by omega) (by omega) w)
  have e1 : wrap64 (65536 + B) = 65536 + B := ww (by omega)
  have e2 : wrap64 (A * (65536 + B)) = A * (65536 + B) := ww (by omega)
  have e3 : A * (65536 + B) + 131072 - 1 = A * (65536 + B) + 131071 := by omega
  have e4 : B + 2 - 1 = B + 1 := by omega
  have e5 : wrap64 (65536 + (A * (65536 + B) + 131071) / 131072) = 65536 + (A * (65536 + B) + 131071) / 131072 := by
    generalize A * (65536 + B) = P at *
    exact ww (by omega)
  have e6 : wrap64 (32768 + (B + 1) / 2) = 32768 + (B + 1) / 2 := ww (by omega)
  rw [e3] at CU1
  rw [e4] at CU2
  clear n0 n1
  clear ha hb hx hy hm m1 m0 e3 e4
  go_enter Try.func37, Try.ntmps37
  go_wp2_with fail
  have BB : Hid (Below w.heap.size w w) := Below.refl _ _
  go_quiet (fail)
  have hb := below_drawn (Below.refl w.heap.size w) nq
  generalize w.drewN nq = w1 at *
  replace BB := Lib.hid (below_next BB.out hb)
  clear hb nq
  go_wp2_with fail
  refine (CU1.out _).mono ?_
  rintro e w9 ⟨rfl, rfl⟩
  go_wp2_with fail
  refine (CU2.out _).mono ?_
  rintro e w9 ⟨rfl, rfl⟩
  go_wp2_with fail
  refine bodyPost_ret (v := .tuple #[.int .i64 (65536 + (A * (65536 + B) + 131071) / 131072), .int .i64 (32768 + (B + 1) / 2)]) (by unfold results; simp only [Try.results37]; go_simp) rfl ?_
  exact ⟨by rw [H1.out, H2.out], BB.out⟩

end Go.Proofs.Ytommpclkiiffpaa
