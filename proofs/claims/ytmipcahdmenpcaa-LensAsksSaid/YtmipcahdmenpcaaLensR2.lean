/- Contract of the document's At of the lens. -/
import Derived.Test.YtmipcahdmenpcaaLensR1
set_option linter.unusedVariables false
namespace Go.Proofs.Ytmipcahdmenpcaa
open Go.RowKit

theorem lr_comm (x y : Int) : lr y x = lr x y := by unfold lr; rw [Int.add_comm]
/-- The document's row, in the words of the other one. -/
theorem lB_row (k1 k2 x y p1 p2 : Int) : y * lg k1 k2 (lr x y) / 65536 + p1 * (lr x y + 2 * y * y / 65536) / 65536 + p2 * (2 * x * y / 65536) / 65536 = lB k1 k2 y x p1 p2 := by
  unfold lB
  rw [lr_comm x y, show 2 * y * x = 2 * x * y by rw [Int.mul_assoc, Int.mul_assoc, Int.mul_comm y x]]
  omega
/-- Bounds of what the document adds up. -/
theorem row_facts {k1 k2 x y p1 p2 : Int} (hx : -262144 ≤ x ∧ x ≤ 262144) (hy : -262144 ≤ y ∧ y ≤ 262144) (h1 : -65536 ≤ k1 ∧ k1 ≤ 65536) (h2 : -65536 ≤ k2 ∧ k2 ≤ 65536) (hs : -65536 ≤ p1 ∧ p1 ≤ 65536) (ho : -65536 ≤ p2 ∧ p2 ≤ 65536) :
    (-35184372088832 ≤ y * lg k1 k2 (lr x y) ∧ y * lg k1 k2 (lr x y) ≤ 35184372088832) ∧ (0 ≤ 2 * y * y ∧ 2 * y * y ≤ 137438953472) ∧ (-274877906944 ≤ p1 * (lr x y + 2 * y * y / 65536) ∧ p1 * (lr x y + 2 * y * y / 65536) ≤ 274877906944) ∧
    (-137438953472 ≤ p2 * (2 * x * y / 65536) ∧ p2 * (2 * x * y / 65536) ≤ 137438953472) ∧ (-1073741824 ≤ lB k1 k2 y x p1 p2 ∧ lB k1 k2 y x p1 p2 ≤ 1073741824) := by
  obtain ⟨-, -, -, -, -, -, -, a8, -, -, a11, a12, a13⟩ := bend_facts hy hx h1 h2 hs ho
  obtain ⟨-, -, -, -, -, -, -, -, -, b10, -, -, -⟩ := bend_facts hx hy h1 h2 hs ho
  rw [lr_comm x y] at a8 a12
  exact ⟨a8, a11, a12, b10, a13⟩

set_option maxRecDepth 100000 in
set_option maxHeartbeats 16000000 in
theorem rat20 (v : Value) (cx cy f k1 k2 p1 p2 px py d : Int) (hM : LM cx cy f k1 k2 p1 p2) (hp : rightI px py d = true) (w : World) (hv : IS w v [cx, cy, f, k1, k2, p1, p2]) :
    Calls Try.prog 46 #[v, .int .i64 px, .int .i64 py, .int .i64 d] w fun e w' =>
      e = .returned (.tuple #[.int .i64 (if farI cx cy f px py d = true then 0 else latU cx f k1 k2 p1 p2 (axI px d cx f) (axI py d cy f)), .int .i64 (if farI cx cy f px py d = true then 0 else latU cy f k1 k2 p2 p1 (axI py d cy f) (axI px d cx f)), .bool (!farI cx cy f px py d)]) ∧ Below w.heap.size w w' := by
  obtain ⟨b, off, cap, rfl, h1, h2, hlt, hc⟩ := hv.some (by simp)
  have k0 := hc 0 (by simp); have k1' := hc 1 (by simp); have k2' := hc 2 (by simp); have k3 := hc 3 (by simp); have k4 := hc 4 (by simp); have k5 := hc 5 (by simp); have k6 := hc 6 (by simp)
  simp only [List.getD_cons_zero, List.getD_cons_succ, Nat.add_zero] at k0 k1' k2' k3 k4 k5 k6
  have hcap : 7 ≤ cap := by simpa using h1
  have KK := Lib.hid (fun (w9 : World) (hb : Below w.heap.size w w9) => (⟨(hb.cell (p := ⟨b, off, none⟩) hlt).trans k0, (hb.cell (p := ⟨b, off + 1, none⟩) hlt).trans k1', (hb.cell (p := ⟨b, off + 2, none⟩) hlt).trans k2', (hb.cell (p := ⟨b, off + 3, none⟩) hlt).trans k3, (hb.cell (p := ⟨b, off + 4, none⟩) hlt).trans k4, (hb.cell (p := ⟨b, off + 5, none⟩) hlt).trans k5, (hb.cell (p := ⟨b, off + 6, none⟩) hlt).trans k6⟩ : S7 b off cx cy f k1 k2 p1 p2 w9))
  clear hv hc h1
  obtain ⟨ax, ay⟩ := rightI_ax hp hM
  have A1 := Lib.hid (fun w => raxis px d cx f ax w)
  have A2 := Lib.hid (fun w => raxis py d cy f ay w)
  have CI := Lib.hid (fun x w => rin x 262144 (by omega) (by omega) w)
  have HF : Hid (farI cx cy f px py d = (!inI (axI px d cx f) 262144 || !inI (axI py d cy f) 262144)) := rfl
  have HX := Lib.hid (fun (h : inI (axI px d cx f) 262144 = true) => inI_iff.1 h)
  have HY := Lib.hid (fun (h : inI (axI py d cy f) 262144 = true) => inI_iff.1 h)
  clear ax ay hp
  have HU : Hid (latU cx f k1 k2 p1 p2 (axI px d cx f) (axI py d cy f) = cx + f * lB k1 k2 (axI px d cx f) (axI py d cy f) p2 p1) := rfl
  have HV : Hid (latU cy f k1 k2 p2 p1 (axI py d cy f) (axI px d cx f) = cy + f * lB k1 k2 (axI py d cy f) (axI px d cx f) p1 p2) := rfl
  generalize farI cx cy f px py d = F at *
  generalize latU cx f k1 k2 p1 p2 (axI px d cx f) (axI py d cy f) = U at *
  generalize latU cy f k1 k2 p2 p1 (axI py d cy f) (axI px d cx f) = V at *
  generalize axI px d cx f = X at *
  generalize axI py d cy f = Y at *
  have BB : Hid (Below w.heap.size w w) := Below.refl _ _
  have hbw := Lib.hid hlt
  go_enter Try.func46, Try.ntmps46
  go_wp2_with fail
  have B1 := Lib.hid (fun n => quiet_same (A1.out (w.drewN n)))
  go_quiet ((go_at_call 75; with_reducible exact B1.out _))
  clear B1 A1
  replace BB := Lib.hid (below_drawn BB.out nq)
  generalize w.drewN nq = w1 at *
  clear k0 k1' k2' k3 k4 k5 k6 hlt
  obtain ⟨k0, k1', k2', k3, k4, k5, k6⟩ := KK.out w1 BB.out
  have hlt : b < w1.heap.size := Nat.lt_of_lt_of_le hbw.out BB.out.size
  go_wp2_with fail
  have B1 := Lib.hid (fun n => quiet_same (A2.out (w1.drewN n)))
  go_quiet ((go_at_call 75; with_reducible exact B1.out _))
  clear B1 A2
  replace BB := Lib.hid (below_drawn BB.out nq)
  generalize w1.drewN nq = w2 at *
  clear k0 k1' k2' k3 k4 k5 k6 hlt
  obtain ⟨k0, k1', k2', k3, k4, k5, k6⟩ := KK.out w2 BB.out
  have hlt : b < w2.heap.size := Nat.lt_of_lt_of_le hbw.out BB.out.size
  go_wp2_with fail
  refine (CI.out _ _).mono ?_; rintro e w9 ⟨rfl, rfl⟩
  cases hqx : inI X 262144
  · rw [hqx] at HF
    clear HX HY HU HV KK CI
    have HF' : F = true := by rw [HF.out]; rfl
    subst HF'
    go_wp2_with fail
    refine bodyPost_ret (v := .tuple #[.int .i64 0, .int .i64 0, .bool false]) (by unfold results; simp only [Try.results46]; go_simp) rfl ?_
    exact ⟨rfl, BB.out⟩
  go_wp2_with fail
  refine (CI.out _ _).mono ?_; rintro e w9 ⟨rfl, rfl⟩
  cases hqy : inI Y 262144
  · rw [hqx, hqy] at HF
    clear HX HY HU HV KK CI
    have HF' : F = true := by rw [HF.out]; rfl
    subst HF'
    go_wp2_with fail
    refine bodyPost_ret (v := .tuple #[.int .i64 0, .int .i64 0, .bool false]) (by unfold results; simp only [Try.results46]; go_simp) rfl ?_
    exact ⟨rfl, BB.out⟩
  rw [hqx, hqy] at HF
  have HF' : F = false := by rw [HF.out]; rfl
  subst HF'
  have hx := HX.out hqx
  have hy := HY.out hqy
  clear HX HY CI HF hqx hqy
  obtain ⟨b1, b2, b3, b4, b5, b6, b7, b8, b9, b10, b11, b12, b13⟩ := bend_facts hx hy hM.k1 hM.k2 hM.p2 hM.p1
  obtain ⟨a1, a2, a3, a4, a5⟩ := row_facts hx hy hM.k1 hM.k2 hM.p1 hM.p2
  have m1 := mul_in (a := f) (A := 32768) (B := 1073741824) (by have := hM.f; omega) b13
  have m2 := mul_in (a := f) (A := 32768) (B := 1073741824) (by have := hM.f; omega) a5
  have CD := Lib.hid (fun x hx w => rdn x hx w)
  have e1 : wrap64 (X * X) = X * X := ww (by omega)
  have e2 : wrap64 (Y * Y) = Y * Y := ww (by omega)
  have e3 : wrap64 (X * X + Y * Y) = X * X + Y * Y := ww (by omega)
  have C1 := Lib.hid (fun w => rdn (X * X + Y * Y) ⟨by omega, by omega⟩ w)
  have r1 : (X * X + Y * Y) / 65536 = lr X Y := rfl
  rw [r1] at C1
  have e4 : wrap64 (lr X Y * lr X Y) = lr X Y * lr X Y := ww (by omega)
  have C2 := Lib.hid (fun w => rdn (lr X Y * lr X Y) ⟨by omega, by omega⟩ w)
  have i1 : IntKind.i64.wrap (k1 * lr X Y) = k1 * lr X Y := iw (by omega)
  have i3 : IntKind.i64.wrap (k2 * (lr X Y * lr X Y / 65536)) = k2 * (lr X Y * lr X Y / 65536) := iw (by omega)
  have C3 := Lib.hid (fun w => rdn (k1 * lr X Y) ⟨by omega, by omega⟩ w)
  have C4 := Lib.hid (fun w => rdn (k2 * (lr X Y * lr X Y / 65536)) ⟨by omega, by omega⟩ w)
  have i4 : IntKind.i64.wrap (65536 + k1 * lr X Y / 65536) = 65536 + k1 * lr X Y / 65536 := iw (by omega)
  have r2 : 65536 + k1 * lr X Y / 65536 + k2 * (lr X Y * lr X Y / 65536) / 65536 = lg k1 k2 (lr X Y) := rfl
  have e5 : wrap64 (lg k1 k2 (lr X Y)) = lg k1 k2 (lr X Y) := ww (by omega)
  have e6 : wrap64 (2 * X) = 2 * X := ww (by omega)
  have e7 : wrap64 (2 * X * Y) = 2 * X * Y := ww (by omega)
  have C5 := Lib.hid (fun w => rdn (2 * X * Y) ⟨by omega, by omega⟩ w)
  go_wp2_with fail
  refine (C1.out _).mono ?_; rintro e w9 ⟨rfl, rfl⟩
  go_wp2_with fail
  refine (C2.out _).mono ?_; rintro e w9 ⟨rfl, rfl⟩
  go_wp2_with fail
  have B1 := Lib.hid (fun n => quiet_same (C3.out (w2.drewN n)))
  have B2 := Lib.hid (fun n => quiet_same (C4.out (w2.drewN n)))
  go_quiet (first | (go_at_call 82; with_reducible exact B1.out _) | (go_at_call 82; with_reducible exact B2.out _))
  clear B1 B2
  replace BB := Lib.hid (below_drawn BB.out nq)
  generalize w2.drewN nq = w3 at *
  clear k0 k1' k2' k3 k4 k5 k6 hlt
  obtain ⟨k0, k1', k2', k3, k4, k5, k6⟩ := KK.out w3 BB.out
  have hlt : b < w3.heap.size := Nat.lt_of_lt_of_le hbw.out BB.out.size
  go_wp2_with fail
  refine (C5.out _).mono ?_; rintro e w9 ⟨rfl, rfl⟩
  go_wp2_with fail
  have rU : X * lg k1 k2 (lr X Y) / 65536 + p1 * (2 * X * Y / 65536) / 65536 + p2 * (lr X Y + 2 * X * X / 65536) / 65536 = lB k1 k2 X Y p2 p1 := rfl
  have rV := lB_row k1 k2 X Y p1 p2
  have j1 : IntKind.i64.wrap (X * lg k1 k2 (lr X Y)) = X * lg k1 k2 (lr X Y) := iw (by omega)
  have j2 : IntKind.i64.wrap (p1 * (2 * X * Y / 65536)) = p1 * (2 * X * Y / 65536) := iw (by omega)
  have j3 : IntKind.i64.wrap (X * lg k1 k2 (lr X Y) / 65536 + p1 * (2 * X * Y / 65536) / 65536) = X * lg k1 k2 (lr X Y) / 65536 + p1 * (2 * X * Y / 65536) / 65536 := iw (by omega)
  have j4 : IntKind.i64.wrap (2 * X) = 2 * X := iw (by omega)
  have j5 : IntKind.i64.wrap (2 * X * X) = 2 * X * X := iw (by omega)
  have j6 : IntKind.i64.wrap (lr X Y + 2 * X * X / 65536) = lr X Y + 2 * X * X / 65536 := iw (by omega)
  have j7 : IntKind.i64.wrap (p2 * (lr X Y + 2 * X * X / 65536)) = p2 * (lr X Y + 2 * X * X / 65536) := iw (by omega)
  have j8 : wrap64 (lB k1 k2 X Y p2 p1) = lB k1 k2 X Y p2 p1 := ww (by omega)
  have D1 := Lib.hid (fun n => quiet_same (rdn (X * lg k1 k2 (lr X Y)) ⟨by omega, by omega⟩ (w3.drewN n)))
  have D2 := Lib.hid (fun n => quiet_same (rdn (p1 * (2 * X * Y / 65536)) ⟨by omega, by omega⟩ (w3.drewN n)))
  have D3 := Lib.hid (fun n => quiet_same (rdn (2 * X * X) ⟨by omega, by omega⟩ (w3.drewN n)))
  have D4 := Lib.hid (fun n => quiet_same (rdn (p2 * (lr X Y + 2 * X * X / 65536)) ⟨by omega, by omega⟩ (w3.drewN n)))
  go_quiet (first | (go_at_call 82; with_reducible exact D1.out _) | (go_at_call 82; with_reducible exact D2.out _) | (go_at_call 82; with_reducible exact D3.out _) | (go_at_call 82; with_reducible exact D4.out _))
  clear D1 D2 D3 D4 j1 j2 j3 j4 j5 j6 j7
  replace BB := Lib.hid (below_drawn BB.out nq)
  generalize w3.drewN nq = w4 at *
  clear k0 k1' k2' k3 k4 k5 k6 hlt
  obtain ⟨k0, k1', k2', k3, k4, k5, k6⟩ := KK.out w4 BB.out
  have hlt : b < w4.heap.size := Nat.lt_of_lt_of_le hbw.out BB.out.size
  go_wp2_with fail
  have j1 : IntKind.i64.wrap (Y * lg k1 k2 (lr X Y)) = Y * lg k1 k2 (lr X Y) := iw (by omega)
  have j2 : IntKind.i64.wrap (2 * Y) = 2 * Y := iw (by omega)
  have j3 : IntKind.i64.wrap (2 * Y * Y) = 2 * Y * Y := iw (by omega)
  have j4 : IntKind.i64.wrap (lr X Y + 2 * Y * Y / 65536) = lr X Y + 2 * Y * Y / 65536 := iw (by omega)
  have j5 : IntKind.i64.wrap (p1 * (lr X Y + 2 * Y * Y / 65536)) = p1 * (lr X Y + 2 * Y * Y / 65536) := iw (by omega)
  have j6 : IntKind.i64.wrap (Y * lg k1 k2 (lr X Y) / 65536 + p1 * (lr X Y + 2 * Y * Y / 65536) / 65536) = Y * lg k1 k2 (lr X Y) / 65536 + p1 * (lr X Y + 2 * Y * Y / 65536) / 65536 := iw (by omega)
  have j7 : IntKind.i64.wrap (p2 * (2 * X * Y / 65536)) = p2 * (2 * X * Y / 65536) := iw (by omega)
  have j9 : wrap64 (lB k1 k2 Y X p1 p2) = lB k1 k2 Y X p1 p2 := ww (by omega)
  have D1 := Lib.hid (fun n => quiet_same (rdn (Y * lg k1 k2 (lr X Y)) ⟨by omega, by omega⟩ (w4.drewN n)))
  have D2 := Lib.hid (fun n => quiet_same (rdn (2 * Y * Y) ⟨by omega, by omega⟩ (w4.drewN n)))
  have D3 := Lib.hid (fun n => quiet_same (rdn (p1 * (lr X Y + 2 * Y * Y / 65536)) ⟨by omega, by omega⟩ (w4.drewN n)))
  have D4 := Lib.hid (fun n => quiet_same (rdn (p2 * (2 * X * Y / 65536)) ⟨by omega, by omega⟩ (w4.drewN n)))
  go_quiet (first | (go_at_call 82; with_reducible exact D1.out _) | (go_at_call 82; with_reducible exact D2.out _) | (go_at_call 82; with_reducible exact D3.out _) | (go_at_call 82; with_reducible exact D4.out _))
  clear D1 D2 D3 D4 j1 j2 j3 j4 j5 j6 j7
  replace BB := Lib.hid (below_drawn BB.out nq)
  generalize w4.drewN nq = w5 at *
  clear k0 k1' k2' k3 k4 k5 k6 hlt
  obtain ⟨k0, k1', k2', k3, k4, k5, k6⟩ := KK.out w5 BB.out
  have hlt : b < w5.heap.size := Nat.lt_of_lt_of_le hbw.out BB.out.size
  go_wp2_with fail
  generalize lB k1 k2 X Y p2 p1 = Bu at *
  generalize lB k1 k2 Y X p1 p2 = Bv at *
  have l1 : IntKind.i64.wrap (f * Bu) = f * Bu := iw (by omega)
  have l2 : IntKind.i64.wrap (f * Bv) = f * Bv := iw (by omega)
  have l3 : wrap64 (cx + f * Bu) = cx + f * Bu := ww (by have := hM.x; omega)
  have l4 : wrap64 (cy + f * Bv) = cy + f * Bv := ww (by have := hM.y; omega)
  go_quiet (fail)
  go_wp2_with fail
  refine bodyPost_ret (v := .tuple #[.int .i64 (cx + f * Bu), .int .i64 (cy + f * Bv), .bool true]) (by unfold results; simp only [Try.results46]; go_simp) rfl ?_
  exact ⟨by rw [HU.out, HV.out], below_drawn BB.out _⟩

end Go.Proofs.Ytmipcahdmenpcaa
