/- Contracts of mesh: At, Cells, Knot. -/
import Derived.Test.YthoakbjnofhpbaaMe1
import Derived.Deep.MidRow
set_option linter.unusedVariables false
set_option linter.unusedSimpArgs false
namespace Go.Proofs.Ythoakbjnofhpbaa
open Go.RowKit
theorem run_min_int4 {P : Program} (w : World) (ts : Array TypeId) (t : TypeId) (x y z u : Int) : (Builtin.min_ ts t #[.int .i64 x, .int .i64 y, .int .i64 z, .int .i64 u]).run P w = .ok (.int .i64 (if u < (if z < (if y < x then y else x) then z else (if y < x then y else x)) then u else (if z < (if y < x then y else x) then z else (if y < x then y else x)))) w := by
  simp [Builtin.min_, Builtin.min2]
theorem run_max_int4 {P : Program} (w : World) (ts : Array TypeId) (t : TypeId) (x y z u : Int) : (Builtin.max_ ts t #[.int .i64 x, .int .i64 y, .int .i64 z, .int .i64 u]).run P w = .ok (.int .i64 (if u > (if z > (if y > x then y else x) then z else (if y > x then y else x)) then u else (if z > (if y > x then y else x) then z else (if y > x then y else x)))) w := by
  simp [Builtin.max_, Builtin.max2]
theorem neg_wrap {x : Int} (h : I64 x) : IntKind.i64.wrap (-x) = if x = -9223372036854775808 then x else -x := by
  split
  · subst_vars; decide
  · exact iw ⟨by have := h.2; omega, by have := h.1; omega⟩
/-- The greatest, the least of two numbers and those turned round. -/
def mx4 (px py : Int) : Int := max (max (max px (IntKind.i64.wrap (-px))) py) (IntKind.i64.wrap (-py))
def mn4 (px py : Int) : Int := min (min (min px (IntKind.i64.wrap (-px))) py) (IntKind.i64.wrap (-py))
theorem mesh_right {px py d : Int} (hx : I64 px) (hy : I64 py) : rightI px py d = true ↔ ¬ (1048576 < mx4 px py) ∧ ¬ (mn4 px py < -1048576) ∧ ¬ d < 1 ∧ ¬ 16 < d := by
  rw [rightI_iff]
  unfold mx4 mn4
  rw [neg_wrap hx, neg_wrap hy]
  obtain ⟨a, b⟩ := hx
  obtain ⟨c, e⟩ := hy
  split <;> split <;> omega
theorem if_max (a b : Int) : (if a < b then b else a) = max a b := by split <;> omega
theorem if_min (a b : Int) : (if b < a then b else a) = min a b := by split <;> omega
theorem atB_range {w : World} {g : Nat} {cs : List Value} {T : TypeId} (h : AtB w g cs.toArray T) : w.rangeAt g 0 cs := fun j v hv => by
  rw [Nat.zero_add]; exact h.cell j (by simpa using hv)
theorem meat_nil (px py d : Int) (w : World) : Calls Try.prog 21 #[.pointer none, .int .i64 px, .int .i64 py, .int .i64 d] w fun e w' => e = .returned (.tuple #[.int .i64 0, .int .i64 0, .int .i64 10]) ∧ w = w' := by
  go_enter Try.func21, Try.ntmps21
  go_wp2
  refine bodyPost_ret (v := .tuple #[.int .i64 0, .int .i64 0, .int .i64 10]) (by unfold results; simp only [Try.results21]; go_simp) rfl ?_
  exact ⟨rfl, rfl⟩
set_option maxRecDepth 100000 in
set_option maxHeartbeats 4000000 in
theorem meat_bad (g : Nat) (px py d : Int) (hx : I64 px) (hy : I64 py) (hp : rightI px py d = false) (w : World) :
    Calls Try.prog 21 #[.pointer (some ⟨g, 0, none⟩), .int .i64 px, .int .i64 py, .int .i64 d] w fun e w' => e = .returned (.tuple #[.int .i64 0, .int .i64 0, .int .i64 11]) ∧ w = w' := by
  have HR := (not_congr (mesh_right (d := d) hx hy)).1 (by rw [hp]; simp)
  clear hp hx hy
  have X4 : ∀ (ts : Array TypeId) (t : TypeId) (x y z u : Int) (w : World), (Builtin.max_ ts t #[.int .i64 x, .int .i64 y, .int .i64 z, .int .i64 u]).run Try.prog w = .ok (.int .i64 (if u > (if z > (if y > x then y else x) then z else (if y > x then y else x)) then u else (if z > (if y > x then y else x) then z else (if y > x then y else x)))) w := fun ts t x y z u w => run_max_int4 w ts t x y z u
  have N4 : ∀ (ts : Array TypeId) (t : TypeId) (x y z u : Int) (w : World), (Builtin.min_ ts t #[.int .i64 x, .int .i64 y, .int .i64 z, .int .i64 u]).run Try.prog w = .ok (.int .i64 (if u < (if z < (if y < x then y else x) then z else (if y < x then y else x)) then u else (if z < (if y < x then y else x) then z else (if y < x then y else x)))) w := fun ts t x y z u w => run_min_int4 w ts t x y z u
  obtain ⟨qx, hqx⟩ : ∃ v, v = IntKind.i64.wrap (-px) := ⟨_, rfl⟩
  obtain ⟨qy, hqy⟩ : ∃ v, v = IntKind.i64.wrap (-py) := ⟨_, rfl⟩
  unfold mx4 mn4 at HR
  rw [← hqx, ← hqy] at HR
  obtain ⟨A1, hA1⟩ : ∃ v, v = max px qx := ⟨_, rfl⟩
  obtain ⟨A2, hA2⟩ : ∃ v, v = max A1 py := ⟨_, rfl⟩
  obtain ⟨A3, hA3⟩ : ∃ v, v = max A2 qy := ⟨_, rfl⟩
  obtain ⟨B1, hB1⟩ : ∃ v, v = min px qx := ⟨_, rfl⟩
  obtain ⟨B2, hB2⟩ : ∃ v, v = min B1 py := ⟨_, rfl⟩
  obtain ⟨B3, hB3⟩ : ∃ v, v = min B2 qy := ⟨_, rfl⟩
  rw [← hA1, ← hA2, ← hA3, ← hB1, ← hB2, ← hB3] at HR
  have e1 : IntKind.i64.wrap (-px) = qx := hqx.symm
  have e2 : IntKind.i64.wrap (-py) = qy := hqy.symm
  have a1 : (if px < qx then qx else px) = A1 := by rw [hA1]; exact if_max _ _
  have a2 : (if A1 < py then py else A1) = A2 := by rw [hA2]; exact if_max _ _
  have a3 : (if A2 < qy then qy else A2) = A3 := by rw [hA3]; exact if_max _ _
  have b1 : (if qx < px then qx else px) = B1 := by rw [hB1]; exact if_min _ _
  have b2 : (if py < B1 then py else B1) = B2 := by rw [hB2]; exact if_min _ _
  have b3 : (if qy < B2 then qy else B2) = B3 := by rw [hB3]; exact if_min _ _
  clear hqx hqy hA1 hA2 hA3 hB1 hB2 hB3
  by_cases k1 : 1048576 < A3
  · clear HR
    go_enter Try.func21, Try.ntmps21
    go_wp2_with fail
    have BB : Hid (Below w.heap.size w w) := Below.refl _ _
    refine bodyPost_ret (v := .tuple #[.int .i64 0, .int .i64 0, .int .i64 11]) (by unfold results; simp only [Try.results21]; go_simp) rfl ?_
    exact ⟨rfl, rfl⟩
  · by_cases k2 : B3 < -1048576
    · clear HR
      go_enter Try.func21, Try.ntmps21
      go_wp2_with fail
      have BB : Hid (Below w.heap.size w w) := Below.refl _ _
      refine bodyPost_ret (v := .tuple #[.int .i64 0, .int .i64 0, .int .i64 11]) (by unfold results; simp only [Try.results21]; go_simp) rfl ?_
      exact ⟨rfl, rfl⟩
    · by_cases k3 : d < 1
      · clear HR
        go_enter Try.func21, Try.ntmps21
        go_wp2_with fail
        have BB : Hid (Below w.heap.size w w) := Below.refl _ _
        refine bodyPost_ret (v := .tuple #[.int .i64 0, .int .i64 0, .int .i64 11]) (by unfold results; simp only [Try.results21]; go_simp) rfl ?_
        exact ⟨rfl, rfl⟩
      · have k4 : 16 < d := by omega
        clear HR
        go_enter Try.func21, Try.ntmps21
        go_wp2_with fail
        have BB : Hid (Below w.heap.size w w) := Below.refl _ _
        refine bodyPost_ret (v := .tuple #[.int .i64 0, .int .i64 0, .int .i64 11]) (by unfold results; simp only [Try.results21]; go_simp) rfl ?_
        exact ⟨rfl, rfl⟩
/-- Where a place comes from, by a mesh. -/
def mePl (gx gy nx ny px py d : Int) (f : Int → Int → Int) : Int :=
  cutI ((mixS (cwA gx gy nx ny px py d) (f (cellI gx nx px d) (cellI gy ny py d)) (cwB gx gy nx ny px py d) (f (cellI gx nx px d + 1) (cellI gy ny py d)) (cwC gx gy nx ny px py d) (f (cellI gx nx px d) (cellI gy ny py d + 1)) (cwD gx gy nx ny px py d) (f (cellI gx nx px d + 1) (cellI gy ny py d + 1))).fdiv
    (cwA gx gy nx ny px py d + cwB gx gy nx ny px py d + cwC gx gy nx ny px py d + cwD gx gy nx ny px py d))
theorem cw_facts {gx gy nx ny px py d : Int} (g1 : 1 ≤ gx ∧ gx ≤ 1024) (g2 : 1 ≤ gy ∧ gy ≤ 1024) (g3 : 1 ≤ nx ∧ nx ≤ 64) (g4 : 1 ≤ ny ∧ ny ≤ 64) (hd : 1 ≤ d ∧ d ≤ 16) :
    (0 ≤ cwA gx gy nx ny px py d ∧ cwA gx gy nx ny px py d ≤ 268435456) ∧ (0 ≤ cwB gx gy nx ny px py d ∧ cwB gx gy nx ny px py d ≤ 268435456) ∧ (0 ≤ cwC gx gy nx ny px py d ∧ cwC gx gy nx ny px py d ≤ 268435456) ∧ (0 ≤ cwD gx gy nx ny px py d ∧ cwD gx gy nx ny px py d ≤ 268435456) ∧
    cwA gx gy nx ny px py d + cwB gx gy nx ny px py d + cwC gx gy nx ny px py d + cwD gx gy nx ny px py d = gx * d * (gy * d) := by
  obtain ⟨-, -, -, -, x5, x6⟩ := cell_facts (p := px) g1 g3 hd
  obtain ⟨-, -, -, -, y5, y6⟩ := cell_facts (p := py) g2 g4 hd
  have u1 := mul_rng g1 hd
  have u2 := mul_rng g2 hd
  unfold cwA cwB cwC cwD
  generalize cellS gx nx px d = S at *
  generalize cellS gy ny py d = T at *
  generalize gx * d = U at *
  generalize gy * d = H at *
  refine ⟨prod_rng (by omega) (by omega), prod_rng (by omega) (by omega), prod_rng (by omega) (by omega), prod_rng (by omega) (by omega), ?_⟩
  grind
set_option maxRecDepth 100000 in
set_option maxHeartbeats 8000000 in
theorem meat_ok (g : Nat) (gx gy nx ny px py d : Int) (ks : List (Int × Int)) (hx : I64 px) (hy : I64 py) (hp : rightI px py d = true) (hG : MG gx gy nx ny ks) (hk : ∀ p ∈ ks, I64 p.1 ∧ I64 p.2) (w : World) (hm : MX w g gx gy nx ny ks) :
    Calls Try.prog 21 #[.pointer (some ⟨g, 0, none⟩), .int .i64 px, .int .i64 py, .int .i64 d] w fun e w' =>
      e = .returned (.tuple #[.int .i64 (mePl gx gy nx ny px py d (fun i k => (knP ks nx i k).1)), .int .i64 (mePl gx gy nx ny px py d (fun i k => (knP ks nx i k).2)), .int .i64 0]) ∧ Below w.heap.size w w' := by
  have HR := (mesh_right (d := d) hx hy).1 hp
  have hd : 1 ≤ d ∧ d ≤ 16 := by omega
  obtain ⟨g1, g2, g3, g4, -⟩ := id hG
  obtain ⟨c1, c2, c3, c4, c5⟩ := cw_facts (px := px) (py := py) g1 g2 g3 g4 hd
  have hne : cwA gx gy nx ny px py d + cwB gx gy nx ny px py d + cwC gx gy nx ny px py d + cwD gx gy nx ny px py d ≠ 0 := by
    rw [c5]
    have u1 := mul_rng g1 hd
    have u2 := mul_rng g2 hd
    have := mul_rng u1 u2
    omega
  have hkn : ∀ i k, I64 (knP ks nx i k).1 ∧ I64 (knP ks nx i k).2 := fun i k => by
    unfold knP
    by_cases h : (k * (nx + 1) + i).toNat < ks.length
    · rw [show ks.getD (k * (nx + 1) + i).toNat (0, 0) = ks[(k * (nx + 1) + i).toNat] by simp [List.getD, h]]
      exact hk _ (List.getElem_mem h)
    · rw [List.getD_eq_getElem?_getD, List.getElem?_eq_none (by omega)]; exact ⟨⟨by decide, by decide⟩, ⟨by decide, by decide⟩⟩
  have CC := Lib.hid (fun w hm => mcorners g gx gy nx ny px py d ks hG hd w hm)
  have CX := Lib.hid (fun w => mmix_x (knP ks nx (cellI gx nx px d) (cellI gy ny py d)).1 (knP ks nx (cellI gx nx px d) (cellI gy ny py d)).2 (cwA gx gy nx ny px py d) (knP ks nx (cellI gx nx px d + 1) (cellI gy ny py d)).1 (knP ks nx (cellI gx nx px d + 1) (cellI gy ny py d)).2 (cwB gx gy nx ny px py d) (knP ks nx (cellI gx nx px d) (cellI gy ny py d + 1)).1 (knP ks nx (cellI gx nx px d) (cellI gy ny py d + 1)).2 (cwC gx gy nx ny px py d) (knP ks nx (cellI gx nx px d + 1) (cellI gy ny py d + 1)).1 (knP ks nx (cellI gx nx px d + 1) (cellI gy ny py d + 1)).2 (cwD gx gy nx ny px py d) c1 c2 c3 c4 hne (hkn _ _).1 (hkn _ _).1 (hkn _ _).1 (hkn _ _).1 w)
  have CY := Lib.hid (fun w => mmix_y (knP ks nx (cellI gx nx px d) (cellI gy ny py d)).1 (knP ks nx (cellI gx nx px d) (cellI gy ny py d)).2 (cwA gx gy nx ny px py d) (knP ks nx (cellI gx nx px d + 1) (cellI gy ny py d)).1 (knP ks nx (cellI gx nx px d + 1) (cellI gy ny py d)).2 (cwB gx gy nx ny px py d) (knP ks nx (cellI gx nx px d) (cellI gy ny py d + 1)).1 (knP ks nx (cellI gx nx px d) (cellI gy ny py d + 1)).2 (cwC gx gy nx ny px py d) (knP ks nx (cellI gx nx px d + 1) (cellI gy ny py d + 1)).1 (knP ks nx (cellI gx nx px d + 1) (cellI gy ny py d + 1)).2 (cwD gx gy nx ny px py d) c1 c2 c3 c4 hne (hkn _ _).2 (hkn _ _).2 (hkn _ _).2 (hkn _ _).2 w)
  unfold GiveC4 at CC
  have EX : Hid (mePl gx gy nx ny px py d (fun i k => (knP ks nx i k).1) = _) := rfl
  have EY : Hid (mePl gx gy nx ny px py d (fun i k => (knP ks nx i k).2) = _) := rfl
  unfold mePl
  generalize cutI ((mixS (cwA gx gy nx ny px py d) (knP ks nx (cellI gx nx px d) (cellI gy ny py d)).1 (cwB gx gy nx ny px py d) (knP ks nx (cellI gx nx px d + 1) (cellI gy ny py d)).1 (cwC gx gy nx ny px py d) (knP ks nx (cellI gx nx px d) (cellI gy ny py d + 1)).1 (cwD gx gy nx ny px py d) (knP ks nx (cellI gx nx px d + 1) (cellI gy ny py d + 1)).1).fdiv (cwA gx gy nx ny px py d + cwB gx gy nx ny px py d + cwC gx gy nx ny px py d + cwD gx gy nx ny px py d)) = RX at *
  generalize cutI ((mixS (cwA gx gy nx ny px py d) (knP ks nx (cellI gx nx px d) (cellI gy ny py d)).2 (cwB gx gy nx ny px py d) (knP ks nx (cellI gx nx px d + 1) (cellI gy ny py d)).2 (cwC gx gy nx ny px py d) (knP ks nx (cellI gx nx px d) (cellI gy ny py d + 1)).2 (cwD gx gy nx ny px py d) (knP ks nx (cellI gx nx px d + 1) (cellI gy ny py d + 1)).2).fdiv (cwA gx gy nx ny px py d + cwB gx gy nx ny px py d + cwC gx gy nx ny px py d + cwD gx gy nx ny px py d)) = RY at *
  generalize (knP ks nx (cellI gx nx px d) (cellI gy ny py d)).1 = x0 at *
  generalize (knP ks nx (cellI gx nx px d) (cellI gy ny py d)).2 = y0 at *
  generalize (knP ks nx (cellI gx nx px d + 1) (cellI gy ny py d)).1 = x1 at *
  generalize (knP ks nx (cellI gx nx px d + 1) (cellI gy ny py d)).2 = y1 at *
  generalize (knP ks nx (cellI gx nx px d) (cellI gy ny py d + 1)).1 = x2 at *
  generalize (knP ks nx (cellI gx nx px d) (cellI gy ny py d + 1)).2 = y2 at *
  generalize (knP ks nx (cellI gx nx px d + 1) (cellI gy ny py d + 1)).1 = x3 at *
  generalize (knP ks nx (cellI gx nx px d + 1) (cellI gy ny py d + 1)).2 = y3 at *
  generalize cwA gx gy nx ny px py d = b0' at *
  generalize cwB gx gy nx ny px py d = b1' at *
  generalize cwC gx gy nx ny px py d = b2' at *
  generalize cwD gx gy nx ny px py d = b3' at *
  clear EX EY hp hx hy hd g1 g2 g3 g4 c1 c2 c3 c4 c5 hne hkn hk hG
  have X4 : ∀ (ts : Array TypeId) (t : TypeId) (x y z u : Int) (w : World), (Builtin.max_ ts t #[.int .i64 x, .int .i64 y, .int .i64 z, .int .i64 u]).run Try.prog w = .ok (.int .i64 (if u > (if z > (if y > x then y else x) then z else (if y > x then y else x)) then u else (if z > (if y > x then y else x) then z else (if y > x then y else x)))) w := fun ts t x y z u w => run_max_int4 w ts t x y z u
  have N4 : ∀ (ts : Array TypeId) (t : TypeId) (x y z u : Int) (w : World), (Builtin.min_ ts t #[.int .i64 x, .int .i64 y, .int .i64 z, .int .i64 u]).run Try.prog w = .ok (.int .i64 (if u < (if z < (if y < x then y else x) then z else (if y < x then y else x)) then u else (if z < (if y < x then y else x) then z else (if y < x then y else x)))) w := fun ts t x y z u w => run_min_int4 w ts t x y z u
  obtain ⟨qx, hqx⟩ : ∃ v, v = IntKind.i64.wrap (-px) := ⟨_, rfl⟩
  obtain ⟨qy, hqy⟩ : ∃ v, v = IntKind.i64.wrap (-py) := ⟨_, rfl⟩
  unfold mx4 mn4 at HR
  rw [← hqx, ← hqy] at HR
  obtain ⟨A1, hA1⟩ : ∃ v, v = max px qx := ⟨_, rfl⟩
  obtain ⟨A2, hA2⟩ : ∃ v, v = max A1 py := ⟨_, rfl⟩
  obtain ⟨A3, hA3⟩ : ∃ v, v = max A2 qy := ⟨_, rfl⟩
  obtain ⟨B1, hB1⟩ : ∃ v, v = min px qx := ⟨_, rfl⟩
  obtain ⟨B2, hB2⟩ : ∃ v, v = min B1 py := ⟨_, rfl⟩
  obtain ⟨B3, hB3⟩ : ∃ v, v = min B2 qy := ⟨_, rfl⟩
  rw [← hA1, ← hA2, ← hA3, ← hB1, ← hB2, ← hB3] at HR
  have e1 : IntKind.i64.wrap (-px) = qx := hqx.symm
  have e2 : IntKind.i64.wrap (-py) = qy := hqy.symm
  have a1 : (if px < qx then qx else px) = A1 := by rw [hA1]; exact if_max _ _
  have a2 : (if A1 < py then py else A1) = A2 := by rw [hA2]; exact if_max _ _
  have a3 : (if A2 < qy then qy else A2) = A3 := by rw [hA3]; exact if_max _ _
  have b1 : (if qx < px then qx else px) = B1 := by rw [hB1]; exact if_min _ _
  have b2 : (if py < B1 then py else B1) = B2 := by rw [hB2]; exact if_min _ _
  have b3 : (if qy < B2 then qy else B2) = B3 := by rw [hB3]; exact if_min _ _
  clear hqx hqy hA1 hA2 hA3 hB1 hB2 hB3
  obtain ⟨k1, k2, k3, k4⟩ := HR
  replace hm := Lib.hid hm
  go_enter Try.func21, Try.ntmps21
  go_wp2_with fail
  have BB : Hid (Below w.heap.size w w) := Below.refl _ _
  refine (CC.out _ hm.out).mono ?_
  rintro e w1 ⟨rfl, hb⟩
  replace BB := Lib.hid (below_next BB.out hb)
  clear hb
  go_upto_region 6 with fail
  have d_l := Lib.hid (And.intro BB.out.size (True.intro))
  obtain ⟨hb, r_l⟩ := laid w1 #[.int .i64 x0, .int .i64 y0, .int .i64 b0', .int .i64 x1, .int .i64 y1, .int .i64 b1', .int .i64 x2, .int .i64 y2, .int .i64 b2', .int .i64 x3, .int .i64 y3, .int .i64 b3'] C4T
  replace BB := Lib.hid (below_next BB.out hb)
  replace r_l := Lib.hid r_l
  clear hb
  generalize w1.alloc (.cells #[.int .i64 x0, .int .i64 y0, .int .i64 b0', .int .i64 x1, .int .i64 y1, .int .i64 b1', .int .i64 x2, .int .i64 y2, .int .i64 b2', .int .i64 x3, .int .i64 y3, .int .i64 b3'] C4T) = w2 at *
  generalize w1.heap.size = g_l at *
  have KK := Lib.hid (fun (w9 : World) (h : Below w2.heap.size w2 w9) => (cells12 (r_l.out.keep h) : (w9.cell? ⟨g_l, 0, none⟩ = some (.int .i64 x0) ∧ w9.cell? ⟨g_l, 1, none⟩ = some (.int .i64 y0) ∧ w9.cell? ⟨g_l, 2, none⟩ = some (.int .i64 b0') ∧ w9.cell? ⟨g_l, 3, none⟩ = some (.int .i64 x1) ∧ w9.cell? ⟨g_l, 4, none⟩ = some (.int .i64 y1) ∧ w9.cell? ⟨g_l, 5, none⟩ = some (.int .i64 b1') ∧ w9.cell? ⟨g_l, 6, none⟩ = some (.int .i64 x2) ∧ w9.cell? ⟨g_l, 7, none⟩ = some (.int .i64 y2) ∧ w9.cell? ⟨g_l, 8, none⟩ = some (.int .i64 b2') ∧ w9.cell? ⟨g_l, 9, none⟩ = some (.int .i64 x3) ∧ w9.cell? ⟨g_l, 10, none⟩ = some (.int .i64 y3) ∧ w9.cell? ⟨g_l, 11, none⟩ = some (.int .i64 b3'))))
  have K0 := KK.out w2 (Below.refl _ _)
  have KD := KK.out w2.drew (below_drew (Below.refl _ _))
  have tok0 : Hid True := trivial
  have tok1 : Hid True := trivial
  go_region_held3 (fun w9 => (w9.cell? ⟨g_l, 0, none⟩ = some (.int .i64 x0) ∧ w9.cell? ⟨g_l, 1, none⟩ = some (.int .i64 y0) ∧ w9.cell? ⟨g_l, 2, none⟩ = some (.int .i64 b0') ∧ w9.cell? ⟨g_l, 3, none⟩ = some (.int .i64 x1) ∧ w9.cell? ⟨g_l, 4, none⟩ = some (.int .i64 y1) ∧ w9.cell? ⟨g_l, 5, none⟩ = some (.int .i64 b1') ∧ w9.cell? ⟨g_l, 6, none⟩ = some (.int .i64 x2) ∧ w9.cell? ⟨g_l, 7, none⟩ = some (.int .i64 y2) ∧ w9.cell? ⟨g_l, 8, none⟩ = some (.int .i64 b2') ∧ w9.cell? ⟨g_l, 9, none⟩ = some (.int .i64 x3) ∧ w9.cell? ⟨g_l, 10, none⟩ = some (.int .i64 y3) ∧ w9.cell? ⟨g_l, 11, none⟩ = some (.int .i64 b3')))
      (first | with_reducible exact KD | with_reducible exact K0 | with_reducible exact K_w3 | with_reducible exact K_w4)
      (first
        | (go_at_call 81
           have t_k := tok0
           refine (CX.out _).mono ?_
           rintro e w3 ⟨rfl, hb⟩
           have B_w3 := Lib.hid (reg_next (w0 := w2) (by repeat (first | with_reducible exact Below.refl _ _ | with_reducible apply below_drew | with_reducible apply below_new)) hb)
           have K_w3 := KK.out _ B_w3.out
           clear hb
           clear t_k tok0)
        | (go_at_call 81
           have t_k := tok1
           refine (CY.out _).mono ?_
           rintro e w4 ⟨rfl, hb⟩
           have B_w4 := Lib.hid (below_next B_w3.out hb)
           have K_w4 := KK.out _ B_w4.out
           clear hb
           clear t_k tok1))
  clear KK K0 KD K_w3 K_w4
  replace r_l := Lib.hid (r_l.out.keep B_w4.out)
  replace BB := Lib.hid (below_next BB.out B_w4.out)
  clear B_w3 B_w4
  go_wp2_with fail
  refine bodyPost_ret (v := .tuple #[.int .i64 RX, .int .i64 RY, .int .i64 0]) (by unfold results; simp only [Try.results21]; go_simp) rfl ?_
  exact ⟨rfl, BB.out⟩
end Go.Proofs.Ythoakbjnofhpbaa
