/- Contract of New: a walk that stands at a place. -/
import Derived.Test.YtbldgbenlmjmjaaDda4
import Derived.Test.YtbldgbenlmjmjaaAffR1
set_option linter.unusedVariables false
set_option linter.unusedSimpArgs false
namespace Go.Proofs.Ytbldgbenlmjmjaa
open Go.RowKit
/-- By the sign of the divisor. -/
def sD (D z : Int) : Int := if D < 0 then -z else z
/-- A line's number at a place. -/
def lnF (k0 k1 k2 x y : Int) : Int := k0 * x + k1 * y + k2
theorem sD_fdiv {D z : Int} (h : D ≠ 0) : (sD D z * 65536).fdiv (sD D D) = (z * 65536).fdiv D := by
  unfold sD; split
  · rw [Int.neg_mul, Int.neg_fdiv_neg]
  · rfl
theorem sD_add {D a b : Int} : sD D a + sD D b = sD D (a + b) := by unfold sD; split <;> omega
theorem sD_mul {D n a : Int} : n * sD D a = sD D (n * a) := by unfold sD; split <;> grind
theorem sD_pos {D : Int} (h : D ≠ 0) : 0 < sD D D := by unfold sD; split <;> omega
theorem lnF_step {k0 k1 k2 x y n : Int} : lnF k0 k1 k2 x y + n * k0 = lnF k0 k1 k2 (x + n) y := by unfold lnF; grind
theorem plU_one (k0 k1 k2 D x y : Int) : plU k0 k1 k2 D x y 1 = cutI ((lnF k0 k1 k2 x y * 65536).fdiv D) := by unfold plU lnF; rw [Int.mul_one, Int.mul_one]
theorem sD_in {D z m : Int} (h : -m ≤ z ∧ z ≤ m) : -m ≤ sD D z ∧ sD D z ≤ m := by unfold sD; split <;> omega

theorem ddbegin (F G B ah al : Int) (hF : W128 F ah al) (hG : -4611686018427387904 ≤ G ∧ G ≤ 4611686018427387904) (hB : -1125899906842624 ≤ B ∧ B ≤ 1125899906842624) (h0 : B ≠ 0) (hf : -4611686018427387904 ≤ F ∧ F ≤ 4611686018427387904) (w : World) :
    Calls Try.prog 62 #[wv ah al, .int .i64 G, .int .i64 B] w (GiveAx (sD B F) (sD B G) (sD B B) w) := by
  by_cases h : B < 0
  · have e : ∀ z, sD B z = -z := fun z => if_pos h
    rw [e, e, e]
    have k2 := fdiv_room' (z := -F * 65536) (b := -B) (by omega) ⟨by omega, by omega⟩
    have k3 := fdiv_room' (z := -G * 65536) (b := -B) (by omega) ⟨by omega, by omega⟩
    exact ddbegin_neg_ F G B (-F) (-G) (-B) ah al rfl (wr_in (by omega) (by omega)) (wr_in (by omega) (by omega)) hF ⟨by omega, by omega⟩ ⟨by omega, by omega⟩ h (by omega)
      ⟨by omega, by omega⟩ ⟨by omega, by omega⟩ ⟨by omega, by omega⟩ ⟨by omega, by omega⟩ w
  · have e : ∀ z, sD B z = z := fun z => if_neg h
    rw [e, e, e]
    have k2 := fdiv_room' (z := F * 65536) (b := B) (by omega) ⟨by omega, by omega⟩
    have k3 := fdiv_room' (z := G * 65536) (b := B) (by omega) ⟨by omega, by omega⟩
    exact ddbegin_pos F G B ah al hF ⟨by omega, by omega⟩ ⟨by omega, by omega⟩ (by omega) ⟨by omega, by omega⟩ ⟨by omega, by omega⟩ ⟨by omega, by omega⟩ w

/-- What bounds a map's lines. -/
theorem ln_in {c0 c1 c2 c3 c4 c5 x y : Int} (hM : AM c0 c1 c2 c3 c4 c5) (hx : -1048577 ≤ x ∧ x ≤ 1048578) (hy : -1048576 ≤ y ∧ y ≤ 1048576) :
    (-1099511627776 ≤ 65536 * c4 ∧ 65536 * c4 ≤ 1099511627776) ∧ (-1099511627776 ≤ -65536 * c3 ∧ -65536 * c3 ≤ 1099511627776) ∧ (-1099511627776 ≤ -65536 * c1 ∧ -65536 * c1 ≤ 1099511627776) ∧ (-1099511627776 ≤ 65536 * c0 ∧ 65536 * c0 ≤ 1099511627776) ∧
    (-72057594037927936 ≤ c1 * c5 - c4 * c2 ∧ c1 * c5 - c4 * c2 ≤ 72057594037927936) ∧ (-72057594037927936 ≤ c3 * c2 - c0 * c5 ∧ c3 * c2 - c0 * c5 ≤ 72057594037927936) ∧
    (-4611686018427387904 ≤ 65536 * c4 * x + -65536 * c1 * y ∧ 65536 * c4 * x + -65536 * c1 * y ≤ 4611686018427387904) ∧ (-4611686018427387904 ≤ -65536 * c3 * x + 65536 * c0 * y ∧ -65536 * c3 * x + 65536 * c0 * y ≤ 4611686018427387904) ∧
    (-4611686018427387904 ≤ lnF (65536 * c4) (-65536 * c1) (c1 * c5 - c4 * c2) x y ∧ lnF (65536 * c4) (-65536 * c1) (c1 * c5 - c4 * c2) x y ≤ 4611686018427387904) ∧ (-4611686018427387904 ≤ lnF (-65536 * c3) (65536 * c0) (c3 * c2 - c0 * c5) x y ∧ lnF (-65536 * c3) (65536 * c0) (c3 * c2 - c0 * c5) x y ≤ 4611686018427387904) := by
  obtain ⟨a, b, c, d, e, f, -⟩ := hM
  have m1 := mul_in b f
  have m2 := mul_in e c
  have m3 := mul_in d c
  have m4 := mul_in a f
  have n1 := mul_in (show -1099511627776 ≤ 65536 * c4 ∧ 65536 * c4 ≤ 1099511627776 by omega) (show -1048578 ≤ x ∧ x ≤ 1048578 by omega)
  have n2 := mul_in (show -1099511627776 ≤ -65536 * c1 ∧ -65536 * c1 ≤ 1099511627776 by omega) hy
  have n3 := mul_in (show -1099511627776 ≤ -65536 * c3 ∧ -65536 * c3 ≤ 1099511627776 by omega) (show -1048578 ≤ x ∧ x ≤ 1048578 by omega)
  have n4 := mul_in (show -1099511627776 ≤ 65536 * c0 ∧ 65536 * c0 ≤ 1099511627776 by omega) hy
  unfold lnF
  generalize 65536 * c4 * x = p1 at *
  generalize -65536 * c1 * y = p2 at *
  generalize -65536 * c3 * x = p3 at *
  generalize 65536 * c0 * y = p4 at *
  generalize c1 * c5 = p5 at *
  generalize c4 * c2 = p6 at *
  generalize c3 * c2 = p7 at *
  generalize c0 * c5 = p8 at *
  refine ⟨by omega, by omega, by omega, by omega, by omega, by omega, by omega, by omega, by omega, by omega⟩

/-- The code of a walk. -/
def ddC (zs : List Int) (x y : Int) : Int := if afC zs = 0 then (if inI x 1048576 = true ∧ inI y 1048576 = true then 0 else 11) else afC zs
/-- A walk along row y of a map stands at x. -/
def WKM (w : World) (g : Nat) (x y c0 c1 c2 c3 c4 c5 : Int) : Prop :=
  WKA w g x (sD (detI c0 c1 c3 c4) (lnF (65536 * c4) (-65536 * c1) (c1 * c5 - c4 * c2) x y)) (sD (detI c0 c1 c3 c4) (65536 * c4)) (sD (detI c0 c1 c3 c4) (lnF (-65536 * c3) (65536 * c0) (c3 * c2 - c0 * c5) x y)) (sD (detI c0 c1 c3 c4) (-65536 * c3)) (sD (detI c0 c1 c3 c4) (detI c0 c1 c3 c4))
def GiveNw (zs : List Int) (x y : Int) (w : World) (e : Ending) (w' : World) : Prop := ∃ p, e = .returned (.tuple #[p, .int .i64 (ddC zs x y)]) ∧ Below w.heap.size w w' ∧
  (ddC zs x y ≠ 0 → p = .pointer none) ∧ (ddC zs x y = 0 → ∃ g c0 c1 c2 c3 c4 c5, p = .pointer (some ⟨g, 0, none⟩) ∧ w.heap.size ≤ g ∧ zs = [c0, c1, c2, c3, c4, c5] ∧ AM c0 c1 c2 c3 c4 c5 ∧ (-1048576 ≤ x ∧ x ≤ 1048576) ∧ (-1048576 ≤ y ∧ y ≤ 1048576) ∧ WKM w' g x y c0 c1 c2 c3 c4 c5)

set_option maxRecDepth 100000 in
set_option maxHeartbeats 8000000 in
theorem ddnew_no (v : Value) (zs : List Int) (x y : Int) (w : World) (hv : IS w v zs) (h : ddC zs x y ≠ 0) : Calls Try.prog 39 #[v, .int .i64 x, .int .i64 y] w (GiveNw zs x y w) := by
  have CN := Lib.hid (fun w hv => afnew v zs w hv)
  have CI := Lib.hid (fun x w => ddain x w)
  by_cases h0 : afC zs = 0
  · have e : ddC zs x y = if inI x 1048576 = true ∧ inI y 1048576 = true then 0 else 11 := if_pos h0
    rcases hbx : inI x 1048576 with _ | _
    · have HC : Hid (ddC zs x y = 11) := by show _ = _; rw [e, hbx]; simp
      replace hbx := Lib.hid hbx
      clear e h
      go_enter Try.func39, Try.ntmps39
      go_wp2_with fail
      have BB : Hid (Below w.heap.size w w) := Below.refl _ _
      have h_v := Lib.hid (hv.below BB.out)
      refine (CN.out _ h_v.out).mono ?_
      rintro e w1 ⟨p, rfl, hb, -, hz⟩
      replace BB := Lib.hid (below_next BB.out hb)
      clear hb
      obtain ⟨gm, c0, c1, c2, c3, c4, c5, rfl, -, -, -⟩ := hz h0
      clear hz
      rw [h0]
      go_wp2_with fail
      refine (CI.out _ _).mono ?_
      rintro e w9 ⟨rfl, rfl⟩
      rw [hbx.out]
      go_wp2_with fail
      refine bodyPost_ret (v := .tuple #[.pointer none, .int .i64 11]) (by unfold results; simp only [Try.results39]; go_simp) rfl ?_
      exact ⟨_, by rw [HC.out], BB.out, fun _ => rfl, fun h => absurd (HC.out.symm.trans h) (by omega)⟩
    · rcases hby : inI y 1048576 with _ | _
      · have HC : Hid (ddC zs x y = 11) := by show _ = _; rw [e, hbx, hby]; simp
        replace hbx := Lib.hid hbx; replace hby := Lib.hid hby
        clear e h
        go_enter Try.func39, Try.ntmps39
        go_wp2_with fail
        have BB : Hid (Below w.heap.size w w) := Below.refl _ _
        have h_v := Lib.hid (hv.below BB.out)
        refine (CN.out _ h_v.out).mono ?_
        rintro e w1 ⟨p, rfl, hb, -, hz⟩
        replace BB := Lib.hid (below_next BB.out hb)
        clear hb
        obtain ⟨gm, c0, c1, c2, c3, c4, c5, rfl, -, -, -⟩ := hz h0
        clear hz
        rw [h0]
        go_wp2_with fail
        refine (CI.out _ _).mono ?_
        rintro e w9 ⟨rfl, rfl⟩
        rw [hbx.out]
        go_wp2_with fail
        refine (CI.out _ _).mono ?_
        rintro e w9 ⟨rfl, rfl⟩
        rw [hby.out]
        go_wp2_with fail
        refine bodyPost_ret (v := .tuple #[.pointer none, .int .i64 11]) (by unfold results; simp only [Try.results39]; go_simp) rfl ?_
        exact ⟨_, by rw [HC.out], BB.out, fun _ => rfl, fun h => absurd (HC.out.symm.trans h) (by omega)⟩
      · exact absurd (by rw [e, hbx, hby]; simp) h
  · have HC : Hid (ddC zs x y = afC zs) := if_neg h0
    have hne : ¬ afC zs = 0 := h0
    clear h
    go_enter Try.func39, Try.ntmps39
    go_wp2_with fail
    have BB : Hid (Below w.heap.size w w) := Below.refl _ _
    have h_v := Lib.hid (hv.below BB.out)
    refine (CN.out _ h_v.out).mono ?_
    rintro e w1 ⟨p, rfl, hb, hn, -⟩
    replace BB := Lib.hid (below_next BB.out hb)
    clear hb
    obtain rfl := hn h0
    clear hn h0 hv h_v CN
    generalize afC zs = c at *
    go_wp2_with fail
    refine bodyPost_ret (v := .tuple #[.pointer none, .int .i64 c]) (by unfold results; simp only [Try.results39]; go_simp) rfl ?_
    exact ⟨_, by rw [HC.out], BB.out, fun _ => rfl, fun h => absurd (HC.out.symm.trans h) hne⟩

set_option maxRecDepth 100000 in
set_option maxHeartbeats 16000000 in
theorem ddnew_ok (v : Value) (c0 c1 c2 c3 c4 c5 x y : Int) (w : World) (hv : IS w v [c0, c1, c2, c3, c4, c5]) (h0 : afC [c0, c1, c2, c3, c4, c5] = 0) (hM : AM c0 c1 c2 c3 c4 c5) (hbx : inI x 1048576 = true) (hby : inI y 1048576 = true) :
    Calls Try.prog 39 #[v, .int .i64 x, .int .i64 y] w fun e w' => ∃ g, e = .returned (.tuple #[.pointer (some ⟨g, 0, none⟩), .int .i64 0]) ∧ Below w.heap.size w w' ∧ w.heap.size ≤ g ∧ WKM w' g x y c0 c1 c2 c3 c4 c5 := by
  have CN := Lib.hid (fun w hv => afnew v [c0, c1, c2, c3, c4, c5] w hv)
  have CI := Lib.hid (fun x w => ddain x w)
  have ix := inI_iff.1 hbx
  have iy := inI_iff.1 hby
  obtain ⟨l1, l2, l3, l4, l5, l6, l7, l8, l9, l10⟩ := ln_in hM (show -1048577 ≤ x ∧ x ≤ 1048578 by omega) iy
  have iD := (det_in hM.a hM.b hM.d hM.e).2.2
  have hD := hM.det
  have CA1 := Lib.hid (fun w => ddat (65536 * c4) (-65536 * c1) (c1 * c5 - c4 * c2) x y ⟨by omega, by omega⟩ ⟨by omega, by omega⟩ ⟨by omega, by omega⟩ ⟨by omega, by omega⟩ ⟨by omega, by omega⟩ ⟨by omega, by omega⟩ (by have := l9; unfold lnF at this; exact ⟨by omega, by omega⟩) w)
  have CA2 := Lib.hid (fun w => ddat (-65536 * c3) (65536 * c0) (c3 * c2 - c0 * c5) x y ⟨by omega, by omega⟩ ⟨by omega, by omega⟩ ⟨by omega, by omega⟩ ⟨by omega, by omega⟩ ⟨by omega, by omega⟩ ⟨by omega, by omega⟩ (by have := l10; unfold lnF at this; exact ⟨by omega, by omega⟩) w)
  have CB1 := Lib.hid (fun ah al h w => ddbegin (lnF (65536 * c4) (-65536 * c1) (c1 * c5 - c4 * c2) x y) (65536 * c4) (detI c0 c1 c3 c4) ah al h (by omega) (by omega) hD (by omega) w)
  have CB2 := Lib.hid (fun ah al h w => ddbegin (lnF (-65536 * c3) (65536 * c0) (c3 * c2 - c0 * c5) x y) (-65536 * c3) (detI c0 c1 c3 c4) ah al h (by omega) (by omega) hD (by omega) w)
  change Hid (∀ w, Calls _ _ _ _ (GiveW (lnF (65536 * c4) (-65536 * c1) (c1 * c5 - c4 * c2) x y) w)) at CA1
  change Hid (∀ w, Calls _ _ _ _ (GiveW (lnF (-65536 * c3) (65536 * c0) (c3 * c2 - c0 * c5) x y) w)) at CA2
  have HG : Hid (∀ w' g, WKA w' g x (sD (detI c0 c1 c3 c4) (lnF (65536 * c4) (-65536 * c1) (c1 * c5 - c4 * c2) x y)) (sD (detI c0 c1 c3 c4) (65536 * c4)) (sD (detI c0 c1 c3 c4) (lnF (-65536 * c3) (65536 * c0) (c3 * c2 - c0 * c5) x y)) (sD (detI c0 c1 c3 c4) (-65536 * c3)) (sD (detI c0 c1 c3 c4) (detI c0 c1 c3 c4)) → WKM w' g x y c0 c1 c2 c3 c4 c5) := fun w' g h => h
  have HM : Hid (∀ w gm, AtB w gm (afCells c0 c1 c2 c3 c4 c5) AT → AtB w gm #[.int .i64 (65536 * c4), .int .i64 (-65536 * c1), .int .i64 (c1 * c5 - c4 * c2), .int .i64 (-65536 * c3), .int .i64 (65536 * c0), .int .i64 (c3 * c2 - c0 * c5), .int .i64 (detI c0 c1 c3 c4)] AT) := fun _ _ h => h
  replace hbx := Lib.hid hbx; replace hby := Lib.hid hby; replace h0 := Lib.hid h0
  have hv := Lib.hid hv
  clear hM ix iy l1 l2 l3 l4 l5 l6 l7 l8 l9 l10 iD hD
  go_enter Try.func39, Try.ntmps39
  go_wp2_with fail
  have BB : Hid (Below w.heap.size w w) := Below.refl _ _
  have h_v := Lib.hid (hv.out.below BB.out)
  refine (CN.out _ h_v.out).mono ?_
  rintro e w1 ⟨p, rfl, hb, -, hz⟩
  replace BB := Lib.hid (below_next BB.out hb)
  clear hb
  obtain ⟨gm, c0', c1', c2', c3', c4', c5', rfl, he, -, r_m⟩ := hz h0.out
  simp only [List.cons.injEq, and_true] at he
  obtain ⟨rfl, rfl, rfl, rfl, rfl, rfl⟩ := he
  replace r_m := HM.out _ _ r_m
  clear hz HM CN h_v hv
  rw [h0.out]
  clear h0
  generalize detI c0 c1 c3 c4 = D at *
  generalize lnF (65536 * c4) (-65536 * c1) (c1 * c5 - c4 * c2) x y = FU at *
  generalize lnF (-65536 * c3) (65536 * c0) (c3 * c2 - c0 * c5) x y = FV at *
  generalize c1 * c5 - c4 * c2 = u2 at *
  generalize c3 * c2 - c0 * c5 = v2 at *
  generalize 65536 * c4 = u0 at *
  generalize -65536 * c1 = u1 at *
  generalize -65536 * c3 = v0 at *
  generalize 65536 * c0 = v1 at *
  have r_m := Lib.hid r_m
  go_wp2_with fail
  refine (CI.out _ _).mono ?_
  rintro e w9 ⟨rfl, rfl⟩
  rw [hbx.out]
  go_wp2_with fail
  refine (CI.out _ _).mono ?_
  rintro e w9 ⟨rfl, rfl⟩
  rw [hby.out]
  go_wp2_with fail
  refine (aflines gm u0 u1 u2 v0 v1 v2 D _ r_m.out).mono ?_
  rintro e w2 ⟨rfl, hb⟩
  replace r_m := Lib.hid (r_m.out.keep hb)
  replace BB := Lib.hid (below_next BB.out hb)
  clear hb
  go_wp2_with fail
  have d_u := Lib.hid (And.intro BB.out.size (And.intro r_m.out.lt (True.intro)))
  obtain ⟨hb, -, r_u, r_v⟩ := start2 w2 #[.int .i64 u0, .int .i64 u1, .int .i64 u2] LN #[.int .i64 v0, .int .i64 v1, .int .i64 v2] LN
  replace r_m := Lib.hid (r_m.out.keep hb)
  replace BB := Lib.hid (below_next BB.out hb)
  clear hb
  replace r_u := Lib.hid r_u; replace r_v := Lib.hid r_v
  generalize (w2.alloc (.cells #[.int .i64 u0, .int .i64 u1, .int .i64 u2] LN)).alloc (.cells #[.int .i64 v0, .int .i64 v1, .int .i64 v2] LN) = w3 at *
  generalize w2.heap.size = g_u at *
  have d_v := d_u
  have CD := Lib.hid (fun w9 (h : Below w3.heap.size w3 w9) => afdet_of gm _ _ _ _ _ _ _ w9 (r_m.out.keep h))
  have KK := Lib.hid (fun (w9 : World) (h : Below w3.heap.size w3 w9) => (⟨cells3 (r_u.out.keep h), cells3 (r_v.out.keep h)⟩ : (w9.cell? ⟨g_u, 0, none⟩ = some (.int .i64 u0) ∧ w9.cell? ⟨g_u, 1, none⟩ = some (.int .i64 u1) ∧ w9.cell? ⟨g_u, 2, none⟩ = some (.int .i64 u2)) ∧ (w9.cell? ⟨g_u + 1, 0, none⟩ = some (.int .i64 v0) ∧ w9.cell? ⟨g_u + 1, 1, none⟩ = some (.int .i64 v1) ∧ w9.cell? ⟨g_u + 1, 2, none⟩ = some (.int .i64 v2))))
  have K0 := KK.out w3 (Below.refl _ _)
  have KD := KK.out w3.drew (below_drew (Below.refl _ _))
  have tok0 : Hid True := trivial
  have tok1 : Hid True := trivial
  have tok2 : Hid True := trivial
  have tok3 : Hid True := trivial
  have tok4 : Hid True := trivial
  have tok5 : Hid True := trivial
  go_region_held3 (fun w9 => (w9.cell? ⟨g_u, 0, none⟩ = some (.int .i64 u0) ∧ w9.cell? ⟨g_u, 1, none⟩ = some (.int .i64 u1) ∧ w9.cell? ⟨g_u, 2, none⟩ = some (.int .i64 u2)) ∧ (w9.cell? ⟨g_u + 1, 0, none⟩ = some (.int .i64 v0) ∧ w9.cell? ⟨g_u + 1, 1, none⟩ = some (.int .i64 v1) ∧ w9.cell? ⟨g_u + 1, 2, none⟩ = some (.int .i64 v2)))
      (first | with_reducible exact KD | with_reducible exact K0 | with_reducible exact KK.out _ (below_new B_w7.out _) | with_reducible exact K_w4 | with_reducible exact K_w5 | with_reducible exact K_w6 | with_reducible exact K_w7)
      (first
        | (go_at_call 63
           have t_k := tok0
           refine (CA1.out _).mono ?_
           rintro e w4 ⟨fh, fl, rfl, hb, hf⟩
           have B_w4 := Lib.hid (reg_next (w0 := w3) (by repeat (first | with_reducible exact Below.refl _ _ | with_reducible apply below_drew | with_reducible apply below_new)) hb)
           have K_w4 := KK.out _ B_w4.out
           clear hb
           clear t_k tok0)
        | (go_at_call 22
           have t_k := tok1
           refine (CD.out _ B_w4.out).mono ?_
           rintro e w9 ⟨rfl, rfl⟩
           clear t_k tok1)
        | (go_at_call 62
           have t_k := tok2
           refine (CB1.out _ _ hf _).mono ?_
           rintro e w5 ⟨q0, q1, s0, s1, k0, m0, rfl, hb, ax⟩
           have B_w5 := Lib.hid (below_next B_w4.out hb)
           have K_w5 := KK.out _ B_w5.out
           clear hb
           clear t_k tok2)
        | (go_at_call 63
           have t_k := tok3
           refine (CA2.out _).mono ?_
           rintro e w6 ⟨gh, gl, rfl, hb, hg⟩
           have B_w6 := Lib.hid (below_next B_w5.out hb)
           have K_w6 := KK.out _ B_w6.out
           clear hb
           clear t_k tok3)
        | (go_at_call 22
           have t_k := tok4
           refine (CD.out _ B_w6.out).mono ?_
           rintro e w9 ⟨rfl, rfl⟩
           clear t_k tok4)
        | (go_at_call 62
           have t_k := tok5
           refine (CB2.out _ _ hg _).mono ?_
           rintro e w7 ⟨q2, q3, s2, s3, k2, m2, rfl, hb, ay⟩
           have B_w7 := Lib.hid (below_next B_w6.out hb)
           have K_w7 := KK.out _ B_w7.out
           clear hb
           clear t_k tok5))
  clear KK K0 KD K_w4 K_w5 K_w6 K_w7
  replace r_m := Lib.hid (r_m.out.keep B_w7.out)
  replace r_u := Lib.hid (r_u.out.keep B_w7.out)
  replace r_v := Lib.hid (r_v.out.keep B_w7.out)
  replace BB := Lib.hid (below_next BB.out B_w7.out)
  clear B_w4 B_w5 B_w6 B_w7
  go_wp2_with fail
  have d_wk := Lib.hid (And.intro BB.out.size (And.intro r_m.out.lt (And.intro r_u.out.lt (And.intro r_v.out.lt (True.intro)))))
  obtain ⟨hb, r_wk⟩ := laid w7 #[.int .i64 x, .int .i64 q0, .int .u64 q1, .int .i64 s0, .int .u64 s1, .int .i64 k0, .int .i64 m0, .int .i64 (sD D D), .int .i64 q2, .int .u64 q3, .int .i64 s2, .int .u64 s3, .int .i64 k2, .int .i64 m2, .int .i64 (sD D D)] WK
  replace r_m := Lib.hid (r_m.out.keep hb)
  replace r_u := Lib.hid (r_u.out.keep hb)
  replace r_v := Lib.hid (r_v.out.keep hb)
  replace BB := Lib.hid (below_next BB.out hb)
  replace r_wk := Lib.hid r_wk
  clear hb
  generalize w7.alloc (.cells #[.int .i64 x, .int .i64 q0, .int .u64 q1, .int .i64 s0, .int .u64 s1, .int .i64 k0, .int .i64 m0, .int .i64 (sD D D), .int .i64 q2, .int .u64 q3, .int .i64 s2, .int .u64 s3, .int .i64 k2, .int .i64 m2, .int .i64 (sD D D)] WK) = w8 at *
  generalize w7.heap.size = g_wk at *
  refine bodyPost_ret (v := .tuple #[.pointer (some ⟨g_wk, 0, none⟩), .int .i64 0]) (by unfold results; simp only [Try.results39]; go_simp) rfl ?_
  exact ⟨_, rfl, BB.out, d_wk.out.1, HG.out _ _ ⟨_, _, _, _, _, _, _, _, _, _, _, _, r_wk.out, ax, ay⟩⟩

theorem ddnew (v : Value) (zs : List Int) (x y : Int) (w : World) (hv : IS w v zs) : Calls Try.prog 39 #[v, .int .i64 x, .int .i64 y] w (GiveNw zs x y w) := by
  by_cases h : ddC zs x y = 0
  · unfold ddC at h
    split at h
    · rename_i h0
      split at h
      · rename_i hb
        obtain ⟨c0, c1, c2, c3, c4, c5, rfl, hM⟩ := afC_zero h0
        refine (ddnew_ok v c0 c1 c2 c3 c4 c5 x y w hv h0 hM hb.1 hb.2).mono ?_
        rintro e w' ⟨g, rfl, h1, h2, h3⟩
        have e : ddC [c0, c1, c2, c3, c4, c5] x y = 0 := by unfold ddC; rw [if_pos h0, if_pos hb]
        exact ⟨_, by rw [e], h1, fun k => absurd e k, fun _ => ⟨g, _, _, _, _, _, _, rfl, h2, rfl, hM, inI_iff.1 hb.1, inI_iff.1 hb.2, h3⟩⟩
      · omega
    · exact absurd h ‹_›
  · exact ddnew_no v zs x y w hv h

end Go.Proofs.Ytbldgbenlmjmjaa
