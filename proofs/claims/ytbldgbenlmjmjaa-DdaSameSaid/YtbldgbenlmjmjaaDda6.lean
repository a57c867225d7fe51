/- A walk's steps, told by columns; alive and code of the statements. -/
import Derived.Test.YtbldgbenlmjmjaaDda5
set_option linter.unusedVariables false
set_option linter.unusedSimpArgs false
namespace Go.Proofs.Ytbldgbenlmjmjaa
open Go.RowKit
theorem wkm_bounds {c0 c1 c2 c3 c4 c5 x y : Int} (hM : AM c0 c1 c2 c3 c4 c5) (hx : -1048577 ≤ x ∧ x ≤ 1048578) (hy : -1048576 ≤ y ∧ y ≤ 1048576) :
    AXB (sD (detI c0 c1 c3 c4) (lnF (65536 * c4) (-65536 * c1) (c1 * c5 - c4 * c2) x y)) (sD (detI c0 c1 c3 c4) (65536 * c4)) (sD (detI c0 c1 c3 c4) (detI c0 c1 c3 c4)) ∧
    AXB (sD (detI c0 c1 c3 c4) (lnF (-65536 * c3) (65536 * c0) (c3 * c2 - c0 * c5) x y)) (sD (detI c0 c1 c3 c4) (-65536 * c3)) (sD (detI c0 c1 c3 c4) (detI c0 c1 c3 c4)) := by
  obtain ⟨l1, l2, l3, l4, l5, l6, l7, l8, l9, l10⟩ := ln_in hM hx hy
  have iD := (det_in hM.a hM.b hM.d hM.e).2.2
  have h0 := sD_pos hM.det
  have h1 := sD_in (D := detI c0 c1 c3 c4) iD
  exact ⟨⟨⟨h0, by omega⟩, sD_in l9, sD_in (m := 4611686018427387904) (by omega)⟩, ⟨⟨h0, by omega⟩, sD_in l10, sD_in (m := 4611686018427387904) (by omega)⟩⟩
theorem WKM.move {w : World} {g : Nat} {x y c0 c1 c2 c3 c4 c5 n : Int} (h : WKA w g (x + n) (sD (detI c0 c1 c3 c4) (lnF (65536 * c4) (-65536 * c1) (c1 * c5 - c4 * c2) x y) + n * sD (detI c0 c1 c3 c4) (65536 * c4)) (sD (detI c0 c1 c3 c4) (65536 * c4)) (sD (detI c0 c1 c3 c4) (lnF (-65536 * c3) (65536 * c0) (c3 * c2 - c0 * c5) x y) + n * sD (detI c0 c1 c3 c4) (-65536 * c3)) (sD (detI c0 c1 c3 c4) (-65536 * c3)) (sD (detI c0 c1 c3 c4) (detI c0 c1 c3 c4))) :
    WKM w g (x + n) y c0 c1 c2 c3 c4 c5 := by
  rw [sD_mul, sD_add, lnF_step, sD_mul, sD_add, lnF_step] at h
  exact h
theorem WKM.keep {w w1 : World} {g : Nat} {x y c0 c1 c2 c3 c4 c5 : Int} (h : WKM w g x y c0 c1 c2 c3 c4 c5) (hb : Below w.heap.size w w1) : WKM w1 g x y c0 c1 c2 c3 c4 c5 := WKA.keep h hb

def GiveU (c0 c1 c2 c3 c4 c5 x y : Int) : Value := .tuple #[.int .i64 (plU (65536 * c4) (-65536 * c1) (c1 * c5 - c4 * c2) (detI c0 c1 c3 c4) x y 1), .int .i64 (plU (-65536 * c3) (65536 * c0) (c3 * c2 - c0 * c5) (detI c0 c1 c3 c4) x y 1), .bool true]
theorem wkmNext (g : Nat) (x y c0 c1 c2 c3 c4 c5 : Int) (hM : AM c0 c1 c2 c3 c4 c5) (hx : -1048576 ≤ x ∧ x ≤ 1048576) (hy : -1048576 ≤ y ∧ y ≤ 1048576) (w w0 : World) (BB : Below w.heap.size w w0) (hg : w.heap.size ≤ g) (h : WKM w0 g x y c0 c1 c2 c3 c4 c5) :
    Calls Try.prog 41 #[.pointer (some ⟨g, 0, none⟩)] w0 fun e w' => e = .returned (GiveU c0 c1 c2 c3 c4 c5 x y) ∧ Below w.heap.size w w' ∧ WKM w' g (x + 1) y c0 c1 c2 c3 c4 c5 := by
  obtain ⟨b1, b2⟩ := wkm_bounds (x := x) (y := y) hM (by omega) hy
  refine (ddNext g x _ _ _ _ _ hx b1 b2 w w0 BB hg h).mono ?_
  rintro e w' ⟨rfl, h1, h2⟩
  refine ⟨?_, h1, WKM.move (n := 1) (by rw [Int.one_mul, Int.one_mul]; exact h2)⟩
  unfold GiveU
  rw [plU_one, plU_one, sD_fdiv hM.det, sD_fdiv hM.det]
theorem wkmEnd (g : Nat) (x y c0 c1 c2 c3 c4 c5 : Int) (hx : 1048576 < x) (w : World) (h : WKM w g x y c0 c1 c2 c3 c4 c5) :
    Calls Try.prog 41 #[.pointer (some ⟨g, 0, none⟩)] w fun e w' => e = .returned (.tuple #[.int .i64 0, .int .i64 0, .bool false]) ∧ w = w' := ddNext_end g x _ _ _ _ _ hx w h
theorem wkmSkip (g : Nat) (x y c0 c1 c2 c3 c4 c5 n : Int) (hM : AM c0 c1 c2 c3 c4 c5) (hx : -1048576 ≤ x ∧ x ≤ 1048577) (hy : -1048576 ≤ y ∧ y ≤ 1048576) (hn : 0 ≤ n ∧ n ≤ 1048577 - x) (w w0 : World) (BB : Below w.heap.size w w0) (hg : w.heap.size ≤ g) (h : WKM w0 g x y c0 c1 c2 c3 c4 c5) :
    Calls Try.prog 43 #[.pointer (some ⟨g, 0, none⟩), .int .i64 n] w0 fun e w' => e = .returned (.bool true) ∧ Below w.heap.size w w' ∧ WKM w' g (x + n) y c0 c1 c2 c3 c4 c5 := by
  obtain ⟨b1, b2⟩ := wkm_bounds (x := x) (y := y) hM (by omega) hy
  refine (ddSkip g x _ _ _ _ _ n (by omega) hn b1 b2 w w0 BB hg h).mono ?_
  rintro e w' ⟨rfl, h1, h2⟩
  exact ⟨rfl, h1, WKM.move h2⟩
theorem wkmSkip_no (g : Nat) (x y c0 c1 c2 c3 c4 c5 n : Int) (hM : AM c0 c1 c2 c3 c4 c5) (hx : -1048576 ≤ x ∧ x ≤ 1048577) (hy : -1048576 ≤ y ∧ y ≤ 1048576) (hn : ¬ (0 ≤ n ∧ n ≤ 1048577 - x)) (w : World) (h : WKM w g x y c0 c1 c2 c3 c4 c5) :
    Calls Try.prog 43 #[.pointer (some ⟨g, 0, none⟩), .int .i64 n] w fun e w' => e = .returned (.bool false) ∧ w = w' := by
  have hb : ¬ sD (detI c0 c1 c3 c4) (detI c0 c1 c3 c4) = 0 := by have := sD_pos hM.det; omega
  by_cases h1 : n < 0
  · exact ddSkip_neg g x _ _ _ _ _ n (by omega) hb h1 w h
  · exact ddSkip_far g x _ _ _ _ _ n (by omega) hb (by omega) w h
theorem wkmX (g : Nat) (x y c0 c1 c2 c3 c4 c5 : Int) (w : World) (h : WKM w g x y c0 c1 c2 c3 c4 c5) : Calls Try.prog 44 #[.pointer (some ⟨g, 0, none⟩)] w fun e w' => e = .returned (.int .i64 x) ∧ w = w' := ddx g x _ _ _ _ _ w h

set_option maxRecDepth 100000 in
set_option maxHeartbeats 8000000 in
theorem alive34 (w : World) : Calls Try.prog 40 #[] w fun e w' => e = .returned (.bool true) ∧ Below w.heap.size w w' := by
  have CN := Lib.hid (fun v w hv => ddnew v [65536, 0, 0, 0, 65536, 0] 3 4 w hv)
  have HC : Hid (ddC [65536, 0, 0, 0, 65536, 0] 3 4 = 0) := by show _ = _; decide
  have N1 := Lib.hid (fun w w0 g hM BB hg h => wkmNext g 3 4 65536 0 0 0 65536 0 hM ⟨by omega, by omega⟩ ⟨by omega, by omega⟩ w w0 BB hg h)
  have N2 := Lib.hid (fun w w0 g hM BB hg h => wkmNext g (3 + 1) 4 65536 0 0 0 65536 0 hM ⟨by omega, by omega⟩ ⟨by omega, by omega⟩ w w0 BB hg h)
  rw [show GiveU 65536 0 0 0 65536 0 3 4 = .tuple #[.int .i64 196608, .int .i64 262144, .bool true] by
    unfold GiveU
    rw [show plU (65536 * 65536) (-65536 * 0) (0 * 0 - 65536 * 0) (detI 65536 0 0 65536) 3 4 1 = 196608 by decide, show plU (-65536 * 0) (65536 * 65536) (0 * 0 - 65536 * 0) (detI 65536 0 0 65536) 3 4 1 = 262144 by decide]] at N1
  rw [show GiveU 65536 0 0 0 65536 0 (3 + 1) 4 = .tuple #[.int .i64 262144, .int .i64 262144, .bool true] by
    unfold GiveU
    rw [show plU (65536 * 65536) (-65536 * 0) (0 * 0 - 65536 * 0) (detI 65536 0 0 65536) (3 + 1) 4 1 = 262144 by decide, show plU (-65536 * 0) (65536 * 65536) (0 * 0 - 65536 * 0) (detI 65536 0 0 65536) (3 + 1) 4 1 = 262144 by decide]] at N2
  go_enter Try.func40, Try.ntmps40
  go_wp2_with fail
  have BB : Hid (Below w.heap.size w w) := Below.refl _ _
  obtain ⟨hb, r_c⟩ := laid w #[.int .i64 65536, .int .i64 0, .int .i64 0, .int .i64 0, .int .i64 65536, .int .i64 0] 2
  replace BB := Lib.hid (below_next BB.out hb)
  replace r_c := Lib.hid r_c
  clear hb
  generalize w.alloc (.cells #[.int .i64 65536, .int .i64 0, .int .i64 0, .int .i64 0, .int .i64 65536, .int .i64 0] 2) = w1 at *
  have hsz := Lib.hid BB.out.size
  refine (CN.out _ _ (is_at6 r_c.out (by simp [I64]))).mono ?_
  rintro e w2 ⟨p, rfl, hb, -, hz⟩
  replace r_c := Lib.hid (r_c.out.keep hb)
  replace BB := Lib.hid (below_next BB.out hb)
  clear hb
  obtain ⟨g, c0, c1, c2, c3, c4, c5, rfl, hg, he, hM, -, -, hw⟩ := hz HC.out
  have hsz := hsz.out
  simp only [List.cons.injEq, and_true] at he
  obtain ⟨rfl, rfl, rfl, rfl, rfl, rfl⟩ := he
  rw [HC.out]
  clear hz CN HC
  replace hw := Lib.hid hw
  go_wp2_with fail
  refine (N1.out _ _ g hM BB.out (Nat.le_trans hsz hg) hw.out).mono ?_
  rintro e w5 ⟨rfl, hb1, hw1⟩
  replace hw1 := Lib.hid hw1; replace hb1 := Lib.hid hb1
  go_wp2_with fail
  refine (N2.out _ _ g hM hb1.out (Nat.le_trans hsz hg) hw1.out).mono ?_
  rintro e w6 ⟨rfl, hb2, -⟩
  go_wp2_with fail
  go_ret
  exact ⟨rfl, hb2⟩

theorem ddcode_af (v : Value) (zs : List Int) (x y : Int) (w : World) (hv : IS w v zs) (h : ¬ afC zs = 0) : Calls Try.prog 42 #[v, .int .i64 x, .int .i64 y] w fun e w' => e = .returned (.int .i64 (ddC zs x y)) ∧ ∃ m, w' = w.drewN m := by
  have C := Lib.hid (rcheck18 v zs w hv)
  have CI := Lib.hid (fun x w => rin x 1048576 (by omega) (by omega) w)
  have HC : Hid (ddC zs x y = afC zs) := if_neg h; have h' := h
  clear hv h
  generalize ddC zs x y = r at *
  generalize afC zs = c at *
  go_enter Try.func42, Try.ntmps42
  go_wp2_with fail
  refine C.out.mono ?_; rintro e w1 ⟨rfl, m, rfl⟩
  go_wp2_with fail
  go_ret
  exact ⟨ret_int HC.out.symm, _, rfl⟩
theorem ddcode_in (v : Value) (zs : List Int) (x y : Int) (w : World) (hv : IS w v zs) (h : afC zs = 0) : Calls Try.prog 42 #[v, .int .i64 x, .int .i64 y] w fun e w' => e = .returned (.int .i64 (ddC zs x y)) ∧ ∃ m, w' = w.drewN m := by
  have C := Lib.hid (rcheck18 v zs w hv)
  have CI := Lib.hid (fun x w => rin x 1048576 (by omega) (by omega) w)
  have HC : Hid (ddC zs x y = if inI x 1048576 = true ∧ inI y 1048576 = true then 0 else 11) := if_pos h
  rw [h] at C
  clear hv h
  generalize ddC zs x y = r at *
  rcases hbx : inI x 1048576 with _ | _
  · replace HC : Hid (r = 11) := by have := HC.out; show _ = _; rw [this, hbx]; simp
    replace hbx := Lib.hid hbx
    go_enter Try.func42, Try.ntmps42
    go_wp2_with fail
    refine C.out.mono ?_; rintro e w1 ⟨rfl, m, rfl⟩
    go_wp2_with fail
    refine (CI.out _ _).mono ?_; rintro e w2 ⟨rfl, rfl⟩
    rw [hbx.out]
    go_wp2_with fail
    go_ret
    exact ⟨ret_int HC.out.symm, _, rfl⟩
  · rcases hby : inI y 1048576 with _ | _
    · replace HC : Hid (r = 11) := by have := HC.out; show _ = _; rw [this, hbx, hby]; simp
      replace hbx := Lib.hid hbx; replace hby := Lib.hid hby
      go_enter Try.func42, Try.ntmps42
      go_wp2_with fail
      refine C.out.mono ?_; rintro e w1 ⟨rfl, m, rfl⟩
      go_wp2_with fail
      refine (CI.out _ _).mono ?_; rintro e w2 ⟨rfl, rfl⟩
      rw [hbx.out]
      go_wp2_with fail
      refine (CI.out _ _).mono ?_; rintro e w2 ⟨rfl, rfl⟩
      rw [hby.out]
      go_wp2_with fail
      go_ret
      exact ⟨ret_int HC.out.symm, _, rfl⟩
    · replace HC : Hid (r = 0) := by have := HC.out; show _ = _; rw [this, hbx, hby]; simp
      replace hbx := Lib.hid hbx; replace hby := Lib.hid hby
      go_enter Try.func42, Try.ntmps42
      go_wp2_with fail
      refine C.out.mono ?_; rintro e w1 ⟨rfl, m, rfl⟩
      go_wp2_with fail
      refine (CI.out _ _).mono ?_; rintro e w2 ⟨rfl, rfl⟩
      rw [hbx.out]
      go_wp2_with fail
      refine (CI.out _ _).mono ?_; rintro e w2 ⟨rfl, rfl⟩
      rw [hby.out]
      go_wp2_with fail
      go_ret
      exact ⟨ret_int HC.out.symm, _, rfl⟩
theorem ddcode (v : Value) (zs : List Int) (x y : Int) (w : World) (hv : IS w v zs) : Calls Try.prog 42 #[v, .int .i64 x, .int .i64 y] w fun e w' => e = .returned (.int .i64 (ddC zs x y)) ∧ ∃ m, w' = w.drewN m := by
  by_cases h : afC zs = 0
  · exact ddcode_in v zs x y w hv h
  · exact ddcode_af v zs x y w hv h

end Go.Proofs.Ytbldgbenlmjmjaa
