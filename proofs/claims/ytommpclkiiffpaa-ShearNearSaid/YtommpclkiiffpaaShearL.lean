/- Walks of the laws of the slants: alive, ShearQuarters, ShearOnce. -/
import Derived.Test.YtommpclkiiffpaaShearR0
set_option linter.unusedVariables false
namespace Go.Proofs.Ytommpclkiiffpaa
open Go.RowKit

theorem is_at4 {w : World} {g : Nat} {c0 c1 c2 c3 : Int} {T : TypeId} (h : AtB w g #[.int .i64 c0, .int .i64 c1, .int .i64 c2, .int .i64 c3] T) (hz : ∀ z ∈ [c0, c1, c2, c3], I64 z) :
    IS w (.slice (some ⟨g, 0, none⟩) 4 4) [c0, c1, c2, c3] := by
  refine ⟨_, _, rfl, by simp, by simp, hz, fun _ => ⟨g, 0, rfl, h.lt, fun i hi => ?_⟩⟩
  simp at hi
  have : i = 0 ∨ i = 1 ∨ i = 2 ∨ i = 3 := by omega
  rcases this with rfl | rfl | rfl | rfl
  all_goals exact h.cell _ rfl

theorem near_one (x : Int) : nearI x 1 = x := by rw [near_pos (by omega)]; omega
theorem right_one {px py : Int} : rightI px py 1 = true ↔ (-1048576 ≤ px ∧ px ≤ 1048576) ∧ (-1048576 ≤ py ∧ py ≤ 1048576) := by rw [rightI_iff]; omega

/-- Where a pixel comes from, asked for as a place of whole parts. -/
theorem shat_one (g : Nat) (a b cx cy x y : Int) (hp : rightI x y 1 = true) (hM : SM a b cx cy) (w : World) (hm : AtB w g (shCells a b cx cy) ST) :
    Calls Try.prog 31 #[.pointer (some ⟨g, 0, none⟩), .int .i64 x, .int .i64 y, .int .i64 1] w fun e w' =>
      e = .returned (.tuple #[.int .i64 (65536 * (shX2 a b (x - cx) (y - cy) + cx)), .int .i64 (65536 * (shY1 a b (x - cx) (y - cy) + cy)), .int .i64 0]) ∧ Below w.heap.size w w' := by
  have h := shat_ok g a b cx cy x y 1 hp hM w hm
  rw [near_one, near_one] at h
  exact h

set_option maxRecDepth 100000 in
set_option maxHeartbeats 4000000 in
theorem alive22 (w : World) : Calls Try.prog 29 #[] w fun e w' => e = .returned (.bool true) ∧ Below w.heap.size w w' := by
  have CQ := Lib.hid (fun w => quarter1 w)
  have CN := Lib.hid (fun v w hv => shnew v [-65536, 65536, 0, 0] w hv)
  have HC : Hid (shC [-65536, 65536, 0, 0] = 0) := by show _ = _; decide
  have CA := Lib.hid (fun g w hm => shat_one g (-65536) 65536 0 0 2 3 (by decide) ⟨by omega, by omega, by omega, by omega⟩ w hm)
  rw [show (65536 : Int) * (shX2 (-65536) 65536 (2 - 0) (3 - 0) + 0) = -196608 by decide, show (65536 : Int) * (shY1 (-65536) 65536 (2 - 0) (3 - 0) + 0) = 131072 by decide] at CA
  go_enter Try.func29, Try.ntmps29
  go_wp2_with fail
  have BB : Hid (Below w.heap.size w w) := Below.refl _ _
  refine (CQ.out _).mono ?_
  rintro e w1 ⟨g0, rfl, hb, r_c⟩
  replace BB := Lib.hid (below_next BB.out hb)
  clear hb
  go_wp2_with fail
  refine (CN.out _ _ (is_at4 r_c (by simp [I64]))).mono ?_
  rintro e w2 ⟨p, rfl, hb, -, hp⟩
  replace BB := Lib.hid (below_next BB.out hb)
  clear hb
  obtain ⟨g, c0, c1, c2, c3, rfl, hz, hM, r_m⟩ := hp HC.out
  simp only [List.cons.injEq, and_true] at hz
  obtain ⟨rfl, rfl, rfl, rfl⟩ := hz
  rw [HC.out]
  replace r_m := Lib.hid r_m
  clear hp hM CN HC r_c
  go_wp2_with fail
  refine (CA.out _ _ r_m.out).mono ?_
  rintro e w3 ⟨rfl, hb⟩
  replace BB := Lib.hid (below_next BB.out hb)
  clear hb
  go_wp2_with fail
  go_ret
  exact ⟨rfl, BB.out⟩

set_option maxRecDepth 100000 in
set_option maxHeartbeats 8000000 in
theorem shearQuarters0 (x y : Int) (hx : -2147483648 ≤ x ∧ x ≤ 2147483647) (hy : -2147483648 ≤ y ∧ y ≤ 2147483647) (w : World) :
    Calls Try.prog 7 #[.int .i64 0, .int .i32 x, .int .i32 y] w fun e w' => e = .returned (.bool true) ∧ Below w.heap.size w w' := by
  have CQ := Lib.hid (fun w => quarter0 w)
  have CN := Lib.hid (fun v w hv => shnew v [0, 0, 0, 0] w hv)
  have HC : Hid (shC [0, 0, 0, 0] = 0) := by show _ = _; decide
  have e1 : IntKind.i64.wrap x = x := iw (by omega)
  have e2 : IntKind.i64.wrap y = y := iw (by omega)
  have CR := Lib.hid (fun w => rright x y 1 w)
  have CL := Lib.hid (fun w => alive22 w)
  have T1 := Lib.hid (fun g hp w => shat_bad g x y 1 hp w)
  have T2 := Lib.hid (fun g hp w hm => shat_one g (0) (0) 0 0 x y hp ⟨by omega, by omega, by omega, by omega⟩ w hm)
  have s1 : shX2 (0) (0) (x - 0) (y - 0) + 0 = x := by unfold shX2 shY1 shX1 slant; omega
  have s2 : shY1 (0) (0) (x - 0) (y - 0) + 0 = y := by unfold shY1 shX1 slant; omega
  rw [s1, s2] at T2
  clear s1 s2
  have e3 : wrap64 (-x) = -x := ww (by omega)
  have e4 : wrap64 (-y) = -y := ww (by omega)
  have e5 : wrap64 (65536 * (x)) = 65536 * (x) := ww (by omega)
  have e6 : wrap64 (65536 * (y)) = 65536 * (y) := ww (by omega)
  cases hr : rightI x y 1
  all_goals rw [hr] at CR
  · replace T1 := Lib.hid (fun g w => T1.out g hr w)
    clear T2 hr
    go_enter Try.func7, Try.ntmps7
    go_wp2_with fail
    have BB : Hid (Below w.heap.size w w) := Below.refl _ _
    refine (CQ.out _).mono ?_
    rintro e w1 ⟨g0, rfl, hb, r_c⟩
    replace BB := Lib.hid (below_next BB.out hb)
    clear hb
    go_wp2_with fail
    refine (CN.out _ _ (is_at4 r_c (by simp [I64]))).mono ?_
    rintro e w2 ⟨p, rfl, hb, -, hp⟩
    replace BB := Lib.hid (below_next BB.out hb)
    clear hb
    obtain ⟨g, c0, c1, c2, c3, rfl, hz, hM, r_m⟩ := hp HC.out
    simp only [List.cons.injEq, and_true] at hz
    obtain ⟨rfl, rfl, rfl, rfl⟩ := hz
    rw [HC.out]
    replace r_m := Lib.hid r_m
    clear hp hM CN HC r_c
    go_wp2_with fail
    refine (T1.out _ _).mono ?_
    rintro e w9 ⟨rfl, rfl⟩
    go_wp2_with fail
    refine (CR.out _).mono ?_
    rintro e w9 ⟨rfl, rfl⟩
    go_wp2_with fail
    refine (CL.out _).mono ?_
    rintro e w3 ⟨rfl, hb⟩
    replace BB := Lib.hid (below_next BB.out hb)
    clear hb
    go_wp2_with fail
    go_ret
    exact ⟨rfl, BB.out⟩
  · replace T2 := Lib.hid (fun g w hm => T2.out g hr w hm)
    clear T1 hr
    go_enter Try.func7, Try.ntmps7
    go_wp2_with fail
    have BB : Hid (Below w.heap.size w w) := Below.refl _ _
    refine (CQ.out _).mono ?_
    rintro e w1 ⟨g0, rfl, hb, r_c⟩
    replace BB := Lib.hid (below_next BB.out hb)
    clear hb
    go_wp2_with fail
    refine (CN.out _ _ (is_at4 r_c (by simp [I64]))).mono ?_
    rintro e w2 ⟨p, rfl, hb, -, hp⟩
    replace BB := Lib.hid (below_next BB.out hb)
    clear hb
    obtain ⟨g, c0, c1, c2, c3, rfl, hz, hM, r_m⟩ := hp HC.out
    simp only [List.cons.injEq, and_true] at hz
    obtain ⟨rfl, rfl, rfl, rfl⟩ := hz
    rw [HC.out]
    replace r_m := Lib.hid r_m
    clear hp hM CN HC r_c
    go_wp2_with fail
    refine (T2.out _ _ r_m.out).mono ?_
    rintro e w3 ⟨rfl, hb⟩
    replace BB := Lib.hid (below_next BB.out hb)
    clear hb
    go_wp2_with fail
    refine (CR.out _).mono ?_
    rintro e w9 ⟨rfl, rfl⟩
    go_wp2_with fail
    refine (CL.out _).mono ?_
    rintro e w4 ⟨rfl, hb⟩
    replace BB := Lib.hid (below_next BB.out hb)
    clear hb
    go_wp2_with fail
    go_ret
    exact ⟨rfl, BB.out⟩
set_option maxRecDepth 100000 in
set_option maxHeartbeats 8000000 in
theorem shearQuarters1 (x y : Int) (hx : -2147483648 ≤ x ∧ x ≤ 2147483647) (hy : -2147483648 ≤ y ∧ y ≤ 2147483647) (w : World) :
    Calls Try.prog 7 #[.int .i64 1, .int .i32 x, .int .i32 y] w fun e w' => e = .returned (.bool true) ∧ Below w.heap.size w w' := by
  have CQ := Lib.hid (fun w => quarter1 w)
  have CN := Lib.hid (fun v w hv => shnew v [-65536, 65536, 0, 0] w hv)
  have HC : Hid (shC [-65536, 65536, 0, 0] = 0) := by show _ = _; decide
  have e1 : IntKind.i64.wrap x = x := iw (by omega)
  have e2 : IntKind.i64.wrap y = y := iw (by omega)
  have CR := Lib.hid (fun w => rright x y 1 w)
  have CL := Lib.hid (fun w => alive22 w)
  have T1 := Lib.hid (fun g hp w => shat_bad g x y 1 hp w)
  have T2 := Lib.hid (fun g hp w hm => shat_one g (-65536) (65536) 0 0 x y hp ⟨by omega, by omega, by omega, by omega⟩ w hm)
  have s1 : shX2 (-65536) (65536) (x - 0) (y - 0) + 0 = -y := by unfold shX2 shY1 shX1 slant; omega
  have s2 : shY1 (-65536) (65536) (x - 0) (y - 0) + 0 = x := by unfold shY1 shX1 slant; omega
  rw [s1, s2] at T2
  clear s1 s2
  have e3 : wrap64 (-x) = -x := ww (by omega)
  have e4 : wrap64 (-y) = -y := ww (by omega)
  have e5 : wrap64 (65536 * (-y)) = 65536 * (-y) := ww (by omega)
  have e6 : wrap64 (65536 * (x)) = 65536 * (x) := ww (by omega)
  cases hr : rightI x y 1
  all_goals rw [hr] at CR
  · replace T1 := Lib.hid (fun g w => T1.out g hr w)
    clear T2 hr
    go_enter Try.func7, Try.ntmps7
    go_wp2_with fail
    have BB : Hid (Below w.heap.size w w) := Below.refl _ _
    refine (CQ.out _).mono ?_
    rintro e w1 ⟨g0, rfl, hb, r_c⟩
    replace BB := Lib.hid (below_next BB.out hb)
    clear hb
    go_wp2_with fail
    refine (CN.out _ _ (is_at4 r_c (by simp [I64]))).mono ?_
    rintro e w2 ⟨p, rfl, hb, -, hp⟩
    replace BB := Lib.hid (below_next BB.out hb)
    clear hb
    obtain ⟨g, c0, c1, c2, c3, rfl, hz, hM, r_m⟩ := hp HC.out
    simp only [List.cons.injEq, and_true] at hz
    obtain ⟨rfl, rfl, rfl, rfl⟩ := hz
    rw [HC.out]
    replace r_m := Lib.hid r_m
    clear hp hM CN HC r_c
    go_wp2_with fail
    refine (T1.out _ _).mono ?_
    rintro e w9 ⟨rfl, rfl⟩
    go_wp2_with fail
    refine (CR.out _).mono ?_
    rintro e w9 ⟨rfl, rfl⟩
    go_wp2_with fail
    refine (CL.out _).mono ?_
    rintro e w3 ⟨rfl, hb⟩
    replace BB := Lib.hid (below_next BB.out hb)
    clear hb
    go_wp2_with fail
    go_ret
    exact ⟨rfl, BB.out⟩
  · replace T2 := Lib.hid (fun g w hm => T2.out g hr w hm)
    clear T1 hr
    go_enter Try.func7, Try.ntmps7
    go_wp2_with fail
    have BB : Hid (Below w.heap.size w w) := Below.refl _ _
    refine (CQ.out _).mono ?_
    rintro e w1 ⟨g0, rfl, hb, r_c⟩
    replace BB := Lib.hid (below_next BB.out hb)
    clear hb
    go_wp2_with fail
    refine (CN.out _ _ (is_at4 r_c (by simp [I64]))).mono ?_
    rintro e w2 ⟨p, rfl, hb, -, hp⟩
    replace BB := Lib.hid (below_next BB.out hb)
    clear hb
    obtain ⟨g, c0, c1, c2, c3, rfl, hz, hM, r_m⟩ := hp HC.out
    simp only [List.cons.injEq, and_true] at hz
    obtain ⟨rfl, rfl, rfl, rfl⟩ := hz
    rw [HC.out]
    replace r_m := Lib.hid r_m
    clear hp hM CN HC r_c
    go_wp2_with fail
    refine (T2.out _ _ r_m.out).mono ?_
    rintro e w3 ⟨rfl, hb⟩
    replace BB := Lib.hid (below_next BB.out hb)
    clear hb
    go_wp2_with fail
    refine (CR.out _).mono ?_
    rintro e w9 ⟨rfl, rfl⟩
    go_wp2_with fail
    refine (CL.out _).mono ?_
    rintro e w4 ⟨rfl, hb⟩
    replace BB := Lib.hid (below_next BB.out hb)
    clear hb
    go_wp2_with fail
    go_ret
    exact ⟨rfl, BB.out⟩
set_option maxRecDepth 100000 in
set_option maxHeartbeats 8000000 in
theorem shearQuarters3 (x y : Int) (hx : -2147483648 ≤ x ∧ x ≤ 2147483647) (hy : -2147483648 ≤ y ∧ y ≤ 2147483647) (w : World) :
    Calls Try.prog 7 #[.int .i64 3, .int .i32 x, .int .i32 y] w fun e w' => e = .returned (.bool true) ∧ Below w.heap.size w w' := by
  have CQ := Lib.hid (fun w => quarter3 w)
  have CN := Lib.hid (fun v w hv => shnew v [65536, -65536, 0, 0] w hv)
  have HC : Hid (shC [65536, -65536, 0, 0] = 0) := by show _ = _; decide
  have e1 : IntKind.i64.wrap x = x := iw (by omega)
  have e2 : IntKind.i64.wrap y = y := iw (by omega)
  have CR := Lib.hid (fun w => rright x y 1 w)
  have CL := Lib.hid (fun w => alive22 w)
  have T1 := Lib.hid (fun g hp w => shat_bad g x y 1 hp w)
  have T2 := Lib.hid (fun g hp w hm => shat_one g (65536) (-65536) 0 0 x y hp ⟨by omega, by omega, by omega, by omega⟩ w hm)
  have s1 : shX2 (65536) (-65536) (x - 0) (y - 0) + 0 = y := by unfold shX2 shY1 shX1 slant; omega
  have s2 : shY1 (65536) (-65536) (x - 0) (y - 0) + 0 = -x := by unfold shY1 shX1 slant; omega
  rw [s1, s2] at T2
  clear s1 s2
  have e3 : wrap64 (-x) = -x := ww (by omega)
  have e4 : wrap64 (-y) = -y := ww (by omega)
  have e5 : wrap64 (65536 * (y)) = 65536 * (y) := ww (by omega)
  have e6 : wrap64 (65536 * (-x)) = 65536 * (-x) := ww (by omega)
  cases hr : rightI x y 1
  all_goals rw [hr] at CR
  · replace T1 := Lib.hid (fun g w => T1.out g hr w)
    clear T2 hr
    go_enter Try.func7, Try.ntmps7
    go_wp2_with fail
    have BB : Hid (Below w.heap.size w w) := Below.refl _ _
    refine (CQ.out _).mono ?_
    rintro e w1 ⟨g0, rfl, hb, r_c⟩
    replace BB := Lib.hid (below_next BB.out hb)
    clear hb
    go_wp2_with fail
    refine (CN.out _ _ (is_at4 r_c (by simp [I64]))).mono ?_
    rintro e w2 ⟨p, rfl, hb, -, hp⟩
    replace BB := Lib.hid (below_next BB.out hb)
    clear hb
    obtain ⟨g, c0, c1, c2, c3, rfl, hz, hM, r_m⟩ := hp HC.out
    simp only [List.cons.injEq, and_true] at hz
    obtain ⟨rfl, rfl, rfl, rfl⟩ := hz
    rw [HC.out]
    replace r_m := Lib.hid r_m
    clear hp hM CN HC r_c
    go_wp2_with fail
    refine (T1.out _ _).mono ?_
    rintro e w9 ⟨rfl, rfl⟩
    go_wp2_with fail
    refine (CR.out _).mono ?_
    rintro e w9 ⟨rfl, rfl⟩
    go_wp2_with fail
    refine (CL.out _).mono ?_
    rintro e w3 ⟨rfl, hb⟩
    replace BB := Lib.hid (below_next BB.out hb)
    clear hb
    go_wp2_with fail
    go_ret
    exact ⟨rfl, BB.out⟩
  · replace T2 := Lib.hid (fun g w hm => T2.out g hr w hm)
    clear T1 hr
    go_enter Try.func7, Try.ntmps7
    go_wp2_with fail
    have BB : Hid (Below w.heap.size w w) := Below.refl _ _
    refine (CQ.out _).mono ?_
    rintro e w1 ⟨g0, rfl, hb, r_c⟩
    replace BB := Lib.hid (below_next BB.out hb)
    clear hb
    go_wp2_with fail
    refine (CN.out _ _ (is_at4 r_c (by simp [I64]))).mono ?_
    rintro e w2 ⟨p, rfl, hb, -, hp⟩
    replace BB := Lib.hid (below_next BB.out hb)
    clear hb
    obtain ⟨g, c0, c1, c2, c3, rfl, hz, hM, r_m⟩ := hp HC.out
    simp only [List.cons.injEq, and_true] at hz
    obtain ⟨rfl, rfl, rfl, rfl⟩ := hz
    rw [HC.out]
    replace r_m := Lib.hid r_m
    clear hp hM CN HC r_c
    go_wp2_with fail
    refine (T2.out _ _ r_m.out).mono ?_
    rintro e w3 ⟨rfl, hb⟩
    replace BB := Lib.hid (below_next BB.out hb)
    clear hb
    go_wp2_with fail
    refine (CR.out _).mono ?_
    rintro e w9 ⟨rfl, rfl⟩
    go_wp2_with fail
    refine (CL.out _).mono ?_
    rintro e w4 ⟨rfl, hb⟩
    replace BB := Lib.hid (below_next BB.out hb)
    clear hb
    go_wp2_with fail
    go_ret
    exact ⟨rfl, BB.out⟩

set_option maxRecDepth 100000 in
set_option maxHeartbeats 4000000 in
theorem shearQuarters_none (q x y : Int) (h0 : q ≠ 0) (h1 : q ≠ 1) (h3 : q ≠ 3) (w : World) :
    Calls Try.prog 7 #[.int .i64 q, .int .i32 x, .int .i32 y] w fun e w' => e = .returned (.bool true) ∧ Below w.heap.size w w' := by
  have CQ := Lib.hid (fun w => quarter_none q h0 h1 h3 w)
  have CL := Lib.hid (fun w => alive22 w)
  have e0 : (q != 0) = true := by simpa using h0
  have e1 : (q != 1) = true := by simpa using h1
  have e3 : (q != 3) = true := by simpa using h3
  clear h0 h1 h3
  go_enter Try.func7, Try.ntmps7
  go_wp2_with fail
  have BB : Hid (Below w.heap.size w w) := Below.refl _ _
  refine (CQ.out _).mono ?_
  rintro e w9 ⟨rfl, rfl⟩
  go_wp2_with fail
  refine (CL.out _).mono ?_
  rintro e w1 ⟨rfl, hb⟩
  replace BB := Lib.hid (below_next BB.out hb)
  clear hb
  go_wp2_with fail
  go_ret
  exact ⟨rfl, BB.out⟩

theorem shearQuarters_any (q x y : Int) (hx : -2147483648 ≤ x ∧ x ≤ 2147483647) (hy : -2147483648 ≤ y ∧ y ≤ 2147483647) (w : World) :
    Calls Try.prog 7 #[.int .i64 q, .int .i32 x, .int .i32 y] w fun e w' => e = .returned (.bool true) ∧ Below w.heap.size w w' := by
  by_cases h0 : q = 0
  · subst h0; exact shearQuarters0 x y hx hy w
  by_cases h1 : q = 1
  · subst h1; exact shearQuarters1 x y hx hy w
  by_cases h3 : q = 3
  · subst h3; exact shearQuarters3 x y hx hy w
  exact shearQuarters_none q x y h0 h1 h3 w

end Go.Proofs.Ytommpclkiiffpaa
