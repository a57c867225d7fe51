/- Walks of the laws of the affine maps: alive, AffineMoves. -/
import Derived.Test.YtbldgbenlmjmjaaAffR1
set_option linter.unusedVariables false
namespace Go.Proofs.Ytbldgbenlmjmjaa
open Go.RowKit Go.ChangeShapes Go.WideShapes Go.ChangeAt Go.Deep

theorem is_at6 {w : World} {g : Nat} {c0 c1 c2 c3 c4 c5 : Int} {T : TypeId} (h : AtB w g #[.int .i64 c0, .int .i64 c1, .int .i64 c2, .int .i64 c3, .int .i64 c4, .int .i64 c5] T) (hz : ∀ z ∈ [c0, c1, c2, c3, c4, c5], I64 z) :
    IS w (.slice (some ⟨g, 0, none⟩) 6 6) [c0, c1, c2, c3, c4, c5] := by
  refine ⟨_, _, rfl, by simp, by simp, hz, fun _ => ⟨g, 0, rfl, h.lt, fun i hi => ?_⟩⟩
  simp at hi
  have : i = 0 ∨ i = 1 ∨ i = 2 ∨ i = 3 ∨ i = 4 ∨ i = 5 := by omega
  rcases this with rfl | rfl | rfl | rfl | rfl | rfl
  all_goals exact h.cell _ rfl
theorem PS.at_ {w : World} {A : Option Addr} {n cap : Nat} {ps : List P3} (h : PS w (.slice A n cap) ps) (hn : ps.length = n) {k : Nat} (hk : k < n) : ∃ b off x y d, A = some ⟨b, off, none⟩ ∧ b < w.heap.size ∧ ps.getD k (0, 0, 0) = (x, y, d) ∧ I64 x ∧ I64 y ∧ I64 d ∧
    w.cell? ⟨b, off + k * 3, none⟩ = some (.int .i64 x) ∧ w.cell? ⟨b, off + k * 3 + 1, none⟩ = some (.int .i64 y) ∧ w.cell? ⟨b, off + k * 3 + 2, none⟩ = some (.int .i64 d) := by
  obtain ⟨A', cap', e, h1, h2, h3, h4⟩ := h
  injection e with e1 e2 e3
  subst e1
  obtain ⟨b, off, rfl, hb, hc⟩ := h4 (by intro h; rw [h] at hn; simp at hn; omega)
  have hi := hc k (by omega)
  have hm := h3 (ps.getD k (0, 0, 0)) (by simp [List.getD, List.getElem?_eq_getElem (show k < ps.length by omega)])
  exact ⟨b, off, _, _, _, rfl, hb, rfl, hm.1, hm.2.1, hm.2.2, hi⟩

set_option maxRecDepth 100000 in
set_option maxHeartbeats 4000000 in
theorem alive18 (w : World) : Calls Try.prog 14 #[] w fun e w' => e = .returned (.bool true) ∧ Below w.heap.size w w' := by
  have CN := Lib.hid (fun v w hv => afnew v [131072, 0, 0, 0, 131072, 0] w hv)
  have HC : Hid (afC [131072, 0, 0, 0, 131072, 0] = 0) := by show _ = _; decide
  have hM : AM 131072 0 0 0 131072 0 := ⟨by omega, by omega, by omega, by omega, by omega, by omega, by decide⟩
  have CA := Lib.hid (fun g w hm => afat_ok g _ _ _ _ _ _ _ 3 4 1 (by decide) hM.lines.1 hM.lines.2 w hm)
  rw [show plU (65536 * 131072) (-65536 * 0) (0 * 0 - 131072 * 0) (detI 131072 0 0 131072) 3 4 1 = 98304 by decide, show plU (-65536 * 0) (65536 * 131072) (0 * 0 - 131072 * 0) (detI 131072 0 0 131072) 3 4 1 = 131072 by decide] at CA
  clear hM
  go_enter Try.func14, Try.ntmps14
  go_wp2_with fail
  have BB : Hid (Below w.heap.size w w) := Below.refl _ _
  obtain ⟨hb, r_c⟩ := laid w #[.int .i64 131072, .int .i64 0, .int .i64 0, .int .i64 0, .int .i64 131072, .int .i64 0] 2
  replace BB := Lib.hid (below_next BB.out hb)
  replace r_c := Lib.hid r_c
  clear hb
  generalize w.alloc (.cells #[.int .i64 131072, .int .i64 0, .int .i64 0, .int .i64 0, .int .i64 131072, .int .i64 0] 2) = w1 at *
  refine (CN.out _ _ (is_at6 r_c.out (by simp [I64]))).mono ?_
  rintro e w2 ⟨p, rfl, hb, -, hp⟩
  replace r_c := Lib.hid (r_c.out.keep hb)
  replace BB := Lib.hid (below_next BB.out hb)
  clear hb
  obtain ⟨g, c0, c1, c2, c3, c4, c5, rfl, hz, hM, r_m⟩ := hp HC.out
  simp only [List.cons.injEq, and_true] at hz
  obtain ⟨rfl, rfl, rfl, rfl, rfl, rfl⟩ := hz
  rw [HC.out]
  replace r_m := Lib.hid r_m
  clear hp hM CN HC
  go_wp2_with fail
  refine (CA.out _ _ r_m.out).mono ?_
  rintro e w3 ⟨rfl, hb⟩
  replace r_c := Lib.hid (r_c.out.keep hb)
  replace BB := Lib.hid (below_next BB.out hb)
  clear hb
  go_wp2_with fail
  go_ret
  exact ⟨rfl, BB.out⟩

/-- The six numbers laid anew. -/
def GiveMv (x y : Int) (w : World) (e : Ending) (w' : World) : Prop := ∃ g, e = .returned (.slice (some ⟨g, 0, none⟩) 6 6) ∧ Below w.heap.size w w' ∧ AtB w' g #[.int .i64 65536, .int .i64 0, .int .i64 x, .int .i64 0, .int .i64 65536, .int .i64 y] 2
theorem afmove (x y : Int) (w : World) : Calls Try.prog 18 #[.int .i64 x, .int .i64 y] w (GiveMv x y w) := by
  go_enter Try.func18, Try.ntmps18
  go_wp2
  go_ret
  exact ⟨_, rfl, below_new (Below.refl _ _) _, new_at _ _ _⟩
theorem afunit (w : World) : Calls Try.prog 17 #[] w (GiveMv 0 0 w) := by
  have C := Lib.hid (fun w => afmove 0 0 w)
  go_enter Try.func17, Try.ntmps17
  go_wp2_with fail
  have BB : Hid (Below w.heap.size w w) := Below.refl _ _
  refine (C.out _).mono ?_
  rintro e w1 ⟨g, rfl, hb, hc⟩
  replace BB := Lib.hid (below_next BB.out hb)
  clear hb
  have hc := Lib.hid hc
  go_wp2_with fail
  go_ret
  exact ⟨_, rfl, BB.out, hc.out⟩

theorem move_u {x X Y d : Int} (hX : -1048576 ≤ X ∧ X ≤ 1048576) (hx : -2147483648 ≤ x ∧ x ≤ 2147483648) (h1 : 1 ≤ d) (h2 : d ≤ 16) (D : Int) (hD : D = 4294967296) (z : Int) (hz : z = 4294967296 * X - 65536 * x * d) :
    cutI ((z * 65536).fdiv (D * d)) = 65536 * X / d - x := by
  have e : (z * 65536).fdiv (D * d) = 65536 * X / d - x := by
    subst hz hD
    rw [Int.fdiv_eq_ediv_of_nonneg _ (by omega)]
    have : (4294967296 * X - 65536 * x * d) * 65536 = 4294967296 * (65536 * X - x * d) := by grind
    rw [this, Int.mul_ediv_mul_of_pos _ _ (by omega), Int.sub_mul_ediv_right _ _ (by omega)]
  rw [e]
  have := div_near (x := 65536 * X) (y := d) (B := 68719476736) h1 (by omega) (by omega) (by omega)
  exact cut_near (by omega) (by omega)
theorem move_U {x y X Y d : Int} (hX : -1048576 ≤ X ∧ X ≤ 1048576) (hx : -2147483648 ≤ x ∧ x ≤ 2147483648) (h1 : 1 ≤ d) (h2 : d ≤ 16) :
    plU (65536 * 65536) (-65536 * 0) (0 * y - 65536 * x) (detI 65536 0 0 65536) X Y d = 65536 * X / d - x := by
  unfold plU
  exact move_u (Y := Y) hX hx h1 h2 _ (by decide) _ (by grind)
theorem move_V {x y X Y d : Int} (hY : -1048576 ≤ Y ∧ Y ≤ 1048576) (hy : -2147483648 ≤ y ∧ y ≤ 2147483648) (h1 : 1 ≤ d) (h2 : d ≤ 16) :
    plU (-65536 * 0) (65536 * 65536) (0 * x - 65536 * y) (detI 65536 0 0 65536) X Y d = 65536 * Y / d - y := by
  unfold plU
  exact move_u (Y := Y) hY hy h1 h2 _ (by decide) _ (by grind)
theorem move_C (x y : Int) : afC [65536, 0, x, 0, 65536, y] = if inI x 2147483648 = true ∧ inI y 2147483648 = true then 0 else 11 := by
  have h1 : inI 65536 16777216 = true := by decide
  have h2 : inI 0 16777216 = true := by decide
  have h3 : detI 65536 0 0 65536 ≠ 0 := by decide
  simp only [afC, h1, h2, h3, true_and, if_false]

set_option maxRecDepth 100000 in
set_option maxHeartbeats 16000000 in
theorem affineMoves_far (x y X Y d : Int) (hx : I64 x) (hy : I64 y) (hf : ¬ (inI x 2147483648 = true ∧ inI y 2147483648 = true)) (w : World) :
    Calls Try.prog 4 #[.int .i64 x, .int .i64 y, .agg #[.int .i64 X, .int .i64 Y, .int .i64 d]] w fun e w' => e = .returned (.bool true) ∧ Below w.heap.size w w' := by
  have CU := Lib.hid (fun w => afunit w)
  have CM := Lib.hid (fun w => afmove x y w)
  have CN := Lib.hid (fun v w hv => afnew v [65536, 0, 0, 0, 65536, 0] w hv)
  have CO := Lib.hid (fun v w hv => afnew v [65536, 0, x, 0, 65536, y] w hv)
  have HC : Hid (afC [65536, 0, 0, 0, 65536, 0] = 0) := by show _ = _; decide
  have CI := Lib.hid (fun x w => rin x 2147483648 (by omega) (by omega) w)
  have CR := Lib.hid (fun w => rright X Y d w)
  have CA := Lib.hid (fun w => alive18 w)
  have HD := Lib.hid ((move_C x y).trans (if_neg hf))
  have hz6 := Lib.hid (show ∀ z ∈ [65536, 0, x, 0, 65536, y], I64 z from by intro z hz; simp at hz; rcases hz with rfl | rfl | rfl | rfl | rfl | rfl <;> first | exact hx | exact hy | exact ⟨by omega, by omega⟩)
  generalize hr : rightI X Y d = R at *
  have hr := Lib.hid hr
  rcases hb0 : inI x 2147483648 with _ | _
  · clear hf hx hy
    cases R
    · skip
      go_enter Try.func4, Try.ntmps4
      go_wp2_with fail
      have BB := start1 w #[.int .i64 X, .int .i64 Y, .int .i64 d] 35
      obtain ⟨BB, hsz, r_p⟩ := BB
      generalize (w.alloc (.cells #[.int .i64 X, .int .i64 Y, .int .i64 d] 35)) = w0 at *
      replace BB := Lib.hid BB
      replace r_p := Lib.hid r_p
      clear hsz
      refine (CU.out _).mono ?_
      rintro e w1 ⟨g0, rfl, hb, r_c⟩
      replace r_p := Lib.hid (r_p.out.keep hb)
      replace BB := Lib.hid (below_next BB.out hb)
      clear hb
      go_wp2_with fail
      refine (CN.out _ _ (is_at6 r_c (by simp [I64]))).mono ?_
      rintro e w2 ⟨m, rfl, hb, -, hp⟩
      replace r_p := Lib.hid (r_p.out.keep hb)
      replace BB := Lib.hid (below_next BB.out hb)
      clear hb
      obtain ⟨g, x0, x1, x2, x3, x4, x5, rfl, hz, -, r_m⟩ := hp HC.out
      simp only [List.cons.injEq, and_true] at hz
      obtain ⟨rfl, rfl, rfl, rfl, rfl, rfl⟩ := hz
      rw [HC.out]
      replace r_m := Lib.hid r_m
      clear hp CN HC r_c CU
      go_wp2_with fail
      refine (CM.out _).mono ?_
      rintro e w3 ⟨g1, rfl, hb, r_d⟩
      replace r_p := Lib.hid (r_p.out.keep hb)
      replace r_m := Lib.hid (r_m.out.keep hb)
      replace BB := Lib.hid (below_next BB.out hb)
      clear hb
      go_wp2_with fail
      refine (CO.out _ _ (is_at6 r_d hz6.out)).mono ?_
      rintro e w4 ⟨n, rfl, hb, hn, -⟩
      replace r_p := Lib.hid (r_p.out.keep hb)
      replace r_m := Lib.hid (r_m.out.keep hb)
      replace BB := Lib.hid (below_next BB.out hb)
      clear hb
      rw [HD.out] at hn ⊢
      obtain rfl := hn (by decide)
      clear hn CO r_d
      go_wp2_with fail
      refine (CI.out _ _).mono ?_
      rintro e w9 ⟨rfl, rfl⟩
      rw [hb0]
      obtain ⟨c_p0, c_p1, c_p2, f_p0, f_p1, f_p2⟩ := reads3 r_p.out
      have l_p := r_p.out.lt
      go_wp2_with fail
      refine (CR.out _).mono ?_
      rintro e w9 ⟨rfl, rfl⟩
      go_wp2_with fail
      refine (CA.out _).mono ?_
      rintro e w5 ⟨rfl, hb⟩
      clear c_p0 c_p1 c_p2 f_p0 f_p1 f_p2 l_p
      replace r_p := Lib.hid (r_p.out.keep hb)
      replace r_m := Lib.hid (r_m.out.keep hb)
      replace BB := Lib.hid (below_next BB.out hb)
      clear hb
      go_wp2_with fail
      go_ret
      exact ⟨rfl, BB.out⟩
    · skip
      go_enter Try.func4, Try.ntmps4
      go_wp2_with fail
      have BB := start1 w #[.int .i64 X, .int .i64 Y, .int .i64 d] 35
      obtain ⟨BB, hsz, r_p⟩ := BB
      generalize (w.alloc (.cells #[.int .i64 X, .int .i64 Y, .int .i64 d] 35)) = w0 at *
      replace BB := Lib.hid BB
      replace r_p := Lib.hid r_p
      clear hsz
      refine (CU.out _).mono ?_
      rintro e w1 ⟨g0, rfl, hb, r_c⟩
      replace r_p := Lib.hid (r_p.out.keep hb)
      replace BB := Lib.hid (below_next BB.out hb)
      clear hb
      go_wp2_with fail
      refine (CN.out _ _ (is_at6 r_c (by simp [I64]))).mono ?_
      rintro e w2 ⟨m, rfl, hb, -, hp⟩
      replace r_p := Lib.hid (r_p.out.keep hb)
      replace BB := Lib.hid (below_next BB.out hb)
      clear hb
      obtain ⟨g, x0, x1, x2, x3, x4, x5, rfl, hz, -, r_m⟩ := hp HC.out
      simp only [List.cons.injEq, and_true] at hz
      obtain ⟨rfl, rfl, rfl, rfl, rfl, rfl⟩ := hz
      rw [HC.out]
      replace r_m := Lib.hid r_m
      clear hp CN HC r_c CU
      go_wp2_with fail
      refine (CM.out _).mono ?_
      rintro e w3 ⟨g1, rfl, hb, r_d⟩
      replace r_p := Lib.hid (r_p.out.keep hb)
      replace r_m := Lib.hid (r_m.out.keep hb)
      replace BB := Lib.hid (below_next BB.out hb)
      clear hb
      go_wp2_with fail
      refine (CO.out _ _ (is_at6 r_d hz6.out)).mono ?_
      rintro e w4 ⟨n, rfl, hb, hn, -⟩
      replace r_p := Lib.hid (r_p.out.keep hb)
      replace r_m := Lib.hid (r_m.out.keep hb)
      replace BB := Lib.hid (below_next BB.out hb)
      clear hb
      rw [HD.out] at hn ⊢
      obtain rfl := hn (by decide)
      clear hn CO r_d
      go_wp2_with fail
      refine (CI.out _ _).mono ?_
      rintro e w9 ⟨rfl, rfl⟩
      rw [hb0]
      obtain ⟨c_p0, c_p1, c_p2, f_p0, f_p1, f_p2⟩ := reads3 r_p.out
      have l_p := r_p.out.lt
      go_wp2_with fail
      refine (CR.out _).mono ?_
      rintro e w9 ⟨rfl, rfl⟩
      go_wp2_with fail
      refine (CA.out _).mono ?_
      rintro e w5 ⟨rfl, hb⟩
      clear c_p0 c_p1 c_p2 f_p0 f_p1 f_p2 l_p
      replace r_p := Lib.hid (r_p.out.keep hb)
      replace r_m := Lib.hid (r_m.out.keep hb)
      replace BB := Lib.hid (below_next BB.out hb)
      clear hb
      go_wp2_with fail
      go_ret
      exact ⟨rfl, BB.out⟩
  · have hb1 : inI y 2147483648 = false := by
      cases h : inI y 2147483648
      · rfl
      · exact absurd ⟨hb0, h⟩ hf
    clear hf hx hy
    cases R
    · skip
      go_enter Try.func4, Try.ntmps4
      go_wp2_with fail
      have BB := start1 w #[.int .i64 X, .int .i64 Y, .int .i64 d] 35
      obtain ⟨BB, hsz, r_p⟩ := BB
      generalize (w.alloc (.cells #[.int .i64 X, .int .i64 Y, .int .i64 d] 35)) = w0 at *
      replace BB := Lib.hid BB
      replace r_p := Lib.hid r_p
      clear hsz
      refine (CU.out _).mono ?_
      rintro e w1 ⟨g0, rfl, hb, r_c⟩
      replace r_p := Lib.hid (r_p.out.keep hb)
      replace BB := Lib.hid (below_next BB.out hb)
      clear hb
      go_wp2_with fail
      refine (CN.out _ _ (is_at6 r_c (by simp [I64]))).mono ?_
      rintro e w2 ⟨m, rfl, hb, -, hp⟩
      replace r_p := Lib.hid (r_p.out.keep hb)
      replace BB := Lib.hid (below_next BB.out hb)
      clear hb
      obtain ⟨g, x0, x1, x2, x3, x4, x5, rfl, hz, -, r_m⟩ := hp HC.out
      simp only [List.cons.injEq, and_true] at hz
      obtain ⟨rfl, rfl, rfl, rfl, rfl, rfl⟩ := hz
      rw [HC.out]
      replace r_m := Lib.hid r_m
      clear hp CN HC r_c CU
      go_wp2_with fail
      refine (CM.out _).mono ?_
      rintro e w3 ⟨g1, rfl, hb, r_d⟩
      replace r_p := Lib.hid (r_p.out.keep hb)
      replace r_m := Lib.hid (r_m.out.keep hb)
      replace BB := Lib.hid (below_next BB.out hb)
      clear hb
      go_wp2_with fail
      refine (CO.out _ _ (is_at6 r_d hz6.out)).mono ?_
      rintro e w4 ⟨n, rfl, hb, hn, -⟩
      replace r_p := Lib.hid (r_p.out.keep hb)
      replace r_m := Lib.hid (r_m.out.keep hb)
      replace BB := Lib.hid (below_next BB.out hb)
      clear hb
      rw [HD.out] at hn ⊢
      obtain rfl := hn (by decide)
      clear hn CO r_d
      go_wp2_with fail
      refine (CI.out _ _).mono ?_
      rintro e w9 ⟨rfl, rfl⟩
      rw [hb0]
      go_wp2_with fail
      refine (CI.out _ _).mono ?_
      rintro e w9 ⟨rfl, rfl⟩
      rw [hb1]
      obtain ⟨c_p0, c_p1, c_p2, f_p0, f_p1, f_p2⟩ := reads3 r_p.out
      have l_p := r_p.out.lt
      go_wp2_with fail
      refine (CR.out _).mono ?_
      rintro e w9 ⟨rfl, rfl⟩
      go_wp2_with fail
      refine (CA.out _).mono ?_
      rintro e w5 ⟨rfl, hb⟩
      clear c_p0 c_p1 c_p2 f_p0 f_p1 f_p2 l_p
      replace r_p := Lib.hid (r_p.out.keep hb)
      replace r_m := Lib.hid (r_m.out.keep hb)
      replace BB := Lib.hid (below_next BB.out hb)
      clear hb
      go_wp2_with fail
      go_ret
      exact ⟨rfl, BB.out⟩
    · skip
      go_enter Try.func4, Try.ntmps4
      go_wp2_with fail
      have BB := start1 w #[.int .i64 X, .int .i64 Y, .int .i64 d] 35
      obtain ⟨BB, hsz, r_p⟩ := BB
      generalize (w.alloc (.cells #[.int .i64 X, .int .i64 Y, .int .i64 d] 35)) = w0 at *
      replace BB := Lib.hid BB
      replace r_p := Lib.hid r_p
      clear hsz
      refine (CU.out _).mono ?_
      rintro e w1 ⟨g0, rfl, hb, r_c⟩
      replace r_p := Lib.hid (r_p.out.keep hb)
      replace BB := Lib.hid (below_next BB.out hb)
      clear hb
      go_wp2_with fail
      refine (CN.out _ _ (is_at6 r_c (by simp [I64]))).mono ?_
      rintro e w2 ⟨m, rfl, hb, -, hp⟩
      replace r_p := Lib.hid (r_p.out.keep hb)
      replace BB := Lib.hid (below_next BB.out hb)
      clear hb
      obtain ⟨g, x0, x1, x2, x3, x4, x5, rfl, hz, -, r_m⟩ := hp HC.out
      simp only [List.cons.injEq, and_true] at hz
      obtain ⟨rfl, rfl, rfl, rfl, rfl, rfl⟩ := hz
      rw [HC.out]
      replace r_m := Lib.hid r_m
      clear hp CN HC r_c CU
      go_wp2_with fail
      refine (CM.out _).mono ?_
      rintro e w3 ⟨g1, rfl, hb, r_d⟩
      replace r_p := Lib.hid (r_p.out.keep hb)
      replace r_m := Lib.hid (r_m.out.keep hb)
      replace BB := Lib.hid (below_next BB.out hb)
      clear hb
      go_wp2_with fail
      refine (CO.out _ _ (is_at6 r_d hz6.out)).mono ?_
      rintro e w4 ⟨n, rfl, hb, hn, -⟩
      replace r_p := Lib.hid (r_p.out.keep hb)
      replace r_m := Lib.hid (r_m.out.keep hb)
      replace BB := Lib.hid (below_next BB.out hb)
      clear hb
      rw [HD.out] at hn ⊢
      obtain rfl := hn (by decide)
      clear hn CO r_d
      go_wp2_with fail
      refine (CI.out _ _).mono ?_
      rintro e w9 ⟨rfl, rfl⟩
      rw [hb0]
      go_wp2_with fail
      refine (CI.out _ _).mono ?_
      rintro e w9 ⟨rfl, rfl⟩
      rw [hb1]
      obtain ⟨c_p0, c_p1, c_p2, f_p0, f_p1, f_p2⟩ := reads3 r_p.out
      have l_p := r_p.out.lt
      go_wp2_with fail
      refine (CR.out _).mono ?_
      rintro e w9 ⟨rfl, rfl⟩
      go_wp2_with fail
      refine (CA.out _).mono ?_
      rintro e w5 ⟨rfl, hb⟩
      clear c_p0 c_p1 c_p2 f_p0 f_p1 f_p2 l_p
      replace r_p := Lib.hid (r_p.out.keep hb)
      replace r_m := Lib.hid (r_m.out.keep hb)
      replace BB := Lib.hid (below_next BB.out hb)
      clear hb
      go_wp2_with fail
      go_ret
      exact ⟨rfl, BB.out⟩

set_option maxRecDepth 100000 in
set_option maxHeartbeats 16000000 in
theorem affineMoves_ok (x y X Y d : Int) (hb0 : inI x 2147483648 = true) (hb1 : inI y 2147483648 = true) (w : World) :
    Calls Try.prog 4 #[.int .i64 x, .int .i64 y, .agg #[.int .i64 X, .int .i64 Y, .int .i64 d]] w fun e w' => e = .returned (.bool true) ∧ Below w.heap.size w w' := by
  have CU := Lib.hid (fun w => afunit w)
  have CM := Lib.hid (fun w => afmove x y w)
  have CN := Lib.hid (fun v w hv => afnew v [65536, 0, 0, 0, 65536, 0] w hv)
  have CO := Lib.hid (fun v w hv => afnew v [65536, 0, x, 0, 65536, y] w hv)
  have HC : Hid (afC [65536, 0, 0, 0, 65536, 0] = 0) := by show _ = _; decide
  have CI := Lib.hid (fun x w => rin x 2147483648 (by omega) (by omega) w)
  have CR := Lib.hid (fun w => rright X Y d w)
  have CA := Lib.hid (fun w => alive18 w)
  have hx := inI_iff.1 hb0
  have hy := inI_iff.1 hb1
  have HD := Lib.hid ((move_C x y).trans (if_pos ⟨hb0, hb1⟩))
  have hz6 := Lib.hid (show ∀ z ∈ [65536, 0, x, 0, 65536, y], I64 z from by intro z hz; simp at hz; rcases hz with rfl | rfl | rfl | rfl | rfl | rfl <;> exact ⟨by omega, by omega⟩)
  have hM0 : AM 65536 0 0 0 65536 0 := ⟨by omega, by omega, by omega, by omega, by omega, by omega, by decide⟩
  have hM1 : AM 65536 0 x 0 65536 y := ⟨by omega, by omega, by omega, by omega, by omega, by omega, by decide⟩
  cases hr : rightI X Y d
  · rw [hr] at CR
    clear hx hy hM0 hM1 hr
    go_enter Try.func4, Try.ntmps4
    go_wp2_with fail
    have BB := start1 w #[.int .i64 X, .int .i64 Y, .int .i64 d] 35
    obtain ⟨BB, hsz, r_p⟩ := BB
    generalize (w.alloc (.cells #[.int .i64 X, .int .i64 Y, .int .i64 d] 35)) = w0 at *
    replace BB := Lib.hid BB
    replace r_p := Lib.hid r_p
    clear hsz
    refine (CU.out _).mono ?_
    rintro e w1 ⟨g0, rfl, hb, r_c⟩
    replace r_p := Lib.hid (r_p.out.keep hb)
    replace BB := Lib.hid (below_next BB.out hb)
    clear hb
    go_wp2_with fail
    refine (CN.out _ _ (is_at6 r_c (by simp [I64]))).mono ?_
    rintro e w2 ⟨m, rfl, hb, -, hp⟩
    replace r_p := Lib.hid (r_p.out.keep hb)
    replace BB := Lib.hid (below_next BB.out hb)
    clear hb
    obtain ⟨g, x0, x1, x2, x3, x4, x5, rfl, hz, -, r_m⟩ := hp HC.out
    simp only [List.cons.injEq, and_true] at hz
    obtain ⟨rfl, rfl, rfl, rfl, rfl, rfl⟩ := hz
    rw [HC.out]
    replace r_m := Lib.hid r_m
    clear hp CN HC r_c CU
    go_wp2_with fail
    refine (CM.out _).mono ?_
    rintro e w3 ⟨g1, rfl, hb, r_d⟩
    replace r_p := Lib.hid (r_p.out.keep hb)
    replace r_m := Lib.hid (r_m.out.keep hb)
    replace BB := Lib.hid (below_next BB.out hb)
    clear hb
    go_wp2_with fail
    refine (CO.out _ _ (is_at6 r_d hz6.out)).mono ?_
    rintro e w4 ⟨n, rfl, hb, -, hp⟩
    replace r_p := Lib.hid (r_p.out.keep hb)
    replace r_m := Lib.hid (r_m.out.keep hb)
    replace BB := Lib.hid (below_next BB.out hb)
    clear hb
    obtain ⟨g2, x0, x1, x2, x3, x4, x5, rfl, hz, -, r_n⟩ := hp HD.out
    simp only [List.cons.injEq, and_true] at hz
    obtain ⟨rfl, rfl, rfl, rfl, rfl, rfl⟩ := hz
    rw [HD.out]
    replace r_n := Lib.hid r_n
    clear hp CO HD r_d
    go_wp2_with fail
    refine (CI.out _ _).mono ?_
    rintro e w9 ⟨rfl, rfl⟩
    rw [hb0]
    go_wp2_with fail
    refine (CI.out _ _).mono ?_
    rintro e w9 ⟨rfl, rfl⟩
    rw [hb1]
    obtain ⟨c_p0, c_p1, c_p2, f_p0, f_p1, f_p2⟩ := reads3 r_p.out
    have l_p := r_p.out.lt
    go_wp2_with fail
    refine (CR.out _).mono ?_
    rintro e w9 ⟨rfl, rfl⟩
    go_wp2_with fail
    refine (CA.out _).mono ?_
    rintro e w5 ⟨rfl, hb⟩
    clear c_p0 c_p1 c_p2 f_p0 f_p1 f_p2 l_p
    replace r_p := Lib.hid (r_p.out.keep hb)
    replace r_m := Lib.hid (r_m.out.keep hb)
    replace r_n := Lib.hid (r_n.out.keep hb)
    replace BB := Lib.hid (below_next BB.out hb)
    clear hb
    go_wp2_with fail
    go_ret
    exact ⟨rfl, BB.out⟩
  · rw [hr] at CR
    obtain ⟨q0, q1, h1, h2⟩ := rightI_iff.1 hr
    have T1 := Lib.hid (fun g w hm => afat_ok g _ _ _ _ _ _ _ X Y d hr hM0.lines.1 hM0.lines.2 w hm)
    have T2 := Lib.hid (fun g w hm => afat_ok g _ _ _ _ _ _ _ X Y d hr hM1.lines.1 hM1.lines.2 w hm)
    rw [move_U q0 (by omega) h1 h2, move_V q1 (by omega) h1 h2, Int.sub_zero, Int.sub_zero] at T1
    rw [move_U q0 hx h1 h2, move_V q1 hy h1 h2] at T2
    have D1 := Lib.hid (fun w => rdown (65536 * X) d ⟨by omega, by omega⟩ (by omega) (by omega) w)
    have D2 := Lib.hid (fun w => rdown (65536 * Y) d ⟨by omega, by omega⟩ (by omega) (by omega) w)
    have b1 := div_near (x := 65536 * X) (y := d) (B := 68719476736) h1 (by omega) (by omega) (by omega)
    have b2 := div_near (x := 65536 * Y) (y := d) (B := 68719476736) h1 (by omega) (by omega) (by omega)
    have e1 : wrap64 (65536 * X) = 65536 * X := ww (by omega)
    have e2 : wrap64 (65536 * Y) = 65536 * Y := ww (by omega)
    generalize 65536 * X / d = u at *
    generalize 65536 * Y / d = v at *
    have e3 : wrap64 (u - x) = u - x := ww (by omega)
    have e4 : wrap64 (v - y) = v - y := ww (by omega)
    clear hx hy hM0 hM1 hr q0 q1 h1 h2 b1 b2
    go_enter Try.func4, Try.ntmps4
    go_wp2_with fail
    have BB := start1 w #[.int .i64 X, .int .i64 Y, .int .i64 d] 35
    obtain ⟨BB, hsz, r_p⟩ := BB
    generalize (w.alloc (.cells #[.int .i64 X, .int .i64 Y, .int .i64 d] 35)) = w0 at *
    replace BB := Lib.hid BB
    replace r_p := Lib.hid r_p
    clear hsz
    refine (CU.out _).mono ?_
    rintro e w1 ⟨g0, rfl, hb, r_c⟩
    replace r_p := Lib.hid (r_p.out.keep hb)
    replace BB := Lib.hid (below_next BB.out hb)
    clear hb
    go_wp2_with fail
    refine (CN.out _ _ (is_at6 r_c (by simp [I64]))).mono ?_
    rintro e w2 ⟨m, rfl, hb, -, hp⟩
    replace r_p := Lib.hid (r_p.out.keep hb)
    replace BB := Lib.hid (below_next BB.out hb)
    clear hb
    obtain ⟨g, x0, x1, x2, x3, x4, x5, rfl, hz, -, r_m⟩ := hp HC.out
    simp only [List.cons.injEq, and_true] at hz
    obtain ⟨rfl, rfl, rfl, rfl, rfl, rfl⟩ := hz
    rw [HC.out]
    replace r_m := Lib.hid r_m
    clear hp CN HC r_c CU
    go_wp2_with fail
    refine (CM.out _).mono ?_
    rintro e w3 ⟨g1, rfl, hb, r_d⟩
    replace r_p := Lib.hid (r_p.out.keep hb)
    replace r_m := Lib.hid (r_m.out.keep hb)
    replace BB := Lib.hid (below_next BB.out hb)
    clear hb
    go_wp2_with fail
    refine (CO.out _ _ (is_at6 r_d hz6.out)).mono ?_
    rintro e w4 ⟨n, rfl, hb, -, hp⟩
    replace r_p := Lib.hid (r_p.out.keep hb)
    replace r_m := Lib.hid (r_m.out.keep hb)
    replace BB := Lib.hid (below_next BB.out hb)
    clear hb
    obtain ⟨g2, x0, x1, x2, x3, x4, x5, rfl, hz, -, r_n⟩ := hp HD.out
    simp only [List.cons.injEq, and_true] at hz
    obtain ⟨rfl, rfl, rfl, rfl, rfl, rfl⟩ := hz
    rw [HD.out]
    replace r_n := Lib.hid r_n
    clear hp CO HD r_d
    go_wp2_with fail
    refine (CI.out _ _).mono ?_
    rintro e w9 ⟨rfl, rfl⟩
    rw [hb0]
    go_wp2_with fail
    refine (CI.out _ _).mono ?_
    rintro e w9 ⟨rfl, rfl⟩
    rw [hb1]
    obtain ⟨c_p0, c_p1, c_p2, f_p0, f_p1, f_p2⟩ := reads3 r_p.out
    have l_p := r_p.out.lt
    go_wp2_with fail
    refine (CR.out _).mono ?_
    rintro e w9 ⟨rfl, rfl⟩
    go_wp2_with fail
    refine (T1.out _ _ r_m.out).mono ?_
    rintro e w5 ⟨rfl, hb⟩
    clear c_p0 c_p1 c_p2 f_p0 f_p1 f_p2 l_p
    replace r_p := Lib.hid (r_p.out.keep hb)
    replace r_m := Lib.hid (r_m.out.keep hb)
    replace r_n := Lib.hid (r_n.out.keep hb)
    replace BB := Lib.hid (below_next BB.out hb)
    clear hb
    obtain ⟨c_p0, c_p1, c_p2, f_p0, f_p1, f_p2⟩ := reads3 r_p.out
    have l_p := r_p.out.lt
    go_wp2_with fail
    refine (T2.out _ _ r_n.out).mono ?_
    rintro e w6 ⟨rfl, hb⟩
    clear c_p0 c_p1 c_p2 f_p0 f_p1 f_p2 l_p
    replace r_p := Lib.hid (r_p.out.keep hb)
    replace r_m := Lib.hid (r_m.out.keep hb)
    replace r_n := Lib.hid (r_n.out.keep hb)
    replace BB := Lib.hid (below_next BB.out hb)
    clear hb
    obtain ⟨c_p0, c_p1, c_p2, f_p0, f_p1, f_p2⟩ := reads3 r_p.out
    have l_p := r_p.out.lt
    go_wp2_with fail
    refine (D1.out _).mono ?_
    rintro e w9 ⟨rfl, rfl⟩
    go_wp2_with fail
    refine (D2.out _).mono ?_
    rintro e w9 ⟨rfl, rfl⟩
    go_wp2_with fail
    refine (CA.out _).mono ?_
    rintro e w7 ⟨rfl, hb⟩
    clear c_p0 c_p1 c_p2 f_p0 f_p1 f_p2 l_p
    replace r_p := Lib.hid (r_p.out.keep hb)
    replace r_m := Lib.hid (r_m.out.keep hb)
    replace r_n := Lib.hid (r_n.out.keep hb)
    replace BB := Lib.hid (below_next BB.out hb)
    clear hb
    go_wp2_with fail
    go_ret
    exact ⟨rfl, BB.out⟩

theorem affineMoves_any (x y X Y d : Int) (hx : I64 x) (hy : I64 y) (w : World) :
    Calls Try.prog 4 #[.int .i64 x, .int .i64 y, .agg #[.int .i64 X, .int .i64 Y, .int .i64 d]] w fun e w' => e = .returned (.bool true) ∧ Below w.heap.size w w' := by
  by_cases hf : inI x 2147483648 = true ∧ inI y 2147483648 = true
  · exact affineMoves_ok x y X Y d hf.1 hf.2 w
  · exact affineMoves_far x y X Y d hx hy hf w

end Go.Proofs.Ytbldgbenlmjmjaa
