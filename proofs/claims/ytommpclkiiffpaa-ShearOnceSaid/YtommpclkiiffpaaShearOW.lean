/- Walk of the law ShearOnce. -/
import Derived.Test.YtommpclkiiffpaaShearL
set_option linter.unusedVariables false
namespace Go.Proofs.Ytommpclkiiffpaa
open Go.RowKit

set_option maxRecDepth 100000 in
set_option maxHeartbeats 4000000 in
theorem shearOnce_bad (v : Value) (zs : List Int) (x y : Int) (hx : I64 x) (hy : I64 y) (hC : shC zs ≠ 0) (w : World) (hv : IS w v zs) :
    Calls Try.prog 8 #[v, .int .i64 x, .int .i64 y] w fun e w' => e = .returned (.bool true) ∧ Below w.heap.size w w' := by
  have CN := Lib.hid (fun w hv => shnew v zs w hv)
  have CB := Lib.hid (fun w => shback_nil x y w)
  have CI := Lib.hid (fun x w => rin x 536870912 (by omega) (by omega) w)
  have CT := Lib.hid (fun w => shat_nil x y 1 w)
  have CA := Lib.hid (fun w => alive22 w)
  obtain ⟨A, cap, rfl⟩ := hv.form
  have hv := Lib.hid hv
  have HC := Lib.hid hC
  have hC2 : (shC zs == 0) = false := by simpa using hC
  have hC3 : (shC zs != 0) = true := by simpa using hC
  clear hC hx hy
  generalize zs.length = n at *
  generalize hCe : shC zs = C at *
  have hCe := Lib.hid hCe
  rcases hb0 : inI x 536870912 with _ | _
  · skip
    go_enter Try.func8, Try.ntmps8
    go_wp2_with fail
    have BB : Hid (Below w.heap.size w w) := Below.refl _ _
    refine (CN.out _ hv.out).mono ?_
    rintro e w1 ⟨m, rfl, hb, hn, -⟩
    replace BB := Lib.hid (below_next BB.out hb)
    clear hb
    rw [hCe.out] at hn ⊢
    obtain rfl := hn HC.out
    clear hn CN
    go_wp2_with fail
    refine (CB.out _).mono ?_
    rintro e w9 ⟨rfl, rfl⟩
    go_wp2_with fail
    refine (CI.out _ _).mono ?_
    rintro e w9 ⟨rfl, rfl⟩
    rw [hb0]
    go_wp2_with fail
    refine (CT.out _).mono ?_
    rintro e w9 ⟨rfl, rfl⟩
    go_wp2_with fail
    refine (CA.out _).mono ?_
    rintro e w2 ⟨rfl, hb⟩
    replace BB := Lib.hid (below_next BB.out hb)
    clear hb
    go_wp2_with fail
    go_ret
    exact ⟨rfl, BB.out⟩
  · generalize hb1 : inI y 536870912 = B at *
    have hb1 := Lib.hid hb1
    go_enter Try.func8, Try.ntmps8
    go_wp2_with fail
    have BB : Hid (Below w.heap.size w w) := Below.refl _ _
    refine (CN.out _ hv.out).mono ?_
    rintro e w1 ⟨m, rfl, hb, hn, -⟩
    replace BB := Lib.hid (below_next BB.out hb)
    clear hb
    rw [hCe.out] at hn ⊢
    obtain rfl := hn HC.out
    clear hn CN
    go_wp2_with fail
    refine (CB.out _).mono ?_
    rintro e w9 ⟨rfl, rfl⟩
    go_wp2_with fail
    refine (CI.out _ _).mono ?_
    rintro e w9 ⟨rfl, rfl⟩
    rw [hb0]
    go_wp2_with fail
    refine (CI.out _ _).mono ?_
    rintro e w9 ⟨rfl, rfl⟩
    rw [hb1.out]
    go_wp2_with fail
    refine (CT.out _).mono ?_
    rintro e w9 ⟨rfl, rfl⟩
    go_wp2_with fail
    refine (CA.out _).mono ?_
    rintro e w2 ⟨rfl, hb⟩
    replace BB := Lib.hid (below_next BB.out hb)
    clear hb
    go_wp2_with fail
    go_ret
    exact ⟨rfl, BB.out⟩


set_option maxRecDepth 100000 in
set_option maxHeartbeats 8000000 in
theorem shearOnce_far (v : Value) (a b cx cy x y : Int) (hC : shC [a, b, cx, cy] = 0) (hf : ¬ (inI x 536870912 = true ∧ inI y 536870912 = true)) (w : World) (hv : IS w v [a, b, cx, cy]) :
    Calls Try.prog 8 #[v, .int .i64 x, .int .i64 y] w fun e w' => e = .returned (.bool true) ∧ Below w.heap.size w w' := by
  have CN := Lib.hid (fun w hv => shnew v [a, b, cx, cy] w hv)
  have CI := Lib.hid (fun x w => rin x 536870912 (by omega) (by omega) w)
  have CR := Lib.hid (fun x y w => rright x y 1 w)
  have CA := Lib.hid (fun w => alive22 w)
  have HC := Lib.hid hC
  have CB := Lib.hid (fun g w => shback_far g x y hf w)
  have hr : rightI x y 1 = false := by
    cases h : rightI x y 1
    · rfl
    · obtain ⟨h1, h2⟩ := right_one.1 h
      exact absurd ⟨inI_iff.2 (by omega), inI_iff.2 (by omega)⟩ hf
  have CT := Lib.hid (fun g w => shat_bad g x y 1 hr w)
  have hv := Lib.hid hv
  clear hC
  rcases hb0 : inI x 536870912 with _ | _
  · clear hf hr
    go_enter Try.func8, Try.ntmps8
    go_wp2_with fail
    have BB : Hid (Below w.heap.size w w) := Below.refl _ _
    refine (CN.out _ hv.out).mono ?_
    rintro e w1 ⟨m, rfl, hb, -, hp⟩
    replace BB := Lib.hid (below_next BB.out hb)
    clear hb
    obtain ⟨g, x0, x1, x2, x3, rfl, hz, -, r_m⟩ := hp HC.out
    simp only [List.cons.injEq, and_true] at hz
    obtain ⟨rfl, rfl, rfl, rfl⟩ := hz
    rw [HC.out]
    replace r_m := Lib.hid r_m
    clear hp CN HC
    go_wp2_with fail
    refine (CB.out _ _).mono ?_
    rintro e w9 ⟨rfl, rfl⟩
    go_wp2_with fail
    refine (CI.out _ _).mono ?_
    rintro e w9 ⟨rfl, rfl⟩
    rw [hb0]
    go_wp2_with fail
    refine (CT.out _ _).mono ?_
    rintro e w9 ⟨rfl, rfl⟩
    go_wp2_with fail
    refine (CA.out _).mono ?_
    rintro e w2 ⟨rfl, hb⟩
    replace r_m := Lib.hid (r_m.out.keep hb)
    replace BB := Lib.hid (below_next BB.out hb)
    clear hb
    go_wp2_with fail
    go_ret
    exact ⟨rfl, BB.out⟩
  · have hb1 : inI y 536870912 = false := by
      cases h : inI y 536870912
      · rfl
      · exact absurd ⟨hb0, h⟩ hf
    clear hf hr
    go_enter Try.func8, Try.ntmps8
    go_wp2_with fail
    have BB : Hid (Below w.heap.size w w) := Below.refl _ _
    refine (CN.out _ hv.out).mono ?_
    rintro e w1 ⟨m, rfl, hb, -, hp⟩
    replace BB := Lib.hid (below_next BB.out hb)
    clear hb
    obtain ⟨g, x0, x1, x2, x3, rfl, hz, -, r_m⟩ := hp HC.out
    simp only [List.cons.injEq, and_true] at hz
    obtain ⟨rfl, rfl, rfl, rfl⟩ := hz
    rw [HC.out]
    replace r_m := Lib.hid r_m
    clear hp CN HC
    go_wp2_with fail
    refine (CB.out _ _).mono ?_
    rintro e w9 ⟨rfl, rfl⟩
    go_wp2_with fail
    refine (CI.out _ _).mono ?_
    rintro e w9 ⟨rfl, rfl⟩
    rw [hb0]
    go_wp2_with fail
    refine (CI.out _ _).mono ?_
    rintro e w9 ⟨rfl, rfl⟩
    rw [hb1]
    go_wp2_with fail
    refine (CT.out _ _).mono ?_
    rintro e w9 ⟨rfl, rfl⟩
    go_wp2_with fail
    refine (CA.out _).mono ?_
    rintro e w2 ⟨rfl, hb⟩
    replace r_m := Lib.hid (r_m.out.keep hb)
    replace BB := Lib.hid (below_next BB.out hb)
    clear hb
    go_wp2_with fail
    go_ret
    exact ⟨rfl, BB.out⟩

set_option maxRecDepth 100000 in
set_option maxHeartbeats 16000000 in
theorem shearOnce_nearfalse (v : Value) (a b cx cy x y : Int) (hC : shC [a, b, cx, cy] = 0) (hM : SM a b cx cy) (hb0 : inI x 536870912 = true) (hb1 : inI y 536870912 = true)
    (hr : rightI (bkX2 a b (x - cx) (y - cy) + cx) (bkY1 a b (x - cx) (y - cy) + cy) 1 = false) (w : World) (hv : IS w v [a, b, cx, cy]) :
    Calls Try.prog 8 #[v, .int .i64 x, .int .i64 y] w fun e w' => e = .returned (.bool true) ∧ Below w.heap.size w w' := by
  have CN := Lib.hid (fun w hv => shnew v [a, b, cx, cy] w hv)
  have CI := Lib.hid (fun x w => rin x 536870912 (by omega) (by omega) w)
  have CR := Lib.hid (fun x y w => rright x y 1 w)
  have CA := Lib.hid (fun w => alive22 w)
  have HC := Lib.hid hC
  have CB := Lib.hid (fun g w hm => shback_ok g a b cx cy x y hb0 hb1 hM w hm)
  have hx' := inI_iff.1 hb0
  have hy' := inI_iff.1 hb1
  have f1 : wrap64 (65536 * x) = 65536 * x := ww (by omega)
  have f2 : wrap64 (65536 * y) = 65536 * y := ww (by omega)
  skip
  have CU := Lib.hid (fun h g w hm => shat_one g a b cx cy x y h hM w hm)
  have CV := Lib.hid (fun h g w => shat_bad g x y 1 h w)
  have HB := Lib.hid (fun X Y h1 h2 g w hm => shback_ok g a b cx cy X Y h1 h2 hM w hm)
  have HF := Lib.hid (fun X Y h g w => shback_far g X Y h w)
  have HX := Lib.hid (bk_sh a b (x - cx) (y - cy)).1
  have HY := Lib.hid (bk_sh a b (x - cx) (y - cy)).2
  have HU : Hid (rightI x y 1 = true → (-1125899906842624 ≤ shX2 a b (x - cx) (y - cy) + cx ∧ shX2 a b (x - cx) (y - cy) + cx ≤ 1125899906842624) ∧ (-1125899906842624 ≤ shY1 a b (x - cx) (y - cy) + cy ∧ shY1 a b (x - cx) (y - cy) + cy ≤ 1125899906842624)) := by
    intro _
    obtain ⟨ha, hb, hc, hd⟩ := hM
    obtain ⟨-, q1, q2⟩ := sh_facts (x0 := x - cx) (y0 := y - cy) ha hb (by omega) (by omega)
    omega
  have hv := Lib.hid hv
  have HR := Lib.hid hr
  clear hC hM hx' hy' hr
  generalize bkX2 a b (x - cx) (y - cy) + cx = P at *
  generalize bkY1 a b (x - cx) (y - cy) + cy = Q at *
  cases h1 : rightI x y 1
  · replace CV := Lib.hid (CV.out h1)
    clear CU HB HF HX HY HU h1
    go_enter Try.func8, Try.ntmps8
    go_wp2_with fail
    have BB : Hid (Below w.heap.size w w) := Below.refl _ _
    refine (CN.out _ hv.out).mono ?_
    rintro e w1 ⟨m, rfl, hb, -, hp⟩
    replace BB := Lib.hid (below_next BB.out hb)
    clear hb
    obtain ⟨g, x0, x1, x2, x3, rfl, hz, -, r_m⟩ := hp HC.out
    simp only [List.cons.injEq, and_true] at hz
    obtain ⟨rfl, rfl, rfl, rfl⟩ := hz
    rw [HC.out]
    replace r_m := Lib.hid r_m
    clear hp CN HC
    go_wp2_with fail
    refine (CB.out _ _ r_m.out).mono ?_
    rintro e w2 ⟨rfl, hb⟩
    replace r_m := Lib.hid (r_m.out.keep hb)
    replace BB := Lib.hid (below_next BB.out hb)
    clear hb
    go_wp2_with fail
    refine (CI.out _ _).mono ?_
    rintro e w9 ⟨rfl, rfl⟩
    rw [hb0]
    go_wp2_with fail
    refine (CI.out _ _).mono ?_
    rintro e w9 ⟨rfl, rfl⟩
    rw [hb1]
    go_wp2_with fail
    refine (CR.out _ _ _).mono ?_
    rintro e w9 ⟨rfl, rfl⟩
    rw [HR.out]

    go_wp2_with fail
    refine (CV.out _ _).mono ?_
    rintro e w9 ⟨rfl, rfl⟩
    go_wp2_with fail
    refine (CA.out _).mono ?_
    rintro e w3 ⟨rfl, hb⟩
    replace r_m := Lib.hid (r_m.out.keep hb)
    replace BB := Lib.hid (below_next BB.out hb)
    clear hb
    go_wp2_with fail
    go_ret
    exact ⟨rfl, BB.out⟩
  · replace CU := Lib.hid (CU.out h1)
    obtain ⟨u1, u2⟩ := HU.out h1
    clear CV HU h1
    generalize hUe : shX2 a b (x - cx) (y - cy) = U at *
    generalize hVe : shY1 a b (x - cx) (y - cy) = V at *
    have hUe := Lib.hid hUe; have hVe := Lib.hid hVe
    have t1 : (65536 * (U + cx)).tdiv 65536 = U + cx := Int.mul_tdiv_cancel_left _ (by omega)
    have t2 : (65536 * (V + cy)).tdiv 65536 = V + cy := Int.mul_tdiv_cancel_left _ (by omega)
    have t3 : wrap64 (U + cx) = U + cx := ww (by omega)
    have t4 : wrap64 (V + cy) = V + cy := ww (by omega)
    clear u1 u2
    rcases h2 : inI (U + cx) 536870912 with _ | _
    · replace HF := Lib.hid (HF.out (U + cx) (V + cy) (fun h => by rw [h2] at h; exact absurd h.1 (by simp)))
      clear HB HX HY
      go_enter Try.func8, Try.ntmps8
      go_wp2_with fail
      have BB : Hid (Below w.heap.size w w) := Below.refl _ _
      refine (CN.out _ hv.out).mono ?_
      rintro e w1 ⟨m, rfl, hb, -, hp⟩
      replace BB := Lib.hid (below_next BB.out hb)
      clear hb
      obtain ⟨g, x0, x1, x2, x3, rfl, hz, -, r_m⟩ := hp HC.out
      simp only [List.cons.injEq, and_true] at hz
      obtain ⟨rfl, rfl, rfl, rfl⟩ := hz
      rw [HC.out]
      replace r_m := Lib.hid r_m
      clear hp CN HC
      go_wp2_with fail
      refine (CB.out _ _ r_m.out).mono ?_
      rintro e w2 ⟨rfl, hb⟩
      replace r_m := Lib.hid (r_m.out.keep hb)
      replace BB := Lib.hid (below_next BB.out hb)
      clear hb
      go_wp2_with fail
      refine (CI.out _ _).mono ?_
      rintro e w9 ⟨rfl, rfl⟩
      rw [hb0]
      go_wp2_with fail
      refine (CI.out _ _).mono ?_
      rintro e w9 ⟨rfl, rfl⟩
      rw [hb1]
      go_wp2_with fail
      refine (CR.out _ _ _).mono ?_
      rintro e w9 ⟨rfl, rfl⟩
      rw [HR.out]

      go_wp2_with fail
      refine (CU.out _ _ r_m.out).mono ?_
      rintro e w3 ⟨rfl, hb⟩
      replace r_m := Lib.hid (r_m.out.keep hb)
      replace BB := Lib.hid (below_next BB.out hb)
      clear hb
      go_wp2_with fail
      refine (HF.out _ _).mono ?_
      rintro e w9 ⟨rfl, rfl⟩
      go_wp2_with fail
      refine (CI.out _ _).mono ?_
      rintro e w9 ⟨rfl, rfl⟩
      rw [h2]
      go_wp2_with fail
      refine (CA.out _).mono ?_
      rintro e w4 ⟨rfl, hb⟩
      replace r_m := Lib.hid (r_m.out.keep hb)
      replace BB := Lib.hid (below_next BB.out hb)
      clear hb
      go_wp2_with fail
      go_ret
      exact ⟨rfl, BB.out⟩
    rcases h3 : inI (V + cy) 536870912 with _ | _
    · replace HF := Lib.hid (HF.out (U + cx) (V + cy) (fun h => by rw [h3] at h; exact absurd h.2 (by simp)))
      clear HB HX HY
      go_enter Try.func8, Try.ntmps8
      go_wp2_with fail
      have BB : Hid (Below w.heap.size w w) := Below.refl _ _
      refine (CN.out _ hv.out).mono ?_
      rintro e w1 ⟨m, rfl, hb, -, hp⟩
      replace BB := Lib.hid (below_next BB.out hb)
      clear hb
      obtain ⟨g, x0, x1, x2, x3, rfl, hz, -, r_m⟩ := hp HC.out
      simp only [List.cons.injEq, and_true] at hz
      obtain ⟨rfl, rfl, rfl, rfl⟩ := hz
      rw [HC.out]
      replace r_m := Lib.hid r_m
      clear hp CN HC
      go_wp2_with fail
      refine (CB.out _ _ r_m.out).mono ?_
      rintro e w2 ⟨rfl, hb⟩
      replace r_m := Lib.hid (r_m.out.keep hb)
      replace BB := Lib.hid (below_next BB.out hb)
      clear hb
      go_wp2_with fail
      refine (CI.out _ _).mono ?_
      rintro e w9 ⟨rfl, rfl⟩
      rw [hb0]
      go_wp2_with fail
      refine (CI.out _ _).mono ?_
      rintro e w9 ⟨rfl, rfl⟩
      rw [hb1]
      go_wp2_with fail
      refine (CR.out _ _ _).mono ?_
      rintro e w9 ⟨rfl, rfl⟩
      rw [HR.out]

      go_wp2_with fail
      refine (CU.out _ _ r_m.out).mono ?_
      rintro e w3 ⟨rfl, hb⟩
      replace r_m := Lib.hid (r_m.out.keep hb)
      replace BB := Lib.hid (below_next BB.out hb)
      clear hb
      go_wp2_with fail
      refine (HF.out _ _).mono ?_
      rintro e w9 ⟨rfl, rfl⟩
      go_wp2_with fail
      refine (CI.out _ _).mono ?_
      rintro e w9 ⟨rfl, rfl⟩
      rw [h2]
      go_wp2_with fail
      refine (CI.out _ _).mono ?_
      rintro e w9 ⟨rfl, rfl⟩
      rw [h3]
      go_wp2_with fail
      refine (CA.out _).mono ?_
      rintro e w4 ⟨rfl, hb⟩
      replace r_m := Lib.hid (r_m.out.keep hb)
      replace BB := Lib.hid (below_next BB.out hb)
      clear hb
      go_wp2_with fail
      go_ret
      exact ⟨rfl, BB.out⟩
    · replace HB := Lib.hid (HB.out (U + cx) (V + cy) h2 h3)
      have s1 : U + cx - cx = U := by omega
      have s2 : V + cy - cy = V := by omega
      have s3 : bkX2 a b U V + cx = x := by rw [HX.out]; omega
      have s4 : bkY1 a b U V + cy = y := by rw [HY.out]; omega
      rw [s1, s2, s3, s4] at HB
      clear HF HX HY s1 s2 s3 s4
      go_enter Try.func8, Try.ntmps8
      go_wp2_with fail
      have BB : Hid (Below w.heap.size w w) := Below.refl _ _
      refine (CN.out _ hv.out).mono ?_
      rintro e w1 ⟨m, rfl, hb, -, hp⟩
      replace BB := Lib.hid (below_next BB.out hb)
      clear hb
      obtain ⟨g, x0, x1, x2, x3, rfl, hz, -, r_m⟩ := hp HC.out
      simp only [List.cons.injEq, and_true] at hz
      obtain ⟨rfl, rfl, rfl, rfl⟩ := hz
      rw [HC.out]
      replace r_m := Lib.hid r_m
      clear hp CN HC
      go_wp2_with fail
      refine (CB.out _ _ r_m.out).mono ?_
      rintro e w2 ⟨rfl, hb⟩
      replace r_m := Lib.hid (r_m.out.keep hb)
      replace BB := Lib.hid (below_next BB.out hb)
      clear hb
      go_wp2_with fail
      refine (CI.out _ _).mono ?_
      rintro e w9 ⟨rfl, rfl⟩
      rw [hb0]
      go_wp2_with fail
      refine (CI.out _ _).mono ?_
      rintro e w9 ⟨rfl, rfl⟩
      rw [hb1]
      go_wp2_with fail
      refine (CR.out _ _ _).mono ?_
      rintro e w9 ⟨rfl, rfl⟩
      rw [HR.out]

      go_wp2_with fail
      refine (CU.out _ _ r_m.out).mono ?_
      rintro e w3 ⟨rfl, hb⟩
      replace r_m := Lib.hid (r_m.out.keep hb)
      replace BB := Lib.hid (below_next BB.out hb)
      clear hb
      go_wp2_with fail
      refine (HB.out _ _ r_m.out).mono ?_
      rintro e w4 ⟨rfl, hb⟩
      replace r_m := Lib.hid (r_m.out.keep hb)
      replace BB := Lib.hid (below_next BB.out hb)
      clear hb
      go_wp2_with fail
      refine (CI.out _ _).mono ?_
      rintro e w9 ⟨rfl, rfl⟩
      rw [h2]
      go_wp2_with fail
      refine (CI.out _ _).mono ?_
      rintro e w9 ⟨rfl, rfl⟩
      rw [h3]
      go_wp2_with fail
      refine (CA.out _).mono ?_
      rintro e w5 ⟨rfl, hb⟩
      replace r_m := Lib.hid (r_m.out.keep hb)
      replace BB := Lib.hid (below_next BB.out hb)
      clear hb
      go_wp2_with fail
      go_ret
      exact ⟨rfl, BB.out⟩
set_option maxRecDepth 100000 in
set_option maxHeartbeats 16000000 in
theorem shearOnce_neartrue (v : Value) (a b cx cy x y : Int) (hC : shC [a, b, cx, cy] = 0) (hM : SM a b cx cy) (hb0 : inI x 536870912 = true) (hb1 : inI y 536870912 = true)
    (hr : rightI (bkX2 a b (x - cx) (y - cy) + cx) (bkY1 a b (x - cx) (y - cy) + cy) 1 = true) (w : World) (hv : IS w v [a, b, cx, cy]) :
    Calls Try.prog 8 #[v, .int .i64 x, .int .i64 y] w fun e w' => e = .returned (.bool true) ∧ Below w.heap.size w w' := by
  have CN := Lib.hid (fun w hv => shnew v [a, b, cx, cy] w hv)
  have CI := Lib.hid (fun x w => rin x 536870912 (by omega) (by omega) w)
  have CR := Lib.hid (fun x y w => rright x y 1 w)
  have CA := Lib.hid (fun w => alive22 w)
  have HC := Lib.hid hC
  have CB := Lib.hid (fun g w hm => shback_ok g a b cx cy x y hb0 hb1 hM w hm)
  have hx' := inI_iff.1 hb0
  have hy' := inI_iff.1 hb1
  have f1 : wrap64 (65536 * x) = 65536 * x := ww (by omega)
  have f2 : wrap64 (65536 * y) = 65536 * y := ww (by omega)
  have C2 := Lib.hid (fun g w hm => shat_one g a b cx cy _ _ hr hM w hm); rw [show bkX2 a b (x - cx) (y - cy) + cx - cx = bkX2 a b (x - cx) (y - cy) by omega, show bkY1 a b (x - cx) (y - cy) + cy - cy = bkY1 a b (x - cx) (y - cy) by omega, (sh_bk a b (x - cx) (y - cy)).1, (sh_bk a b (x - cx) (y - cy)).2, show x - cx + cx = x by omega, show y - cy + cy = y by omega] at C2
  have CU := Lib.hid (fun h g w hm => shat_one g a b cx cy x y h hM w hm)
  have CV := Lib.hid (fun h g w => shat_bad g x y 1 h w)
  have HB := Lib.hid (fun X Y h1 h2 g w hm => shback_ok g a b cx cy X Y h1 h2 hM w hm)
  have HF := Lib.hid (fun X Y h g w => shback_far g X Y h w)
  have HX := Lib.hid (bk_sh a b (x - cx) (y - cy)).1
  have HY := Lib.hid (bk_sh a b (x - cx) (y - cy)).2
  have HU : Hid (rightI x y 1 = true → (-1125899906842624 ≤ shX2 a b (x - cx) (y - cy) + cx ∧ shX2 a b (x - cx) (y - cy) + cx ≤ 1125899906842624) ∧ (-1125899906842624 ≤ shY1 a b (x - cx) (y - cy) + cy ∧ shY1 a b (x - cx) (y - cy) + cy ≤ 1125899906842624)) := by
    intro _
    obtain ⟨ha, hb, hc, hd⟩ := hM
    obtain ⟨-, q1, q2⟩ := sh_facts (x0 := x - cx) (y0 := y - cy) ha hb (by omega) (by omega)
    omega
  have hv := Lib.hid hv
  have HR := Lib.hid hr
  clear hC hM hx' hy' hr
  generalize bkX2 a b (x - cx) (y - cy) + cx = P at *
  generalize bkY1 a b (x - cx) (y - cy) + cy = Q at *
  cases h1 : rightI x y 1
  · replace CV := Lib.hid (CV.out h1)
    clear CU HB HF HX HY HU h1
    go_enter Try.func8, Try.ntmps8
    go_wp2_with fail
    have BB : Hid (Below w.heap.size w w) := Below.refl _ _
    refine (CN.out _ hv.out).mono ?_
    rintro e w1 ⟨m, rfl, hb, -, hp⟩
    replace BB := Lib.hid (below_next BB.out hb)
    clear hb
    obtain ⟨g, x0, x1, x2, x3, rfl, hz, -, r_m⟩ := hp HC.out
    simp only [List.cons.injEq, and_true] at hz
    obtain ⟨rfl, rfl, rfl, rfl⟩ := hz
    rw [HC.out]
    replace r_m := Lib.hid r_m
    clear hp CN HC
    go_wp2_with fail
    refine (CB.out _ _ r_m.out).mono ?_
    rintro e w2 ⟨rfl, hb⟩
    replace r_m := Lib.hid (r_m.out.keep hb)
    replace BB := Lib.hid (below_next BB.out hb)
    clear hb
    go_wp2_with fail
    refine (CI.out _ _).mono ?_
    rintro e w9 ⟨rfl, rfl⟩
    rw [hb0]
    go_wp2_with fail
    refine (CI.out _ _).mono ?_
    rintro e w9 ⟨rfl, rfl⟩
    rw [hb1]
    go_wp2_with fail
    refine (CR.out _ _ _).mono ?_
    rintro e w9 ⟨rfl, rfl⟩
    rw [HR.out]
    go_wp2_with fail
    refine (C2.out _ _ r_m.out).mono ?_
    rintro e w3 ⟨rfl, hb⟩
    replace r_m := Lib.hid (r_m.out.keep hb)
    replace BB := Lib.hid (below_next BB.out hb)
    clear hb
    go_wp2_with fail
    refine (CV.out _ _).mono ?_
    rintro e w9 ⟨rfl, rfl⟩
    go_wp2_with fail
    refine (CA.out _).mono ?_
    rintro e w4 ⟨rfl, hb⟩
    replace r_m := Lib.hid (r_m.out.keep hb)
    replace BB := Lib.hid (below_next BB.out hb)
    clear hb
    go_wp2_with fail
    go_ret
    exact ⟨rfl, BB.out⟩
  · replace CU := Lib.hid (CU.out h1)
    obtain ⟨u1, u2⟩ := HU.out h1
    clear CV HU h1
    generalize hUe : shX2 a b (x - cx) (y - cy) = U at *
    generalize hVe : shY1 a b (x - cx) (y - cy) = V at *
    have hUe := Lib.hid hUe; have hVe := Lib.hid hVe
    have t1 : (65536 * (U + cx)).tdiv 65536 = U + cx := Int.mul_tdiv_cancel_left _ (by omega)
    have t2 : (65536 * (V + cy)).tdiv 65536 = V + cy := Int.mul_tdiv_cancel_left _ (by omega)
    have t3 : wrap64 (U + cx) = U + cx := ww (by omega)
    have t4 : wrap64 (V + cy) = V + cy := ww (by omega)
    clear u1 u2
    rcases h2 : inI (U + cx) 536870912 with _ | _
    · replace HF := Lib.hid (HF.out (U + cx) (V + cy) (fun h => by rw [h2] at h; exact absurd h.1 (by simp)))
      clear HB HX HY
      go_enter Try.func8, Try.ntmps8
      go_wp2_with fail
      have BB : Hid (Below w.heap.size w w) := Below.refl _ _
      refine (CN.out _ hv.out).mono ?_
      rintro e w1 ⟨m, rfl, hb, -, hp⟩
      replace BB := Lib.hid (below_next BB.out hb)
      clear hb
      obtain ⟨g, x0, x1, x2, x3, rfl, hz, -, r_m⟩ := hp HC.out
      simp only [List.cons.injEq, and_true] at hz
      obtain ⟨rfl, rfl, rfl, rfl⟩ := hz
      rw [HC.out]
      replace r_m := Lib.hid r_m
      clear hp CN HC
      go_wp2_with fail
      refine (CB.out _ _ r_m.out).mono ?_
      rintro e w2 ⟨rfl, hb⟩
      replace r_m := Lib.hid (r_m.out.keep hb)
      replace BB := Lib.hid (below_next BB.out hb)
      clear hb
      go_wp2_with fail
      refine (CI.out _ _).mono ?_
      rintro e w9 ⟨rfl, rfl⟩
      rw [hb0]
      go_wp2_with fail
      refine (CI.out _ _).mono ?_
      rintro e w9 ⟨rfl, rfl⟩
      rw [hb1]
      go_wp2_with fail
      refine (CR.out _ _ _).mono ?_
      rintro e w9 ⟨rfl, rfl⟩
      rw [HR.out]
      go_wp2_with fail
      refine (C2.out _ _ r_m.out).mono ?_
      rintro e w3 ⟨rfl, hb⟩
      replace r_m := Lib.hid (r_m.out.keep hb)
      replace BB := Lib.hid (below_next BB.out hb)
      clear hb
      go_wp2_with fail
      refine (CU.out _ _ r_m.out).mono ?_
      rintro e w4 ⟨rfl, hb⟩
      replace r_m := Lib.hid (r_m.out.keep hb)
      replace BB := Lib.hid (below_next BB.out hb)
      clear hb
      go_wp2_with fail
      refine (HF.out _ _).mono ?_
      rintro e w9 ⟨rfl, rfl⟩
      go_wp2_with fail
      refine (CI.out _ _).mono ?_
      rintro e w9 ⟨rfl, rfl⟩
      rw [h2]
      go_wp2_with fail
      refine (CA.out _).mono ?_
      rintro e w5 ⟨rfl, hb⟩
      replace r_m := Lib.hid (r_m.out.keep hb)
      replace BB := Lib.hid (below_next BB.out hb)
      clear hb
      go_wp2_with fail
      go_ret
      exact ⟨rfl, BB.out⟩
    rcases h3 : inI (V + cy) 536870912 with _ | _
    · replace HF := Lib.hid (HF.out (U + cx) (V + cy) (fun h => by rw [h3] at h; exact absurd h.2 (by simp)))
      clear HB HX HY
      go_enter Try.func8, Try.ntmps8
      go_wp2_with fail
      have BB : Hid (Below w.heap.size w w) := Below.refl _ _
      refine (CN.out _ hv.out).mono ?_
      rintro e w1 ⟨m, rfl, hb, -, hp⟩
      replace BB := Lib.hid (below_next BB.out hb)
      clear hb
      obtain ⟨g, x0, x1, x2, x3, rfl, hz, -, r_m⟩ := hp HC.out
      simp only [List.cons.injEq, and_true] at hz
      obtain ⟨rfl, rfl, rfl, rfl⟩ := hz
      rw [HC.out]
      replace r_m := Lib.hid r_m
      clear hp CN HC
      go_wp2_with fail
      refine (CB.out _ _ r_m.out).mono ?_
      rintro e w2 ⟨rfl, hb⟩
      replace r_m := Lib.hid (r_m.out.keep hb)
      replace BB := Lib.hid (below_next BB.out hb)
      clear hb
      go_wp2_with fail
      refine (CI.out _ _).mono ?_
      rintro e w9 ⟨rfl, rfl⟩
      rw [hb0]
      go_wp2_with fail
      refine (CI.out _ _).mono ?_
      rintro e w9 ⟨rfl, rfl⟩
      rw [hb1]
      go_wp2_with fail
      refine (CR.out _ _ _).mono ?_
      rintro e w9 ⟨rfl, rfl⟩
      rw [HR.out]
      go_wp2_with fail
      refine (C2.out _ _ r_m.out).mono ?_
      rintro e w3 ⟨rfl, hb⟩
      replace r_m := Lib.hid (r_m.out.keep hb)
      replace BB := Lib.hid (below_next BB.out hb)
      clear hb
      go_wp2_with fail
      refine (CU.out _ _ r_m.out).mono ?_
      rintro e w4 ⟨rfl, hb⟩
      replace r_m := Lib.hid (r_m.out.keep hb)
      replace BB := Lib.hid (below_next BB.out hb)
      clear hb
      go_wp2_with fail
      refine (HF.out _ _).mono ?_
      rintro e w9 ⟨rfl, rfl⟩
      go_wp2_with fail
      refine (CI.out _ _).mono ?_
      rintro e w9 ⟨rfl, rfl⟩
      rw [h2]
      go_wp2_with fail
      refine (CI.out _ _).mono ?_
      rintro e w9 ⟨rfl, rfl⟩
      rw [h3]
      go_wp2_with fail
      refine (CA.out _).mono ?_
      rintro e w5 ⟨rfl, hb⟩
      replace r_m := Lib.hid (r_m.out.keep hb)
      replace BB := Lib.hid (below_next BB.out hb)
      clear hb
      go_wp2_with fail
      go_ret
      exact ⟨rfl, BB.out⟩
    · replace HB := Lib.hid (HB.out (U + cx) (V + cy) h2 h3)
      have s1 : U + cx - cx = U := by omega
      have s2 : V + cy - cy = V := by omega
      have s3 : bkX2 a b U V + cx = x := by rw [HX.out]; omega
      have s4 : bkY1 a b U V + cy = y := by rw [HY.out]; omega
      rw [s1, s2, s3, s4] at HB
      clear HF HX HY s1 s2 s3 s4
      go_enter Try.func8, Try.ntmps8
      go_wp2_with fail
      have BB : Hid (Below w.heap.size w w) := Below.refl _ _
      refine (CN.out _ hv.out).mono ?_
      rintro e w1 ⟨m, rfl, hb, -, hp⟩
      replace BB := Lib.hid (below_next BB.out hb)
      clear hb
      obtain ⟨g, x0, x1, x2, x3, rfl, hz, -, r_m⟩ := hp HC.out
      simp only [List.cons.injEq, and_true] at hz
      obtain ⟨rfl, rfl, rfl, rfl⟩ := hz
      rw [HC.out]
      replace r_m := Lib.hid r_m
      clear hp CN HC
      go_wp2_with fail
      refine (CB.out _ _ r_m.out).mono ?_
      rintro e w2 ⟨rfl, hb⟩
      replace r_m := Lib.hid (r_m.out.keep hb)
      replace BB := Lib.hid (below_next BB.out hb)
      clear hb
      go_wp2_with fail
      refine (CI.out _ _).mono ?_
      rintro e w9 ⟨rfl, rfl⟩
      rw [hb0]
      go_wp2_with fail
      refine (CI.out _ _).mono ?_
      rintro e w9 ⟨rfl, rfl⟩
      rw [hb1]
      go_wp2_with fail
      refine (CR.out _ _ _).mono ?_
      rintro e w9 ⟨rfl, rfl⟩
      rw [HR.out]
      go_wp2_with fail
      refine (C2.out _ _ r_m.out).mono ?_
      rintro e w3 ⟨rfl, hb⟩
      replace r_m := Lib.hid (r_m.out.keep hb)
      replace BB := Lib.hid (below_next BB.out hb)
      clear hb
      go_wp2_with fail
      refine (CU.out _ _ r_m.out).mono ?_
      rintro e w4 ⟨rfl, hb⟩
      replace r_m := Lib.hid (r_m.out.keep hb)
      replace BB := Lib.hid (below_next BB.out hb)
      clear hb
      go_wp2_with fail
      refine (HB.out _ _ r_m.out).mono ?_
      rintro e w5 ⟨rfl, hb⟩
      replace r_m := Lib.hid (r_m.out.keep hb)
      replace BB := Lib.hid (below_next BB.out hb)
      clear hb
      go_wp2_with fail
      refine (CI.out _ _).mono ?_
      rintro e w9 ⟨rfl, rfl⟩
      rw [h2]
      go_wp2_with fail
      refine (CI.out _ _).mono ?_
      rintro e w9 ⟨rfl, rfl⟩
      rw [h3]
      go_wp2_with fail
      refine (CA.out _).mono ?_
      rintro e w6 ⟨rfl, hb⟩
      replace r_m := Lib.hid (r_m.out.keep hb)
      replace BB := Lib.hid (below_next BB.out hb)
      clear hb
      go_wp2_with fail
      go_ret
      exact ⟨rfl, BB.out⟩

theorem shearOnce_any (v : Value) (zs : List Int) (x y : Int) (hx : I64 x) (hy : I64 y) (w : World) (hv : IS w v zs) :
    Calls Try.prog 8 #[v, .int .i64 x, .int .i64 y] w fun e w' => e = .returned (.bool true) ∧ Below w.heap.size w w' := by
  by_cases hC : shC zs = 0
  · obtain ⟨a, b, cx, cy, rfl, hM⟩ := shC_zero hC
    by_cases hf : inI x 536870912 = true ∧ inI y 536870912 = true
    · cases hr : rightI (bkX2 a b (x - cx) (y - cy) + cx) (bkY1 a b (x - cx) (y - cy) + cy) 1
      · exact shearOnce_nearfalse v a b cx cy x y hC hM hf.1 hf.2 hr w hv
      · exact shearOnce_neartrue v a b cx cy x y hC hM hf.1 hf.2 hr w hv
    · exact shearOnce_far v a b cx cy x y hC hf w hv
  · exact shearOnce_bad v zs x y hx hy hC w hv

end Go.Proofs.Ytommpclkiiffpaa
