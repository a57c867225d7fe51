/- Contracts of ref26.In, span.In; the walk of the law SpanIn. -/
import Derived.Test.YthdbchghhpoadaaSp3
import Derived.Test.YthdbchghhpoadaaAffR1
set_option linter.unusedVariables false
set_option linter.unusedSimpArgs false
namespace Go.Proofs.Ythdbchghhpoadaa
open Go.RowKit Go.ChangeShapes Go.WideShapes Go.ChangeAt Go.Deep
set_option maxRecDepth 100000 in
set_option maxHeartbeats 4000000 in
theorem r26in (v : Value) (c0 c1 c2 c3 c4 c5 W H x y : Int) (hM : AM c0 c1 c2 c3 c4 c5) (hp : rightI x y 1 = true) (w : World) (hv : IS w v [c0, c1, c2, c3, c4, c5]) :
    Calls Try.prog 12 #[v, .int .i64 W, .int .i64 H, .int .i64 x, .int .i64 y] w fun e w' => e = .returned (.bool (inB c0 c1 c2 c3 c4 c5 W H y x)) ∧ Below w.heap.size w w' := by
  have CA := Lib.hid (fun w hv => rat18 v c0 c1 c2 c3 c4 c5 x y 1 hM hp w hv)
  have b1 := cut_in (((65536 * c4 * x + -65536 * c1 * y + (c1 * c5 - c4 * c2) * 1) * 65536).fdiv (detI c0 c1 c3 c4 * 1))
  have b2 := cut_in (((-65536 * c3 * x + 65536 * c0 * y + (c3 * c2 - c0 * c5) * 1) * 65536).fdiv (detI c0 c1 c3 c4 * 1))
  have r1 : colI c0 c1 c2 c3 c4 c5 y x = (plU (65536 * c4) (-65536 * c1) (c1 * c5 - c4 * c2) (detI c0 c1 c3 c4) x y 1 + 32768) / 65536 := rfl
  have r2 : rowI c0 c1 c2 c3 c4 c5 y x = (plU (-65536 * c3) (65536 * c0) (c3 * c2 - c0 * c5) (detI c0 c1 c3 c4) x y 1 + 32768) / 65536 := rfl
  change -70368744177664 ≤ plU (65536 * c4) (-65536 * c1) (c1 * c5 - c4 * c2) (detI c0 c1 c3 c4) x y 1 ∧ plU (65536 * c4) (-65536 * c1) (c1 * c5 - c4 * c2) (detI c0 c1 c3 c4) x y 1 ≤ 70368744177664 at b1
  change -70368744177664 ≤ plU (-65536 * c3) (65536 * c0) (c3 * c2 - c0 * c5) (detI c0 c1 c3 c4) x y 1 ∧ plU (-65536 * c3) (65536 * c0) (c3 * c2 - c0 * c5) (detI c0 c1 c3 c4) x y 1 ≤ 70368744177664 at b2
  generalize plU (65536 * c4) (-65536 * c1) (c1 * c5 - c4 * c2) (detI c0 c1 c3 c4) x y 1 = U at *
  generalize plU (-65536 * c3) (65536 * c0) (c3 * c2 - c0 * c5) (detI c0 c1 c3 c4) x y 1 = V at *
  have e1 : IntKind.i64.wrap (U + 32768) = U + 32768 := iw ⟨by omega, by omega⟩
  have e2 : IntKind.i64.wrap (V + 32768) = V + 32768 := iw ⟨by omega, by omega⟩
  have D1 := Lib.hid (fun w => rdown (U + 32768) 65536 ⟨by omega, by omega⟩ (by omega) (by omega) w)
  have D2 := Lib.hid (fun w => rdown (V + 32768) 65536 ⟨by omega, by omega⟩ (by omega) (by omega) w)
  rw [← r1] at D1
  rw [← r2] at D2
  have HI : Hid (inB c0 c1 c2 c3 c4 c5 W H y x = (decide (0 ≤ colI c0 c1 c2 c3 c4 c5 y x) && (decide (colI c0 c1 c2 c3 c4 c5 y x < W) && (decide (0 ≤ rowI c0 c1 c2 c3 c4 c5 y x) && decide (rowI c0 c1 c2 c3 c4 c5 y x < H))))) := rfl
  generalize inB c0 c1 c2 c3 c4 c5 W H y x = P at *
  generalize colI c0 c1 c2 c3 c4 c5 y x = A at *
  generalize rowI c0 c1 c2 c3 c4 c5 y x = B at *
  replace hv := Lib.hid hv
  clear hM hp b1 b2 r1 r2
  go_enter Try.func12, Try.ntmps12
  go_wp2_with fail
  have BB : Hid (Below w.heap.size w w) := Below.refl _ _
  refine (CA.out _ hv.out).mono ?_
  rintro e w1 ⟨rfl, hb⟩
  replace BB := Lib.hid (below_next BB.out hb)
  clear hb
  go_wp2_with fail
  refine (D1.out _).mono ?_
  rintro e w9 ⟨rfl, rfl⟩
  go_wp2_with fail
  refine (D2.out _).mono ?_
  rintro e w9 ⟨rfl, rfl⟩
  clear CA D1 D2
  rcases dec_both (A ≥ 0) with ⟨k1, d1⟩ | ⟨k1, d1⟩
  · rcases dec_both (A < W) with ⟨k2, d2⟩ | ⟨k2, d2⟩
    · rcases dec_both (B ≥ 0) with ⟨k3, d3⟩ | ⟨k3, d3⟩
      · rcases dec_both (B < H) with ⟨k4, d4⟩ | ⟨k4, d4⟩
        · have hP := Lib.hid (HI.out.trans (by simp; exact ⟨k1, k2, k3, k4⟩) : P = true)
          clear k1 k2 k3 k4
          go_wp2_with fail
          go_ret
          exact ⟨ret_bool hP.out.symm, BB.out⟩
        · have hP := Lib.hid (HI.out.trans (by simp; omega) : P = false)
          clear k1 k2 k3 k4
          go_wp2_with fail
          go_ret
          exact ⟨ret_bool hP.out.symm, BB.out⟩
      · have hP := Lib.hid (HI.out.trans (by simp; omega) : P = false)
        clear k1 k2 k3
        go_wp2_with fail
        go_ret
        exact ⟨ret_bool hP.out.symm, BB.out⟩
    · have hP := Lib.hid (HI.out.trans (by simp; omega) : P = false)
      clear k1 k2
      go_wp2_with fail
      go_ret
      exact ⟨ret_bool hP.out.symm, BB.out⟩
  · have hP := Lib.hid (HI.out.trans (by simp; omega) : P = false)
    clear k1
    go_wp2_with fail
    go_ret
    exact ⟨ret_bool hP.out.symm, BB.out⟩
set_option maxRecDepth 100000 in
set_option maxHeartbeats 4000000 in
theorem pin_no (v : Value) (zs : List Int) (W H x y : Int) (hC : spC zs W H 1 1 ≠ 0) (w : World) (hv : IS w v zs) :
    Calls Try.prog 13 #[v, .int .i64 W, .int .i64 H, .int .i64 x, .int .i64 y] w fun e w' => e = .returned (.bool false) ∧ Below w.heap.size w w' := by
  have CC := Lib.hid (fun w hv => spcheck v zs W H 1 1 w hv)
  replace hv := Lib.hid hv
  generalize spC zs W H 1 1 = C at *
  have hC' : (C != 0) = true := by simpa using hC
  clear hC
  go_enter Try.func13, Try.ntmps13
  go_wp2_with fail
  have BB : Hid (Below w.heap.size w w) := Below.refl _ _
  refine (CC.out _ hv.out).mono ?_
  rintro e w1 ⟨rfl, hb⟩
  replace BB := Lib.hid (below_next BB.out hb)
  clear hb
  go_wp2_with fail
  go_ret
  exact ⟨rfl, BB.out⟩
set_option maxRecDepth 100000 in
set_option maxHeartbeats 4000000 in
theorem pin_ok (v : Value) (c0 c1 c2 c3 c4 c5 W H x y : Int) (hC : spC [c0, c1, c2, c3, c4, c5] W H 1 1 = 0) (w : World) (hv : IS w v [c0, c1, c2, c3, c4, c5]) :
    Calls Try.prog 13 #[v, .int .i64 W, .int .i64 H, .int .i64 x, .int .i64 y] w fun e w' => e = .returned (.bool (rightI x y 1 && inB c0 c1 c2 c3 c4 c5 W H y x)) ∧ Below w.heap.size w w' := by
  obtain ⟨a0, -⟩ := spC_zero hC
  have CC := Lib.hid (fun w hv => spcheck v [c0, c1, c2, c3, c4, c5] W H 1 1 w hv)
  have CN := Lib.hid (fun w hv => afnew v [c0, c1, c2, c3, c4, c5] w hv)
  unfold GiveAf at CN
  rw [hC] at CC
  rw [a0] at CN
  have hv := Lib.hid hv
  clear hC a0
  cases hr : rightI x y 1
  · have C0 := Lib.hid (fun w => nearest 0 (by omega) (by omega) w)
    go_enter Try.func13, Try.ntmps13
    go_wp2_with fail
    have BB : Hid (Below w.heap.size w w) := Below.refl _ _
    refine (CC.out _ hv.out).mono ?_
    rintro e w1 ⟨rfl, hb⟩
    replace BB := Lib.hid (below_next BB.out hb)
    clear hb
    go_wp2_with fail
    refine (CN.out _ (hv.out.below BB.out)).mono ?_
    rintro e w2 ⟨m, rfl, hb, -, hp⟩
    replace BB := Lib.hid (below_next BB.out hb)
    clear hb
    obtain ⟨g, e0, e1, e2, e3, e4, e5, rfl, hz, hM, hA⟩ := hp trivial
    simp only [List.cons.injEq, and_true] at hz
    obtain ⟨rfl, rfl, rfl, rfl, rfl, rfl⟩ := hz
    have hA := Lib.hid hA
    clear hp CN CC
    have CB := Lib.hid (fun w => afat_bad g x y 1 hr w)
    clear hr hM
    go_wp2_with fail
    refine (CB.out _).mono ?_
    rintro e w9 ⟨rfl, rfl⟩
    go_wp2_with fail
    refine (C0.out _).mono ?_
    rintro e w9 ⟨rfl, rfl⟩
    go_wp2_with fail
    refine (C0.out _).mono ?_
    rintro e w9 ⟨rfl, rfl⟩
    go_wp2_with fail
    go_ret
    exact ⟨rfl, BB.out⟩
  · rw [Bool.true_and]
    go_enter Try.func13, Try.ntmps13
    go_wp2_with fail
    have BB : Hid (Below w.heap.size w w) := Below.refl _ _
    refine (CC.out _ hv.out).mono ?_
    rintro e w1 ⟨rfl, hb⟩
    replace BB := Lib.hid (below_next BB.out hb)
    clear hb
    go_wp2_with fail
    refine (CN.out _ (hv.out.below BB.out)).mono ?_
    rintro e w2 ⟨m, rfl, hb, -, hp⟩
    replace BB := Lib.hid (below_next BB.out hb)
    clear hb
    obtain ⟨g, e0, e1, e2, e3, e4, e5, rfl, hz, hM, hA⟩ := hp trivial
    simp only [List.cons.injEq, and_true] at hz
    obtain ⟨rfl, rfl, rfl, rfl, rfl, rfl⟩ := hz
    have hA := Lib.hid hA
    clear hp CN CC
    have CA := Lib.hid (fun w hm => afat_ok g _ _ _ _ _ _ _ x y 1 hr hM.lines.1 hM.lines.2 w hm)
    have C1 := Lib.hid (fun w => nearest (plU (65536 * c4) (-65536 * c1) (c1 * c5 - c4 * c2) (detI c0 c1 c3 c4) x y 1) (cut_in _).1 (cut_in _).2 w)
    have C2 := Lib.hid (fun w => nearest (plU (-65536 * c3) (65536 * c0) (c3 * c2 - c0 * c5) (detI c0 c1 c3 c4) x y 1) (cut_in _).1 (cut_in _).2 w)
    have r1 : Hid (colI c0 c1 c2 c3 c4 c5 y x = (plU (65536 * c4) (-65536 * c1) (c1 * c5 - c4 * c2) (detI c0 c1 c3 c4) x y 1 + 32768) / 65536) := rfl
    have r2 : Hid (rowI c0 c1 c2 c3 c4 c5 y x = (plU (-65536 * c3) (65536 * c0) (c3 * c2 - c0 * c5) (detI c0 c1 c3 c4) x y 1 + 32768) / 65536) := rfl
    rw [← r1.out] at C1
    rw [← r2.out] at C2
    have HI : Hid (inB c0 c1 c2 c3 c4 c5 W H y x = (decide (0 ≤ colI c0 c1 c2 c3 c4 c5 y x) && (decide (colI c0 c1 c2 c3 c4 c5 y x < W) && (decide (0 ≤ rowI c0 c1 c2 c3 c4 c5 y x) && decide (rowI c0 c1 c2 c3 c4 c5 y x < H))))) := rfl
    generalize plU (65536 * c4) (-65536 * c1) (c1 * c5 - c4 * c2) (detI c0 c1 c3 c4) x y 1 = U at *
    generalize plU (-65536 * c3) (65536 * c0) (c3 * c2 - c0 * c5) (detI c0 c1 c3 c4) x y 1 = V at *
    obtain ⟨P, hP⟩ : ∃ P, P = inB c0 c1 c2 c3 c4 c5 W H y x := ⟨_, rfl⟩
    rw [← hP] at HI
    replace hP := Lib.hid hP
    generalize colI c0 c1 c2 c3 c4 c5 y x = A at *
    generalize rowI c0 c1 c2 c3 c4 c5 y x = B at *
    clear hr hM r1 r2
    go_wp2_with fail
    refine (CA.out _ hA.out).mono ?_
    rintro e w3 ⟨rfl, hb⟩
    replace BB := Lib.hid (below_next BB.out hb)
    clear hb
    go_wp2_with fail
    refine (C1.out _).mono ?_
    rintro e w9 ⟨rfl, rfl⟩
    go_wp2_with fail
    refine (C2.out _).mono ?_
    rintro e w9 ⟨rfl, rfl⟩
    clear CA C1 C2
    rcases dec_both (A ≥ 0) with ⟨k1, d1⟩ | ⟨k1, d1⟩
    · rcases dec_both (A < W) with ⟨k2, d2⟩ | ⟨k2, d2⟩
      · rcases dec_both (B ≥ 0) with ⟨k3, d3⟩ | ⟨k3, d3⟩
        · rcases dec_both (B < H) with ⟨k4, d4⟩ | ⟨k4, d4⟩
          · have hq := Lib.hid (HI.out.trans (by simp; exact ⟨k1, k2, k3, k4⟩) : P = true)
            clear k1 k2 k3 k4
            go_wp2_with fail
            go_ret
            exact ⟨ret_bool (hq.out.symm.trans hP.out), BB.out⟩
          · have hq := Lib.hid (HI.out.trans (by simp; omega) : P = false)
            clear k1 k2 k3 k4
            go_wp2_with fail
            go_ret
            exact ⟨ret_bool (hq.out.symm.trans hP.out), BB.out⟩
        · have hq := Lib.hid (HI.out.trans (by simp; omega) : P = false)
          clear k1 k2 k3
          go_wp2_with fail
          go_ret
          exact ⟨ret_bool (hq.out.symm.trans hP.out), BB.out⟩
      · have hq := Lib.hid (HI.out.trans (by simp; omega) : P = false)
        clear k1 k2
        go_wp2_with fail
        go_ret
        exact ⟨ret_bool (hq.out.symm.trans hP.out), BB.out⟩
    · have hq := Lib.hid (HI.out.trans (by simp; omega) : P = false)
      clear k1
      go_wp2_with fail
      go_ret
      exact ⟨ret_bool (hq.out.symm.trans hP.out), BB.out⟩
abbrev SZT : TypeId := 24
set_option maxRecDepth 100000 in
set_option maxHeartbeats 4000000 in
theorem spanIn_any (v : Value) (zs : List Int) (W H tu rows x y : Int) (w : World) (hv : IS w v zs) :
    Calls Try.prog 4 #[v, .agg #[.int .i64 W, .int .i64 H, .int .i64 tu, .int .i64 rows, .int .i64 x, .int .i64 y]] w fun e w' => e = .returned (.bool true) ∧ Below w.heap.size w w' := by
  have CC := Lib.hid (fun w hv => r26check v zs W H 1 1 w hv)
  have CL := Lib.hid (fun w => alive26 w)
  have CR := Lib.hid (fun w => rright x y 1 w)
  have hv' := Lib.hid hv
  obtain ⟨A, cap, rfl⟩ := hv.form
  rcases dec_both ((zs.length : Int) > 60) with ⟨g1, d1⟩ | ⟨g1, d1⟩
  · clear CC CL CR g1 hv hv'
    generalize zs.length = n1 at *
    go_enter Try.func4, Try.ntmps4
    go_upto_region 1 with fail
    have BB := start1 w #[.int .i64 W, .int .i64 H, .int .i64 tu, .int .i64 rows, .int .i64 x, .int .i64 y] SZT
    obtain ⟨BB, hsz, r_s⟩ := BB
    generalize (w.alloc (.cells #[.int .i64 W, .int .i64 H, .int .i64 tu, .int .i64 rows, .int .i64 x, .int .i64 y] SZT)) = w0 at *
    replace BB := Lib.hid BB
    replace r_s := Lib.hid r_s
    clear hsz
    go_wp2_with fail
    go_ret
    exact ⟨rfl, BB.out⟩
  by_cases hC : spC zs W H 1 1 = 0
  · rw [hC] at CC
    obtain ⟨a0, -⟩ := spC_zero hC
    obtain ⟨c0, c1, c2, c3, c4, c5, rfl, hM⟩ := afC_zero a0
    have CI := Lib.hid (fun w hv => pin_ok (.slice A 6 cap) c0 c1 c2 c3 c4 c5 W H x y hC w hv)
    have CJ := Lib.hid (fun hp w hv => r26in (.slice A 6 cap) c0 c1 c2 c3 c4 c5 W H x y hM hp w hv)
    simp only [List.length_cons, List.length_nil, Nat.zero_add, Nat.reduceAdd] at *
    clear hC a0 hM
    cases hr : rightI x y 1
    · rw [hr] at CI CR
      rw [Bool.false_and] at CI
      clear CJ hr
      clear hv g1
      go_enter Try.func4, Try.ntmps4
      go_upto_region 1 with fail
      have BB := start1 w #[.int .i64 W, .int .i64 H, .int .i64 tu, .int .i64 rows, .int .i64 x, .int .i64 y] SZT
      obtain ⟨BB, hsz, r_s⟩ := BB
      generalize (w.alloc (.cells #[.int .i64 W, .int .i64 H, .int .i64 tu, .int .i64 rows, .int .i64 x, .int .i64 y] SZT)) = w0 at *
      replace BB := Lib.hid BB
      replace r_s := Lib.hid r_s
      clear hsz
      have h_v := Lib.hid (hv'.out.below BB.out)
      obtain ⟨c_s0, c_s1, c_s2, c_s3, c_s4, c_s5, f_s0, f_s1, f_s2, f_s3, f_s4, f_s5⟩ := reads6 r_s.out
      have l_s := r_s.out.lt
      go_wp2_with fail
      refine (CI.out _ h_v.out).mono ?_
      rintro e w1 ⟨rfl, hb⟩
      clear c_s0 c_s1 c_s2 c_s3 c_s4 c_s5 f_s0 f_s1 f_s2 f_s3 f_s4 f_s5 l_s
      replace r_s := Lib.hid (r_s.out.keep hb)
      replace h_v := Lib.hid (IS.below h_v.out hb)
      replace BB := Lib.hid (below_next BB.out hb)
      clear hb
      obtain ⟨c_s0, c_s1, c_s2, c_s3, c_s4, c_s5, f_s0, f_s1, f_s2, f_s3, f_s4, f_s5⟩ := reads6 r_s.out
      have l_s := r_s.out.lt
      go_wp2_with fail
      refine (CC.out _ h_v.out).mono ?_
      rintro e w2 ⟨rfl, hb⟩
      clear c_s0 c_s1 c_s2 c_s3 c_s4 c_s5 f_s0 f_s1 f_s2 f_s3 f_s4 f_s5 l_s
      replace r_s := Lib.hid (r_s.out.keep hb)
      replace h_v := Lib.hid (IS.below h_v.out hb)
      replace BB := Lib.hid (below_next BB.out hb)
      clear hb
      obtain ⟨c_s0, c_s1, c_s2, c_s3, c_s4, c_s5, f_s0, f_s1, f_s2, f_s3, f_s4, f_s5⟩ := reads6 r_s.out
      have l_s := r_s.out.lt
      go_wp2_with fail
      refine (CR.out _).mono ?_
      rintro e w9 ⟨rfl, rfl⟩
      go_wp2_with fail
      refine (CL.out _).mono ?_
      rintro e w3 ⟨rfl, hb⟩
      clear c_s0 c_s1 c_s2 c_s3 c_s4 c_s5 f_s0 f_s1 f_s2 f_s3 f_s4 f_s5 l_s
      replace r_s := Lib.hid (r_s.out.keep hb)
      replace h_v := Lib.hid (IS.below h_v.out hb)
      replace BB := Lib.hid (below_next BB.out hb)
      clear hb
      go_wp2_with fail
      go_ret
      exact ⟨rfl, BB.out⟩
    · rw [hr] at CI CR
      rw [Bool.true_and] at CI
      replace CJ := Lib.hid (fun w hv => CJ.out hr w hv)
      generalize inB c0 c1 c2 c3 c4 c5 W H y x = P at *
      clear hr
      cases P
      · skip
        clear hv g1
        go_enter Try.func4, Try.ntmps4
        go_upto_region 1 with fail
        have BB := start1 w #[.int .i64 W, .int .i64 H, .int .i64 tu, .int .i64 rows, .int .i64 x, .int .i64 y] SZT
        obtain ⟨BB, hsz, r_s⟩ := BB
        generalize (w.alloc (.cells #[.int .i64 W, .int .i64 H, .int .i64 tu, .int .i64 rows, .int .i64 x, .int .i64 y] SZT)) = w0 at *
        replace BB := Lib.hid BB
        replace r_s := Lib.hid r_s
        clear hsz
        have h_v := Lib.hid (hv'.out.below BB.out)
        obtain ⟨c_s0, c_s1, c_s2, c_s3, c_s4, c_s5, f_s0, f_s1, f_s2, f_s3, f_s4, f_s5⟩ := reads6 r_s.out
        have l_s := r_s.out.lt
        go_wp2_with fail
        refine (CI.out _ h_v.out).mono ?_
        rintro e w1 ⟨rfl, hb⟩
        clear c_s0 c_s1 c_s2 c_s3 c_s4 c_s5 f_s0 f_s1 f_s2 f_s3 f_s4 f_s5 l_s
        replace r_s := Lib.hid (r_s.out.keep hb)
        replace h_v := Lib.hid (IS.below h_v.out hb)
        replace BB := Lib.hid (below_next BB.out hb)
        clear hb
        obtain ⟨c_s0, c_s1, c_s2, c_s3, c_s4, c_s5, f_s0, f_s1, f_s2, f_s3, f_s4, f_s5⟩ := reads6 r_s.out
        have l_s := r_s.out.lt
        go_wp2_with fail
        refine (CC.out _ h_v.out).mono ?_
        rintro e w2 ⟨rfl, hb⟩
        clear c_s0 c_s1 c_s2 c_s3 c_s4 c_s5 f_s0 f_s1 f_s2 f_s3 f_s4 f_s5 l_s
        replace r_s := Lib.hid (r_s.out.keep hb)
        replace h_v := Lib.hid (IS.below h_v.out hb)
        replace BB := Lib.hid (below_next BB.out hb)
        clear hb
        obtain ⟨c_s0, c_s1, c_s2, c_s3, c_s4, c_s5, f_s0, f_s1, f_s2, f_s3, f_s4, f_s5⟩ := reads6 r_s.out
        have l_s := r_s.out.lt
        go_wp2_with fail
        refine (CR.out _).mono ?_
        rintro e w9 ⟨rfl, rfl⟩
        go_wp2_with fail
        refine (CJ.out _ h_v.out).mono ?_
        rintro e w3 ⟨rfl, hb⟩
        clear c_s0 c_s1 c_s2 c_s3 c_s4 c_s5 f_s0 f_s1 f_s2 f_s3 f_s4 f_s5 l_s
        replace r_s := Lib.hid (r_s.out.keep hb)
        replace h_v := Lib.hid (IS.below h_v.out hb)
        replace BB := Lib.hid (below_next BB.out hb)
        clear hb
        go_wp2_with fail
        refine (CL.out _).mono ?_
        rintro e w4 ⟨rfl, hb⟩
        replace r_s := Lib.hid (r_s.out.keep hb)
        replace h_v := Lib.hid (IS.below h_v.out hb)
        replace BB := Lib.hid (below_next BB.out hb)
        clear hb
        go_wp2_with fail
        go_ret
        exact ⟨rfl, BB.out⟩
      · skip
        clear hv g1
        go_enter Try.func4, Try.ntmps4
        go_upto_region 1 with fail
        have BB := start1 w #[.int .i64 W, .int .i64 H, .int .i64 tu, .int .i64 rows, .int .i64 x, .int .i64 y] SZT
        obtain ⟨BB, hsz, r_s⟩ := BB
        generalize (w.alloc (.cells #[.int .i64 W, .int .i64 H, .int .i64 tu, .int .i64 rows, .int .i64 x, .int .i64 y] SZT)) = w0 at *
        replace BB := Lib.hid BB
        replace r_s := Lib.hid r_s
        clear hsz
        have h_v := Lib.hid (hv'.out.below BB.out)
        obtain ⟨c_s0, c_s1, c_s2, c_s3, c_s4, c_s5, f_s0, f_s1, f_s2, f_s3, f_s4, f_s5⟩ := reads6 r_s.out
        have l_s := r_s.out.lt
        go_wp2_with fail
        refine (CI.out _ h_v.out).mono ?_
        rintro e w1 ⟨rfl, hb⟩
        clear c_s0 c_s1 c_s2 c_s3 c_s4 c_s5 f_s0 f_s1 f_s2 f_s3 f_s4 f_s5 l_s
        replace r_s := Lib.hid (r_s.out.keep hb)
        replace h_v := Lib.hid (IS.below h_v.out hb)
        replace BB := Lib.hid (below_next BB.out hb)
        clear hb
        obtain ⟨c_s0, c_s1, c_s2, c_s3, c_s4, c_s5, f_s0, f_s1, f_s2, f_s3, f_s4, f_s5⟩ := reads6 r_s.out
        have l_s := r_s.out.lt
        go_wp2_with fail
        refine (CC.out _ h_v.out).mono ?_
        rintro e w2 ⟨rfl, hb⟩
        clear c_s0 c_s1 c_s2 c_s3 c_s4 c_s5 f_s0 f_s1 f_s2 f_s3 f_s4 f_s5 l_s
        replace r_s := Lib.hid (r_s.out.keep hb)
        replace h_v := Lib.hid (IS.below h_v.out hb)
        replace BB := Lib.hid (below_next BB.out hb)
        clear hb
        obtain ⟨c_s0, c_s1, c_s2, c_s3, c_s4, c_s5, f_s0, f_s1, f_s2, f_s3, f_s4, f_s5⟩ := reads6 r_s.out
        have l_s := r_s.out.lt
        go_wp2_with fail
        refine (CR.out _).mono ?_
        rintro e w9 ⟨rfl, rfl⟩
        go_wp2_with fail
        refine (CJ.out _ h_v.out).mono ?_
        rintro e w3 ⟨rfl, hb⟩
        clear c_s0 c_s1 c_s2 c_s3 c_s4 c_s5 f_s0 f_s1 f_s2 f_s3 f_s4 f_s5 l_s
        replace r_s := Lib.hid (r_s.out.keep hb)
        replace h_v := Lib.hid (IS.below h_v.out hb)
        replace BB := Lib.hid (below_next BB.out hb)
        clear hb
        go_wp2_with fail
        refine (CL.out _).mono ?_
        rintro e w4 ⟨rfl, hb⟩
        replace r_s := Lib.hid (r_s.out.keep hb)
        replace h_v := Lib.hid (IS.below h_v.out hb)
        replace BB := Lib.hid (below_next BB.out hb)
        clear hb
        go_wp2_with fail
        go_ret
        exact ⟨rfl, BB.out⟩
  · have CI := Lib.hid (fun w hv => pin_no (.slice A zs.length cap) zs W H x y hC w hv)
    generalize spC zs W H 1 1 = C at *
    have hC2 : (C == 0) = false := by simpa using hC
    clear CR hC
    generalize hn : zs.length = n1 at *
    replace hn := Lib.hid hn
    clear hv g1
    go_enter Try.func4, Try.ntmps4
    go_upto_region 1 with fail
    have BB := start1 w #[.int .i64 W, .int .i64 H, .int .i64 tu, .int .i64 rows, .int .i64 x, .int .i64 y] SZT
    obtain ⟨BB, hsz, r_s⟩ := BB
    generalize (w.alloc (.cells #[.int .i64 W, .int .i64 H, .int .i64 tu, .int .i64 rows, .int .i64 x, .int .i64 y] SZT)) = w0 at *
    replace BB := Lib.hid BB
    replace r_s := Lib.hid r_s
    clear hsz
    have h_v := Lib.hid (hv'.out.below BB.out)
    obtain ⟨c_s0, c_s1, c_s2, c_s3, c_s4, c_s5, f_s0, f_s1, f_s2, f_s3, f_s4, f_s5⟩ := reads6 r_s.out
    have l_s := r_s.out.lt
    go_wp2_with fail
    refine (CI.out _ h_v.out).mono ?_
    rintro e w1 ⟨rfl, hb⟩
    clear c_s0 c_s1 c_s2 c_s3 c_s4 c_s5 f_s0 f_s1 f_s2 f_s3 f_s4 f_s5 l_s
    replace r_s := Lib.hid (r_s.out.keep hb)
    replace h_v := Lib.hid (IS.below h_v.out hb)
    replace BB := Lib.hid (below_next BB.out hb)
    clear hb
    obtain ⟨c_s0, c_s1, c_s2, c_s3, c_s4, c_s5, f_s0, f_s1, f_s2, f_s3, f_s4, f_s5⟩ := reads6 r_s.out
    have l_s := r_s.out.lt
    go_wp2_with fail
    refine (CC.out _ h_v.out).mono ?_
    rintro e w2 ⟨rfl, hb⟩
    clear c_s0 c_s1 c_s2 c_s3 c_s4 c_s5 f_s0 f_s1 f_s2 f_s3 f_s4 f_s5 l_s
    replace r_s := Lib.hid (r_s.out.keep hb)
    replace h_v := Lib.hid (IS.below h_v.out hb)
    replace BB := Lib.hid (below_next BB.out hb)
    clear hb
    go_wp2_with fail
    refine (CL.out _).mono ?_
    rintro e w3 ⟨rfl, hb⟩
    replace r_s := Lib.hid (r_s.out.keep hb)
    replace h_v := Lib.hid (IS.below h_v.out hb)
    replace BB := Lib.hid (below_next BB.out hb)
    clear hb
    go_wp2_with fail
    go_ret
    exact ⟨rfl, BB.out⟩
end Go.Proofs.Ythdbchghhpoadaa
