/- The walk of the law SpanRows. -/
import Derived.Test.YthdbchghhpoadaaSp5
set_option linter.unusedVariables false
set_option linter.unusedSimpArgs false
namespace Go.Proofs.Ythdbchghhpoadaa
open Go.RowKit Go.ChangeShapes Go.WideShapes Go.ChangeAt Go.Deep
theorem inB_fun (c0 c1 c2 c3 c4 c5 W H y : Int) : (fun x => decide (0 ≤ colI c0 c1 c2 c3 c4 c5 y x) && (decide (colI c0 c1 c2 c3 c4 c5 y x < W) && (decide (0 ≤ rowI c0 c1 c2 c3 c4 c5 y x) && decide (rowI c0 c1 c2 c3 c4 c5 y x < H)))) = inB c0 c1 c2 c3 c4 c5 W H y := by funext x; rfl
theorem inB_gap {c0 c1 c2 c3 c4 c5 W H y : Int} (hD : detI c0 c1 c3 c4 ≠ 0) {n : Nat} (i : Nat) (h1 : (rowB (inB c0 c1 c2 c3 c4 c5 W H y) n).2.1 ≤ i) (h2 : i < (rowB (inB c0 c1 c2 c3 c4 c5 W H y) n).2.2) : i < n ∧ inB c0 c1 c2 c3 c4 c5 W H y i = true := by
  rw [← inB_fun] at h1 h2
  exact no_gap (f := colI c0 c1 c2 c3 c4 c5 y) (g := rowI c0 c1 c2 c3 c4 c5 y) (rowF_way _ _ _ _ _ hD n) (rowF_way _ _ _ _ _ hD n) i h1 h2
set_option maxRecDepth 100000 in
set_option maxHeartbeats 4000000 in
theorem spanRows_out (v : Value) (A : Option Addr) (n cap : Nat) (W H tu rows x y : Int) (h : (n : Int) > 60 ∨ (tu > 600 ∧ tu ≤ 32768)) (w : World) :
    Calls Try.prog 3 #[.slice A n cap, .agg #[.int .i64 W, .int .i64 H, .int .i64 tu, .int .i64 rows, .int .i64 x, .int .i64 y]] w fun e w' => e = .returned (.bool true) ∧ Below w.heap.size w w' := by
  rcases dec_both ((n : Int) > 60) with ⟨g1, d1⟩ | ⟨g1, d1⟩
  · clear h g1
    go_enter Try.func3, Try.ntmps3
    go_upto_region 1 with fail
    have BB := start1 w #[.int .i64 W, .int .i64 H, .int .i64 tu, .int .i64 rows, .int .i64 x, .int .i64 y] SZT
    obtain ⟨BB, hsz, r_s⟩ := BB
    generalize (w.alloc (.cells #[.int .i64 W, .int .i64 H, .int .i64 tu, .int .i64 rows, .int .i64 x, .int .i64 y] SZT)) = w0 at *
    replace BB := Lib.hid BB
    replace r_s := Lib.hid r_s
    clear hsz
    obtain ⟨c_s0, c_s1, c_s2, c_s3, c_s4, c_s5, f_s0, f_s1, f_s2, f_s3, f_s4, f_s5⟩ := reads6 r_s.out
    have l_s := r_s.out.lt
    go_wp2_with fail
    go_ret
    exact ⟨rfl, BB.out⟩
  · have d2 : decide (tu > 600) = true := decide_eq_true (by omega)
    have d3 : decide (tu ≤ 32768) = true := decide_eq_true (by omega)
    clear h g1
    go_enter Try.func3, Try.ntmps3
    go_upto_region 1 with fail
    have BB := start1 w #[.int .i64 W, .int .i64 H, .int .i64 tu, .int .i64 rows, .int .i64 x, .int .i64 y] SZT
    obtain ⟨BB, hsz, r_s⟩ := BB
    generalize (w.alloc (.cells #[.int .i64 W, .int .i64 H, .int .i64 tu, .int .i64 rows, .int .i64 x, .int .i64 y] SZT)) = w0 at *
    replace BB := Lib.hid BB
    replace r_s := Lib.hid r_s
    clear hsz
    obtain ⟨c_s0, c_s1, c_s2, c_s3, c_s4, c_s5, f_s0, f_s1, f_s2, f_s3, f_s4, f_s5⟩ := reads6 r_s.out
    have l_s := r_s.out.lt
    go_wp2_with fail
    go_ret
    exact ⟨rfl, BB.out⟩
set_option maxRecDepth 100000 in
set_option maxHeartbeats 4000000 in
theorem spanRows_no (v : Value) (zs : List Int) (W H tu rows x y : Int) (hC : rowC zs W H y tu ≠ 0) (hl : ¬ (zs.length : Int) > 60) (ht : ¬ (tu > 600 ∧ tu ≤ 32768)) (w : World) (hv : IS w v zs) :
    Calls Try.prog 3 #[v, .agg #[.int .i64 W, .int .i64 H, .int .i64 tu, .int .i64 rows, .int .i64 x, .int .i64 y]] w fun e w' => e = .returned (.bool true) ∧ Below w.heap.size w w' := by
  have CR := Lib.hid (fun w hv => prow_no v zs W H y tu hC w hv)
  have CC := Lib.hid (fun w hv => r26check v zs W H tu 1 w hv)
  have CL := Lib.hid (fun w => alive26 w)
  have hv' := Lib.hid hv
  obtain ⟨A, cap, rfl⟩ := hv.form
  have d1 : decide ((zs.length : Int) > 60) = false := decide_eq_false hl
  by_cases h0 : spC zs W H tu 1 ≠ 0
  · have hr : rowC zs W H y tu = spC zs W H tu 1 := by unfold rowC; rw [if_pos h0]
    rw [hr] at CR
    generalize spC zs W H tu 1 = C at *
    have c1 : (C == 0) = false := by simpa using h0
    have c2 : (C != 0) = true := by simpa using h0
    clear hC hr h0 hv hl
    generalize hn : zs.length = n1 at *
    replace hn := Lib.hid hn
    rcases dec_both (tu > 600) with ⟨k1, d2⟩ | ⟨k1, d2⟩
    · have d3 : decide (tu ≤ 32768) = false := decide_eq_false (by omega)
      clear ht k1
      go_enter Try.func3, Try.ntmps3
      go_upto_region 1 with fail
      have BB := start1 w #[.int .i64 W, .int .i64 H, .int .i64 tu, .int .i64 rows, .int .i64 x, .int .i64 y] SZT
      obtain ⟨BB, hsz, r_s⟩ := BB
      generalize (w.alloc (.cells #[.int .i64 W, .int .i64 H, .int .i64 tu, .int .i64 rows, .int .i64 x, .int .i64 y] SZT)) = w0 at *
      replace BB := Lib.hid BB
      replace r_s := Lib.hid r_s
      clear hsz
      have h_v := Lib.hid (hv'.out.below BB.out)
      obtain ⟨c_s0, c_s1, c_s2, c_s3, c_s4, c_s5, f_s0, f_s1, f_s2, f_s3, f_s4, f_s5⟩ := reads6 r_s.out
      have l_s := r_s.out.lt
      go_wp2_with fail
      refine (CR.out _ h_v.out).mono ?_
      rintro e w1 ⟨rfl, hb⟩
      clear c_s0 c_s1 c_s2 c_s3 c_s4 c_s5 f_s0 f_s1 f_s2 f_s3 f_s4 f_s5 l_s
      replace r_s := Lib.hid (r_s.out.keep hb)
      replace h_v := Lib.hid (IS.below h_v.out hb)
      replace BB := Lib.hid (below_next BB.out hb)
      clear hb
      go_upto_region 4 with fail
      have d_r := Lib.hid (And.intro BB.out.size (And.intro r_s.out.lt (True.intro)))
      obtain ⟨hb, r_r⟩ := laid w1 #[.int .i64 0, .int .i64 0, .int .i64 0] SPT
      replace r_s := Lib.hid (r_s.out.keep hb)
      replace h_v := Lib.hid (IS.below h_v.out hb)
      replace BB := Lib.hid (below_next BB.out hb)
      replace r_r := Lib.hid r_r
      clear hb
      generalize w1.alloc (.cells #[.int .i64 0, .int .i64 0, .int .i64 0] SPT) = w2 at *
      generalize w1.heap.size = g_r at *
      obtain ⟨c_s0, c_s1, c_s2, c_s3, c_s4, c_s5, f_s0, f_s1, f_s2, f_s3, f_s4, f_s5⟩ := reads6 r_s.out
      have l_s := r_s.out.lt
      go_wp2_with fail
      refine (CC.out _ h_v.out).mono ?_
      rintro e w3 ⟨rfl, hb⟩
      clear c_s0 c_s1 c_s2 c_s3 c_s4 c_s5 f_s0 f_s1 f_s2 f_s3 f_s4 f_s5 l_s
      replace r_s := Lib.hid (r_s.out.keep hb)
      replace r_r := Lib.hid (r_r.out.keep hb)
      replace h_v := Lib.hid (IS.below h_v.out hb)
      replace BB := Lib.hid (below_next BB.out hb)
      clear hb
      obtain ⟨c_s0, c_s1, c_s2, c_s3, c_s4, c_s5, f_s0, f_s1, f_s2, f_s3, f_s4, f_s5⟩ := reads6 r_s.out
      have l_s := r_s.out.lt
      obtain ⟨c_r0, c_r1, c_r2, f_r0, f_r1, f_r2⟩ := reads3 r_r.out
      have l_r := r_r.out.lt
      go_wp2_with fail
      refine (CL.out _).mono ?_
      rintro e w4 ⟨rfl, hb⟩
      clear c_s0 c_s1 c_s2 c_s3 c_s4 c_s5 f_s0 f_s1 f_s2 f_s3 f_s4 f_s5 l_s c_r0 c_r1 c_r2 f_r0 f_r1 f_r2 l_r
      replace r_s := Lib.hid (r_s.out.keep hb)
      replace r_r := Lib.hid (r_r.out.keep hb)
      replace h_v := Lib.hid (IS.below h_v.out hb)
      replace BB := Lib.hid (below_next BB.out hb)
      clear hb
      go_wp2_with fail
      go_ret
      exact ⟨rfl, BB.out⟩
    · clear ht k1
      go_enter Try.func3, Try.ntmps3
      go_upto_region 1 with fail
      have BB := start1 w #[.int .i64 W, .int .i64 H, .int .i64 tu, .int .i64 rows, .int .i64 x, .int .i64 y] SZT
      obtain ⟨BB, hsz, r_s⟩ := BB
      generalize (w.alloc (.cells #[.int .i64 W, .int .i64 H, .int .i64 tu, .int .i64 rows, .int .i64 x, .int .i64 y] SZT)) = w0 at *
      replace BB := Lib.hid BB
      replace r_s := Lib.hid r_s
      clear hsz
      have h_v := Lib.hid (hv'.out.below BB.out)
      obtain ⟨c_s0, c_s1, c_s2, c_s3, c_s4, c_s5, f_s0, f_s1, f_s2, f_s3, f_s4, f_s5⟩ := reads6 r_s.out
      have l_s := r_s.out.lt
      go_wp2_with fail
      refine (CR.out _ h_v.out).mono ?_
      rintro e w1 ⟨rfl, hb⟩
      clear c_s0 c_s1 c_s2 c_s3 c_s4 c_s5 f_s0 f_s1 f_s2 f_s3 f_s4 f_s5 l_s
      replace r_s := Lib.hid (r_s.out.keep hb)
      replace h_v := Lib.hid (IS.below h_v.out hb)
      replace BB := Lib.hid (below_next BB.out hb)
      clear hb
      go_upto_region 4 with fail
      have d_r := Lib.hid (And.intro BB.out.size (And.intro r_s.out.lt (True.intro)))
      obtain ⟨hb, r_r⟩ := laid w1 #[.int .i64 0, .int .i64 0, .int .i64 0] SPT
      replace r_s := Lib.hid (r_s.out.keep hb)
      replace h_v := Lib.hid (IS.below h_v.out hb)
      replace BB := Lib.hid (below_next BB.out hb)
      replace r_r := Lib.hid r_r
      clear hb
      generalize w1.alloc (.cells #[.int .i64 0, .int .i64 0, .int .i64 0] SPT) = w2 at *
      generalize w1.heap.size = g_r at *
      obtain ⟨c_s0, c_s1, c_s2, c_s3, c_s4, c_s5, f_s0, f_s1, f_s2, f_s3, f_s4, f_s5⟩ := reads6 r_s.out
      have l_s := r_s.out.lt
      go_wp2_with fail
      refine (CC.out _ h_v.out).mono ?_
      rintro e w3 ⟨rfl, hb⟩
      clear c_s0 c_s1 c_s2 c_s3 c_s4 c_s5 f_s0 f_s1 f_s2 f_s3 f_s4 f_s5 l_s
      replace r_s := Lib.hid (r_s.out.keep hb)
      replace r_r := Lib.hid (r_r.out.keep hb)
      replace h_v := Lib.hid (IS.below h_v.out hb)
      replace BB := Lib.hid (below_next BB.out hb)
      clear hb
      obtain ⟨c_s0, c_s1, c_s2, c_s3, c_s4, c_s5, f_s0, f_s1, f_s2, f_s3, f_s4, f_s5⟩ := reads6 r_s.out
      have l_s := r_s.out.lt
      obtain ⟨c_r0, c_r1, c_r2, f_r0, f_r1, f_r2⟩ := reads3 r_r.out
      have l_r := r_r.out.lt
      go_wp2_with fail
      refine (CL.out _).mono ?_
      rintro e w4 ⟨rfl, hb⟩
      clear c_s0 c_s1 c_s2 c_s3 c_s4 c_s5 f_s0 f_s1 f_s2 f_s3 f_s4 f_s5 l_s c_r0 c_r1 c_r2 f_r0 f_r1 f_r2 l_r
      replace r_s := Lib.hid (r_s.out.keep hb)
      replace r_r := Lib.hid (r_r.out.keep hb)
      replace h_v := Lib.hid (IS.below h_v.out hb)
      replace BB := Lib.hid (below_next BB.out hb)
      clear hb
      go_wp2_with fail
      go_ret
      exact ⟨rfl, BB.out⟩
  · have h0' : spC zs W H tu 1 = 0 := by omega
    obtain ⟨-, -, -, t0, -⟩ := spC_zero h0'
    have d2 : decide (tu > 600) = false := decide_eq_false (by omega)
    have hr : rowC zs W H y tu = if y < 0 ∨ 32768 ≤ y then 11 else 0 := by unfold rowC; rw [if_neg h0]
    rw [h0'] at CC
    by_cases hy : y < 0 ∨ 32768 ≤ y
    · rw [if_pos hy] at hr
      rw [hr] at CR
      clear hC hr h0 h0' hv hl ht t0
      generalize hn : zs.length = n1 at *
      replace hn := Lib.hid hn
      rcases dec_both (y < 0) with ⟨k1, d4⟩ | ⟨k1, d4⟩
      · clear k1 hy
        go_enter Try.func3, Try.ntmps3
        go_upto_region 1 with fail
        have BB := start1 w #[.int .i64 W, .int .i64 H, .int .i64 tu, .int .i64 rows, .int .i64 x, .int .i64 y] SZT
        obtain ⟨BB, hsz, r_s⟩ := BB
        generalize (w.alloc (.cells #[.int .i64 W, .int .i64 H, .int .i64 tu, .int .i64 rows, .int .i64 x, .int .i64 y] SZT)) = w0 at *
        replace BB := Lib.hid BB
        replace r_s := Lib.hid r_s
        clear hsz
        have h_v := Lib.hid (hv'.out.below BB.out)
        obtain ⟨c_s0, c_s1, c_s2, c_s3, c_s4, c_s5, f_s0, f_s1, f_s2, f_s3, f_s4, f_s5⟩ := reads6 r_s.out
        have l_s := r_s.out.lt
        go_wp2_with fail
        refine (CR.out _ h_v.out).mono ?_
        rintro e w1 ⟨rfl, hb⟩
        clear c_s0 c_s1 c_s2 c_s3 c_s4 c_s5 f_s0 f_s1 f_s2 f_s3 f_s4 f_s5 l_s
        replace r_s := Lib.hid (r_s.out.keep hb)
        replace h_v := Lib.hid (IS.below h_v.out hb)
        replace BB := Lib.hid (below_next BB.out hb)
        clear hb
        go_upto_region 4 with fail
        have d_r := Lib.hid (And.intro BB.out.size (And.intro r_s.out.lt (True.intro)))
        obtain ⟨hb, r_r⟩ := laid w1 #[.int .i64 0, .int .i64 0, .int .i64 0] SPT
        replace r_s := Lib.hid (r_s.out.keep hb)
        replace h_v := Lib.hid (IS.below h_v.out hb)
        replace BB := Lib.hid (below_next BB.out hb)
        replace r_r := Lib.hid r_r
        clear hb
        generalize w1.alloc (.cells #[.int .i64 0, .int .i64 0, .int .i64 0] SPT) = w2 at *
        generalize w1.heap.size = g_r at *
        obtain ⟨c_s0, c_s1, c_s2, c_s3, c_s4, c_s5, f_s0, f_s1, f_s2, f_s3, f_s4, f_s5⟩ := reads6 r_s.out
        have l_s := r_s.out.lt
        go_wp2_with fail
        refine (CC.out _ h_v.out).mono ?_
        rintro e w3 ⟨rfl, hb⟩
        clear c_s0 c_s1 c_s2 c_s3 c_s4 c_s5 f_s0 f_s1 f_s2 f_s3 f_s4 f_s5 l_s
        replace r_s := Lib.hid (r_s.out.keep hb)
        replace r_r := Lib.hid (r_r.out.keep hb)
        replace h_v := Lib.hid (IS.below h_v.out hb)
        replace BB := Lib.hid (below_next BB.out hb)
        clear hb
        obtain ⟨c_s0, c_s1, c_s2, c_s3, c_s4, c_s5, f_s0, f_s1, f_s2, f_s3, f_s4, f_s5⟩ := reads6 r_s.out
        have l_s := r_s.out.lt
        obtain ⟨c_r0, c_r1, c_r2, f_r0, f_r1, f_r2⟩ := reads3 r_r.out
        have l_r := r_r.out.lt
        go_wp2_with fail
        refine (CL.out _).mono ?_
        rintro e w4 ⟨rfl, hb⟩
        clear c_s0 c_s1 c_s2 c_s3 c_s4 c_s5 f_s0 f_s1 f_s2 f_s3 f_s4 f_s5 l_s c_r0 c_r1 c_r2 f_r0 f_r1 f_r2 l_r
        replace r_s := Lib.hid (r_s.out.keep hb)
        replace r_r := Lib.hid (r_r.out.keep hb)
        replace h_v := Lib.hid (IS.below h_v.out hb)
        replace BB := Lib.hid (below_next BB.out hb)
        clear hb
        go_wp2_with fail
        go_ret
        exact ⟨rfl, BB.out⟩
      · have d5 : decide (y ≥ 32768) = true := decide_eq_true (by omega)
        clear k1 hy
        go_enter Try.func3, Try.ntmps3
        go_upto_region 1 with fail
        have BB := start1 w #[.int .i64 W, .int .i64 H, .int .i64 tu, .int .i64 rows, .int .i64 x, .int .i64 y] SZT
        obtain ⟨BB, hsz, r_s⟩ := BB
        generalize (w.alloc (.cells #[.int .i64 W, .int .i64 H, .int .i64 tu, .int .i64 rows, .int .i64 x, .int .i64 y] SZT)) = w0 at *
        replace BB := Lib.hid BB
        replace r_s := Lib.hid r_s
        clear hsz
        have h_v := Lib.hid (hv'.out.below BB.out)
        obtain ⟨c_s0, c_s1, c_s2, c_s3, c_s4, c_s5, f_s0, f_s1, f_s2, f_s3, f_s4, f_s5⟩ := reads6 r_s.out
        have l_s := r_s.out.lt
        go_wp2_with fail
        refine (CR.out _ h_v.out).mono ?_
        rintro e w1 ⟨rfl, hb⟩
        clear c_s0 c_s1 c_s2 c_s3 c_s4 c_s5 f_s0 f_s1 f_s2 f_s3 f_s4 f_s5 l_s
        replace r_s := Lib.hid (r_s.out.keep hb)
        replace h_v := Lib.hid (IS.below h_v.out hb)
        replace BB := Lib.hid (below_next BB.out hb)
        clear hb
        go_upto_region 4 with fail
        have d_r := Lib.hid (And.intro BB.out.size (And.intro r_s.out.lt (True.intro)))
        obtain ⟨hb, r_r⟩ := laid w1 #[.int .i64 0, .int .i64 0, .int .i64 0] SPT
        replace r_s := Lib.hid (r_s.out.keep hb)
        replace h_v := Lib.hid (IS.below h_v.out hb)
        replace BB := Lib.hid (below_next BB.out hb)
        replace r_r := Lib.hid r_r
        clear hb
        generalize w1.alloc (.cells #[.int .i64 0, .int .i64 0, .int .i64 0] SPT) = w2 at *
        generalize w1.heap.size = g_r at *
        obtain ⟨c_s0, c_s1, c_s2, c_s3, c_s4, c_s5, f_s0, f_s1, f_s2, f_s3, f_s4, f_s5⟩ := reads6 r_s.out
        have l_s := r_s.out.lt
        go_wp2_with fail
        refine (CC.out _ h_v.out).mono ?_
        rintro e w3 ⟨rfl, hb⟩
        clear c_s0 c_s1 c_s2 c_s3 c_s4 c_s5 f_s0 f_s1 f_s2 f_s3 f_s4 f_s5 l_s
        replace r_s := Lib.hid (r_s.out.keep hb)
        replace r_r := Lib.hid (r_r.out.keep hb)
        replace h_v := Lib.hid (IS.below h_v.out hb)
        replace BB := Lib.hid (below_next BB.out hb)
        clear hb
        obtain ⟨c_s0, c_s1, c_s2, c_s3, c_s4, c_s5, f_s0, f_s1, f_s2, f_s3, f_s4, f_s5⟩ := reads6 r_s.out
        have l_s := r_s.out.lt
        obtain ⟨c_r0, c_r1, c_r2, f_r0, f_r1, f_r2⟩ := reads3 r_r.out
        have l_r := r_r.out.lt
        go_wp2_with fail
        refine (CL.out _).mono ?_
        rintro e w4 ⟨rfl, hb⟩
        clear c_s0 c_s1 c_s2 c_s3 c_s4 c_s5 f_s0 f_s1 f_s2 f_s3 f_s4 f_s5 l_s c_r0 c_r1 c_r2 f_r0 f_r1 f_r2 l_r
        replace r_s := Lib.hid (r_s.out.keep hb)
        replace r_r := Lib.hid (r_r.out.keep hb)
        replace h_v := Lib.hid (IS.below h_v.out hb)
        replace BB := Lib.hid (below_next BB.out hb)
        clear hb
        go_wp2_with fail
        go_ret
        exact ⟨rfl, BB.out⟩
    · rw [if_neg hy] at hr
      exact absurd hr hC
set_option maxRecDepth 100000 in
set_option maxHeartbeats 4000000 in
theorem spanRows_ok (v : Value) (c0 c1 c2 c3 c4 c5 W H rows x y : Int) (n : Nat) (hC : rowC [c0, c1, c2, c3, c4, c5] W H y n = 0) (hM : AM c0 c1 c2 c3 c4 c5) (ht : n ≤ 600) (w : World) (hv : IS w v [c0, c1, c2, c3, c4, c5]) :
    Calls Try.prog 3 #[v, .agg #[.int .i64 W, .int .i64 H, .int .i64 (n : Int), .int .i64 rows, .int .i64 x, .int .i64 y]] w fun e w' => e = .returned (.bool true) ∧ Below w.heap.size w w' := by
  obtain ⟨s0, y0, y1⟩ := rowC_zero hC
  have hD : detI c0 c1 c3 c4 ≠ 0 := hM.lines.1.z
  have CR := Lib.hid (fun w hv => prow_ok v c0 c1 c2 c3 c4 c5 W H y n hC w hv)
  have CC := Lib.hid (fun w hv => r26check v [c0, c1, c2, c3, c4, c5] W H n 1 w hv)
  rw [s0] at CC
  have CQ := Lib.hid (fun w hv => r26row v c0 c1 c2 c3 c4 c5 W H y n (by omega) hM ⟨by omega, by omega⟩ w hv)
  have CI := Lib.hid (fun (k : Nat) (hk : k < n) w hv => r26in v c0 c1 c2 c3 c4 c5 W H k y hM (rightI_iff.2 ⟨⟨by omega, by omega⟩, ⟨by omega, by omega⟩, by omega, by omega⟩) w hv)
  have CL := Lib.hid (fun w => alive26 w)
  have HG := Lib.hid (fun (k : Nat) h1 h2 => inB_gap (c2 := c2) (c5 := c5) (W := W) (H := H) (y := y) hD (n := n) k h1 h2)
  have HL := (rowB_le (inB c0 c1 c2 c3 c4 c5 W H y) n).1
  have HL2 := (rowB_le (inB c0 c1 c2 c3 c4 c5 W H y) n).2.1
  have hv' := Lib.hid hv
  obtain ⟨A, cap, rfl⟩ := hv.form
  simp only [List.length_cons, List.length_nil, Nat.zero_add, Nat.reduceAdd] at *
  generalize (rowB (inB c0 c1 c2 c3 c4 c5 W H y) n).2.1 = X0 at *
  generalize (rowB (inB c0 c1 c2 c3 c4 c5 W H y) n).2.2 = X1 at *
  generalize inB c0 c1 c2 c3 c4 c5 W H y = p at *
  have d2 : decide ((n : Int) > 600) = false := decide_eq_false (by omega)
  have d2' : ¬ 600 < n := by omega
  have d4 : decide (y < 0) = false := decide_eq_false (by omega)
  have d5 : decide (y ≥ 32768) = false := decide_eq_false (by omega)
  have HLL := Lib.hid (And.intro HL (And.intro HL2 ht))
  clear hv hD hM hC s0 y0 y1 ht HL HL2
  generalize htu : (n : Int) = tu at *
  replace htu := Lib.hid htu
  go_enter Try.func3, Try.ntmps3
  go_upto_region 1 with fail
  have BB := start1 w #[.int .i64 W, .int .i64 H, .int .i64 tu, .int .i64 rows, .int .i64 x, .int .i64 y] SZT
  obtain ⟨BB, hsz, r_s⟩ := BB
  generalize (w.alloc (.cells #[.int .i64 W, .int .i64 H, .int .i64 tu, .int .i64 rows, .int .i64 x, .int .i64 y] SZT)) = w0 at *
  replace BB := Lib.hid BB
  replace r_s := Lib.hid r_s
  clear hsz
  have h_v := Lib.hid (hv'.out.below BB.out)
  obtain ⟨c_s0, c_s1, c_s2, c_s3, c_s4, c_s5, f_s0, f_s1, f_s2, f_s3, f_s4, f_s5⟩ := reads6 r_s.out
  have l_s := r_s.out.lt
  go_wp2_with fail
  refine (CR.out _ h_v.out).mono ?_
  rintro e w1 ⟨rfl, hb⟩
  clear c_s0 c_s1 c_s2 c_s3 c_s4 c_s5 f_s0 f_s1 f_s2 f_s3 f_s4 f_s5 l_s
  replace r_s := Lib.hid (r_s.out.keep hb)
  replace h_v := Lib.hid (IS.below h_v.out hb)
  replace BB := Lib.hid (below_next BB.out hb)
  clear hb
  go_upto_region 4 with fail
  have d_r := Lib.hid (And.intro BB.out.size (And.intro r_s.out.lt (True.intro)))
  obtain ⟨hb, r_r⟩ := laid w1 #[.int .i64 y, .int .i64 (Nat.cast X0), .int .i64 (Nat.cast X1)] SPT
  replace r_s := Lib.hid (r_s.out.keep hb)
  replace h_v := Lib.hid (IS.below h_v.out hb)
  replace BB := Lib.hid (below_next BB.out hb)
  replace r_r := Lib.hid r_r
  clear hb
  generalize w1.alloc (.cells #[.int .i64 y, .int .i64 (Nat.cast X0), .int .i64 (Nat.cast X1)] SPT) = w2 at *
  generalize w1.heap.size = g_r at *
  obtain ⟨c_s0, c_s1, c_s2, c_s3, c_s4, c_s5, f_s0, f_s1, f_s2, f_s3, f_s4, f_s5⟩ := reads6 r_s.out
  have l_s := r_s.out.lt
  go_wp2_with fail
  refine (CC.out _ h_v.out).mono ?_
  rintro e w3 ⟨rfl, hb⟩
  clear c_s0 c_s1 c_s2 c_s3 c_s4 c_s5 f_s0 f_s1 f_s2 f_s3 f_s4 f_s5 l_s
  replace r_s := Lib.hid (r_s.out.keep hb)
  replace r_r := Lib.hid (r_r.out.keep hb)
  replace h_v := Lib.hid (IS.below h_v.out hb)
  replace BB := Lib.hid (below_next BB.out hb)
  clear hb
  obtain ⟨c_s0, c_s1, c_s2, c_s3, c_s4, c_s5, f_s0, f_s1, f_s2, f_s3, f_s4, f_s5⟩ := reads6 r_s.out
  have l_s := r_s.out.lt
  go_wp2_with fail
  refine (CQ.out _ h_v.out).mono ?_
  rintro e w4 ⟨rfl, hb⟩
  clear c_s0 c_s1 c_s2 c_s3 c_s4 c_s5 f_s0 f_s1 f_s2 f_s3 f_s4 f_s5 l_s
  replace r_s := Lib.hid (r_s.out.keep hb)
  replace r_r := Lib.hid (r_r.out.keep hb)
  replace h_v := Lib.hid (IS.below h_v.out hb)
  replace BB := Lib.hid (below_next BB.out hb)
  clear hb
  go_upto_region 12 with fail
  have d_q := Lib.hid (And.intro BB.out.size (And.intro r_s.out.lt (And.intro r_r.out.lt (True.intro))))
  obtain ⟨hb, r_q⟩ := laid w4 #[.int .i64 y, .int .i64 (Nat.cast X0), .int .i64 (Nat.cast X1)] RST
  replace r_s := Lib.hid (r_s.out.keep hb)
  replace r_r := Lib.hid (r_r.out.keep hb)
  replace h_v := Lib.hid (IS.below h_v.out hb)
  replace BB := Lib.hid (below_next BB.out hb)
  replace r_q := Lib.hid r_q
  clear hb
  generalize w4.alloc (.cells #[.int .i64 y, .int .i64 (Nat.cast X0), .int .i64 (Nat.cast X1)] RST) = w5 at *
  generalize w4.heap.size = g_q at *
  clear CR CC CQ
  obtain ⟨c_r0, c_r1, c_r2, f_r0, f_r1, f_r2⟩ := reads3 r_r.out
  have l_r := r_r.out.lt
  obtain ⟨c_q0, c_q1, c_q2, f_q0, f_q1, f_q2⟩ := reads3 r_q.out
  have l_q := r_q.out.lt
  go_wp2_with fail
  clear c_r0 c_r1 c_r2 f_r0 f_r1 f_r2 l_r c_q0 c_q1 c_q2 f_q0 f_q1 f_q2 l_q
  have hb0 := Lib.hid (Below.refl w5.heap.size w5)
  go_loopw [9] (fun c wr => ∃ k : Nat, X0 ≤ k ∧ k ≤ X1 ∧ c = .int .i64 (k : Int) ∧ Hid (Below w5.heap.size w5 wr)) (fun c _ => X1 - (intOf c).toNat)
  case atStart => exact ⟨X0, by omega, HLL.out.1, rfl, hb0.out⟩
  case round =>
    obtain ⟨k, hk0, hk, rfl, hbl⟩ := hrel
    have hb := hbl.out
    replace r_s := Lib.hid (r_s.out.keep hb); replace r_q := Lib.hid (r_q.out.keep hb); replace h_v := Lib.hid (h_v.out.below hb); replace BB := Lib.hid (below_next BB.out hb); replace hb0 := Lib.hid (below_next hb0.out hb)
    clear hb r_r hbl
    by_cases hlt : k < X1
    · obtain ⟨hkn, hpk⟩ := HG.out k hk0 hlt
      have hlt' : (k : Int) < (X1 : Int) := by omega
      have CK := Lib.hid (fun w hv => CI.out k hkn w hv)
      rw [hpk] at CK
      have e1 : IntKind.i64.wrap ((k : Int) + 1) = ((k + 1 : Nat) : Int) := by rw [show ((k + 1 : Nat) : Int) = (k : Int) + 1 by omega]; exact iw ⟨by omega, by have := HLL.out; omega⟩
      obtain ⟨k1, hk1⟩ : ∃ v : Int, v = ((k + 1 : Nat) : Int) := ⟨_, rfl⟩
      rw [← hk1] at e1
      replace hk1 := Lib.hid hk1
      clear hpk hkn CI HG
      obtain ⟨c_s0, c_s1, c_s2, c_s3, c_s4, c_s5, f_s0, f_s1, f_s2, f_s3, f_s4, f_s5⟩ := reads6 r_s.out
      have l_s := r_s.out.lt
      obtain ⟨c_q0, c_q1, c_q2, f_q0, f_q1, f_q2⟩ := reads3 r_q.out
      have l_q := r_q.out.lt
      go_wp2_with fail
      refine (CK.out _ h_v.out).mono ?_
      rintro e w6 ⟨rfl, hb⟩
      clear c_s0 c_s1 c_s2 c_s3 c_s4 c_s5 f_s0 f_s1 f_s2 f_s3 f_s4 f_s5 l_s c_q0 c_q1 c_q2 f_q0 f_q1 f_q2 l_q
      replace r_s := Lib.hid (r_s.out.keep hb)
      replace r_q := Lib.hid (r_q.out.keep hb)
      replace h_v := Lib.hid (IS.below h_v.out hb)
      replace hb0 := Lib.hid (below_next hb0.out hb)
      replace BB := Lib.hid (below_next BB.out hb)
      clear hb
      go_wp2_with fail
      go_roundw
      case rel => exact ⟨k + 1, by omega, by omega, by rw [← hk1.out], hb0.out⟩
      case measure => have := hk1.out; simp [intOf]; omega
    · obtain rfl : k = X1 := by omega
      have hlt' : ¬ (k : Int) < (k : Int) := by omega
      clear CI HG
      obtain ⟨c_q0, c_q1, c_q2, f_q0, f_q1, f_q2⟩ := reads3 r_q.out
      have l_q := r_q.out.lt
      go_wp2_with fail
      refine (CL.out _).mono ?_
      rintro e w7 ⟨rfl, hb⟩
      clear c_q0 c_q1 c_q2 f_q0 f_q1 f_q2 l_q
      replace r_q := Lib.hid (r_q.out.keep hb)
      replace BB := Lib.hid (below_next BB.out hb)
      clear hb
      go_wp2_with fail
      go_ret
      exact ⟨rfl, BB.out⟩
theorem spanRows_any (v : Value) (zs : List Int) (W H tu rows x y : Int) (htu : I64 tu) (hy : I64 y) (w : World) (hv : IS w v zs) :
    Calls Try.prog 3 #[v, .agg #[.int .i64 W, .int .i64 H, .int .i64 tu, .int .i64 rows, .int .i64 x, .int .i64 y]] w fun e w' => e = .returned (.bool true) ∧ Below w.heap.size w w' := by
  by_cases hl : (zs.length : Int) > 60
  · obtain ⟨A, cap, rfl⟩ := hv.form
    exact spanRows_out (.bool true) A _ cap W H tu rows x y (.inl hl) w
  by_cases ht : tu > 600 ∧ tu ≤ 32768
  · obtain ⟨A, cap, rfl⟩ := hv.form
    exact spanRows_out (.bool true) A _ cap W H tu rows x y (.inr ht) w
  by_cases hC : rowC zs W H y tu = 0
  · obtain ⟨s0, -⟩ := rowC_zero hC
    obtain ⟨a0, -, -, t0, -⟩ := spC_zero s0
    obtain ⟨c0, c1, c2, c3, c4, c5, rfl, hM⟩ := afC_zero a0
    obtain ⟨n, rfl⟩ : ∃ n : Nat, tu = n := ⟨tu.toNat, by omega⟩
    exact spanRows_ok v c0 c1 c2 c3 c4 c5 W H rows x y n hC hM (by omega) w hv
  · exact spanRows_no v zs W H tu rows x y hC hl ht w hv
end Go.Proofs.Ythdbchghhpoadaa
