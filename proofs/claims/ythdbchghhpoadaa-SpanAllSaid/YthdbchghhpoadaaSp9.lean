/- The walk of the law SpanAll. -/
import Derived.Test.YthdbchghhpoadaaSp8
set_option linter.unusedVariables false
set_option linter.unusedSimpArgs false
namespace Go.Proofs.Ythdbchghhpoadaa
open Go.RowKit Go.ChangeShapes Go.WideShapes Go.ChangeAt Go.Deep
set_option maxRecDepth 100000 in
set_option maxHeartbeats 4000000 in
theorem spanAll_out (A : Option Addr) (n cap : Nat) (W H tu rows x y : Int) (h : (n : Int) > 60 ∨ (tu > 60 ∧ tu ≤ 32768) ∨ (rows > 60 ∧ rows ≤ 32768)) (w : World) :
    Calls Try.prog 5 #[.slice A n cap, .agg #[.int .i64 W, .int .i64 H, .int .i64 tu, .int .i64 rows, .int .i64 x, .int .i64 y]] w fun e w' => e = .returned (.bool true) ∧ Below w.heap.size w w' := by
  rcases dec_both ((n : Int) > 60) with ⟨g1, d1⟩ | ⟨g1, d1⟩
  · clear h g1
    go_enter Try.func5, Try.ntmps5
    go_upto_region 1 with fail
    have BB := start1 w #[.int .i64 W, .int .i64 H, .int .i64 tu, .int .i64 rows, .int .i64 x, .int .i64 y] SZT
    obtain ⟨BB, hsz, r_s⟩ := BB
    generalize (w.alloc (.cells #[.int .i64 W, .int .i64 H, .int .i64 tu, .int .i64 rows, .int .i64 x, .int .i64 y] SZT)) = w0 at *
    replace BB := Lib.hid BB
    replace r_s := Lib.hid r_s
    clear hsz
    obtain ⟨c_s0, c_s1, c_s2, c_s3, c_s4, c_s5, f_s0, f_s1, f_s2, f_s3, f_s4, f_s5⟩ := reads6 r_s.out
    have l_s := r_s.out.lt
    go_wp2_with fail
    go_ret
    exact ⟨rfl, BB.out⟩
  · by_cases h2 : tu > 60 ∧ tu ≤ 32768
    · have d2 : decide (tu > 60) = true := decide_eq_true h2.1
      have d3 : decide (tu ≤ 32768) = true := decide_eq_true h2.2
      clear h g1 h2
      go_enter Try.func5, Try.ntmps5
      go_upto_region 1 with fail
      have BB := start1 w #[.int .i64 W, .int .i64 H, .int .i64 tu, .int .i64 rows, .int .i64 x, .int .i64 y] SZT
      obtain ⟨BB, hsz, r_s⟩ := BB
      generalize (w.alloc (.cells #[.int .i64 W, .int .i64 H, .int .i64 tu, .int .i64 rows, .int .i64 x, .int .i64 y] SZT)) = w0 at *
      replace BB := Lib.hid BB
      replace r_s := Lib.hid r_s
      clear hsz
      obtain ⟨c_s0, c_s1, c_s2, c_s3, c_s4, c_s5, f_s0, f_s1, f_s2, f_s3, f_s4, f_s5⟩ := reads6 r_s.out
      have l_s := r_s.out.lt
      go_wp2_with fail
      go_ret
      exact ⟨rfl, BB.out⟩
    · have h3 : rows > 60 ∧ rows ≤ 32768 := by omega
      have d4 : decide (rows > 60) = true := decide_eq_true h3.1
      have d5 : decide (rows ≤ 32768) = true := decide_eq_true h3.2
      rcases dec_both (tu > 60) with ⟨g2, d2⟩ | ⟨g2, d2⟩
      · have d3 : decide (tu ≤ 32768) = false := decide_eq_false (by omega)
        clear h g1 h2 h3 g2
        go_enter Try.func5, Try.ntmps5
        go_upto_region 1 with fail
        have BB := start1 w #[.int .i64 W, .int .i64 H, .int .i64 tu, .int .i64 rows, .int .i64 x, .int .i64 y] SZT
        obtain ⟨BB, hsz, r_s⟩ := BB
        generalize (w.alloc (.cells #[.int .i64 W, .int .i64 H, .int .i64 tu, .int .i64 rows, .int .i64 x, .int .i64 y] SZT)) = w0 at *
        replace BB := Lib.hid BB
        replace r_s := Lib.hid r_s
        clear hsz
        obtain ⟨c_s0, c_s1, c_s2, c_s3, c_s4, c_s5, f_s0, f_s1, f_s2, f_s3, f_s4, f_s5⟩ := reads6 r_s.out
        have l_s := r_s.out.lt
        go_wp2_with fail
        go_ret
        exact ⟨rfl, BB.out⟩
      · clear h g1 h2 h3 g2
        go_enter Try.func5, Try.ntmps5
        go_upto_region 1 with fail
        have BB := start1 w #[.int .i64 W, .int .i64 H, .int .i64 tu, .int .i64 rows, .int .i64 x, .int .i64 y] SZT
        obtain ⟨BB, hsz, r_s⟩ := BB
        generalize (w.alloc (.cells #[.int .i64 W, .int .i64 H, .int .i64 tu, .int .i64 rows, .int .i64 x, .int .i64 y] SZT)) = w0 at *
        replace BB := Lib.hid BB
        replace r_s := Lib.hid r_s
        clear hsz
        obtain ⟨c_s0, c_s1, c_s2, c_s3, c_s4, c_s5, f_s0, f_s1, f_s2, f_s3, f_s4, f_s5⟩ := reads6 r_s.out
        have l_s := r_s.out.lt
        go_wp2_with fail
        go_ret
        exact ⟨rfl, BB.out⟩
set_option maxRecDepth 100000 in
set_option maxHeartbeats 4000000 in
theorem spanAll_no (v : Value) (zs : List Int) (W H tu rows x y : Int) (hC : spC zs W H tu rows ≠ 0) (hl : ¬ (zs.length : Int) > 60) (ht : ¬ (tu > 60 ∧ tu ≤ 32768)) (hr : ¬ (rows > 60 ∧ rows ≤ 32768)) (w : World) (hv : IS w v zs) :
    Calls Try.prog 5 #[v, .agg #[.int .i64 W, .int .i64 H, .int .i64 tu, .int .i64 rows, .int .i64 x, .int .i64 y]] w fun e w' => e = .returned (.bool true) ∧ Below w.heap.size w w' := by
  have CR := Lib.hid (fun w hv => pall_no v zs W H tu rows hC w hv)
  have CC := Lib.hid (fun w hv => r26check v zs W H tu rows w hv)
  have CP := Lib.hid (fun w hv => spcheck v zs W H tu rows w hv)
  have CL := Lib.hid (fun w => alive26 w)
  have hv' := Lib.hid hv
  obtain ⟨A, cap, rfl⟩ := hv.form
  have d1 : decide ((zs.length : Int) > 60) = false := decide_eq_false hl
  generalize spC zs W H tu rows = C at *
  have c2 : (C != 0) = true := by simpa using hC
  clear hC hv hl
  generalize hn : zs.length = n1 at *
  replace hn := Lib.hid hn
  rcases dec_both (tu > 60) with ⟨k1, d2⟩ | ⟨k1, d2⟩
  · have d3 : decide (tu ≤ 32768) = false := decide_eq_false (by omega)
    rcases dec_both (rows > 60) with ⟨k2, d4⟩ | ⟨k2, d4⟩
    · have d5 : decide (rows ≤ 32768) = false := decide_eq_false (by omega)
      clear ht hr k1 k2
      go_enter Try.func5, Try.ntmps5
      go_upto_region 1 with fail
      have BB := start1 w #[.int .i64 W, .int .i64 H, .int .i64 tu, .int .i64 rows, .int .i64 x, .int .i64 y] SZT
      obtain ⟨BB, hsz, r_s⟩ := BB
      generalize (w.alloc (.cells #[.int .i64 W, .int .i64 H, .int .i64 tu, .int .i64 rows, .int .i64 x, .int .i64 y] SZT)) = w0 at *
      replace BB := Lib.hid BB
      replace r_s := Lib.hid r_s
      clear hsz
      have h_v := Lib.hid (hv'.out.below BB.out)
      obtain ⟨c_s0, c_s1, c_s2, c_s3, c_s4, c_s5, f_s0, f_s1, f_s2, f_s3, f_s4, f_s5⟩ := reads6 r_s.out
      have l_s := r_s.out.lt
      go_wp2_with fail
      refine (CR.out _ h_v.out).mono ?_
      rintro e w1 ⟨rfl, hb⟩
      clear c_s0 c_s1 c_s2 c_s3 c_s4 c_s5 f_s0 f_s1 f_s2 f_s3 f_s4 f_s5 l_s
      replace r_s := Lib.hid (r_s.out.keep hb)
      replace h_v := Lib.hid (IS.below h_v.out hb)
      replace BB := Lib.hid (below_next BB.out hb)
      clear hb
      obtain ⟨c_s0, c_s1, c_s2, c_s3, c_s4, c_s5, f_s0, f_s1, f_s2, f_s3, f_s4, f_s5⟩ := reads6 r_s.out
      have l_s := r_s.out.lt
      go_wp2_with fail
      refine (CC.out _ h_v.out).mono ?_
      rintro e w2 ⟨rfl, hb⟩
      clear c_s0 c_s1 c_s2 c_s3 c_s4 c_s5 f_s0 f_s1 f_s2 f_s3 f_s4 f_s5 l_s
      replace r_s := Lib.hid (r_s.out.keep hb)
      replace h_v := Lib.hid (IS.below h_v.out hb)
      replace BB := Lib.hid (below_next BB.out hb)
      clear hb
      obtain ⟨c_s0, c_s1, c_s2, c_s3, c_s4, c_s5, f_s0, f_s1, f_s2, f_s3, f_s4, f_s5⟩ := reads6 r_s.out
      have l_s := r_s.out.lt
      go_wp2_with fail
      refine (CP.out _ h_v.out).mono ?_
      rintro e w3 ⟨rfl, hb⟩
      clear c_s0 c_s1 c_s2 c_s3 c_s4 c_s5 f_s0 f_s1 f_s2 f_s3 f_s4 f_s5 l_s
      replace r_s := Lib.hid (r_s.out.keep hb)
      replace h_v := Lib.hid (IS.below h_v.out hb)
      replace BB := Lib.hid (below_next BB.out hb)
      clear hb
      go_wp2_with fail
      refine (CL.out _).mono ?_
      rintro e w4 ⟨rfl, hb⟩
      replace r_s := Lib.hid (r_s.out.keep hb)
      replace h_v := Lib.hid (IS.below h_v.out hb)
      replace BB := Lib.hid (below_next BB.out hb)
      clear hb
      go_wp2_with fail
      go_ret
      exact ⟨rfl, BB.out⟩
    · clear ht hr k1 k2
      go_enter Try.func5, Try.ntmps5
      go_upto_region 1 with fail
      have BB := start1 w #[.int .i64 W, .int .i64 H, .int .i64 tu, .int .i64 rows, .int .i64 x, .int .i64 y] SZT
      obtain ⟨BB, hsz, r_s⟩ := BB
      generalize (w.alloc (.cells #[.int .i64 W, .int .i64 H, .int .i64 tu, .int .i64 rows, .int .i64 x, .int .i64 y] SZT)) = w0 at *
      replace BB := Lib.hid BB
      replace r_s := Lib.hid r_s
      clear hsz
      have h_v := Lib.hid (hv'.out.below BB.out)
      obtain ⟨c_s0, c_s1, c_s2, c_s3, c_s4, c_s5, f_s0, f_s1, f_s2, f_s3, f_s4, f_s5⟩ := reads6 r_s.out
      have l_s := r_s.out.lt
      go_wp2_with fail
      refine (CR.out _ h_v.out).mono ?_
      rintro e w1 ⟨rfl, hb⟩
      clear c_s0 c_s1 c_s2 c_s3 c_s4 c_s5 f_s0 f_s1 f_s2 f_s3 f_s4 f_s5 l_s
      replace r_s := Lib.hid (r_s.out.keep hb)
      replace h_v := Lib.hid (IS.below h_v.out hb)
      replace BB := Lib.hid (below_next BB.out hb)
      clear hb
      obtain ⟨c_s0, c_s1, c_s2, c_s3, c_s4, c_s5, f_s0, f_s1, f_s2, f_s3, f_s4, f_s5⟩ := reads6 r_s.out
      have l_s := r_s.out.lt
      go_wp2_with fail
      refine (CC.out _ h_v.out).mono ?_
      rintro e w2 ⟨rfl, hb⟩
      clear c_s0 c_s1 c_s2 c_s3 c_s4 c_s5 f_s0 f_s1 f_s2 f_s3 f_s4 f_s5 l_s
      replace r_s := Lib.hid (r_s.out.keep hb)
      replace h_v := Lib.hid (IS.below h_v.out hb)
      replace BB := Lib.hid (below_next BB.out hb)
      clear hb
      obtain ⟨c_s0, c_s1, c_s2, c_s3, c_s4, c_s5, f_s0, f_s1, f_s2, f_s3, f_s4, f_s5⟩ := reads6 r_s.out
      have l_s := r_s.out.lt
      go_wp2_with fail
      refine (CP.out _ h_v.out).mono ?_
      rintro e w3 ⟨rfl, hb⟩
      clear c_s0 c_s1 c_s2 c_s3 c_s4 c_s5 f_s0 f_s1 f_s2 f_s3 f_s4 f_s5 l_s
      replace r_s := Lib.hid (r_s.out.keep hb)
      replace h_v := Lib.hid (IS.below h_v.out hb)
      replace BB := Lib.hid (below_next BB.out hb)
      clear hb
      go_wp2_with fail
      refine (CL.out _).mono ?_
      rintro e w4 ⟨rfl, hb⟩
      replace r_s := Lib.hid (r_s.out.keep hb)
      replace h_v := Lib.hid (IS.below h_v.out hb)
      replace BB := Lib.hid (below_next BB.out hb)
      clear hb
      go_wp2_with fail
      go_ret
      exact ⟨rfl, BB.out⟩
  · rcases dec_both (rows > 60) with ⟨k2, d4⟩ | ⟨k2, d4⟩
    · have d5 : decide (rows ≤ 32768) = false := decide_eq_false (by omega)
      clear ht hr k1 k2
      go_enter Try.func5, Try.ntmps5
      go_upto_region 1 with fail
      have BB := start1 w #[.int .i64 W, .int .i64 H, .int .i64 tu, .int .i64 rows, .int .i64 x, .int .i64 y] SZT
      obtain ⟨BB, hsz, r_s⟩ := BB
      generalize (w.alloc (.cells #[.int .i64 W, .int .i64 H, .int .i64 tu, .int .i64 rows, .int .i64 x, .int .i64 y] SZT)) = w0 at *
      replace BB := Lib.hid BB
      replace r_s := Lib.hid r_s
      clear hsz
      have h_v := Lib.hid (hv'.out.below BB.out)
      obtain ⟨c_s0, c_s1, c_s2, c_s3, c_s4, c_s5, f_s0, f_s1, f_s2, f_s3, f_s4, f_s5⟩ := reads6 r_s.out
      have l_s := r_s.out.lt
      go_wp2_with fail
      refine (CR.out _ h_v.out).mono ?_
      rintro e w1 ⟨rfl, hb⟩
      clear c_s0 c_s1 c_s2 c_s3 c_s4 c_s5 f_s0 f_s1 f_s2 f_s3 f_s4 f_s5 l_s
      replace r_s := Lib.hid (r_s.out.keep hb)
      replace h_v := Lib.hid (IS.below h_v.out hb)
      replace BB := Lib.hid (below_next BB.out hb)
      clear hb
      obtain ⟨c_s0, c_s1, c_s2, c_s3, c_s4, c_s5, f_s0, f_s1, f_s2, f_s3, f_s4, f_s5⟩ := reads6 r_s.out
      have l_s := r_s.out.lt
      go_wp2_with fail
      refine (CC.out _ h_v.out).mono ?_
      rintro e w2 ⟨rfl, hb⟩
      clear c_s0 c_s1 c_s2 c_s3 c_s4 c_s5 f_s0 f_s1 f_s2 f_s3 f_s4 f_s5 l_s
      replace r_s := Lib.hid (r_s.out.keep hb)
      replace h_v := Lib.hid (IS.below h_v.out hb)
      replace BB := Lib.hid (below_next BB.out hb)
      clear hb
      obtain ⟨c_s0, c_s1, c_s2, c_s3, c_s4, c_s5, f_s0, f_s1, f_s2, f_s3, f_s4, f_s5⟩ := reads6 r_s.out
      have l_s := r_s.out.lt
      go_wp2_with fail
      refine (CP.out _ h_v.out).mono ?_
      rintro e w3 ⟨rfl, hb⟩
      clear c_s0 c_s1 c_s2 c_s3 c_s4 c_s5 f_s0 f_s1 f_s2 f_s3 f_s4 f_s5 l_s
      replace r_s := Lib.hid (r_s.out.keep hb)
      replace h_v := Lib.hid (IS.below h_v.out hb)
      replace BB := Lib.hid (below_next BB.out hb)
      clear hb
      go_wp2_with fail
      refine (CL.out _).mono ?_
      rintro e w4 ⟨rfl, hb⟩
      replace r_s := Lib.hid (r_s.out.keep hb)
      replace h_v := Lib.hid (IS.below h_v.out hb)
      replace BB := Lib.hid (below_next BB.out hb)
      clear hb
      go_wp2_with fail
      go_ret
      exact ⟨rfl, BB.out⟩
    · clear ht hr k1 k2
      go_enter Try.func5, Try.ntmps5
      go_upto_region 1 with fail
      have BB := start1 w #[.int .i64 W, .int .i64 H, .int .i64 tu, .int .i64 rows, .int .i64 x, .int .i64 y] SZT
      obtain ⟨BB, hsz, r_s⟩ := BB
      generalize (w.alloc (.cells #[.int .i64 W, .int .i64 H, .int .i64 tu, .int .i64 rows, .int .i64 x, .int .i64 y] SZT)) = w0 at *
      replace BB := Lib.hid BB
      replace r_s := Lib.hid r_s
      clear hsz
      have h_v := Lib.hid (hv'.out.below BB.out)
      obtain ⟨c_s0, c_s1, c_s2, c_s3, c_s4, c_s5, f_s0, f_s1, f_s2, f_s3, f_s4, f_s5⟩ := reads6 r_s.out
      have l_s := r_s.out.lt
      go_wp2_with fail
      refine (CR.out _ h_v.out).mono ?_
      rintro e w1 ⟨rfl, hb⟩
      clear c_s0 c_s1 c_s2 c_s3 c_s4 c_s5 f_s0 f_s1 f_s2 f_s3 f_s4 f_s5 l_s
      replace r_s := Lib.hid (r_s.out.keep hb)
      replace h_v := Lib.hid (IS.below h_v.out hb)
      replace BB := Lib.hid (below_next BB.out hb)
      clear hb
      obtain ⟨c_s0, c_s1, c_s2, c_s3, c_s4, c_s5, f_s0, f_s1, f_s2, f_s3, f_s4, f_s5⟩ := reads6 r_s.out
      have l_s := r_s.out.lt
      go_wp2_with fail
      refine (CC.out _ h_v.out).mono ?_
      rintro e w2 ⟨rfl, hb⟩
      clear c_s0 c_s1 c_s2 c_s3 c_s4 c_s5 f_s0 f_s1 f_s2 f_s3 f_s4 f_s5 l_s
      replace r_s := Lib.hid (r_s.out.keep hb)
      replace h_v := Lib.hid (IS.below h_v.out hb)
      replace BB := Lib.hid (below_next BB.out hb)
      clear hb
      obtain ⟨c_s0, c_s1, c_s2, c_s3, c_s4, c_s5, f_s0, f_s1, f_s2, f_s3, f_s4, f_s5⟩ := reads6 r_s.out
      have l_s := r_s.out.lt
      go_wp2_with fail
      refine (CP.out _ h_v.out).mono ?_
      rintro e w3 ⟨rfl, hb⟩
      clear c_s0 c_s1 c_s2 c_s3 c_s4 c_s5 f_s0 f_s1 f_s2 f_s3 f_s4 f_s5 l_s
      replace r_s := Lib.hid (r_s.out.keep hb)
      replace h_v := Lib.hid (IS.below h_v.out hb)
      replace BB := Lib.hid (below_next BB.out hb)
      clear hb
      go_wp2_with fail
      refine (CL.out _).mono ?_
      rintro e w4 ⟨rfl, hb⟩
      replace r_s := Lib.hid (r_s.out.keep hb)
      replace h_v := Lib.hid (IS.below h_v.out hb)
      replace BB := Lib.hid (below_next BB.out hb)
      clear hb
      go_wp2_with fail
      go_ret
      exact ⟨rfl, BB.out⟩
theorem at_span3 {w : World} {g : Nat} {a b c : Int} {T : TypeId} (h : AtB w g #[.int .i64 a, .int .i64 b, .int .i64 c] T) (hz : I64 a ∧ I64 b ∧ I64 c) : PS w (.slice (some ⟨g, 0, none⟩) 1 1) [(a, b, c)] :=
  ⟨_, 1, rfl, by simp, by omega, by simpa using hz, fun _ => ⟨g, 0, rfl, h.lt, fun i hi => by
    obtain rfl : i = 0 := by simpa using hi
    exact ⟨h.cell 0 rfl, h.cell 1 rfl, h.cell 2 rfl⟩⟩⟩
set_option maxRecDepth 100000 in
set_option maxHeartbeats 8000000 in
theorem spanAll_ok (v : Value) (c0 c1 c2 c3 c4 c5 W H x y : Int) (n R : Nat) (hC : spC [c0, c1, c2, c3, c4, c5] W H n R = 0) (hM : AM c0 c1 c2 c3 c4 c5) (ht : n ≤ 60) (hr : R ≤ 60) (w : World) (hv : IS w v [c0, c1, c2, c3, c4, c5]) :
    Calls Try.prog 5 #[v, .agg #[.int .i64 W, .int .i64 H, .int .i64 (n : Int), .int .i64 (R : Int), .int .i64 x, .int .i64 y]] w fun e w' => e = .returned (.bool true) ∧ Below w.heap.size w w' := by
  have CR := Lib.hid (fun w hv => pall_ok v c0 c1 c2 c3 c4 c5 W H n R hC w hv)
  have CC := Lib.hid (fun w hv => r26check v [c0, c1, c2, c3, c4, c5] W H n R w hv)
  have CP := Lib.hid (fun w hv => spcheck v [c0, c1, c2, c3, c4, c5] W H n R w hv)
  rw [hC] at CC CP
  have CQ := Lib.hid (fun (k : Nat) (hk : k ≤ 32768) w hv => r26row v c0 c1 c2 c3 c4 c5 W H k n (by omega) hM ⟨by omega, by omega⟩ w hv)
  have CL := Lib.hid (fun w => alive26 w)
  have hin := spansTo_in (rowX c0 c1 c2 c3 c4 c5 W H n) n (fun k => ⟨(rowB_le _ n).1, (rowB_le _ n).2.1⟩) R
  have hsl := spansTo_len (rowX c0 c1 c2 c3 c4 c5 W H n) R
  have hgt : ∀ k, k < (spansTo (rowX c0 c1 c2 c3 c4 c5 W H n) R).length → (0 ≤ ((spansTo (rowX c0 c1 c2 c3 c4 c5 W H n) R).getD k (0, 0, 0)).2.1 ∧ ((spansTo (rowX c0 c1 c2 c3 c4 c5 W H n) R).getD k (0, 0, 0)).2.1 ≤ 32768) ∧ (0 ≤ ((spansTo (rowX c0 c1 c2 c3 c4 c5 W H n) R).getD k (0, 0, 0)).2.2 ∧ ((spansTo (rowX c0 c1 c2 c3 c4 c5 W H n) R).getD k (0, 0, 0)).2.2 ≤ 32768) := fun k hk => by
    have := hin ((spansTo (rowX c0 c1 c2 c3 c4 c5 W H n) R).getD k (0, 0, 0)) (by simp [List.getD, List.getElem?_eq_getElem hk])
    omega
  have CT := Lib.hid (fun v w hv => pcount v (spansTo (rowX c0 c1 c2 c3 c4 c5 W H n) R) (by omega) hgt w hv)
  have h53 : ∀ k, k < [((0 : Int), (5 : Int), (3 : Int))].length → (0 ≤ ([((0 : Int), (5 : Int), (3 : Int))].getD k (0, 0, 0)).2.1 ∧ ([((0 : Int), (5 : Int), (3 : Int))].getD k (0, 0, 0)).2.1 ≤ 32768) ∧ (0 ≤ ([((0 : Int), (5 : Int), (3 : Int))].getD k (0, 0, 0)).2.2 ∧ ([((0 : Int), (5 : Int), (3 : Int))].getD k (0, 0, 0)).2.2 ≤ 32768) := fun k hk => by
    obtain rfl : k = 0 := by simpa using hk
    simp
  have CU := Lib.hid (fun v w hv => pcount v [((0 : Int), (5 : Int), (3 : Int))] (by simp) h53 w hv)
  have hcu : cntK [((0 : Int), (5 : Int), (3 : Int))] [((0 : Int), (5 : Int), (3 : Int))].length = 0 := by decide
  rw [hcu] at CU
  have HA : Hid (∀ k : Nat, k < R → (rowB (inB c0 c1 c2 c3 c4 c5 W H (k : Int)) n).2.1 < (rowB (inB c0 c1 c2 c3 c4 c5 W H (k : Int)) n).2.2 → _) := fun k hk hx => spans_at (rowX c0 c1 c2 c3 c4 c5 W H n) k R hk hx
  have HN : Hid (∀ k : Nat, ¬ (rowB (inB c0 c1 c2 c3 c4 c5 W H (k : Int)) n).2.1 < (rowB (inB c0 c1 c2 c3 c4 c5 W H (k : Int)) n).2.2 → _) := fun k hx => spans_no (rowX c0 c1 c2 c3 c4 c5 W H n) k hx
  have HT := Lib.hid (fun k : Nat => rowB_lt (inB c0 c1 c2 c3 c4 c5 W H (k : Int)) n)
  have HB := Lib.hid (fun k : Nat => (rowB_le (inB c0 c1 c2 c3 c4 c5 W H (k : Int)) n).2.1)
  have HK := Lib.hid (cntK_in (spansTo (rowX c0 c1 c2 c3 c4 c5 W H n) R) hgt)
  have hS0 : Hid (spansTo (rowX c0 c1 c2 c3 c4 c5 W H n) 0 = []) := rfl
  have HSL := Lib.hid (spansTo_len (rowX c0 c1 c2 c3 c4 c5 W H n))
  simp only [rowX] at HA HN CR CT HK hS0 HSL
  generalize spansTo (fun y : Nat => (rowB (inB c0 c1 c2 c3 c4 c5 W H (y : Int)) n).2) = T at *
  have hv' := Lib.hid hv
  obtain ⟨A, cap, rfl⟩ := hv.form
  simp only [List.length_cons, List.length_nil, Nat.zero_add, Nat.reduceAdd] at *
  have hRR := Lib.hid (And.intro ht hr)
  have d2 : decide ((n : Int) > 60) = false := decide_eq_false (by omega)
  have d4 : decide ((R : Int) > 60) = false := decide_eq_false (by omega)
  clear hv hM hC hin hsl hgt hcu ht hr h53
  generalize htu : (n : Int) = tu at *
  obtain ⟨rows, hrw⟩ : ∃ r, r = (R : Int) := ⟨_, rfl⟩
  rw [← hrw] at CR CC CP d4 ⊢
  replace htu := Lib.hid htu; replace hrw := Lib.hid hrw
  go_enter Try.func5, Try.ntmps5
  go_upto_region 1 with fail
  have BB := start1 w #[.int .i64 W, .int .i64 H, .int .i64 tu, .int .i64 rows, .int .i64 x, .int .i64 y] SZT
  obtain ⟨BB, hsz, r_s⟩ := BB
  generalize (w.alloc (.cells #[.int .i64 W, .int .i64 H, .int .i64 tu, .int .i64 rows, .int .i64 x, .int .i64 y] SZT)) = w0 at *
  replace BB := Lib.hid BB
  replace r_s := Lib.hid r_s
  clear hsz
  have h_v := Lib.hid (hv'.out.below BB.out)
  obtain ⟨c_s0, c_s1, c_s2, c_s3, c_s4, c_s5, f_s0, f_s1, f_s2, f_s3, f_s4, f_s5⟩ := reads6 r_s.out
  have l_s := r_s.out.lt
  go_wp2_with fail
  refine (CR.out _ h_v.out).mono ?_
  rintro e w1 ⟨r, rfl, hb, h_l⟩
  clear c_s0 c_s1 c_s2 c_s3 c_s4 c_s5 f_s0 f_s1 f_s2 f_s3 f_s4 f_s5 l_s
  replace r_s := Lib.hid (r_s.out.keep hb)
  replace h_v := Lib.hid (IS.below h_v.out hb)
  replace BB := Lib.hid (below_next BB.out hb)
  clear hb
  replace h_l := Lib.hid h_l
  obtain ⟨c_s0, c_s1, c_s2, c_s3, c_s4, c_s5, f_s0, f_s1, f_s2, f_s3, f_s4, f_s5⟩ := reads6 r_s.out
  have l_s := r_s.out.lt
  go_wp2_with fail
  refine (CC.out _ h_v.out).mono ?_
  rintro e w2 ⟨rfl, hb⟩
  clear c_s0 c_s1 c_s2 c_s3 c_s4 c_s5 f_s0 f_s1 f_s2 f_s3 f_s4 f_s5 l_s
  replace r_s := Lib.hid (r_s.out.keep hb)
  replace h_v := Lib.hid (IS.below h_v.out hb)
  replace h_l := Lib.hid (PS.below h_l.out hb)
  replace BB := Lib.hid (below_next BB.out hb)
  clear hb
  obtain ⟨c_s0, c_s1, c_s2, c_s3, c_s4, c_s5, f_s0, f_s1, f_s2, f_s3, f_s4, f_s5⟩ := reads6 r_s.out
  have l_s := r_s.out.lt
  go_wp2_with fail
  refine (CP.out _ h_v.out).mono ?_
  rintro e w3 ⟨rfl, hb⟩
  clear c_s0 c_s1 c_s2 c_s3 c_s4 c_s5 f_s0 f_s1 f_s2 f_s3 f_s4 f_s5 l_s
  replace r_s := Lib.hid (r_s.out.keep hb)
  replace h_v := Lib.hid (IS.below h_v.out hb)
  replace h_l := Lib.hid (PS.below h_l.out hb)
  replace BB := Lib.hid (below_next BB.out hb)
  clear hb
  clear CR CC CP
  go_wp2_with fail
  have hb0 := Lib.hid (Below.refl w3.heap.size w3)
  obtain ⟨L, capl, rfl⟩ := id h_l.out.form
  obtain ⟨N, hN⟩ : ∃ N, N = (T R).length := ⟨_, rfl⟩
  rw [← hN] at h_l CT HK HA ⊢
  replace hN := Lib.hid hN
  go_loopw [8, 9, 10] (fun a b c wr => ∃ k : Nat, k ≤ R ∧ a = .int .i64 ((T k).length : Int) ∧ b = .int .i64 (cntK (T R) (T k).length) ∧ c = .int .i64 (k : Int) ∧ Hid (Below w3.heap.size w3 wr)) (fun _ _ c _ => R - (intOf c).toNat)
  case atStart => exact ⟨0, by omega, by rw [hS0.out]; rfl, by rw [hS0.out]; rfl, rfl, hb0.out⟩
  case round =>
    obtain ⟨k, hk, rfl, rfl, rfl, hbl⟩ := hrel
    have hb := hbl.out
    replace r_s := Lib.hid (r_s.out.keep hb); replace h_l := Lib.hid (h_l.out.below hb); replace h_v := Lib.hid (h_v.out.below hb); replace BB := Lib.hid (below_next BB.out hb); replace hb0 := Lib.hid (below_next hb0.out hb)
    clear hb hbl
    by_cases hlt : k < R
    · have hlt' : (k : Int) < rows := by have := hrw.out; omega
      have CK := Lib.hid (fun w hv => CQ.out k (by have := hRR.out; omega) w hv)
      have hA := Lib.hid (HA.out k hlt)
      have hNo := Lib.hid (HN.out k)
      have hT := Lib.hid (HT.out k)
      have hBn := HB.out k
      generalize (rowB (inB c0 c1 c2 c3 c4 c5 W H (k : Int)) n).2.1 = X0 at *
      generalize (rowB (inB c0 c1 c2 c3 c4 c5 W H (k : Int)) n).2.2 = X1 at *
      have hcn := HK.out (T k).length
      obtain ⟨x0, hx0⟩ : ∃ v : Int, v = (X0 : Int) := ⟨_, rfl⟩
      obtain ⟨x1, hx1⟩ : ∃ v : Int, v = (X1 : Int) := ⟨_, rfl⟩
      rw [← hx0, ← hx1] at CK
      replace hx0 := Lib.hid hx0; replace hx1 := Lib.hid hx1
      have hkb := hRR.out
      have e4 : IntKind.i64.wrap ((k : Int) + 1) = (k : Int) + 1 := iw ⟨by omega, by omega⟩
      clear CQ HA HN HT HB CT CU CL
      obtain ⟨c_s0, c_s1, c_s2, c_s3, c_s4, c_s5, f_s0, f_s1, f_s2, f_s3, f_s4, f_s5⟩ := reads6 r_s.out
      have l_s := r_s.out.lt
      go_wp2_with fail
      refine (CK.out _ h_v.out).mono ?_
      rintro e w4 ⟨rfl, hb⟩
      clear c_s0 c_s1 c_s2 c_s3 c_s4 c_s5 f_s0 f_s1 f_s2 f_s3 f_s4 f_s5 l_s
      replace r_s := Lib.hid (r_s.out.keep hb)
      replace h_v := Lib.hid (IS.below h_v.out hb)
      replace h_l := Lib.hid (PS.below h_l.out hb)
      replace hb0 := Lib.hid (below_next hb0.out hb)
      replace BB := Lib.hid (below_next BB.out hb)
      clear hb
      clear CK
      go_upto_region 14 with fail
      have d_q := Lib.hid (And.intro BB.out.size (And.intro r_s.out.lt (True.intro)))
      obtain ⟨hb, r_q⟩ := laid w4 #[.int .i64 (Nat.cast k), .int .i64 x0, .int .i64 x1] RST
      replace r_s := Lib.hid (r_s.out.keep hb)
      replace h_v := Lib.hid (IS.below h_v.out hb)
      replace h_l := Lib.hid (PS.below h_l.out hb)
      replace hb0 := Lib.hid (below_next hb0.out hb)
      replace BB := Lib.hid (below_next BB.out hb)
      replace r_q := Lib.hid r_q
      clear hb
      generalize w4.alloc (.cells #[.int .i64 (Nat.cast k), .int .i64 x0, .int .i64 x1] RST) = w5 at *
      generalize w4.heap.size = g_q at *
      by_cases hx : X0 < X1
      · obtain ⟨u1, u2, u3⟩ := hA.out hx
        have hKn := HSL.out k
        have hx0' := hx0.out
        have hx1' := hx1.out
        have hNN := hN.out
        have hK1 : ((T k).length : Int) < (N : Int) := by omega
        have hK2 : ¬ N ≤ (T k).length := by omega
        have hZ : cntK (T R) ((T k).length + 1) = cntK (T R) (T k).length + (x1 - x0) := by
          rw [show cntK (T R) ((T k).length + 1) = cntK (T R) (T k).length + max (((T R).getD (T k).length (0, 0, 0)).2.2 - ((T R).getD (T k).length (0, 0, 0)).2.1) 0 from rfl, u2]
          simp only
          omega
        have hcn' := hcn (by omega)
        have e5 : IntKind.i64.wrap (((T k).length : Int) + 1) = ((T k).length : Int) + 1 := iw ⟨by omega, by omega⟩
        have e6 : IntKind.i64.wrap (cntK (T R) (T k).length + x1) = cntK (T R) (T k).length + x1 := iw ⟨by omega, by omega⟩
        obtain ⟨Z, hZe⟩ : ∃ Z, Z = cntK (T R) (T (k + 1)).length := ⟨_, rfl⟩
        have e7 : IntKind.i64.wrap (cntK (T R) (T k).length + x1 - x0) = Z := by rw [hZe, u3, hZ]; rw [show cntK (T R) (T k).length + x1 - x0 = cntK (T R) (T k).length + (x1 - x0) by omega]; exact iw ⟨by omega, by omega⟩
        have hx1n : x1 ≠ 0 := by omega
        have e8 : (x1 == 0) = false := by simpa using hx1n
        obtain ⟨b, off, rfl, hbl2, q0, q1, q2⟩ := h_l.out.atk hN.out.symm u1
        rw [u2] at q0 q1 q2
        simp only [← hx0', ← hx1'] at q0 q1 q2
        replace hZe := Lib.hid hZe; replace u3 := Lib.hid u3
        clear hA hNo hT hcn hcn' hZ u2 hKn hx hx0' hx1' hNN
        generalize (T k).length = K at *
        generalize cntK (T R) K = c at *
        obtain ⟨c_q0, c_q1, c_q2, f_q0, f_q1, f_q2⟩ := reads3 r_q.out
        have l_q := r_q.out.lt
        go_wp2_with fail
        go_quiet (fail)
        have hb := below_drawn (Below.refl w5.heap.size w5) nq
        generalize w5.drewN nq = w6 at *
        clear c_q0 c_q1 c_q2 f_q0 f_q1 f_q2 l_q
        replace r_s := Lib.hid (r_s.out.keep hb)
        replace r_q := Lib.hid (r_q.out.keep hb)
        replace h_v := Lib.hid (IS.below h_v.out hb)
        replace h_l := Lib.hid (PS.below h_l.out hb)
        replace hb0 := Lib.hid (below_next hb0.out hb)
        replace BB := Lib.hid (below_next BB.out hb)
        clear hb nq
        clear q0 q1 q2 hbl2
        obtain ⟨c_q0, c_q1, c_q2, f_q0, f_q1, f_q2⟩ := reads3 r_q.out
        have l_q := r_q.out.lt
        go_wp2_with fail
        go_roundw
        case rel => exact ⟨k + 1, by omega, by rw [u3.out]; go_num, by rw [← hZe.out], by go_num, hb0.out⟩
        case measure => simp [intOf]; omega
      · have hz : x1 = 0 := by have := hT.out; have := hx1.out; omega
        subst hz
        have hst := Lib.hid (hNo.out hx)
        clear hA hNo hT hcn
        obtain ⟨c_q0, c_q1, c_q2, f_q0, f_q1, f_q2⟩ := reads3 r_q.out
        have l_q := r_q.out.lt
        go_wp2_with fail
        go_roundw
        case rel => exact ⟨k + 1, by omega, by rw [hst.out], by rw [hst.out], by go_num, hb0.out⟩
        case measure => simp [intOf]; omega
    · obtain rfl : k = R := by omega
      have hlt' : ¬ (k : Int) < rows := by have := hrw.out; omega
      rw [← hN.out]
      have hzz : I64 0 ∧ I64 5 ∧ I64 3 := by unfold I64; omega
      clear CQ HA HN HT HB HK HSL
      obtain ⟨c_s0, c_s1, c_s2, c_s3, c_s4, c_s5, f_s0, f_s1, f_s2, f_s3, f_s4, f_s5⟩ := reads6 r_s.out
      have l_s := r_s.out.lt
      generalize cntK (T k) N = c at *
      go_wp2_with fail
      refine (CT.out _ _ h_l.out).mono ?_
      rintro e w6 ⟨rfl, hb⟩
      clear c_s0 c_s1 c_s2 c_s3 c_s4 c_s5 f_s0 f_s1 f_s2 f_s3 f_s4 f_s5 l_s
      replace r_s := Lib.hid (r_s.out.keep hb)
      replace h_l := Lib.hid (PS.below h_l.out hb)
      replace BB := Lib.hid (below_next BB.out hb)
      clear hb
      go_wp2_with fail
      have d_z := Lib.hid (And.intro BB.out.size (And.intro r_s.out.lt (True.intro)))
      obtain ⟨hb, r_z⟩ := laid w6 #[.int .i64 0, .int .i64 5, .int .i64 3] SPT
      replace r_s := Lib.hid (r_s.out.keep hb)
      replace h_l := Lib.hid (PS.below h_l.out hb)
      replace BB := Lib.hid (below_next BB.out hb)
      replace r_z := Lib.hid r_z
      clear hb
      generalize w6.alloc (.cells #[.int .i64 0, .int .i64 5, .int .i64 3] SPT) = w7 at *
      generalize w6.heap.size = g_z at *
      refine (CU.out _ _ (at_span3 r_z.out hzz)).mono ?_
      rintro e w8 ⟨rfl, hb⟩
      replace r_s := Lib.hid (r_s.out.keep hb)
      replace r_z := Lib.hid (r_z.out.keep hb)
      replace h_l := Lib.hid (PS.below h_l.out hb)
      replace BB := Lib.hid (below_next BB.out hb)
      clear hb
      go_wp2_with fail
      refine (CL.out _).mono ?_
      rintro e w10 ⟨rfl, hb⟩
      replace r_s := Lib.hid (r_s.out.keep hb)
      replace r_z := Lib.hid (r_z.out.keep hb)
      replace h_l := Lib.hid (PS.below h_l.out hb)
      replace BB := Lib.hid (below_next BB.out hb)
      clear hb
      go_wp2_with fail
      go_ret
      exact ⟨rfl, BB.out⟩
theorem spanAll_any (v : Value) (zs : List Int) (W H tu rows x y : Int) (htu : I64 tu) (hrw : I64 rows) (w : World) (hv : IS w v zs) :
    Calls Try.prog 5 #[v, .agg #[.int .i64 W, .int .i64 H, .int .i64 tu, .int .i64 rows, .int .i64 x, .int .i64 y]] w fun e w' => e = .returned (.bool true) ∧ Below w.heap.size w w' := by
  by_cases ho : (zs.length : Int) > 60 ∨ (tu > 60 ∧ tu ≤ 32768) ∨ (rows > 60 ∧ rows ≤ 32768)
  · obtain ⟨A, cap, rfl⟩ := hv.form
    exact spanAll_out A _ cap W H tu rows x y ho w
  by_cases hC : spC zs W H tu rows = 0
  · obtain ⟨a0, -, -, t0, r0⟩ := spC_zero hC
    obtain ⟨c0, c1, c2, c3, c4, c5, rfl, hM⟩ := afC_zero a0
    obtain ⟨n, rfl⟩ : ∃ n : Nat, tu = n := ⟨tu.toNat, by omega⟩
    obtain ⟨R, rfl⟩ : ∃ n : Nat, rows = n := ⟨rows.toNat, by omega⟩
    exact spanAll_ok v c0 c1 c2 c3 c4 c5 W H x y n R hC hM (by omega) (by omega) w hv
  · exact spanAll_no v zs W H tu rows x y hC (by omega) (by omega) (by omega) w hv
end Go.Proofs.Ythdbchghhpoadaa
