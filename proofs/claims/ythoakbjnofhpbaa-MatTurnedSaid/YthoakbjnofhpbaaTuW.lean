/- law05.MatTurned, any two matrices. -/
import Derived.Test.YthoakbjnofhpbaaTu1
import Derived.Test.YthoakbjnofhpbaaMtL
set_option linter.unusedVariables false
set_option linter.unusedSimpArgs false
namespace Go.Proofs.Ythoakbjnofhpbaa
open Go.RowKit
set_option maxRecDepth 100000 in
set_option maxHeartbeats 8000000 in
theorem turned_no (m0 m1 m2 m3 m4 m5 m6 m7 m8 n0 n1 n2 n3 n4 n5 n6 n7 n8 : Int) (hz : ∀ z ∈ [m0, m1, m2, m3, m4, m5, m6, m7, m8], I64 z) (hf : [m0, m1, m2, m3, m4, m5, m6, m7, m8].any farM = true) (w : World) : Calls Try.prog 9 #[.agg #[.int .i64 m0, .int .i64 m1, .int .i64 m2, .int .i64 m3, .int .i64 m4, .int .i64 m5, .int .i64 m6, .int .i64 m7, .int .i64 m8], .agg #[.int .i64 n0, .int .i64 n1, .int .i64 n2, .int .i64 n3, .int .i64 n4, .int .i64 n5, .int .i64 n6, .int .i64 n7, .int .i64 n8]] w fun e w' => e = .returned (.bool true) ∧ Below w.heap.size w w' := by
  have CA := Lib.hid (fun w => madj_no m0 m1 m2 m3 m4 m5 m6 m7 m8 hz hf w)
  have CD := Lib.hid (fun w => mdet_no m0 m1 m2 m3 m4 m5 m6 m7 m8 hz hf w)
  have CV := Lib.hid (fun w => alive5_any w)
  clear hz hf
  go_enter Try.func9, Try.ntmps9
  go_upto_region 1 with fail
  have BB := start2 w #[.int .i64 m0, .int .i64 m1, .int .i64 m2, .int .i64 m3, .int .i64 m4, .int .i64 m5, .int .i64 m6, .int .i64 m7, .int .i64 m8] M9T #[.int .i64 n0, .int .i64 n1, .int .i64 n2, .int .i64 n3, .int .i64 n4, .int .i64 n5, .int .i64 n6, .int .i64 n7, .int .i64 n8] M9T
  obtain ⟨BB, hsz, r_m, r_n⟩ := BB
  generalize ((w.alloc (.cells #[.int .i64 m0, .int .i64 m1, .int .i64 m2, .int .i64 m3, .int .i64 m4, .int .i64 m5, .int .i64 m6, .int .i64 m7, .int .i64 m8] M9T)).alloc (.cells #[.int .i64 n0, .int .i64 n1, .int .i64 n2, .int .i64 n3, .int .i64 n4, .int .i64 n5, .int .i64 n6, .int .i64 n7, .int .i64 n8] M9T)) = w0 at *
  replace BB := Lib.hid BB
  replace r_m := Lib.hid r_m
  replace r_n := Lib.hid r_n
  clear hsz
  obtain ⟨c_m0, c_m1, c_m2, c_m3, c_m4, c_m5, c_m6, c_m7, c_m8, f_m0, f_m1, f_m2, f_m3, f_m4, f_m5, f_m6, f_m7, f_m8⟩ := reads9 r_m.out
  have l_m := r_m.out.lt
  go_wp2_with fail
  refine (CA.out _).mono ?_
  rintro e w1 ⟨rfl, hb⟩
  clear c_m0 c_m1 c_m2 c_m3 c_m4 c_m5 c_m6 c_m7 c_m8 f_m0 f_m1 f_m2 f_m3 f_m4 f_m5 f_m6 f_m7 f_m8 l_m
  replace r_m := Lib.hid (r_m.out.keep hb)
  replace r_n := Lib.hid (r_n.out.keep hb)
  replace BB := Lib.hid (below_next BB.out hb)
  clear hb
  obtain ⟨cs, hcs⟩ : ∃ cs, (#[.int .i64 0, .int .u64 0, .int .i64 0, .int .u64 0, .int .i64 0, .int .u64 0, .int .i64 0, .int .u64 0, .int .i64 0, .int .u64 0, .int .i64 0, .int .u64 0, .int .i64 0, .int .u64 0, .int .i64 0, .int .u64 0, .int .i64 0, .int .u64 0] : Array Value) = cs := ⟨_, rfl⟩
  have hcz : cs.size = 18 := by rw [← hcs]; rfl
  have hc1 : cs.all (·.oneCell') = true := by rw [← hcs]; kernel_rfl
  rw [hcs]
  replace hcs := Lib.hid hcs
  obtain ⟨ST1, ST2⟩ := wide_new w1 #[.int .i64 0, .int .u64 0, .int .i64 0, .int .u64 0, .int .i64 0, .int .u64 0, .int .i64 0, .int .u64 0, .int .i64 0, .int .u64 0, .int .i64 0, .int .u64 0, .int .i64 0, .int .u64 0, .int .i64 0, .int .u64 0, .int .i64 0, .int .u64 0] cs rfl hcz hc1
  go_upto_region 2 with fail
  clear ST1 ST2
  have d_a := Lib.hid (And.intro BB.out.size (And.intro r_m.out.lt (And.intro r_n.out.lt (True.intro))))
  obtain ⟨hb, r_a⟩ := laid w1 cs W9T
  replace r_m := Lib.hid (r_m.out.keep hb)
  replace r_n := Lib.hid (r_n.out.keep hb)
  replace BB := Lib.hid (below_next BB.out hb)
  replace r_a := Lib.hid r_a
  clear hb
  generalize w1.alloc (.cells cs W9T) = w2 at *
  generalize w1.heap.size = g_a at *
  obtain ⟨c_m0, c_m1, c_m2, c_m3, c_m4, c_m5, c_m6, c_m7, c_m8, f_m0, f_m1, f_m2, f_m3, f_m4, f_m5, f_m6, f_m7, f_m8⟩ := reads9 r_m.out
  have l_m := r_m.out.lt
  go_wp2_with fail
  refine (CD.out _).mono ?_
  rintro e w3 ⟨rfl, hb⟩
  clear c_m0 c_m1 c_m2 c_m3 c_m4 c_m5 c_m6 c_m7 c_m8 f_m0 f_m1 f_m2 f_m3 f_m4 f_m5 f_m6 f_m7 f_m8 l_m
  replace r_m := Lib.hid (r_m.out.keep hb)
  replace r_n := Lib.hid (r_n.out.keep hb)
  replace r_a := Lib.hid (r_a.out.keep hb)
  replace BB := Lib.hid (below_next BB.out hb)
  clear hb
  go_upto_region 3 with fail
  have d_d := Lib.hid (And.intro BB.out.size (And.intro r_m.out.lt (And.intro r_n.out.lt (And.intro r_a.out.lt (True.intro)))))
  obtain ⟨hb, r_d⟩ := laid w3 #[.int .i64 0, .int .u64 0] WT5
  replace r_m := Lib.hid (r_m.out.keep hb)
  replace r_n := Lib.hid (r_n.out.keep hb)
  replace r_a := Lib.hid (r_a.out.keep hb)
  replace BB := Lib.hid (below_next BB.out hb)
  replace r_d := Lib.hid r_d
  clear hb
  generalize w3.alloc (.cells #[.int .i64 0, .int .u64 0] WT5) = w4 at *
  generalize w3.heap.size = g_d at *
  go_wp2_with fail
  refine (CV.out _).mono ?_
  rintro e w5 ⟨rfl, hb⟩
  replace r_m := Lib.hid (r_m.out.keep hb)
  replace r_n := Lib.hid (r_n.out.keep hb)
  replace r_a := Lib.hid (r_a.out.keep hb)
  replace r_d := Lib.hid (r_d.out.keep hb)
  replace BB := Lib.hid (below_next BB.out hb)
  clear hb
  go_wp2_with fail
  go_ret
  exact ⟨rfl, BB.out⟩
theorem matTurned_any (m0 m1 m2 m3 m4 m5 m6 m7 m8 n0 n1 n2 n3 n4 n5 n6 n7 n8 : Int) (hz : ∀ z ∈ [m0, m1, m2, m3, m4, m5, m6, m7, m8], I64 z) (hz2 : ∀ z ∈ [n0, n1, n2, n3, n4, n5, n6, n7, n8], I64 z) (w : World) : Calls Try.prog 9 #[.agg #[.int .i64 m0, .int .i64 m1, .int .i64 m2, .int .i64 m3, .int .i64 m4, .int .i64 m5, .int .i64 m6, .int .i64 m7, .int .i64 m8], .agg #[.int .i64 n0, .int .i64 n1, .int .i64 n2, .int .i64 n3, .int .i64 n4, .int .i64 n5, .int .i64 n6, .int .i64 n7, .int .i64 n8]] w fun e w' => e = .returned (.bool true) ∧ Below w.heap.size w w' := by
  cases h : [m0, m1, m2, m3, m4, m5, m6, m7, m8].any farM
  · exact turned_ok m0 m1 m2 m3 m4 m5 m6 m7 m8 n0 n1 n2 n3 n4 n5 n6 n7 n8 hz hz2 h w
  · exact turned_no m0 m1 m2 m3 m4 m5 m6 m7 m8 n0 n1 n2 n3 n4 n5 n6 n7 n8 hz h w
end Go.Proofs.Ythoakbjnofhpbaa
