/- Contract of mat.Mul. -/
import Derived.Test.YthoakbjnofhpbaaMs0
set_option linter.unusedVariables false
set_option linter.unusedSimpArgs false
namespace Go.Proofs.Ythoakbjnofhpbaa
open Go.RowKit
def mulF (ms ns : List Int) (i : Nat) : Int := mAt ms (i / 3) 0 * mAt ns 0 (i % 3) + mAt ms (i / 3) 1 * mAt ns 1 (i % 3) + mAt ms (i / 3) 2 * mAt ns 2 (i % 3)
set_option maxRecDepth 100000 in
set_option maxHeartbeats 8000000 in
theorem mmul_no1 (m0 m1 m2 m3 m4 m5 m6 m7 m8 n0 n1 n2 n3 n4 n5 n6 n7 n8 : Int) (hz : ∀ z ∈ [m0, m1, m2, m3, m4, m5, m6, m7, m8], I64 z) (hf : [m0, m1, m2, m3, m4, m5, m6, m7, m8].any farM = true) (w : World) : Calls Try.prog 41 #[.agg #[.int .i64 m0, .int .i64 m1, .int .i64 m2, .int .i64 m3, .int .i64 m4, .int .i64 m5, .int .i64 m6, .int .i64 m7, .int .i64 m8], .agg #[.int .i64 n0, .int .i64 n1, .int .i64 n2, .int .i64 n3, .int .i64 n4, .int .i64 n5, .int .i64 n6, .int .i64 n7, .int .i64 n8]] w fun e w' => e = .returned (.tuple #[.agg #[.int .i64 0, .int .u64 0, .int .i64 0, .int .u64 0, .int .i64 0, .int .u64 0, .int .i64 0, .int .u64 0, .int .i64 0, .int .u64 0, .int .i64 0, .int .u64 0, .int .i64 0, .int .u64 0, .int .i64 0, .int .u64 0, .int .i64 0, .int .u64 0], .int .i64 11]) ∧ Below w.heap.size w w' := by
  have CR := Lib.hid (fun w => mright m0 m1 m2 m3 m4 m5 m6 m7 m8 hz w)
  rw [hf] at CR
  clear hz hf
  go_enter Try.func41, Try.ntmps41
  go_wp2_with fail
  have BB := start3 w #[.int .i64 m0, .int .i64 m1, .int .i64 m2, .int .i64 m3, .int .i64 m4, .int .i64 m5, .int .i64 m6, .int .i64 m7, .int .i64 m8] M9T #[.int .i64 n0, .int .i64 n1, .int .i64 n2, .int .i64 n3, .int .i64 n4, .int .i64 n5, .int .i64 n6, .int .i64 n7, .int .i64 n8] M9T #[.int .i64 0, .int .u64 0, .int .i64 0, .int .u64 0, .int .i64 0, .int .u64 0, .int .i64 0, .int .u64 0, .int .i64 0, .int .u64 0, .int .i64 0, .int .u64 0, .int .i64 0, .int .u64 0, .int .i64 0, .int .u64 0, .int .i64 0, .int .u64 0] W9T
  obtain ⟨BB, hsz, r_m, r_n, r_res⟩ := BB
  generalize (((w.alloc (.cells #[.int .i64 m0, .int .i64 m1, .int .i64 m2, .int .i64 m3, .int .i64 m4, .int .i64 m5, .int .i64 m6, .int .i64 m7, .int .i64 m8] M9T)).alloc (.cells #[.int .i64 n0, .int .i64 n1, .int .i64 n2, .int .i64 n3, .int .i64 n4, .int .i64 n5, .int .i64 n6, .int .i64 n7, .int .i64 n8] M9T)).alloc (.cells #[.int .i64 0, .int .u64 0, .int .i64 0, .int .u64 0, .int .i64 0, .int .u64 0, .int .i64 0, .int .u64 0, .int .i64 0, .int .u64 0, .int .i64 0, .int .u64 0, .int .i64 0, .int .u64 0, .int .i64 0, .int .u64 0, .int .i64 0, .int .u64 0] W9T)) = w0 at *
  replace BB := Lib.hid BB
  replace r_m := Lib.hid r_m
  replace r_n := Lib.hid r_n
  replace r_res := Lib.hid r_res
  clear hsz
  obtain ⟨c_m0, c_m1, c_m2, c_m3, c_m4, c_m5, c_m6, c_m7, c_m8, f_m0, f_m1, f_m2, f_m3, f_m4, f_m5, f_m6, f_m7, f_m8⟩ := reads9 r_m.out
  have l_m := r_m.out.lt
  obtain ⟨c_n0, c_n1, c_n2, c_n3, c_n4, c_n5, c_n6, c_n7, c_n8, f_n0, f_n1, f_n2, f_n3, f_n4, f_n5, f_n6, f_n7, f_n8⟩ := reads9 r_n.out
  have l_n := r_n.out.lt
  go_wp2_with fail
  refine (CR.out _).mono ?_
  rintro e w1 ⟨rfl, hb⟩
  clear c_m0 c_m1 c_m2 c_m3 c_m4 c_m5 c_m6 c_m7 c_m8 f_m0 f_m1 f_m2 f_m3 f_m4 f_m5 f_m6 f_m7 f_m8 l_m c_n0 c_n1 c_n2 c_n3 c_n4 c_n5 c_n6 c_n7 c_n8 f_n0 f_n1 f_n2 f_n3 f_n4 f_n5 f_n6 f_n7 f_n8 l_n
  replace r_m := Lib.hid (r_m.out.keep hb)
  replace r_n := Lib.hid (r_n.out.keep hb)
  replace r_res := Lib.hid (r_res.out.keep hb)
  replace BB := Lib.hid (below_next BB.out hb)
  clear hb
  go_upto_region 2 with fail
  refine wp_region_lit ?_
  refine wpList_build0 rfl W9T rfl #[.int .i64 0, .int .u64 0, .int .i64 0, .int .u64 0, .int .i64 0, .int .u64 0, .int .i64 0, .int .u64 0, .int .i64 0, .int .u64 0, .int .i64 0, .int .u64 0, .int .i64 0, .int .u64 0, .int .i64 0, .int .u64 0, .int .i64 0, .int .u64 0] adj_built ?_
  refine wpList_store_row rfl W9T (.tmp 4) (.tmp 16) rfl (w.heap.size + 2) #[.int .i64 0, .int .u64 0, .int .i64 0, .int .u64 0, .int .i64 0, .int .u64 0, .int .i64 0, .int .u64 0, .int .i64 0, .int .u64 0, .int .i64 0, .int .u64 0, .int .i64 0, .int .u64 0, .int .i64 0, .int .u64 0, .int .i64 0, .int .u64 0] rfl rfl W9T _ r_res.out (by kernel_rfl) rfl (by kernel_rfl) ?_
  have R1 := setRow_heap w1 (w.heap.size + 2) _ #[.int .i64 0, .int .u64 0, .int .i64 0, .int .u64 0, .int .i64 0, .int .u64 0, .int .i64 0, .int .u64 0, .int .i64 0, .int .u64 0, .int .i64 0, .int .u64 0, .int .i64 0, .int .u64 0, .int .i64 0, .int .u64 0, .int .i64 0, .int .u64 0] W9T (0, 0) r_res.out
  have HB := Lib.hid (below_setRow BB.out (show w.heap.size ≤ w.heap.size + 2 by omega) #[.int .i64 0, .int .u64 0, .int .i64 0, .int .u64 0, .int .i64 0, .int .u64 0, .int .i64 0, .int .u64 0, .int .i64 0, .int .u64 0, .int .i64 0, .int .u64 0, .int .i64 0, .int .u64 0, .int .i64 0, .int .u64 0, .int .i64 0, .int .u64 0])
  clear r_res BB
  generalize w1.setRow (w.heap.size + 2) #[.int .i64 0, .int .u64 0, .int .i64 0, .int .u64 0, .int .i64 0, .int .u64 0, .int .i64 0, .int .u64 0, .int .i64 0, .int .u64 0, .int .i64 0, .int .u64 0, .int .i64 0, .int .u64 0, .int .i64 0, .int .u64 0, .int .i64 0, .int .u64 0] = w99 at *
  go_wp2_with fail
  have R2 := reads18 (show AtB w99 (w.heap.size + 2) #[.int .i64 0, .int .u64 0, .int .i64 0, .int .u64 0, .int .i64 0, .int .u64 0, .int .i64 0, .int .u64 0, .int .i64 0, .int .u64 0, .int .i64 0, .int .u64 0, .int .i64 0, .int .u64 0, .int .i64 0, .int .u64 0, .int .i64 0, .int .u64 0] W9T from R1)
  refine bodyPost_ret (v := .tuple #[.agg #[.int .i64 0, .int .u64 0, .int .i64 0, .int .u64 0, .int .i64 0, .int .u64 0, .int .i64 0, .int .u64 0, .int .i64 0, .int .u64 0, .int .i64 0, .int .u64 0, .int .i64 0, .int .u64 0, .int .i64 0, .int .u64 0, .int .i64 0, .int .u64 0], .int .i64 11]) (by unfold results; simp only [Try.results41]; go_simp) rfl ⟨rfl, HB.out⟩
set_option maxRecDepth 100000 in
set_option maxHeartbeats 8000000 in
theorem mmul_no2 (m0 m1 m2 m3 m4 m5 m6 m7 m8 n0 n1 n2 n3 n4 n5 n6 n7 n8 : Int) (hz : ∀ z ∈ [m0, m1, m2, m3, m4, m5, m6, m7, m8], I64 z) (hz' : ∀ z ∈ [n0, n1, n2, n3, n4, n5, n6, n7, n8], I64 z) (hf : [m0, m1, m2, m3, m4, m5, m6, m7, m8].any farM = false) (hf' : [n0, n1, n2, n3, n4, n5, n6, n7, n8].any farM = true) (w : World) : Calls Try.prog 41 #[.agg #[.int .i64 m0, .int .i64 m1, .int .i64 m2, .int .i64 m3, .int .i64 m4, .int .i64 m5, .int .i64 m6, .int .i64 m7, .int .i64 m8], .agg #[.int .i64 n0, .int .i64 n1, .int .i64 n2, .int .i64 n3, .int .i64 n4, .int .i64 n5, .int .i64 n6, .int .i64 n7, .int .i64 n8]] w fun e w' => e = .returned (.tuple #[.agg #[.int .i64 0, .int .u64 0, .int .i64 0, .int .u64 0, .int .i64 0, .int .u64 0, .int .i64 0, .int .u64 0, .int .i64 0, .int .u64 0, .int .i64 0, .int .u64 0, .int .i64 0, .int .u64 0, .int .i64 0, .int .u64 0, .int .i64 0, .int .u64 0], .int .i64 11]) ∧ Below w.heap.size w w' := by
  have CR := Lib.hid (fun w => mright m0 m1 m2 m3 m4 m5 m6 m7 m8 hz w)
  have CS := Lib.hid (fun w => mright n0 n1 n2 n3 n4 n5 n6 n7 n8 hz' w)
  rw [hf] at CR
  rw [hf'] at CS
  clear hz hz' hf hf'
  go_enter Try.func41, Try.ntmps41
  go_wp2_with fail
  have BB := start3 w #[.int .i64 m0, .int .i64 m1, .int .i64 m2, .int .i64 m3, .int .i64 m4, .int .i64 m5, .int .i64 m6, .int .i64 m7, .int .i64 m8] M9T #[.int .i64 n0, .int .i64 n1, .int .i64 n2, .int .i64 n3, .int .i64 n4, .int .i64 n5, .int .i64 n6, .int .i64 n7, .int .i64 n8] M9T #[.int .i64 0, .int .u64 0, .int .i64 0, .int .u64 0, .int .i64 0, .int .u64 0, .int .i64 0, .int .u64 0, .int .i64 0, .int .u64 0, .int .i64 0, .int .u64 0, .int .i64 0, .int .u64 0, .int .i64 0, .int .u64 0, .int .i64 0, .int .u64 0] W9T
  obtain ⟨BB, hsz, r_m, r_n, r_res⟩ := BB
  generalize (((w.alloc (.cells #[.int .i64 m0, .int .i64 m1, .int .i64 m2, .int .i64 m3, .int .i64 m4, .int .i64 m5, .int .i64 m6, .int .i64 m7, .int .i64 m8] M9T)).alloc (.cells #[.int .i64 n0, .int .i64 n1, .int .i64 n2, .int .i64 n3, .int .i64 n4, .int .i64 n5, .int .i64 n6, .int .i64 n7, .int .i64 n8] M9T)).alloc (.cells #[.int .i64 0, .int .u64 0, .int .i64 0, .int .u64 0, .int .i64 0, .int .u64 0, .int .i64 0, .int .u64 0, .int .i64 0, .int .u64 0, .int .i64 0, .int .u64 0, .int .i64 0, .int .u64 0, .int .i64 0, .int .u64 0, .int .i64 0, .int .u64 0] W9T)) = w0 at *
  replace BB := Lib.hid BB
  replace r_m := Lib.hid r_m
  replace r_n := Lib.hid r_n
  replace r_res := Lib.hid r_res
  clear hsz
  obtain ⟨c_m0, c_m1, c_m2, c_m3, c_m4, c_m5, c_m6, c_m7, c_m8, f_m0, f_m1, f_m2, f_m3, f_m4, f_m5, f_m6, f_m7, f_m8⟩ := reads9 r_m.out
  have l_m := r_m.out.lt
  obtain ⟨c_n0, c_n1, c_n2, c_n3, c_n4, c_n5, c_n6, c_n7, c_n8, f_n0, f_n1, f_n2, f_n3, f_n4, f_n5, f_n6, f_n7, f_n8⟩ := reads9 r_n.out
  have l_n := r_n.out.lt
  go_wp2_with fail
  refine (CR.out _).mono ?_
  rintro e w1 ⟨rfl, hb⟩
  clear c_m0 c_m1 c_m2 c_m3 c_m4 c_m5 c_m6 c_m7 c_m8 f_m0 f_m1 f_m2 f_m3 f_m4 f_m5 f_m6 f_m7 f_m8 l_m c_n0 c_n1 c_n2 c_n3 c_n4 c_n5 c_n6 c_n7 c_n8 f_n0 f_n1 f_n2 f_n3 f_n4 f_n5 f_n6 f_n7 f_n8 l_n
  replace r_m := Lib.hid (r_m.out.keep hb)
  replace r_n := Lib.hid (r_n.out.keep hb)
  replace r_res := Lib.hid (r_res.out.keep hb)
  replace BB := Lib.hid (below_next BB.out hb)
  clear hb
  obtain ⟨c_m0, c_m1, c_m2, c_m3, c_m4, c_m5, c_m6, c_m7, c_m8, f_m0, f_m1, f_m2, f_m3, f_m4, f_m5, f_m6, f_m7, f_m8⟩ := reads9 r_m.out
  have l_m := r_m.out.lt
  obtain ⟨c_n0, c_n1, c_n2, c_n3, c_n4, c_n5, c_n6, c_n7, c_n8, f_n0, f_n1, f_n2, f_n3, f_n4, f_n5, f_n6, f_n7, f_n8⟩ := reads9 r_n.out
  have l_n := r_n.out.lt
  go_wp2_with fail
  refine (CS.out _).mono ?_
  rintro e w2 ⟨rfl, hb⟩
  clear c_m0 c_m1 c_m2 c_m3 c_m4 c_m5 c_m6 c_m7 c_m8 f_m0 f_m1 f_m2 f_m3 f_m4 f_m5 f_m6 f_m7 f_m8 l_m c_n0 c_n1 c_n2 c_n3 c_n4 c_n5 c_n6 c_n7 c_n8 f_n0 f_n1 f_n2 f_n3 f_n4 f_n5 f_n6 f_n7 f_n8 l_n
  replace r_m := Lib.hid (r_m.out.keep hb)
  replace r_n := Lib.hid (r_n.out.keep hb)
  replace r_res := Lib.hid (r_res.out.keep hb)
  replace BB := Lib.hid (below_next BB.out hb)
  clear hb
  go_upto_region 2 with fail
  refine wp_region_lit ?_
  refine wpList_build0 rfl W9T rfl #[.int .i64 0, .int .u64 0, .int .i64 0, .int .u64 0, .int .i64 0, .int .u64 0, .int .i64 0, .int .u64 0, .int .i64 0, .int .u64 0, .int .i64 0, .int .u64 0, .int .i64 0, .int .u64 0, .int .i64 0, .int .u64 0, .int .i64 0, .int .u64 0] adj_built ?_
  refine wpList_store_row rfl W9T (.tmp 4) (.tmp 16) rfl (w.heap.size + 2) #[.int .i64 0, .int .u64 0, .int .i64 0, .int .u64 0, .int .i64 0, .int .u64 0, .int .i64 0, .int .u64 0, .int .i64 0, .int .u64 0, .int .i64 0, .int .u64 0, .int .i64 0, .int .u64 0, .int .i64 0, .int .u64 0, .int .i64 0, .int .u64 0] rfl rfl W9T _ r_res.out (by kernel_rfl) rfl (by kernel_rfl) ?_
  have R1 := setRow_heap w2 (w.heap.size + 2) _ #[.int .i64 0, .int .u64 0, .int .i64 0, .int .u64 0, .int .i64 0, .int .u64 0, .int .i64 0, .int .u64 0, .int .i64 0, .int .u64 0, .int .i64 0, .int .u64 0, .int .i64 0, .int .u64 0, .int .i64 0, .int .u64 0, .int .i64 0, .int .u64 0] W9T (0, 0) r_res.out
  have HB := Lib.hid (below_setRow BB.out (show w.heap.size ≤ w.heap.size + 2 by omega) #[.int .i64 0, .int .u64 0, .int .i64 0, .int .u64 0, .int .i64 0, .int .u64 0, .int .i64 0, .int .u64 0, .int .i64 0, .int .u64 0, .int .i64 0, .int .u64 0, .int .i64 0, .int .u64 0, .int .i64 0, .int .u64 0, .int .i64 0, .int .u64 0])
  clear r_res BB
  generalize w2.setRow (w.heap.size + 2) #[.int .i64 0, .int .u64 0, .int .i64 0, .int .u64 0, .int .i64 0, .int .u64 0, .int .i64 0, .int .u64 0, .int .i64 0, .int .u64 0, .int .i64 0, .int .u64 0, .int .i64 0, .int .u64 0, .int .i64 0, .int .u64 0, .int .i64 0, .int .u64 0] = w99 at *
  go_wp2_with fail
  have R2 := reads18 (show AtB w99 (w.heap.size + 2) #[.int .i64 0, .int .u64 0, .int .i64 0, .int .u64 0, .int .i64 0, .int .u64 0, .int .i64 0, .int .u64 0, .int .i64 0, .int .u64 0, .int .i64 0, .int .u64 0, .int .i64 0, .int .u64 0, .int .i64 0, .int .u64 0, .int .i64 0, .int .u64 0] W9T from R1)
  refine bodyPost_ret (v := .tuple #[.agg #[.int .i64 0, .int .u64 0, .int .i64 0, .int .u64 0, .int .i64 0, .int .u64 0, .int .i64 0, .int .u64 0, .int .i64 0, .int .u64 0, .int .i64 0, .int .u64 0, .int .i64 0, .int .u64 0, .int .i64 0, .int .u64 0, .int .i64 0, .int .u64 0], .int .i64 11]) (by unfold results; simp only [Try.results41]; go_simp) rfl ⟨rfl, HB.out⟩
theorem mmul_no (m0 m1 m2 m3 m4 m5 m6 m7 m8 n0 n1 n2 n3 n4 n5 n6 n7 n8 : Int) (hz : ∀ z ∈ [m0, m1, m2, m3, m4, m5, m6, m7, m8], I64 z) (hz' : ∀ z ∈ [n0, n1, n2, n3, n4, n5, n6, n7, n8], I64 z) (hf : ([m0, m1, m2, m3, m4, m5, m6, m7, m8].any farM || [n0, n1, n2, n3, n4, n5, n6, n7, n8].any farM) = true) (w : World) : Calls Try.prog 41 #[.agg #[.int .i64 m0, .int .i64 m1, .int .i64 m2, .int .i64 m3, .int .i64 m4, .int .i64 m5, .int .i64 m6, .int .i64 m7, .int .i64 m8], .agg #[.int .i64 n0, .int .i64 n1, .int .i64 n2, .int .i64 n3, .int .i64 n4, .int .i64 n5, .int .i64 n6, .int .i64 n7, .int .i64 n8]] w fun e w' => e = .returned (.tuple #[.agg #[.int .i64 0, .int .u64 0, .int .i64 0, .int .u64 0, .int .i64 0, .int .u64 0, .int .i64 0, .int .u64 0, .int .i64 0, .int .u64 0, .int .i64 0, .int .u64 0, .int .i64 0, .int .u64 0, .int .i64 0, .int .u64 0, .int .i64 0, .int .u64 0], .int .i64 11]) ∧ Below w.heap.size w w' := by
  cases h : [m0, m1, m2, m3, m4, m5, m6, m7, m8].any farM
  · rw [h, Bool.false_or] at hf
    exact mmul_no2 m0 m1 m2 m3 m4 m5 m6 m7 m8 n0 n1 n2 n3 n4 n5 n6 n7 n8 hz hz' h hf w
  · exact mmul_no1 m0 m1 m2 m3 m4 m5 m6 m7 m8 n0 n1 n2 n3 n4 n5 n6 n7 n8 hz h w
set_option maxRecDepth 100000 in
set_option maxHeartbeats 16000000 in
theorem mmul_ok (m0 m1 m2 m3 m4 m5 m6 m7 m8 n0 n1 n2 n3 n4 n5 n6 n7 n8 : Int) (hz : ∀ z ∈ [m0, m1, m2, m3, m4, m5, m6, m7, m8], I32s z) (hz' : ∀ z ∈ [n0, n1, n2, n3, n4, n5, n6, n7, n8], I32s z) (w : World) : Calls Try.prog 41 #[.agg #[.int .i64 m0, .int .i64 m1, .int .i64 m2, .int .i64 m3, .int .i64 m4, .int .i64 m5, .int .i64 m6, .int .i64 m7, .int .i64 m8], .agg #[.int .i64 n0, .int .i64 n1, .int .i64 n2, .int .i64 n3, .int .i64 n4, .int .i64 n5, .int .i64 n6, .int .i64 n7, .int .i64 n8]] w (GiveWide9 (mulF [m0, m1, m2, m3, m4, m5, m6, m7, m8] [n0, n1, n2, n3, n4, n5, n6, n7, n8]) w) := by
  have CR := Lib.hid (fun w => mright m0 m1 m2 m3 m4 m5 m6 m7 m8 (fun z h => by have := hz z h; unfold I32s at this; unfold I64; omega) w)
  have CS := Lib.hid (fun w => mright n0 n1 n2 n3 n4 n5 n6 n7 n8 (fun z h => by have := hz' z h; unfold I32s at this; unfold I64; omega) w)
  have hf : [m0, m1, m2, m3, m4, m5, m6, m7, m8].any farM = false := by
    rw [List.any_eq_false]
    intro z h
    rw [farM_iff.2 (hz z h)]; simp
  have hf' : [n0, n1, n2, n3, n4, n5, n6, n7, n8].any farM = false := by
    rw [List.any_eq_false]
    intro z h
    rw [farM_iff.2 (hz' z h)]; simp
  rw [hf] at CR
  rw [hf'] at CS
  have CA := Lib.hid (fun (i : Nat) (hi : i < 9) w => mrow m0 m1 m2 m3 m4 m5 m6 m7 m8 (i / 3) (by omega) w)
  have CB := Lib.hid (fun (i : Nat) (hi : i < 9) w => mcol n0 n1 n2 n3 n4 n5 n6 n7 n8 (i % 3) (by omega) w)
  have CC : Hid (∀ (i : Nat) (hi : i < 9) w, Calls Try.prog 96 #[.agg #[.int .i64 (mAt [m0, m1, m2, m3, m4, m5, m6, m7, m8] (i / 3) 0), .int .i64 (mAt [m0, m1, m2, m3, m4, m5, m6, m7, m8] (i / 3) 1), .int .i64 (mAt [m0, m1, m2, m3, m4, m5, m6, m7, m8] (i / 3) 2)], .agg #[.int .i64 (mAt [n0, n1, n2, n3, n4, n5, n6, n7, n8] 0 (i % 3)), .int .i64 (mAt [n0, n1, n2, n3, n4, n5, n6, n7, n8] 1 (i % 3)), .int .i64 (mAt [n0, n1, n2, n3, n4, n5, n6, n7, n8] 2 (i % 3))]] w (GiveW (mulF [m0, m1, m2, m3, m4, m5, m6, m7, m8] [n0, n1, n2, n3, n4, n5, n6, n7, n8] i) w)) := fun i hi w => msum _ _ _ _ _ _ (mAt_in hz _ _) (mAt_in hz _ _) (mAt_in hz _ _) (mAt_in hz' _ _) (mAt_in hz' _ _) (mAt_in hz' _ _) w
  generalize mulF [m0, m1, m2, m3, m4, m5, m6, m7, m8] [n0, n1, n2, n3, n4, n5, n6, n7, n8] = F at *
  clear hz hf hz' hf'
  go_enter Try.func41, Try.ntmps41
  go_wp2_with fail
  have BB := start3 w #[.int .i64 m0, .int .i64 m1, .int .i64 m2, .int .i64 m3, .int .i64 m4, .int .i64 m5, .int .i64 m6, .int .i64 m7, .int .i64 m8] M9T #[.int .i64 n0, .int .i64 n1, .int .i64 n2, .int .i64 n3, .int .i64 n4, .int .i64 n5, .int .i64 n6, .int .i64 n7, .int .i64 n8] M9T #[.int .i64 0, .int .u64 0, .int .i64 0, .int .u64 0, .int .i64 0, .int .u64 0, .int .i64 0, .int .u64 0, .int .i64 0, .int .u64 0, .int .i64 0, .int .u64 0, .int .i64 0, .int .u64 0, .int .i64 0, .int .u64 0, .int .i64 0, .int .u64 0] W9T
  obtain ⟨BB, hsz, r_m, r_n, r_res⟩ := BB
  generalize (((w.alloc (.cells #[.int .i64 m0, .int .i64 m1, .int .i64 m2, .int .i64 m3, .int .i64 m4, .int .i64 m5, .int .i64 m6, .int .i64 m7, .int .i64 m8] M9T)).alloc (.cells #[.int .i64 n0, .int .i64 n1, .int .i64 n2, .int .i64 n3, .int .i64 n4, .int .i64 n5, .int .i64 n6, .int .i64 n7, .int .i64 n8] M9T)).alloc (.cells #[.int .i64 0, .int .u64 0, .int .i64 0, .int .u64 0, .int .i64 0, .int .u64 0, .int .i64 0, .int .u64 0, .int .i64 0, .int .u64 0, .int .i64 0, .int .u64 0, .int .i64 0, .int .u64 0, .int .i64 0, .int .u64 0, .int .i64 0, .int .u64 0] W9T)) = w0 at *
  replace BB := Lib.hid BB
  replace r_m := Lib.hid r_m
  replace r_n := Lib.hid r_n
  replace r_res := Lib.hid r_res
  clear hsz
  obtain ⟨c_m0, c_m1, c_m2, c_m3, c_m4, c_m5, c_m6, c_m7, c_m8, f_m0, f_m1, f_m2, f_m3, f_m4, f_m5, f_m6, f_m7, f_m8⟩ := reads9 r_m.out
  have l_m := r_m.out.lt
  obtain ⟨c_n0, c_n1, c_n2, c_n3, c_n4, c_n5, c_n6, c_n7, c_n8, f_n0, f_n1, f_n2, f_n3, f_n4, f_n5, f_n6, f_n7, f_n8⟩ := reads9 r_n.out
  have l_n := r_n.out.lt
  go_wp2_with fail
  refine (CR.out _).mono ?_
  rintro e w1 ⟨rfl, hb⟩
  clear c_m0 c_m1 c_m2 c_m3 c_m4 c_m5 c_m6 c_m7 c_m8 f_m0 f_m1 f_m2 f_m3 f_m4 f_m5 f_m6 f_m7 f_m8 l_m c_n0 c_n1 c_n2 c_n3 c_n4 c_n5 c_n6 c_n7 c_n8 f_n0 f_n1 f_n2 f_n3 f_n4 f_n5 f_n6 f_n7 f_n8 l_n
  replace r_m := Lib.hid (r_m.out.keep hb)
  replace r_n := Lib.hid (r_n.out.keep hb)
  replace r_res := Lib.hid (r_res.out.keep hb)
  replace BB := Lib.hid (below_next BB.out hb)
  clear hb
  obtain ⟨c_m0, c_m1, c_m2, c_m3, c_m4, c_m5, c_m6, c_m7, c_m8, f_m0, f_m1, f_m2, f_m3, f_m4, f_m5, f_m6, f_m7, f_m8⟩ := reads9 r_m.out
  have l_m := r_m.out.lt
  obtain ⟨c_n0, c_n1, c_n2, c_n3, c_n4, c_n5, c_n6, c_n7, c_n8, f_n0, f_n1, f_n2, f_n3, f_n4, f_n5, f_n6, f_n7, f_n8⟩ := reads9 r_n.out
  have l_n := r_n.out.lt
  go_wp2_with fail
  refine (CS.out _).mono ?_
  rintro e w2 ⟨rfl, hb⟩
  clear c_m0 c_m1 c_m2 c_m3 c_m4 c_m5 c_m6 c_m7 c_m8 f_m0 f_m1 f_m2 f_m3 f_m4 f_m5 f_m6 f_m7 f_m8 l_m c_n0 c_n1 c_n2 c_n3 c_n4 c_n5 c_n6 c_n7 c_n8 f_n0 f_n1 f_n2 f_n3 f_n4 f_n5 f_n6 f_n7 f_n8 l_n
  replace r_m := Lib.hid (r_m.out.keep hb)
  replace r_n := Lib.hid (r_n.out.keep hb)
  replace r_res := Lib.hid (r_res.out.keep hb)
  replace BB := Lib.hid (below_next BB.out hb)
  clear hb
  obtain ⟨c_m0, c_m1, c_m2, c_m3, c_m4, c_m5, c_m6, c_m7, c_m8, f_m0, f_m1, f_m2, f_m3, f_m4, f_m5, f_m6, f_m7, f_m8⟩ := reads9 r_m.out
  have l_m := r_m.out.lt
  obtain ⟨c_n0, c_n1, c_n2, c_n3, c_n4, c_n5, c_n6, c_n7, c_n8, f_n0, f_n1, f_n2, f_n3, f_n4, f_n5, f_n6, f_n7, f_n8⟩ := reads9 r_n.out
  have l_n := r_n.out.lt
  go_wp2_with fail
  clear c_m0 c_m1 c_m2 c_m3 c_m4 c_m5 c_m6 c_m7 c_m8 f_m0 f_m1 f_m2 f_m3 f_m4 f_m5 f_m6 f_m7 f_m8 l_m c_n0 c_n1 c_n2 c_n3 c_n4 c_n5 c_n6 c_n7 c_n8 f_n0 f_n1 f_n2 f_n3 f_n4 f_n5 f_n6 f_n7 f_n8 l_n
  have d_a := Lib.hid (And.intro BB.out.size (And.intro r_m.out.lt (And.intro r_n.out.lt (And.intro r_res.out.lt (True.intro)))))
  obtain ⟨hb, r_a⟩ := laid w2 #[.int .i64 0, .int .u64 0, .int .i64 0, .int .u64 0, .int .i64 0, .int .u64 0, .int .i64 0, .int .u64 0, .int .i64 0, .int .u64 0, .int .i64 0, .int .u64 0, .int .i64 0, .int .u64 0, .int .i64 0, .int .u64 0, .int .i64 0, .int .u64 0] W9T
  replace r_m := Lib.hid (r_m.out.keep hb)
  replace r_n := Lib.hid (r_n.out.keep hb)
  replace r_res := Lib.hid (r_res.out.keep hb)
  replace BB := Lib.hid (below_next BB.out hb)
  replace r_a := Lib.hid r_a
  clear hb
  generalize w2.alloc (.cells #[.int .i64 0, .int .u64 0, .int .i64 0, .int .u64 0, .int .i64 0, .int .u64 0, .int .i64 0, .int .u64 0, .int .i64 0, .int .u64 0, .int .i64 0, .int .u64 0, .int .i64 0, .int .u64 0, .int .i64 0, .int .u64 0, .int .i64 0, .int .u64 0] W9T) = w3 at *
  generalize w2.heap.size = g_a at *
  have h_a := Lib.hid (show WideR w3 g_a [] F from ⟨r_a.out, by simp, fun i hi => absurd hi (by simp)⟩)
  clear r_a
  go_loopw [7, 17] (fun _ i wr => ∃ S : List (Int × Int), i = .int .i64 S.length ∧ Hid (WideR wr g_a S F ∧ AtB wr (w.heap.size + 2) #[.int .i64 0, .int .u64 0, .int .i64 0, .int .u64 0, .int .i64 0, .int .u64 0, .int .i64 0, .int .u64 0, .int .i64 0, .int .u64 0, .int .i64 0, .int .u64 0, .int .i64 0, .int .u64 0, .int .i64 0, .int .u64 0, .int .i64 0, .int .u64 0] W9T ∧ AtB wr w.heap.size #[.int .i64 m0, .int .i64 m1, .int .i64 m2, .int .i64 m3, .int .i64 m4, .int .i64 m5, .int .i64 m6, .int .i64 m7, .int .i64 m8] M9T ∧ AtB wr (w.heap.size + 1) #[.int .i64 n0, .int .i64 n1, .int .i64 n2, .int .i64 n3, .int .i64 n4, .int .i64 n5, .int .i64 n6, .int .i64 n7, .int .i64 n8] M9T ∧ Below w.heap.size w wr)) (fun _ i _ => 9 - (intOf i).toNat)
  case atStart => exact ⟨[], rfl, ⟨h_a.out, r_res.out, r_m.out, r_n.out, BB.out⟩⟩
  case round =>
    clear h_a r_res r_m r_n BB
    obtain ⟨S, rfl, hinv⟩ := hrel
    obtain ⟨h_a, r_res, r_m, r_n, BB⟩ := hinv.out
    replace h_a := Lib.hid h_a; replace r_res := Lib.hid r_res; replace BB := Lib.hid BB; replace r_m := Lib.hid r_m; replace r_n := Lib.hid r_n
    clear hinv
    have hS9 := h_a.out.2.1
    obtain ⟨k, hk⟩ : ∃ k, S.length = k := ⟨_, rfl⟩
    rw [hk] at hS9 ⊢
    by_cases hlt : k < 9
    · have k0 : (0 : Int) ≤ (k : Int) := by omega
      have k1 : (k : Int) < 9 := by omega
      have KA := CA.out k hlt
      have KB := CB.out k hlt
      have KC := CC.out k hlt
      have er : (k : Int).tmod 3 = ((k % 3 : Nat) : Int) := by rw [Int.tmod_eq_emod_of_nonneg (by omega)]; omega
      have eq : (k : Int).tdiv 3 = ((k / 3 : Nat) : Int) := by rw [Int.tdiv_eq_ediv_of_nonneg (by omega)]; omega
      have ey : IntKind.i64.wrap ((k / 3 : Nat) : Int) = ((k / 3 : Nat) : Int) := iw ⟨by omega, by omega⟩
      have ex : IntKind.i64.wrap ((k % 3 : Nat) : Int) = ((k % 3 : Nat) : Int) := iw ⟨by omega, by omega⟩
      generalize ((k % 3 : Nat) : Int) = x at *
      generalize ((k / 3 : Nat) : Int) = y at *
      generalize mAt [m0, m1, m2, m3, m4, m5, m6, m7, m8] (k / 3) 0 = a0 at *
      generalize mAt [m0, m1, m2, m3, m4, m5, m6, m7, m8] (k / 3) 1 = a1 at *
      generalize mAt [m0, m1, m2, m3, m4, m5, m6, m7, m8] (k / 3) 2 = a2 at *
      generalize mAt [n0, n1, n2, n3, n4, n5, n6, n7, n8] 0 (k % 3) = b0 at *
      generalize mAt [n0, n1, n2, n3, n4, n5, n6, n7, n8] 1 (k % 3) = b1 at *
      generalize mAt [n0, n1, n2, n3, n4, n5, n6, n7, n8] 2 (k % 3) = b2 at *
      replace KA := Lib.hid KA; replace KB := Lib.hid KB; replace KC := Lib.hid KC
      replace hk := Lib.hid hk
      clear CA CB CC
      have hl9 : S.length < 9 := by have := hk.out; omega
      replace hl9 := Lib.hid hl9
      go_wp2_with fail
      have KK := Lib.hid (fun (w9 : World) (h : Below wr.heap.size wr w9) => (⟨cells9 (r_m.out.keep h), cells9 (r_n.out.keep h)⟩ : (w9.cell? ⟨w.heap.size, 0, none⟩ = some (.int .i64 m0) ∧ w9.cell? ⟨w.heap.size, 1, none⟩ = some (.int .i64 m1) ∧ w9.cell? ⟨w.heap.size, 2, none⟩ = some (.int .i64 m2) ∧ w9.cell? ⟨w.heap.size, 3, none⟩ = some (.int .i64 m3) ∧ w9.cell? ⟨w.heap.size, 4, none⟩ = some (.int .i64 m4) ∧ w9.cell? ⟨w.heap.size, 5, none⟩ = some (.int .i64 m5) ∧ w9.cell? ⟨w.heap.size, 6, none⟩ = some (.int .i64 m6) ∧ w9.cell? ⟨w.heap.size, 7, none⟩ = some (.int .i64 m7) ∧ w9.cell? ⟨w.heap.size, 8, none⟩ = some (.int .i64 m8)) ∧ (w9.cell? ⟨w.heap.size + 1, 0, none⟩ = some (.int .i64 n0) ∧ w9.cell? ⟨w.heap.size + 1, 1, none⟩ = some (.int .i64 n1) ∧ w9.cell? ⟨w.heap.size + 1, 2, none⟩ = some (.int .i64 n2) ∧ w9.cell? ⟨w.heap.size + 1, 3, none⟩ = some (.int .i64 n3) ∧ w9.cell? ⟨w.heap.size + 1, 4, none⟩ = some (.int .i64 n4) ∧ w9.cell? ⟨w.heap.size + 1, 5, none⟩ = some (.int .i64 n5) ∧ w9.cell? ⟨w.heap.size + 1, 6, none⟩ = some (.int .i64 n6) ∧ w9.cell? ⟨w.heap.size + 1, 7, none⟩ = some (.int .i64 n7) ∧ w9.cell? ⟨w.heap.size + 1, 8, none⟩ = some (.int .i64 n8))))
      have K0 := KK.out wr (Below.refl _ _)
      have KD := KK.out wr.drew (below_drew (Below.refl _ _))
      refine AnyG.begin_ (fun w9 => (w9.cell? ⟨w.heap.size, 0, none⟩ = some (.int .i64 m0) ∧ w9.cell? ⟨w.heap.size, 1, none⟩ = some (.int .i64 m1) ∧ w9.cell? ⟨w.heap.size, 2, none⟩ = some (.int .i64 m2) ∧ w9.cell? ⟨w.heap.size, 3, none⟩ = some (.int .i64 m3) ∧ w9.cell? ⟨w.heap.size, 4, none⟩ = some (.int .i64 m4) ∧ w9.cell? ⟨w.heap.size, 5, none⟩ = some (.int .i64 m5) ∧ w9.cell? ⟨w.heap.size, 6, none⟩ = some (.int .i64 m6) ∧ w9.cell? ⟨w.heap.size, 7, none⟩ = some (.int .i64 m7) ∧ w9.cell? ⟨w.heap.size, 8, none⟩ = some (.int .i64 m8)) ∧ (w9.cell? ⟨w.heap.size + 1, 0, none⟩ = some (.int .i64 n0) ∧ w9.cell? ⟨w.heap.size + 1, 1, none⟩ = some (.int .i64 n1) ∧ w9.cell? ⟨w.heap.size + 1, 2, none⟩ = some (.int .i64 n2) ∧ w9.cell? ⟨w.heap.size + 1, 3, none⟩ = some (.int .i64 n3) ∧ w9.cell? ⟨w.heap.size + 1, 4, none⟩ = some (.int .i64 n4) ∧ w9.cell? ⟨w.heap.size + 1, 5, none⟩ = some (.int .i64 n5) ∧ w9.cell? ⟨w.heap.size + 1, 6, none⟩ = some (.int .i64 n6) ∧ w9.cell? ⟨w.heap.size + 1, 7, none⟩ = some (.int .i64 n7) ∧ w9.cell? ⟨w.heap.size + 1, 8, none⟩ = some (.int .i64 n8))) 11 (by kernel_rfl) ?_
      refine AnyG.take (i := 0) (v := ?_) rfl (by kernel_rfl) (by kernel_rfl) (by kernel_rfl) (fun _ _ _ h => h) (by kernel_rfl) (by kernel_rfl) (Or.inl ⟨by rfl, ?_⟩) (by assumption) ?_
      rotate_left
      · intro w9 hSw; (try dsimp only at hSw); go_simp <;> with_reducible rfl
      try simp only [Act.put, List.getElem_toArray, List.getElem_cons_zero, List.getElem_cons_succ, List.setIfInBounds_toArray, List.set_cons_zero, List.set_cons_succ]
      refine AnyG.take (i := 1) (v := ?_) rfl (by kernel_rfl) (by kernel_rfl) (by kernel_rfl) (fun _ _ _ h => h) (by kernel_rfl) (by kernel_rfl) (Or.inl ⟨by rfl, ?_⟩) (by assumption) ?_
      rotate_left
      · intro w9 hSw; (try dsimp only at hSw); go_simp <;> with_reducible rfl
      try simp only [Act.put, List.getElem_toArray, List.getElem_cons_zero, List.getElem_cons_succ, List.setIfInBounds_toArray, List.set_cons_zero, List.set_cons_succ]
      refine AnyG.take (i := 2) (v := ?_) rfl (by kernel_rfl) (by kernel_rfl) (by kernel_rfl) (fun _ _ _ h => h) (by kernel_rfl) (by kernel_rfl) (Or.inl ⟨by rfl, ?_⟩) (by assumption) ?_
      rotate_left
      · intro w9 hSw; (try dsimp only at hSw); go_simp <;> with_reducible rfl
      try simp only [Act.put, List.getElem_toArray, List.getElem_cons_zero, List.getElem_cons_succ, List.setIfInBounds_toArray, List.set_cons_zero, List.set_cons_succ]
      refine AnyG.take (i := 3) (v := ?_) rfl (by kernel_rfl) (by kernel_rfl) (by kernel_rfl) (fun _ _ _ h => h) (by kernel_rfl) (by kernel_rfl) (Or.inl ⟨by rfl, ?_⟩) (by assumption) ?_
      rotate_left
      · intro w9 hSw; (try dsimp only at hSw); go_simp <;> with_reducible rfl
      try simp only [Act.put, List.getElem_toArray, List.getElem_cons_zero, List.getElem_cons_succ, List.setIfInBounds_toArray, List.set_cons_zero, List.set_cons_succ]
      refine AnyG.take (i := 5) (v := ?_) rfl (by kernel_rfl) (by kernel_rfl) (by kernel_rfl) (fun _ _ _ h => h) (by kernel_rfl) (by kernel_rfl) (Or.inl ⟨by rfl, ?_⟩) (by assumption) ?_
      rotate_left
      · intro w9 hSw; (try dsimp only at hSw); go_simp <;> with_reducible rfl
      try simp only [Act.put, List.getElem_toArray, List.getElem_cons_zero, List.getElem_cons_succ, List.setIfInBounds_toArray, List.set_cons_zero, List.set_cons_succ]
      refine AnyG.take (i := 6) (v := ?_) rfl (by kernel_rfl) (by kernel_rfl) (by kernel_rfl) (fun _ _ _ h => h) (by kernel_rfl) (by kernel_rfl) (Or.inl ⟨by rfl, ?_⟩) (by assumption) ?_
      rotate_left
      · intro w9 hSw; (try dsimp only at hSw); go_simp <;> with_reducible rfl
      try simp only [Act.put, List.getElem_toArray, List.getElem_cons_zero, List.getElem_cons_succ, List.setIfInBounds_toArray, List.set_cons_zero, List.set_cons_succ]
      refine AnyG.take (i := 7) (v := ?_) rfl (by kernel_rfl) (by kernel_rfl) (by kernel_rfl) (fun _ _ _ h => h) (by kernel_rfl) (by kernel_rfl) (Or.inl ⟨by rfl, ?_⟩) (by assumption) ?_
      rotate_left
      · intro w9 hSw; (try dsimp only at hSw); go_simp <;> with_reducible rfl
      try simp only [Act.put, List.getElem_toArray, List.getElem_cons_zero, List.getElem_cons_succ, List.setIfInBounds_toArray, List.set_cons_zero, List.set_cons_succ]
      refine AnyG.step (i := 4) (by kernel_rfl) rfl (fun K hK => ?_)
      go_simp
      go_at_call 97
      refine (KA.out _).mono ?_
      rintro e w4 ⟨rfl, hb⟩
      have B_w4 := Lib.hid (reg_next (w0 := wr) (by repeat (first | with_reducible exact Below.refl _ _ | with_reducible apply below_drew | with_reducible apply below_new)) hb)
      have K_w4 := KK.out _ B_w4.out
      clear hb
      refine hK.out _ _ (fun _ => K_w4) (fun hHeld => ?_)
      replace hHeld := hHeld (by decide)
      clear hK
      try simp only [Act.put, List.getElem_toArray, List.getElem_cons_zero, List.getElem_cons_succ, List.setIfInBounds_toArray, List.set_cons_zero, List.set_cons_succ]
      refine AnyG.step (i := 8) (by kernel_rfl) rfl (fun K hK => ?_)
      go_simp
      go_at_call 98
      refine (KB.out _).mono ?_
      rintro e w5 ⟨rfl, hb⟩
      have B_w5 := Lib.hid (below_next B_w4.out hb)
      have K_w5 := KK.out _ B_w5.out
      clear hb
      refine hK.out _ _ (fun _ => K_w5) (fun hHeld => ?_)
      replace hHeld := hHeld (by decide)
      clear hK
      try simp only [Act.put, List.getElem_toArray, List.getElem_cons_zero, List.getElem_cons_succ, List.setIfInBounds_toArray, List.set_cons_zero, List.set_cons_succ]
      refine AnyG.step (i := 9) (by kernel_rfl) rfl (fun K hK => ?_)
      go_simp
      go_at_call 96
      refine (KC.out _).mono ?_
      rintro e w6 ⟨h, l, rfl, hb, hw⟩
      have B_w6 := Lib.hid (below_next B_w5.out hb)
      have K_w6 := KK.out _ B_w6.out
      obtain ⟨cz0, cz1⟩ := (h_a.out.below B_w6.out).cells hl9.out
      rw [hk.out] at cz0 cz1
      have fz0 := (h_a.out.below B_w6.out).1.fr (k * 2)
      have fz1 := (h_a.out.below B_w6.out).1.fr (k * 2 + 1)
      have lz := (h_a.out.below B_w6.out).1.lt
      clear hb
      refine hK.out _ _ (fun _ => K_w6) (fun hHeld => ?_)
      replace hHeld := hHeld (by decide)
      clear hK
      try simp only [Act.put, List.getElem_toArray, List.getElem_cons_zero, List.getElem_cons_succ, List.setIfInBounds_toArray, List.set_cons_zero, List.set_cons_succ]
      refine AnyG.take (i := 10) (v := ?_) rfl (by kernel_rfl) (by kernel_rfl) (by kernel_rfl) (fun _ _ _ h => h) (by kernel_rfl) (by kernel_rfl) (Or.inl ⟨by rfl, ?_⟩) (by assumption) ?_
      rotate_left
      · intro w9 hSw; (try dsimp only at hSw); go_simp <;> with_reducible rfl
      try simp only [Act.put, List.getElem_toArray, List.getElem_cons_zero, List.getElem_cons_succ, List.setIfInBounds_toArray, List.set_cons_zero, List.set_cons_succ]
      refine AnyG.step (i := 11) (by kernel_rfl) rfl (fun K hK => ?_)
      go_simp
      refine hK.out _ _ (fun h => absurd h (by decide)) (fun _ => ?_)
      clear hK
      try simp only [Act.put, List.getElem_toArray, List.getElem_cons_zero, List.getElem_cons_succ, List.setIfInBounds_toArray, List.set_cons_zero, List.set_cons_succ]
      refine AnyG.done (by kernel_rfl) ?_ _
      clear KK K0 KD K_w4 K_w5 K_w6
      replace r_res := Lib.hid (r_res.out.keep B_w6.out)
      replace r_m := Lib.hid (r_m.out.keep B_w6.out)
      replace r_n := Lib.hid (r_n.out.keep B_w6.out)
      replace h_a := Lib.hid (WideR.below h_a.out B_w6.out)
      replace BB := Lib.hid (below_next BB.out B_w6.out)
      clear B_w4 B_w5 B_w6
      have hw := Lib.hid hw
      have HN := h_a.out.set hl9.out (a := h) (b := l) (by rw [hk.out]; exact hw.out)
      rw [hk.out] at HN
      replace HN := Lib.hid HN
      have HR := Lib.hid ((r_res.out.far (p := g_a) (by have := d_a.out; omega) (k * 2) (.int .i64 h)).far (p := g_a) (by have := d_a.out; omega) (k * 2 + 1) (.int .u64 l))
      have HM := Lib.hid ((r_m.out.far (p := g_a) (by have := d_a.out; omega) (k * 2) (.int .i64 h)).far (p := g_a) (by have := d_a.out; omega) (k * 2 + 1) (.int .u64 l))
      have HQ := Lib.hid ((r_n.out.far (p := g_a) (by have := d_a.out; omega) (k * 2) (.int .i64 h)).far (p := g_a) (by have := d_a.out; omega) (k * 2 + 1) (.int .u64 l))
      have HB := Lib.hid (below_set (below_set BB.out (b := g_a) (o := k * 2) d_a.out.1 (.int .i64 h)) (b := g_a) (o := k * 2 + 1) d_a.out.1 (.int .u64 l))
      go_wp2_with fail
      go_roundw
      case rel => exact ⟨S ++ [(h, l)], by simp only [List.length_append, List.length_singleton, hk.out]; go_num, ⟨HN.out, HR.out, HM.out, HQ.out, HB.out⟩⟩
      case measure => simp [intOf]; omega
    · obtain rfl : k = 9 := by omega
      obtain ⟨h0, l0, h1, l1, h2, l2, h3, l3, h4, l4, h5, l5, h6, l6, h7, l7, h8, l8, rfl⟩ := list9 hk
      have r_a := Lib.hid (show AtB wr g_a #[.int .i64 h0, .int .u64 l0, .int .i64 h1, .int .u64 l1, .int .i64 h2, .int .u64 l2, .int .i64 h3, .int .u64 l3, .int .i64 h4, .int .u64 l4, .int .i64 h5, .int .u64 l5, .int .i64 h6, .int .u64 l6, .int .i64 h7, .int .u64 l7, .int .i64 h8, .int .u64 l8] W9T from h_a.out.1)
      have hall := h_a.out.2.2
      have HW := Lib.hid (show W128 (F 0) h0 l0 ∧ W128 (F 1) h1 l1 ∧ W128 (F 2) h2 l2 ∧ W128 (F 3) h3 l3 ∧ W128 (F 4) h4 l4 ∧ W128 (F 5) h5 l5 ∧ W128 (F 6) h6 l6 ∧ W128 (F 7) h7 l7 ∧ W128 (F 8) h8 l8 from ⟨hall 0 (by simp), hall 1 (by simp), hall 2 (by simp), hall 3 (by simp), hall 4 (by simp), hall 5 (by simp), hall 6 (by simp), hall 7 (by simp), hall 8 (by simp)⟩)
      clear h_a hall CA CB CC r_m r_n
      go_upto_region 9 with fail
      refine wp_region_lit ?_
      refine wpList_load_row rfl W9T (.tmp 6) rfl g_a rfl W9T _ (0, 0) _ r_a.out Try.underlying63 rfl (by kernel_rfl) ?_
      refine wpList_store_row rfl W9T (.tmp 4) (.tmp 32) rfl (w.heap.size + 2) _ rfl rfl W9T _ r_res.out (by kernel_rfl) rfl (by kernel_rfl) ?_
      have R1 := setRow_heap wr (w.heap.size + 2) _ #[.int .i64 h0, .int .u64 l0, .int .i64 h1, .int .u64 l1, .int .i64 h2, .int .u64 l2, .int .i64 h3, .int .u64 l3, .int .i64 h4, .int .u64 l4, .int .i64 h5, .int .u64 l5, .int .i64 h6, .int .u64 l6, .int .i64 h7, .int .u64 l7, .int .i64 h8, .int .u64 l8] W9T (0, 0) r_res.out
      have HB := Lib.hid (below_setRow BB.out (show w.heap.size ≤ w.heap.size + 2 by omega) #[.int .i64 h0, .int .u64 l0, .int .i64 h1, .int .u64 l1, .int .i64 h2, .int .u64 l2, .int .i64 h3, .int .u64 l3, .int .i64 h4, .int .u64 l4, .int .i64 h5, .int .u64 l5, .int .i64 h6, .int .u64 l6, .int .i64 h7, .int .u64 l7, .int .i64 h8, .int .u64 l8])
      clear r_a r_res BB
      generalize wr.setRow (w.heap.size + 2) #[.int .i64 h0, .int .u64 l0, .int .i64 h1, .int .u64 l1, .int .i64 h2, .int .u64 l2, .int .i64 h3, .int .u64 l3, .int .i64 h4, .int .u64 l4, .int .i64 h5, .int .u64 l5, .int .i64 h6, .int .u64 l6, .int .i64 h7, .int .u64 l7, .int .i64 h8, .int .u64 l8] = w99 at *
      go_wp2_with fail
      have R2 := reads18 (show AtB w99 (w.heap.size + 2) #[.int .i64 h0, .int .u64 l0, .int .i64 h1, .int .u64 l1, .int .i64 h2, .int .u64 l2, .int .i64 h3, .int .u64 l3, .int .i64 h4, .int .u64 l4, .int .i64 h5, .int .u64 l5, .int .i64 h6, .int .u64 l6, .int .i64 h7, .int .u64 l7, .int .i64 h8, .int .u64 l8] W9T from R1)
      refine bodyPost_ret (v := .tuple #[.agg #[.int .i64 h0, .int .u64 l0, .int .i64 h1, .int .u64 l1, .int .i64 h2, .int .u64 l2, .int .i64 h3, .int .u64 l3, .int .i64 h4, .int .u64 l4, .int .i64 h5, .int .u64 l5, .int .i64 h6, .int .u64 l6, .int .i64 h7, .int .u64 l7, .int .i64 h8, .int .u64 l8], .int .i64 0]) (by unfold results; simp only [Try.results41]; go_simp) rfl ?_
      exact ⟨_, _, _, _, _, _, _, _, _, _, _, _, _, _, _, _, _, _, rfl, HB.out, HW.out⟩
end Go.Proofs.Ythoakbjnofhpbaa
