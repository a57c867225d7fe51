/- Contract of law05.alive. -/
import Derived.Test.YthoakbjnofhpbaaMl0
import Derived.Deep.WholeRow
set_option linter.unusedVariables false
set_option linter.unusedSimpArgs false
namespace Go.Proofs.Ythoakbjnofhpbaa
open Go.RowKit
theorem w_lit {z n h l : Int} (hw : W128 z h l) (hz : z = n) (h0 : 0 ≤ n) (h1 : n < 9223372036854775808) : h = 0 ∧ l = n := by
  unfold W128 I64 U64 at hw; omega
theorem wide_new (w : World) (c c' : Array Value) (hc : c.size = 18) (hc' : c'.size = 18) (h1 : c'.all (·.oneCell') = true) :
    (Instr.storeAt W9T (.pointer (some ⟨w.heap.size, 0, none⟩)) (.agg c')).run Try.prog (w.alloc (.cells c W9T)) = .ok () (w.alloc (.cells c' W9T)) ∧
    (storeCells ⟨w.heap.size, 0, none⟩ c'.toList 0).run Try.prog (w.alloc (.cells c W9T)) = .ok () (w.alloc (.cells c' W9T)) :=
  ⟨run_storeAt_new w W9T c c' (by rw [hc']; kernel_rfl) (by rw [hc, hc']) h1, run_storeCells_new w W9T c c' (by rw [hc']; kernel_rfl) (by rw [hc, hc']) h1⟩
set_option maxRecDepth 100000 in
set_option maxHeartbeats 8000000 in
theorem alive5_any (w : World) : Calls Try.prog 36 #[] w fun e w' => e = .returned (.bool true) ∧ Below w.heap.size w w' := by
  have hz : ∀ z ∈ ([2, 0, 0, 0, 3, 0, 0, 0, 5] : List Int), I32s z := by
    intro z h
    simp only [List.mem_cons, List.not_mem_nil, or_false] at h
    unfold I32s; omega
  have CD := Lib.hid (fun w => mdet_ok 2 0 0 0 3 0 0 0 5 hz w)
  have CA := Lib.hid (fun w => madj_ok 2 0 0 0 3 0 0 0 5 hz w)
  clear hz
  go_enter Try.func36, Try.ntmps36
  go_upto_region 2 with fail
  have BB : Hid (Below w.heap.size w w) := Below.refl _ _
  obtain ⟨hb, r_m⟩ := laid w #[.int .i64 2, .int .i64 0, .int .i64 0, .int .i64 0, .int .i64 3, .int .i64 0, .int .i64 0, .int .i64 0, .int .i64 5] M9T
  replace BB := Lib.hid (below_next BB.out hb)
  replace r_m := Lib.hid r_m
  clear hb
  generalize w.alloc (.cells #[.int .i64 2, .int .i64 0, .int .i64 0, .int .i64 0, .int .i64 3, .int .i64 0, .int .i64 0, .int .i64 0, .int .i64 5] M9T) = w1 at *
  obtain ⟨c_m0, c_m1, c_m2, c_m3, c_m4, c_m5, c_m6, c_m7, c_m8, f_m0, f_m1, f_m2, f_m3, f_m4, f_m5, f_m6, f_m7, f_m8⟩ := reads9 r_m.out
  have l_m := r_m.out.lt
  go_wp2_with fail
  refine (CD.out _).mono ?_
  rintro e w2 ⟨h, l, rfl, hb, hd⟩
  clear c_m0 c_m1 c_m2 c_m3 c_m4 c_m5 c_m6 c_m7 c_m8 f_m0 f_m1 f_m2 f_m3 f_m4 f_m5 f_m6 f_m7 f_m8 l_m
  replace r_m := Lib.hid (r_m.out.keep hb)
  replace BB := Lib.hid (below_next BB.out hb)
  clear hb
  obtain ⟨rfl, rfl⟩ := w_lit hd (n := 30) (by decide) (by omega) (by omega)
  clear hd
  go_upto_region 3 with fail
  have d_d := Lib.hid (And.intro BB.out.size (And.intro r_m.out.lt (True.intro)))
  obtain ⟨hb, r_d⟩ := laid w2 #[.int .i64 0, .int .u64 30] WT5
  replace r_m := Lib.hid (r_m.out.keep hb)
  replace BB := Lib.hid (below_next BB.out hb)
  replace r_d := Lib.hid r_d
  clear hb
  generalize w2.alloc (.cells #[.int .i64 0, .int .u64 30] WT5) = w3 at *
  generalize w2.heap.size = g_d at *
  obtain ⟨c_m0, c_m1, c_m2, c_m3, c_m4, c_m5, c_m6, c_m7, c_m8, f_m0, f_m1, f_m2, f_m3, f_m4, f_m5, f_m6, f_m7, f_m8⟩ := reads9 r_m.out
  have l_m := r_m.out.lt
  go_wp2_with fail
  refine (CA.out _).mono ?_
  rintro e w4 ⟨h0, l0, h1, l1, h2, l2, h3, l3, h4, l4, h5, l5, h6, l6, h7, l7, h8, l8, rfl, hb, f0, f1, f2, f3, f4, f5, f6, f7, f8⟩
  clear c_m0 c_m1 c_m2 c_m3 c_m4 c_m5 c_m6 c_m7 c_m8 f_m0 f_m1 f_m2 f_m3 f_m4 f_m5 f_m6 f_m7 f_m8 l_m
  replace r_m := Lib.hid (r_m.out.keep hb)
  replace r_d := Lib.hid (r_d.out.keep hb)
  replace BB := Lib.hid (below_next BB.out hb)
  clear hb
  obtain ⟨rfl, rfl⟩ := w_lit f0 (n := 15) (by decide) (by omega) (by omega)
  obtain ⟨rfl, rfl⟩ := w_lit f1 (n := 0) (by decide) (by omega) (by omega)
  obtain ⟨rfl, rfl⟩ := w_lit f2 (n := 0) (by decide) (by omega) (by omega)
  obtain ⟨rfl, rfl⟩ := w_lit f3 (n := 0) (by decide) (by omega) (by omega)
  obtain ⟨rfl, rfl⟩ := w_lit f4 (n := 10) (by decide) (by omega) (by omega)
  obtain ⟨rfl, rfl⟩ := w_lit f5 (n := 0) (by decide) (by omega) (by omega)
  obtain ⟨rfl, rfl⟩ := w_lit f6 (n := 0) (by decide) (by omega) (by omega)
  obtain ⟨rfl, rfl⟩ := w_lit f7 (n := 0) (by decide) (by omega) (by omega)
  obtain ⟨rfl, rfl⟩ := w_lit f8 (n := 6) (by decide) (by omega) (by omega)
  clear f0 f1 f2 f3 f4 f5 f6 f7 f8
  obtain ⟨cs, hcs⟩ : ∃ cs, (#[.int .i64 0, .int .u64 15, .int .i64 0, .int .u64 0, .int .i64 0, .int .u64 0, .int .i64 0, .int .u64 0, .int .i64 0, .int .u64 10, .int .i64 0, .int .u64 0, .int .i64 0, .int .u64 0, .int .i64 0, .int .u64 0, .int .i64 0, .int .u64 6] : Array Value) = cs := ⟨_, rfl⟩
  have hcz : cs.size = 18 := by rw [← hcs]; rfl
  have hc1 : cs.all (·.oneCell') = true := by rw [← hcs]; kernel_rfl
  rw [hcs]
  replace hcs := Lib.hid hcs
  obtain ⟨ST1, ST2⟩ := wide_new w4 #[.int .i64 0, .int .u64 0, .int .i64 0, .int .u64 0, .int .i64 0, .int .u64 0, .int .i64 0, .int .u64 0, .int .i64 0, .int .u64 0, .int .i64 0, .int .u64 0, .int .i64 0, .int .u64 0, .int .i64 0, .int .u64 0, .int .i64 0, .int .u64 0] cs rfl hcz hc1
  clear CD CA
  go_upto_region 4 with fail
  clear ST1 ST2
  have d_a := Lib.hid (And.intro BB.out.size (And.intro r_m.out.lt (And.intro r_d.out.lt (True.intro))))
  obtain ⟨hb, r_a⟩ := laid w4 cs W9T
  replace r_m := Lib.hid (r_m.out.keep hb)
  replace r_d := Lib.hid (r_d.out.keep hb)
  replace BB := Lib.hid (below_next BB.out hb)
  replace r_a := Lib.hid r_a
  clear hb
  generalize w4.alloc (.cells cs W9T) = w5 at *
  generalize w4.heap.size = g_a at *
  rw [← hcs.out] at r_a
  clear hcs hcz hc1
  clear r_m
  obtain ⟨c_a0, c_a1, c_a2, c_a3, c_a4, c_a5, c_a6, c_a7, c_a8, c_a9, c_a10, c_a11, c_a12, c_a13, c_a14, c_a15, c_a16, c_a17, f_a0, f_a1, f_a2, f_a3, f_a4, f_a5, f_a6, f_a7, f_a8, f_a9, f_a10, f_a11, f_a12, f_a13, f_a14, f_a15, f_a16, f_a17⟩ := reads18 r_a.out
  have l_a := r_a.out.lt
  obtain ⟨c_d0, c_d1, f_d0, f_d1⟩ := reads2 r_d.out
  have l_d := r_d.out.lt
  go_wp2_with fail
  go_ret
  exact ⟨rfl, BB.out⟩
end Go.Proofs.Ythoakbjnofhpbaa
