/- The walk of law05.MatTells, a matrix that is right. -/
import Derived.Test.YthoakbjnofhpbaaMtW0
import Derived.Test.YthoakbjnofhpbaaMl2
import Derived.Test.YthoakbjnofhpbaaMtD
import Derived.Deep.MidRow
set_option linter.unusedVariables false
set_option linter.unusedSimpArgs false
namespace Go.Proofs.Ythoakbjnofhpbaa
open Go.RowKit
theorem new_at1 (w : World) (o : Obj) (c : Array Value) (T : TypeId) : AtB ((w.alloc o).alloc (.cells c T)) (w.heap.size + 1) c T := by
  have h := new_at (w.alloc o) c T
  have e : (w.alloc o).heap.size = w.heap.size + 1 := by simp
  rw [e] at h
  exact h
set_option maxRecDepth 100000 in
set_option maxHeartbeats 16000000 in
theorem matTells_ok (m0 m1 m2 m3 m4 m5 m6 m7 m8 : Int) (hz : ∀ z ∈ [m0, m1, m2, m3, m4, m5, m6, m7, m8], I64 z) (hf : [m0, m1, m2, m3, m4, m5, m6, m7, m8].any farM = false) (w : World) : Calls Try.prog 7 #[.agg #[.int .i64 m0, .int .i64 m1, .int .i64 m2, .int .i64 m3, .int .i64 m4, .int .i64 m5, .int .i64 m6, .int .i64 m7, .int .i64 m8]] w fun e w' => e = .returned (.bool true) ∧ Below w.heap.size w w' := by
  have hI : ∀ z ∈ [m0, m1, m2, m3, m4, m5, m6, m7, m8], I32s z := fun z h => by
    rw [List.any_eq_false] at hf
    exact farM_iff.1 (by simpa using hf z h)
  have hWd : ∀ z ∈ [m0, m1, m2, m3, m4, m5, m6, m7, m8], Wd 200 z := fun z h => (i64_wd (hz z h)).up (by omega)
  have CD := Lib.hid (fun w => mdet_ok m0 m1 m2 m3 m4 m5 m6 m7 m8 hI w)
  have CA := Lib.hid (fun w => madj_ok m0 m1 m2 m3 m4 m5 m6 m7 m8 hI w)
  have CR5 := Lib.hid (fun v w hv => r5right v [m0, m1, m2, m3, m4, m5, m6, m7, m8] w hv)
  have CR := Lib.hid (fun w => mright m0 m1 m2 m3 m4 m5 m6 m7 m8 hz w)
  rw [hf] at CR5 CR
  have COf := Lib.hid (fun v w hv => r5of v [m0, m1, m2, m3, m4, m5, m6, m7, m8] w hv (by simp))
  have CDet : Hid (∀ v base w, BL w base v [m0, m1, m2, m3, m4, m5, m6, m7, m8] → Calls Try.prog 39 #[v] w (GiveB (detM [m0, m1, m2, m3, m4, m5, m6, m7, m8]) w)) := fun v base w hv => by
    rw [← det_same]; exact r5det v [m0, m1, m2, m3, m4, m5, m6, m7, m8] base w hv rfl hWd
  have CAdj := Lib.hid (fun v base w hv => r5adj v [m0, m1, m2, m3, m4, m5, m6, m7, m8] base w hv rfl hWd)
  have HA : Hid (adjI [m0, m1, m2, m3, m4, m5, m6, m7, m8] = (List.range 9).map (fun i => cofI [m0, m1, m2, m3, m4, m5, m6, m7, m8] (i % 3) (i / 3))) := by
    show _ = _
    show [adjF [m0, m1, m2, m3, m4, m5, m6, m7, m8] 0, adjF [m0, m1, m2, m3, m4, m5, m6, m7, m8] 1, adjF [m0, m1, m2, m3, m4, m5, m6, m7, m8] 2, adjF [m0, m1, m2, m3, m4, m5, m6, m7, m8] 3, adjF [m0, m1, m2, m3, m4, m5, m6, m7, m8] 4, adjF [m0, m1, m2, m3, m4, m5, m6, m7, m8] 5, adjF [m0, m1, m2, m3, m4, m5, m6, m7, m8] 6, adjF [m0, m1, m2, m3, m4, m5, m6, m7, m8] 7, adjF [m0, m1, m2, m3, m4, m5, m6, m7, m8] 8] = [cofI [m0, m1, m2, m3, m4, m5, m6, m7, m8] 0 0, cofI [m0, m1, m2, m3, m4, m5, m6, m7, m8] 1 0, cofI [m0, m1, m2, m3, m4, m5, m6, m7, m8] 2 0, cofI [m0, m1, m2, m3, m4, m5, m6, m7, m8] 0 1, cofI [m0, m1, m2, m3, m4, m5, m6, m7, m8] 1 1, cofI [m0, m1, m2, m3, m4, m5, m6, m7, m8] 2 1, cofI [m0, m1, m2, m3, m4, m5, m6, m7, m8] 0 2, cofI [m0, m1, m2, m3, m4, m5, m6, m7, m8] 1 2, cofI [m0, m1, m2, m3, m4, m5, m6, m7, m8] 2 2]
    rw [adjF_0, adjF_1, adjF_2, adjF_3, adjF_4, adjF_5, adjF_6, adjF_7, adjF_8]
  rw [HA.out] at CAdj
  generalize detM [m0, m1, m2, m3, m4, m5, m6, m7, m8] = dz at *
  generalize (fun i => cofI [m0, m1, m2, m3, m4, m5, m6, m7, m8] (i % 3) (i / 3)) = F at *
  have CT := Lib.hid (fun w => mturn m0 m1 m2 m3 m4 m5 m6 m7 m8 w)
  have CU := Lib.hid (fun w => munit w)
  have CV := Lib.hid (fun w => alive5_any w)
  have HZ := Lib.hid hz
  clear hz hf hI hWd HA
  have u0 : ∀ w, (Instr.index M9T (.agg #[.int .i64 1, .int .i64 0, .int .i64 0, .int .i64 0, .int .i64 1, .int .i64 0, .int .i64 0, .int .i64 0, .int .i64 1]) (.int .i64 0)).run Try.prog w = .ok (.int .i64 1) w := by intro w; kernel_rfl
  have u1 : ∀ w, (Instr.index M9T (.agg #[.int .i64 1, .int .i64 0, .int .i64 0, .int .i64 0, .int .i64 1, .int .i64 0, .int .i64 0, .int .i64 0, .int .i64 1]) (.int .i64 1)).run Try.prog w = .ok (.int .i64 0) w := by intro w; kernel_rfl
  have u2 : ∀ w, (Instr.index M9T (.agg #[.int .i64 1, .int .i64 0, .int .i64 0, .int .i64 0, .int .i64 1, .int .i64 0, .int .i64 0, .int .i64 0, .int .i64 1]) (.int .i64 2)).run Try.prog w = .ok (.int .i64 0) w := by intro w; kernel_rfl
  have u3 : ∀ w, (Instr.index M9T (.agg #[.int .i64 1, .int .i64 0, .int .i64 0, .int .i64 0, .int .i64 1, .int .i64 0, .int .i64 0, .int .i64 0, .int .i64 1]) (.int .i64 3)).run Try.prog w = .ok (.int .i64 0) w := by intro w; kernel_rfl
  have u4 : ∀ w, (Instr.index M9T (.agg #[.int .i64 1, .int .i64 0, .int .i64 0, .int .i64 0, .int .i64 1, .int .i64 0, .int .i64 0, .int .i64 0, .int .i64 1]) (.int .i64 4)).run Try.prog w = .ok (.int .i64 1) w := by intro w; kernel_rfl
  have u5 : ∀ w, (Instr.index M9T (.agg #[.int .i64 1, .int .i64 0, .int .i64 0, .int .i64 0, .int .i64 1, .int .i64 0, .int .i64 0, .int .i64 0, .int .i64 1]) (.int .i64 5)).run Try.prog w = .ok (.int .i64 0) w := by intro w; kernel_rfl
  have u6 : ∀ w, (Instr.index M9T (.agg #[.int .i64 1, .int .i64 0, .int .i64 0, .int .i64 0, .int .i64 1, .int .i64 0, .int .i64 0, .int .i64 0, .int .i64 1]) (.int .i64 6)).run Try.prog w = .ok (.int .i64 0) w := by intro w; kernel_rfl
  have u7 : ∀ w, (Instr.index M9T (.agg #[.int .i64 1, .int .i64 0, .int .i64 0, .int .i64 0, .int .i64 1, .int .i64 0, .int .i64 0, .int .i64 0, .int .i64 1]) (.int .i64 7)).run Try.prog w = .ok (.int .i64 0) w := by intro w; kernel_rfl
  have u8 : ∀ w, (Instr.index M9T (.agg #[.int .i64 1, .int .i64 0, .int .i64 0, .int .i64 0, .int .i64 1, .int .i64 0, .int .i64 0, .int .i64 0, .int .i64 1]) (.int .i64 8)).run Try.prog w = .ok (.int .i64 1) w := by intro w; kernel_rfl
  have v0 : IntKind.i64.wrap 0 = 0 := by decide
  have v1 : IntKind.i64.wrap 1 = 1 := by decide
  have v2 : IntKind.i64.wrap 2 = 2 := by decide
  have v3 : IntKind.i64.wrap 3 = 3 := by decide
  have v4 : IntKind.i64.wrap 4 = 4 := by decide
  have v5 : IntKind.i64.wrap 5 = 5 := by decide
  have v6 : IntKind.i64.wrap 6 = 6 := by decide
  have v7 : IntKind.i64.wrap 7 = 7 := by decide
  have v8 : IntKind.i64.wrap 8 = 8 := by decide
  have v9 : IntKind.i64.wrap 9 = 9 := by decide
  go_enter Try.func7, Try.ntmps7
  go_upto_region 1 with fail
  have BB := start1 w #[.int .i64 m0, .int .i64 m1, .int .i64 m2, .int .i64 m3, .int .i64 m4, .int .i64 m5, .int .i64 m6, .int .i64 m7, .int .i64 m8] M9T
  obtain ⟨BB, hsz, r_m⟩ := BB
  generalize (w.alloc (.cells #[.int .i64 m0, .int .i64 m1, .int .i64 m2, .int .i64 m3, .int .i64 m4, .int .i64 m5, .int .i64 m6, .int .i64 m7, .int .i64 m8] M9T)) = w0 at *
  replace BB := Lib.hid BB
  replace r_m := Lib.hid r_m
  clear hsz
  obtain ⟨c_m0, c_m1, c_m2, c_m3, c_m4, c_m5, c_m6, c_m7, c_m8, f_m0, f_m1, f_m2, f_m3, f_m4, f_m5, f_m6, f_m7, f_m8⟩ := reads9 r_m.out
  have l_m := r_m.out.lt
  go_wp2_with fail
  refine (CD.out _).mono ?_
  rintro e w1 ⟨dh, dl, rfl, hb, hd⟩
  clear c_m0 c_m1 c_m2 c_m3 c_m4 c_m5 c_m6 c_m7 c_m8 f_m0 f_m1 f_m2 f_m3 f_m4 f_m5 f_m6 f_m7 f_m8 l_m
  replace r_m := Lib.hid (r_m.out.keep hb)
  replace BB := Lib.hid (below_next BB.out hb)
  clear hb
  go_upto_region 2 with fail
  have d_d := Lib.hid (And.intro BB.out.size (And.intro r_m.out.lt (True.intro)))
  obtain ⟨hb, r_d⟩ := laid w1 #[.int .i64 dh, .int .u64 dl] WT5
  replace r_m := Lib.hid (r_m.out.keep hb)
  replace BB := Lib.hid (below_next BB.out hb)
  replace r_d := Lib.hid r_d
  clear hb
  generalize w1.alloc (.cells #[.int .i64 dh, .int .u64 dl] WT5) = w2 at *
  generalize w1.heap.size = g_d at *
  obtain ⟨c_m0, c_m1, c_m2, c_m3, c_m4, c_m5, c_m6, c_m7, c_m8, f_m0, f_m1, f_m2, f_m3, f_m4, f_m5, f_m6, f_m7, f_m8⟩ := reads9 r_m.out
  have l_m := r_m.out.lt
  go_wp2_with fail
  refine (CA.out _).mono ?_
  rintro e w3 ⟨h0, l0, h1, l1, h2, l2, h3, l3, h4, l4, h5, l5, h6, l6, h7, l7, h8, l8, rfl, hb, f0, f1, f2, f3, f4, f5, f6, f7, f8⟩
  clear c_m0 c_m1 c_m2 c_m3 c_m4 c_m5 c_m6 c_m7 c_m8 f_m0 f_m1 f_m2 f_m3 f_m4 f_m5 f_m6 f_m7 f_m8 l_m
  replace r_m := Lib.hid (r_m.out.keep hb)
  replace r_d := Lib.hid (r_d.out.keep hb)
  replace BB := Lib.hid (below_next BB.out hb)
  clear hb
  obtain ⟨cs, hcs⟩ : ∃ cs, (#[.int .i64 h0, .int .u64 l0, .int .i64 h1, .int .u64 l1, .int .i64 h2, .int .u64 l2, .int .i64 h3, .int .u64 l3, .int .i64 h4, .int .u64 l4, .int .i64 h5, .int .u64 l5, .int .i64 h6, .int .u64 l6, .int .i64 h7, .int .u64 l7, .int .i64 h8, .int .u64 l8] : Array Value) = cs := ⟨_, rfl⟩
  have hcz : cs.size = 18 := by rw [← hcs]; rfl
  have hc1 : cs.all (·.oneCell') = true := by rw [← hcs]; kernel_rfl
  rw [hcs]
  replace hcs := Lib.hid hcs
  obtain ⟨ST1, ST2⟩ := wide_new w3 #[.int .i64 0, .int .u64 0, .int .i64 0, .int .u64 0, .int .i64 0, .int .u64 0, .int .i64 0, .int .u64 0, .int .i64 0, .int .u64 0, .int .i64 0, .int .u64 0, .int .i64 0, .int .u64 0, .int .i64 0, .int .u64 0, .int .i64 0, .int .u64 0] cs rfl hcz hc1
  clear CD CA
  go_upto_region 3 with fail
  clear ST1 ST2
  have d_a := Lib.hid (And.intro BB.out.size (And.intro r_m.out.lt (And.intro r_d.out.lt (True.intro))))
  obtain ⟨hb, r_a⟩ := laid w3 cs W9T
  replace r_m := Lib.hid (r_m.out.keep hb)
  replace r_d := Lib.hid (r_d.out.keep hb)
  replace BB := Lib.hid (below_next BB.out hb)
  replace r_a := Lib.hid r_a
  clear hb
  generalize w3.alloc (.cells cs W9T) = w4 at *
  generalize w3.heap.size = g_a at *
  obtain ⟨c_m0, c_m1, c_m2, c_m3, c_m4, c_m5, c_m6, c_m7, c_m8, f_m0, f_m1, f_m2, f_m3, f_m4, f_m5, f_m6, f_m7, f_m8⟩ := reads9 r_m.out
  have l_m := r_m.out.lt
  go_wp2_with fail
  refine (CR5.out _ _ (is_at9 r_m.out HZ.out)).mono ?_
  rintro e w9 ⟨rfl, rfl⟩
  go_upto_region 4 with fail
  go_wp2_with fail
  refine (CT.out _).mono ?_
  rintro e w5 ⟨rfl, hb⟩
  clear c_m0 c_m1 c_m2 c_m3 c_m4 c_m5 c_m6 c_m7 c_m8 f_m0 f_m1 f_m2 f_m3 f_m4 f_m5 f_m6 f_m7 f_m8 l_m
  replace r_m := Lib.hid (r_m.out.keep hb)
  replace r_d := Lib.hid (r_d.out.keep hb)
  replace r_a := Lib.hid (r_a.out.keep hb)
  replace BB := Lib.hid (below_next BB.out hb)
  clear hb
  go_upto_region 5 with fail
  have d_t := Lib.hid (And.intro BB.out.size (And.intro r_m.out.lt (And.intro r_d.out.lt (And.intro r_a.out.lt (True.intro)))))
  obtain ⟨hb, r_t⟩ := laid w5 #[.int .i64 m0, .int .i64 m3, .int .i64 m6, .int .i64 m1, .int .i64 m4, .int .i64 m7, .int .i64 m2, .int .i64 m5, .int .i64 m8] M9T
  replace r_m := Lib.hid (r_m.out.keep hb)
  replace r_d := Lib.hid (r_d.out.keep hb)
  replace r_a := Lib.hid (r_a.out.keep hb)
  replace BB := Lib.hid (below_next BB.out hb)
  replace r_t := Lib.hid r_t
  clear hb
  generalize w5.alloc (.cells #[.int .i64 m0, .int .i64 m3, .int .i64 m6, .int .i64 m1, .int .i64 m4, .int .i64 m7, .int .i64 m2, .int .i64 m5, .int .i64 m8] M9T) = w6 at *
  generalize w5.heap.size = g_t at *
  go_wp2_with fail
  refine wp_loop_rounds 10 ?_
  rw [rounds_succ]
  go_wp2_with fail
  have KK := Lib.hid (fun (w9 : World) (h : Below w6.heap.size w6 w9) => (⟨cells9 (r_m.out.keep h), cells9 (r_t.out.keep h)⟩ : (w9.cell? ⟨w.heap.size, 0, none⟩ = some (.int .i64 m0) ∧ w9.cell? ⟨w.heap.size, 1, none⟩ = some (.int .i64 m1) ∧ w9.cell? ⟨w.heap.size, 2, none⟩ = some (.int .i64 m2) ∧ w9.cell? ⟨w.heap.size, 3, none⟩ = some (.int .i64 m3) ∧ w9.cell? ⟨w.heap.size, 4, none⟩ = some (.int .i64 m4) ∧ w9.cell? ⟨w.heap.size, 5, none⟩ = some (.int .i64 m5) ∧ w9.cell? ⟨w.heap.size, 6, none⟩ = some (.int .i64 m6) ∧ w9.cell? ⟨w.heap.size, 7, none⟩ = some (.int .i64 m7) ∧ w9.cell? ⟨w.heap.size, 8, none⟩ = some (.int .i64 m8)) ∧ (w9.cell? ⟨g_t, 0, none⟩ = some (.int .i64 m0) ∧ w9.cell? ⟨g_t, 1, none⟩ = some (.int .i64 m3) ∧ w9.cell? ⟨g_t, 2, none⟩ = some (.int .i64 m6) ∧ w9.cell? ⟨g_t, 3, none⟩ = some (.int .i64 m1) ∧ w9.cell? ⟨g_t, 4, none⟩ = some (.int .i64 m4) ∧ w9.cell? ⟨g_t, 5, none⟩ = some (.int .i64 m7) ∧ w9.cell? ⟨g_t, 6, none⟩ = some (.int .i64 m2) ∧ w9.cell? ⟨g_t, 7, none⟩ = some (.int .i64 m5) ∧ w9.cell? ⟨g_t, 8, none⟩ = some (.int .i64 m8))))
  have K0 := KK.out w6 (Below.refl _ _)
  have KD := KK.out w6.drew (below_drew (Below.refl _ _))
  go_region_held3 (fun w9 => (w9.cell? ⟨w.heap.size, 0, none⟩ = some (.int .i64 m0) ∧ w9.cell? ⟨w.heap.size, 1, none⟩ = some (.int .i64 m1) ∧ w9.cell? ⟨w.heap.size, 2, none⟩ = some (.int .i64 m2) ∧ w9.cell? ⟨w.heap.size, 3, none⟩ = some (.int .i64 m3) ∧ w9.cell? ⟨w.heap.size, 4, none⟩ = some (.int .i64 m4) ∧ w9.cell? ⟨w.heap.size, 5, none⟩ = some (.int .i64 m5) ∧ w9.cell? ⟨w.heap.size, 6, none⟩ = some (.int .i64 m6) ∧ w9.cell? ⟨w.heap.size, 7, none⟩ = some (.int .i64 m7) ∧ w9.cell? ⟨w.heap.size, 8, none⟩ = some (.int .i64 m8)) ∧ (w9.cell? ⟨g_t, 0, none⟩ = some (.int .i64 m0) ∧ w9.cell? ⟨g_t, 1, none⟩ = some (.int .i64 m3) ∧ w9.cell? ⟨g_t, 2, none⟩ = some (.int .i64 m6) ∧ w9.cell? ⟨g_t, 3, none⟩ = some (.int .i64 m1) ∧ w9.cell? ⟨g_t, 4, none⟩ = some (.int .i64 m4) ∧ w9.cell? ⟨g_t, 5, none⟩ = some (.int .i64 m7) ∧ w9.cell? ⟨g_t, 6, none⟩ = some (.int .i64 m2) ∧ w9.cell? ⟨g_t, 7, none⟩ = some (.int .i64 m5) ∧ w9.cell? ⟨g_t, 8, none⟩ = some (.int .i64 m8)))
      (first | with_reducible exact KD | with_reducible exact K0 | with_reducible exact K_w7)
      (first
        | (go_at_call 34
           refine (CU.out _).mono ?_
           rintro e w7 ⟨rfl, hb⟩
           have B_w7 := Lib.hid (reg_next (w0 := w6) (by repeat (first | with_reducible exact Below.refl _ _ | with_reducible apply below_drew | with_reducible apply below_new)) hb)
           have K_w7 := KK.out _ B_w7.out
           clear hb))
  clear KK K0 KD K_w7
  replace r_m := Lib.hid (r_m.out.keep B_w7.out)
  replace r_d := Lib.hid (r_d.out.keep B_w7.out)
  replace r_a := Lib.hid (r_a.out.keep B_w7.out)
  replace r_t := Lib.hid (r_t.out.keep B_w7.out)
  replace BB := Lib.hid (below_next BB.out B_w7.out)
  clear B_w7
  go_wp2_with fail
  rw [rounds_succ]
  go_wp2_with fail
  have KK := Lib.hid (fun (w9 : World) (h : Below w7.heap.size w7 w9) => (⟨cells9 (r_m.out.keep h), cells9 (r_t.out.keep h)⟩ : (w9.cell? ⟨w.heap.size, 0, none⟩ = some (.int .i64 m0) ∧ w9.cell? ⟨w.heap.size, 1, none⟩ = some (.int .i64 m1) ∧ w9.cell? ⟨w.heap.size, 2, none⟩ = some (.int .i64 m2) ∧ w9.cell? ⟨w.heap.size, 3, none⟩ = some (.int .i64 m3) ∧ w9.cell? ⟨w.heap.size, 4, none⟩ = some (.int .i64 m4) ∧ w9.cell? ⟨w.heap.size, 5, none⟩ = some (.int .i64 m5) ∧ w9.cell? ⟨w.heap.size, 6, none⟩ = some (.int .i64 m6) ∧ w9.cell? ⟨w.heap.size, 7, none⟩ = some (.int .i64 m7) ∧ w9.cell? ⟨w.heap.size, 8, none⟩ = some (.int .i64 m8)) ∧ (w9.cell? ⟨g_t, 0, none⟩ = some (.int .i64 m0) ∧ w9.cell? ⟨g_t, 1, none⟩ = some (.int .i64 m3) ∧ w9.cell? ⟨g_t, 2, none⟩ = some (.int .i64 m6) ∧ w9.cell? ⟨g_t, 3, none⟩ = some (.int .i64 m1) ∧ w9.cell? ⟨g_t, 4, none⟩ = some (.int .i64 m4) ∧ w9.cell? ⟨g_t, 5, none⟩ = some (.int .i64 m7) ∧ w9.cell? ⟨g_t, 6, none⟩ = some (.int .i64 m2) ∧ w9.cell? ⟨g_t, 7, none⟩ = some (.int .i64 m5) ∧ w9.cell? ⟨g_t, 8, none⟩ = some (.int .i64 m8))))
  have K0 := KK.out w7 (Below.refl _ _)
  have KD := KK.out w7.drew (below_drew (Below.refl _ _))
  go_region_held3 (fun w9 => (w9.cell? ⟨w.heap.size, 0, none⟩ = some (.int .i64 m0) ∧ w9.cell? ⟨w.heap.size, 1, none⟩ = some (.int .i64 m1) ∧ w9.cell? ⟨w.heap.size, 2, none⟩ = some (.int .i64 m2) ∧ w9.cell? ⟨w.heap.size, 3, none⟩ = some (.int .i64 m3) ∧ w9.cell? ⟨w.heap.size, 4, none⟩ = some (.int .i64 m4) ∧ w9.cell? ⟨w.heap.size, 5, none⟩ = some (.int .i64 m5) ∧ w9.cell? ⟨w.heap.size, 6, none⟩ = some (.int .i64 m6) ∧ w9.cell? ⟨w.heap.size, 7, none⟩ = some (.int .i64 m7) ∧ w9.cell? ⟨w.heap.size, 8, none⟩ = some (.int .i64 m8)) ∧ (w9.cell? ⟨g_t, 0, none⟩ = some (.int .i64 m0) ∧ w9.cell? ⟨g_t, 1, none⟩ = some (.int .i64 m3) ∧ w9.cell? ⟨g_t, 2, none⟩ = some (.int .i64 m6) ∧ w9.cell? ⟨g_t, 3, none⟩ = some (.int .i64 m1) ∧ w9.cell? ⟨g_t, 4, none⟩ = some (.int .i64 m4) ∧ w9.cell? ⟨g_t, 5, none⟩ = some (.int .i64 m7) ∧ w9.cell? ⟨g_t, 6, none⟩ = some (.int .i64 m2) ∧ w9.cell? ⟨g_t, 7, none⟩ = some (.int .i64 m5) ∧ w9.cell? ⟨g_t, 8, none⟩ = some (.int .i64 m8)))
      (first | with_reducible exact KD | with_reducible exact K0 | with_reducible exact K_w8)
      (first
        | (go_at_call 34
           refine (CU.out _).mono ?_
           rintro e w8 ⟨rfl, hb⟩
           have B_w8 := Lib.hid (reg_next (w0 := w7) (by repeat (first | with_reducible exact Below.refl _ _ | with_reducible apply below_drew | with_reducible apply below_new)) hb)
           have K_w8 := KK.out _ B_w8.out
           clear hb))
  clear KK K0 KD K_w8
  replace r_m := Lib.hid (r_m.out.keep B_w8.out)
  replace r_d := Lib.hid (r_d.out.keep B_w8.out)
  replace r_a := Lib.hid (r_a.out.keep B_w8.out)
  replace r_t := Lib.hid (r_t.out.keep B_w8.out)
  replace BB := Lib.hid (below_next BB.out B_w8.out)
  clear B_w8
  go_wp2_with fail
  rw [rounds_succ]
  go_wp2_with fail
  have KK := Lib.hid (fun (w9 : World) (h : Below w8.heap.size w8 w9) => (⟨cells9 (r_m.out.keep h), cells9 (r_t.out.keep h)⟩ : (w9.cell? ⟨w.heap.size, 0, none⟩ = some (.int .i64 m0) ∧ w9.cell? ⟨w.heap.size, 1, none⟩ = some (.int .i64 m1) ∧ w9.cell? ⟨w.heap.size, 2, none⟩ = some (.int .i64 m2) ∧ w9.cell? ⟨w.heap.size, 3, none⟩ = some (.int .i64 m3) ∧ w9.cell? ⟨w.heap.size, 4, none⟩ = some (.int .i64 m4) ∧ w9.cell? ⟨w.heap.size, 5, none⟩ = some (.int .i64 m5) ∧ w9.cell? ⟨w.heap.size, 6, none⟩ = some (.int .i64 m6) ∧ w9.cell? ⟨w.heap.size, 7, none⟩ = some (.int .i64 m7) ∧ w9.cell? ⟨w.heap.size, 8, none⟩ = some (.int .i64 m8)) ∧ (w9.cell? ⟨g_t, 0, none⟩ = some (.int .i64 m0) ∧ w9.cell? ⟨g_t, 1, none⟩ = some (.int .i64 m3) ∧ w9.cell? ⟨g_t, 2, none⟩ = some (.int .i64 m6) ∧ w9.cell? ⟨g_t, 3, none⟩ = some (.int .i64 m1) ∧ w9.cell? ⟨g_t, 4, none⟩ = some (.int .i64 m4) ∧ w9.cell? ⟨g_t, 5, none⟩ = some (.int .i64 m7) ∧ w9.cell? ⟨g_t, 6, none⟩ = some (.int .i64 m2) ∧ w9.cell? ⟨g_t, 7, none⟩ = some (.int .i64 m5) ∧ w9.cell? ⟨g_t, 8, none⟩ = some (.int .i64 m8))))
  have K0 := KK.out w8 (Below.refl _ _)
  have KD := KK.out w8.drew (below_drew (Below.refl _ _))
  go_region_held3 (fun w9 => (w9.cell? ⟨w.heap.size, 0, none⟩ = some (.int .i64 m0) ∧ w9.cell? ⟨w.heap.size, 1, none⟩ = some (.int .i64 m1) ∧ w9.cell? ⟨w.heap.size, 2, none⟩ = some (.int .i64 m2) ∧ w9.cell? ⟨w.heap.size, 3, none⟩ = some (.int .i64 m3) ∧ w9.cell? ⟨w.heap.size, 4, none⟩ = some (.int .i64 m4) ∧ w9.cell? ⟨w.heap.size, 5, none⟩ = some (.int .i64 m5) ∧ w9.cell? ⟨w.heap.size, 6, none⟩ = some (.int .i64 m6) ∧ w9.cell? ⟨w.heap.size, 7, none⟩ = some (.int .i64 m7) ∧ w9.cell? ⟨w.heap.size, 8, none⟩ = some (.int .i64 m8)) ∧ (w9.cell? ⟨g_t, 0, none⟩ = some (.int .i64 m0) ∧ w9.cell? ⟨g_t, 1, none⟩ = some (.int .i64 m3) ∧ w9.cell? ⟨g_t, 2, none⟩ = some (.int .i64 m6) ∧ w9.cell? ⟨g_t, 3, none⟩ = some (.int .i64 m1) ∧ w9.cell? ⟨g_t, 4, none⟩ = some (.int .i64 m4) ∧ w9.cell? ⟨g_t, 5, none⟩ = some (.int .i64 m7) ∧ w9.cell? ⟨g_t, 6, none⟩ = some (.int .i64 m2) ∧ w9.cell? ⟨g_t, 7, none⟩ = some (.int .i64 m5) ∧ w9.cell? ⟨g_t, 8, none⟩ = some (.int .i64 m8)))
      (first | with_reducible exact KD | with_reducible exact K0 | with_reducible exact K_w10)
      (first
        | (go_at_call 34
           refine (CU.out _).mono ?_
           rintro e w10 ⟨rfl, hb⟩
           have B_w10 := Lib.hid (reg_next (w0 := w8) (by repeat (first | with_reducible exact Below.refl _ _ | with_reducible apply below_drew | with_reducible apply below_new)) hb)
           have K_w10 := KK.out _ B_w10.out
           clear hb))
  clear KK K0 KD K_w10
  replace r_m := Lib.hid (r_m.out.keep B_w10.out)
  replace r_d := Lib.hid (r_d.out.keep B_w10.out)
  replace r_a := Lib.hid (r_a.out.keep B_w10.out)
  replace r_t := Lib.hid (r_t.out.keep B_w10.out)
  replace BB := Lib.hid (below_next BB.out B_w10.out)
  clear B_w10
  go_wp2_with fail
  rw [rounds_succ]
  go_wp2_with fail
  have KK := Lib.hid (fun (w9 : World) (h : Below w10.heap.size w10 w9) => (⟨cells9 (r_m.out.keep h), cells9 (r_t.out.keep h)⟩ : (w9.cell? ⟨w.heap.size, 0, none⟩ = some (.int .i64 m0) ∧ w9.cell? ⟨w.heap.size, 1, none⟩ = some (.int .i64 m1) ∧ w9.cell? ⟨w.heap.size, 2, none⟩ = some (.int .i64 m2) ∧ w9.cell? ⟨w.heap.size, 3, none⟩ = some (.int .i64 m3) ∧ w9.cell? ⟨w.heap.size, 4, none⟩ = some (.int .i64 m4) ∧ w9.cell? ⟨w.heap.size, 5, none⟩ = some (.int .i64 m5) ∧ w9.cell? ⟨w.heap.size, 6, none⟩ = some (.int .i64 m6) ∧ w9.cell? ⟨w.heap.size, 7, none⟩ = some (.int .i64 m7) ∧ w9.cell? ⟨w.heap.size, 8, none⟩ = some (.int .i64 m8)) ∧ (w9.cell? ⟨g_t, 0, none⟩ = some (.int .i64 m0) ∧ w9.cell? ⟨g_t, 1, none⟩ = some (.int .i64 m3) ∧ w9.cell? ⟨g_t, 2, none⟩ = some (.int .i64 m6) ∧ w9.cell? ⟨g_t, 3, none⟩ = some (.int .i64 m1) ∧ w9.cell? ⟨g_t, 4, none⟩ = some (.int .i64 m4) ∧ w9.cell? ⟨g_t, 5, none⟩ = some (.int .i64 m7) ∧ w9.cell? ⟨g_t, 6, none⟩ = some (.int .i64 m2) ∧ w9.cell? ⟨g_t, 7, none⟩ = some (.int .i64 m5) ∧ w9.cell? ⟨g_t, 8, none⟩ = some (.int .i64 m8))))
  have K0 := KK.out w10 (Below.refl _ _)
  have KD := KK.out w10.drew (below_drew (Below.refl _ _))
  go_region_held3 (fun w9 => (w9.cell? ⟨w.heap.size, 0, none⟩ = some (.int .i64 m0) ∧ w9.cell? ⟨w.heap.size, 1, none⟩ = some (.int .i64 m1) ∧ w9.cell? ⟨w.heap.size, 2, none⟩ = some (.int .i64 m2) ∧ w9.cell? ⟨w.heap.size, 3, none⟩ = some (.int .i64 m3) ∧ w9.cell? ⟨w.heap.size, 4, none⟩ = some (.int .i64 m4) ∧ w9.cell? ⟨w.heap.size, 5, none⟩ = some (.int .i64 m5) ∧ w9.cell? ⟨w.heap.size, 6, none⟩ = some (.int .i64 m6) ∧ w9.cell? ⟨w.heap.size, 7, none⟩ = some (.int .i64 m7) ∧ w9.cell? ⟨w.heap.size, 8, none⟩ = some (.int .i64 m8)) ∧ (w9.cell? ⟨g_t, 0, none⟩ = some (.int .i64 m0) ∧ w9.cell? ⟨g_t, 1, none⟩ = some (.int .i64 m3) ∧ w9.cell? ⟨g_t, 2, none⟩ = some (.int .i64 m6) ∧ w9.cell? ⟨g_t, 3, none⟩ = some (.int .i64 m1) ∧ w9.cell? ⟨g_t, 4, none⟩ = some (.int .i64 m4) ∧ w9.cell? ⟨g_t, 5, none⟩ = some (.int .i64 m7) ∧ w9.cell? ⟨g_t, 6, none⟩ = some (.int .i64 m2) ∧ w9.cell? ⟨g_t, 7, none⟩ = some (.int .i64 m5) ∧ w9.cell? ⟨g_t, 8, none⟩ = some (.int .i64 m8)))
      (first | with_reducible exact KD | with_reducible exact K0 | with_reducible exact K_w11)
      (first
        | (go_at_call 34
           refine (CU.out _).mono ?_
           rintro e w11 ⟨rfl, hb⟩
           have B_w11 := Lib.hid (reg_next (w0 := w10) (by repeat (first | with_reducible exact Below.refl _ _ | with_reducible apply below_drew | with_reducible apply below_new)) hb)
           have K_w11 := KK.out _ B_w11.out
           clear hb))
  clear KK K0 KD K_w11
  replace r_m := Lib.hid (r_m.out.keep B_w11.out)
  replace r_d := Lib.hid (r_d.out.keep B_w11.out)
  replace r_a := Lib.hid (r_a.out.keep B_w11.out)
  replace r_t := Lib.hid (r_t.out.keep B_w11.out)
  replace BB := Lib.hid (below_next BB.out B_w11.out)
  clear B_w11
  go_wp2_with fail
  rw [rounds_succ]
  go_wp2_with fail
  have KK := Lib.hid (fun (w9 : World) (h : Below w11.heap.size w11 w9) => (⟨cells9 (r_m.out.keep h), cells9 (r_t.out.keep h)⟩ : (w9.cell? ⟨w.heap.size, 0, none⟩ = some (.int .i64 m0) ∧ w9.cell? ⟨w.heap.size, 1, none⟩ = some (.int .i64 m1) ∧ w9.cell? ⟨w.heap.size, 2, none⟩ = some (.int .i64 m2) ∧ w9.cell? ⟨w.heap.size, 3, none⟩ = some (.int .i64 m3) ∧ w9.cell? ⟨w.heap.size, 4, none⟩ = some (.int .i64 m4) ∧ w9.cell? ⟨w.heap.size, 5, none⟩ = some (.int .i64 m5) ∧ w9.cell? ⟨w.heap.size, 6, none⟩ = some (.int .i64 m6) ∧ w9.cell? ⟨w.heap.size, 7, none⟩ = some (.int .i64 m7) ∧ w9.cell? ⟨w.heap.size, 8, none⟩ = some (.int .i64 m8)) ∧ (w9.cell? ⟨g_t, 0, none⟩ = some (.int .i64 m0) ∧ w9.cell? ⟨g_t, 1, none⟩ = some (.int .i64 m3) ∧ w9.cell? ⟨g_t, 2, none⟩ = some (.int .i64 m6) ∧ w9.cell? ⟨g_t, 3, none⟩ = some (.int .i64 m1) ∧ w9.cell? ⟨g_t, 4, none⟩ = some (.int .i64 m4) ∧ w9.cell? ⟨g_t, 5, none⟩ = some (.int .i64 m7) ∧ w9.cell? ⟨g_t, 6, none⟩ = some (.int .i64 m2) ∧ w9.cell? ⟨g_t, 7, none⟩ = some (.int .i64 m5) ∧ w9.cell? ⟨g_t, 8, none⟩ = some (.int .i64 m8))))
  have K0 := KK.out w11 (Below.refl _ _)
  have KD := KK.out w11.drew (below_drew (Below.refl _ _))
  go_region_held3 (fun w9 => (w9.cell? ⟨w.heap.size, 0, none⟩ = some (.int .i64 m0) ∧ w9.cell? ⟨w.heap.size, 1, none⟩ = some (.int .i64 m1) ∧ w9.cell? ⟨w.heap.size, 2, none⟩ = some (.int .i64 m2) ∧ w9.cell? ⟨w.heap.size, 3, none⟩ = some (.int .i64 m3) ∧ w9.cell? ⟨w.heap.size, 4, none⟩ = some (.int .i64 m4) ∧ w9.cell? ⟨w.heap.size, 5, none⟩ = some (.int .i64 m5) ∧ w9.cell? ⟨w.heap.size, 6, none⟩ = some (.int .i64 m6) ∧ w9.cell? ⟨w.heap.size, 7, none⟩ = some (.int .i64 m7) ∧ w9.cell? ⟨w.heap.size, 8, none⟩ = some (.int .i64 m8)) ∧ (w9.cell? ⟨g_t, 0, none⟩ = some (.int .i64 m0) ∧ w9.cell? ⟨g_t, 1, none⟩ = some (.int .i64 m3) ∧ w9.cell? ⟨g_t, 2, none⟩ = some (.int .i64 m6) ∧ w9.cell? ⟨g_t, 3, none⟩ = some (.int .i64 m1) ∧ w9.cell? ⟨g_t, 4, none⟩ = some (.int .i64 m4) ∧ w9.cell? ⟨g_t, 5, none⟩ = some (.int .i64 m7) ∧ w9.cell? ⟨g_t, 6, none⟩ = some (.int .i64 m2) ∧ w9.cell? ⟨g_t, 7, none⟩ = some (.int .i64 m5) ∧ w9.cell? ⟨g_t, 8, none⟩ = some (.int .i64 m8)))
      (first | with_reducible exact KD | with_reducible exact K0 | with_reducible exact K_w12)
      (first
        | (go_at_call 34
           refine (CU.out _).mono ?_
           rintro e w12 ⟨rfl, hb⟩
           have B_w12 := Lib.hid (reg_next (w0 := w11) (by repeat (first | with_reducible exact Below.refl _ _ | with_reducible apply below_drew | with_reducible apply below_new)) hb)
           have K_w12 := KK.out _ B_w12.out
           clear hb))
  clear KK K0 KD K_w12
  replace r_m := Lib.hid (r_m.out.keep B_w12.out)
  replace r_d := Lib.hid (r_d.out.keep B_w12.out)
  replace r_a := Lib.hid (r_a.out.keep B_w12.out)
  replace r_t := Lib.hid (r_t.out.keep B_w12.out)
  replace BB := Lib.hid (below_next BB.out B_w12.out)
  clear B_w12
  go_wp2_with fail
  rw [rounds_succ]
  go_wp2_with fail
  have KK := Lib.hid (fun (w9 : World) (h : Below w12.heap.size w12 w9) => (⟨cells9 (r_m.out.keep h), cells9 (r_t.out.keep h)⟩ : (w9.cell? ⟨w.heap.size, 0, none⟩ = some (.int .i64 m0) ∧ w9.cell? ⟨w.heap.size, 1, none⟩ = some (.int .i64 m1) ∧ w9.cell? ⟨w.heap.size, 2, none⟩ = some (.int .i64 m2) ∧ w9.cell? ⟨w.heap.size, 3, none⟩ = some (.int .i64 m3) ∧ w9.cell? ⟨w.heap.size, 4, none⟩ = some (.int .i64 m4) ∧ w9.cell? ⟨w.heap.size, 5, none⟩ = some (.int .i64 m5) ∧ w9.cell? ⟨w.heap.size, 6, none⟩ = some (.int .i64 m6) ∧ w9.cell? ⟨w.heap.size, 7, none⟩ = some (.int .i64 m7) ∧ w9.cell? ⟨w.heap.size, 8, none⟩ = some (.int .i64 m8)) ∧ (w9.cell? ⟨g_t, 0, none⟩ = some (.int .i64 m0) ∧ w9.cell? ⟨g_t, 1, none⟩ = some (.int .i64 m3) ∧ w9.cell? ⟨g_t, 2, none⟩ = some (.int .i64 m6) ∧ w9.cell? ⟨g_t, 3, none⟩ = some (.int .i64 m1) ∧ w9.cell? ⟨g_t, 4, none⟩ = some (.int .i64 m4) ∧ w9.cell? ⟨g_t, 5, none⟩ = some (.int .i64 m7) ∧ w9.cell? ⟨g_t, 6, none⟩ = some (.int .i64 m2) ∧ w9.cell? ⟨g_t, 7, none⟩ = some (.int .i64 m5) ∧ w9.cell? ⟨g_t, 8, none⟩ = some (.int .i64 m8))))
  have K0 := KK.out w12 (Below.refl _ _)
  have KD := KK.out w12.drew (below_drew (Below.refl _ _))
  go_region_held3 (fun w9 => (w9.cell? ⟨w.heap.size, 0, none⟩ = some (.int .i64 m0) ∧ w9.cell? ⟨w.heap.size, 1, none⟩ = some (.int .i64 m1) ∧ w9.cell? ⟨w.heap.size, 2, none⟩ = some (.int .i64 m2) ∧ w9.cell? ⟨w.heap.size, 3, none⟩ = some (.int .i64 m3) ∧ w9.cell? ⟨w.heap.size, 4, none⟩ = some (.int .i64 m4) ∧ w9.cell? ⟨w.heap.size, 5, none⟩ = some (.int .i64 m5) ∧ w9.cell? ⟨w.heap.size, 6, none⟩ = some (.int .i64 m6) ∧ w9.cell? ⟨w.heap.size, 7, none⟩ = some (.int .i64 m7) ∧ w9.cell? ⟨w.heap.size, 8, none⟩ = some (.int .i64 m8)) ∧ (w9.cell? ⟨g_t, 0, none⟩ = some (.int .i64 m0) ∧ w9.cell? ⟨g_t, 1, none⟩ = some (.int .i64 m3) ∧ w9.cell? ⟨g_t, 2, none⟩ = some (.int .i64 m6) ∧ w9.cell? ⟨g_t, 3, none⟩ = some (.int .i64 m1) ∧ w9.cell? ⟨g_t, 4, none⟩ = some (.int .i64 m4) ∧ w9.cell? ⟨g_t, 5, none⟩ = some (.int .i64 m7) ∧ w9.cell? ⟨g_t, 6, none⟩ = some (.int .i64 m2) ∧ w9.cell? ⟨g_t, 7, none⟩ = some (.int .i64 m5) ∧ w9.cell? ⟨g_t, 8, none⟩ = some (.int .i64 m8)))
      (first | with_reducible exact KD | with_reducible exact K0 | with_reducible exact K_w13)
      (first
        | (go_at_call 34
           refine (CU.out _).mono ?_
           rintro e w13 ⟨rfl, hb⟩
           have B_w13 := Lib.hid (reg_next (w0 := w12) (by repeat (first | with_reducible exact Below.refl _ _ | with_reducible apply below_drew | with_reducible apply below_new)) hb)
           have K_w13 := KK.out _ B_w13.out
           clear hb))
  clear KK K0 KD K_w13
  replace r_m := Lib.hid (r_m.out.keep B_w13.out)
  replace r_d := Lib.hid (r_d.out.keep B_w13.out)
  replace r_a := Lib.hid (r_a.out.keep B_w13.out)
  replace r_t := Lib.hid (r_t.out.keep B_w13.out)
  replace BB := Lib.hid (below_next BB.out B_w13.out)
  clear B_w13
  go_wp2_with fail
  rw [rounds_succ]
  go_wp2_with fail
  have KK := Lib.hid (fun (w9 : World) (h : Below w13.heap.size w13 w9) => (⟨cells9 (r_m.out.keep h), cells9 (r_t.out.keep h)⟩ : (w9.cell? ⟨w.heap.size, 0, none⟩ = some (.int .i64 m0) ∧ w9.cell? ⟨w.heap.size, 1, none⟩ = some (.int .i64 m1) ∧ w9.cell? ⟨w.heap.size, 2, none⟩ = some (.int .i64 m2) ∧ w9.cell? ⟨w.heap.size, 3, none⟩ = some (.int .i64 m3) ∧ w9.cell? ⟨w.heap.size, 4, none⟩ = some (.int .i64 m4) ∧ w9.cell? ⟨w.heap.size, 5, none⟩ = some (.int .i64 m5) ∧ w9.cell? ⟨w.heap.size, 6, none⟩ = some (.int .i64 m6) ∧ w9.cell? ⟨w.heap.size, 7, none⟩ = some (.int .i64 m7) ∧ w9.cell? ⟨w.heap.size, 8, none⟩ = some (.int .i64 m8)) ∧ (w9.cell? ⟨g_t, 0, none⟩ = some (.int .i64 m0) ∧ w9.cell? ⟨g_t, 1, none⟩ = some (.int .i64 m3) ∧ w9.cell? ⟨g_t, 2, none⟩ = some (.int .i64 m6) ∧ w9.cell? ⟨g_t, 3, none⟩ = some (.int .i64 m1) ∧ w9.cell? ⟨g_t, 4, none⟩ = some (.int .i64 m4) ∧ w9.cell? ⟨g_t, 5, none⟩ = some (.int .i64 m7) ∧ w9.cell? ⟨g_t, 6, none⟩ = some (.int .i64 m2) ∧ w9.cell? ⟨g_t, 7, none⟩ = some (.int .i64 m5) ∧ w9.cell? ⟨g_t, 8, none⟩ = some (.int .i64 m8))))
  have K0 := KK.out w13 (Below.refl _ _)
  have KD := KK.out w13.drew (below_drew (Below.refl _ _))
  go_region_held3 (fun w9 => (w9.cell? ⟨w.heap.size, 0, none⟩ = some (.int .i64 m0) ∧ w9.cell? ⟨w.heap.size, 1, none⟩ = some (.int .i64 m1) ∧ w9.cell? ⟨w.heap.size, 2, none⟩ = some (.int .i64 m2) ∧ w9.cell? ⟨w.heap.size, 3, none⟩ = some (.int .i64 m3) ∧ w9.cell? ⟨w.heap.size, 4, none⟩ = some (.int .i64 m4) ∧ w9.cell? ⟨w.heap.size, 5, none⟩ = some (.int .i64 m5) ∧ w9.cell? ⟨w.heap.size, 6, none⟩ = some (.int .i64 m6) ∧ w9.cell? ⟨w.heap.size, 7, none⟩ = some (.int .i64 m7) ∧ w9.cell? ⟨w.heap.size, 8, none⟩ = some (.int .i64 m8)) ∧ (w9.cell? ⟨g_t, 0, none⟩ = some (.int .i64 m0) ∧ w9.cell? ⟨g_t, 1, none⟩ = some (.int .i64 m3) ∧ w9.cell? ⟨g_t, 2, none⟩ = some (.int .i64 m6) ∧ w9.cell? ⟨g_t, 3, none⟩ = some (.int .i64 m1) ∧ w9.cell? ⟨g_t, 4, none⟩ = some (.int .i64 m4) ∧ w9.cell? ⟨g_t, 5, none⟩ = some (.int .i64 m7) ∧ w9.cell? ⟨g_t, 6, none⟩ = some (.int .i64 m2) ∧ w9.cell? ⟨g_t, 7, none⟩ = some (.int .i64 m5) ∧ w9.cell? ⟨g_t, 8, none⟩ = some (.int .i64 m8)))
      (first | with_reducible exact KD | with_reducible exact K0 | with_reducible exact K_w14)
      (first
        | (go_at_call 34
           refine (CU.out _).mono ?_
           rintro e w14 ⟨rfl, hb⟩
           have B_w14 := Lib.hid (reg_next (w0 := w13) (by repeat (first | with_reducible exact Below.refl _ _ | with_reducible apply below_drew | with_reducible apply below_new)) hb)
           have K_w14 := KK.out _ B_w14.out
           clear hb))
  clear KK K0 KD K_w14
  replace r_m := Lib.hid (r_m.out.keep B_w14.out)
  replace r_d := Lib.hid (r_d.out.keep B_w14.out)
  replace r_a := Lib.hid (r_a.out.keep B_w14.out)
  replace r_t := Lib.hid (r_t.out.keep B_w14.out)
  replace BB := Lib.hid (below_next BB.out B_w14.out)
  clear B_w14
  go_wp2_with fail
  rw [rounds_succ]
  go_wp2_with fail
  have KK := Lib.hid (fun (w9 : World) (h : Below w14.heap.size w14 w9) => (⟨cells9 (r_m.out.keep h), cells9 (r_t.out.keep h)⟩ : (w9.cell? ⟨w.heap.size, 0, none⟩ = some (.int .i64 m0) ∧ w9.cell? ⟨w.heap.size, 1, none⟩ = some (.int .i64 m1) ∧ w9.cell? ⟨w.heap.size, 2, none⟩ = some (.int .i64 m2) ∧ w9.cell? ⟨w.heap.size, 3, none⟩ = some (.int .i64 m3) ∧ w9.cell? ⟨w.heap.size, 4, none⟩ = some (.int .i64 m4) ∧ w9.cell? ⟨w.heap.size, 5, none⟩ = some (.int .i64 m5) ∧ w9.cell? ⟨w.heap.size, 6, none⟩ = some (.int .i64 m6) ∧ w9.cell? ⟨w.heap.size, 7, none⟩ = some (.int .i64 m7) ∧ w9.cell? ⟨w.heap.size, 8, none⟩ = some (.int .i64 m8)) ∧ (w9.cell? ⟨g_t, 0, none⟩ = some (.int .i64 m0) ∧ w9.cell? ⟨g_t, 1, none⟩ = some (.int .i64 m3) ∧ w9.cell? ⟨g_t, 2, none⟩ = some (.int .i64 m6) ∧ w9.cell? ⟨g_t, 3, none⟩ = some (.int .i64 m1) ∧ w9.cell? ⟨g_t, 4, none⟩ = some (.int .i64 m4) ∧ w9.cell? ⟨g_t, 5, none⟩ = some (.int .i64 m7) ∧ w9.cell? ⟨g_t, 6, none⟩ = some (.int .i64 m2) ∧ w9.cell? ⟨g_t, 7, none⟩ = some (.int .i64 m5) ∧ w9.cell? ⟨g_t, 8, none⟩ = some (.int .i64 m8))))
  have K0 := KK.out w14 (Below.refl _ _)
  have KD := KK.out w14.drew (below_drew (Below.refl _ _))
  go_region_held3 (fun w9 => (w9.cell? ⟨w.heap.size, 0, none⟩ = some (.int .i64 m0) ∧ w9.cell? ⟨w.heap.size, 1, none⟩ = some (.int .i64 m1) ∧ w9.cell? ⟨w.heap.size, 2, none⟩ = some (.int .i64 m2) ∧ w9.cell? ⟨w.heap.size, 3, none⟩ = some (.int .i64 m3) ∧ w9.cell? ⟨w.heap.size, 4, none⟩ = some (.int .i64 m4) ∧ w9.cell? ⟨w.heap.size, 5, none⟩ = some (.int .i64 m5) ∧ w9.cell? ⟨w.heap.size, 6, none⟩ = some (.int .i64 m6) ∧ w9.cell? ⟨w.heap.size, 7, none⟩ = some (.int .i64 m7) ∧ w9.cell? ⟨w.heap.size, 8, none⟩ = some (.int .i64 m8)) ∧ (w9.cell? ⟨g_t, 0, none⟩ = some (.int .i64 m0) ∧ w9.cell? ⟨g_t, 1, none⟩ = some (.int .i64 m3) ∧ w9.cell? ⟨g_t, 2, none⟩ = some (.int .i64 m6) ∧ w9.cell? ⟨g_t, 3, none⟩ = some (.int .i64 m1) ∧ w9.cell? ⟨g_t, 4, none⟩ = some (.int .i64 m4) ∧ w9.cell? ⟨g_t, 5, none⟩ = some (.int .i64 m7) ∧ w9.cell? ⟨g_t, 6, none⟩ = some (.int .i64 m2) ∧ w9.cell? ⟨g_t, 7, none⟩ = some (.int .i64 m5) ∧ w9.cell? ⟨g_t, 8, none⟩ = some (.int .i64 m8)))
      (first | with_reducible exact KD | with_reducible exact K0 | with_reducible exact K_w15)
      (first
        | (go_at_call 34
           refine (CU.out _).mono ?_
           rintro e w15 ⟨rfl, hb⟩
           have B_w15 := Lib.hid (reg_next (w0 := w14) (by repeat (first | with_reducible exact Below.refl _ _ | with_reducible apply below_drew | with_reducible apply below_new)) hb)
           have K_w15 := KK.out _ B_w15.out
           clear hb))
  clear KK K0 KD K_w15
  replace r_m := Lib.hid (r_m.out.keep B_w15.out)
  replace r_d := Lib.hid (r_d.out.keep B_w15.out)
  replace r_a := Lib.hid (r_a.out.keep B_w15.out)
  replace r_t := Lib.hid (r_t.out.keep B_w15.out)
  replace BB := Lib.hid (below_next BB.out B_w15.out)
  clear B_w15
  go_wp2_with fail
  rw [rounds_succ]
  go_wp2_with fail
  have KK := Lib.hid (fun (w9 : World) (h : Below w15.heap.size w15 w9) => (⟨cells9 (r_m.out.keep h), cells9 (r_t.out.keep h)⟩ : (w9.cell? ⟨w.heap.size, 0, none⟩ = some (.int .i64 m0) ∧ w9.cell? ⟨w.heap.size, 1, none⟩ = some (.int .i64 m1) ∧ w9.cell? ⟨w.heap.size, 2, none⟩ = some (.int .i64 m2) ∧ w9.cell? ⟨w.heap.size, 3, none⟩ = some (.int .i64 m3) ∧ w9.cell? ⟨w.heap.size, 4, none⟩ = some (.int .i64 m4) ∧ w9.cell? ⟨w.heap.size, 5, none⟩ = some (.int .i64 m5) ∧ w9.cell? ⟨w.heap.size, 6, none⟩ = some (.int .i64 m6) ∧ w9.cell? ⟨w.heap.size, 7, none⟩ = some (.int .i64 m7) ∧ w9.cell? ⟨w.heap.size, 8, none⟩ = some (.int .i64 m8)) ∧ (w9.cell? ⟨g_t, 0, none⟩ = some (.int .i64 m0) ∧ w9.cell? ⟨g_t, 1, none⟩ = some (.int .i64 m3) ∧ w9.cell? ⟨g_t, 2, none⟩ = some (.int .i64 m6) ∧ w9.cell? ⟨g_t, 3, none⟩ = some (.int .i64 m1) ∧ w9.cell? ⟨g_t, 4, none⟩ = some (.int .i64 m4) ∧ w9.cell? ⟨g_t, 5, none⟩ = some (.int .i64 m7) ∧ w9.cell? ⟨g_t, 6, none⟩ = some (.int .i64 m2) ∧ w9.cell? ⟨g_t, 7, none⟩ = some (.int .i64 m5) ∧ w9.cell? ⟨g_t, 8, none⟩ = some (.int .i64 m8))))
  have K0 := KK.out w15 (Below.refl _ _)
  have KD := KK.out w15.drew (below_drew (Below.refl _ _))
  go_region_held3 (fun w9 => (w9.cell? ⟨w.heap.size, 0, none⟩ = some (.int .i64 m0) ∧ w9.cell? ⟨w.heap.size, 1, none⟩ = some (.int .i64 m1) ∧ w9.cell? ⟨w.heap.size, 2, none⟩ = some (.int .i64 m2) ∧ w9.cell? ⟨w.heap.size, 3, none⟩ = some (.int .i64 m3) ∧ w9.cell? ⟨w.heap.size, 4, none⟩ = some (.int .i64 m4) ∧ w9.cell? ⟨w.heap.size, 5, none⟩ = some (.int .i64 m5) ∧ w9.cell? ⟨w.heap.size, 6, none⟩ = some (.int .i64 m6) ∧ w9.cell? ⟨w.heap.size, 7, none⟩ = some (.int .i64 m7) ∧ w9.cell? ⟨w.heap.size, 8, none⟩ = some (.int .i64 m8)) ∧ (w9.cell? ⟨g_t, 0, none⟩ = some (.int .i64 m0) ∧ w9.cell? ⟨g_t, 1, none⟩ = some (.int .i64 m3) ∧ w9.cell? ⟨g_t, 2, none⟩ = some (.int .i64 m6) ∧ w9.cell? ⟨g_t, 3, none⟩ = some (.int .i64 m1) ∧ w9.cell? ⟨g_t, 4, none⟩ = some (.int .i64 m4) ∧ w9.cell? ⟨g_t, 5, none⟩ = some (.int .i64 m7) ∧ w9.cell? ⟨g_t, 6, none⟩ = some (.int .i64 m2) ∧ w9.cell? ⟨g_t, 7, none⟩ = some (.int .i64 m5) ∧ w9.cell? ⟨g_t, 8, none⟩ = some (.int .i64 m8)))
      (first | with_reducible exact KD | with_reducible exact K0 | with_reducible exact K_w16)
      (first
        | (go_at_call 34
           refine (CU.out _).mono ?_
           rintro e w16 ⟨rfl, hb⟩
           have B_w16 := Lib.hid (reg_next (w0 := w15) (by repeat (first | with_reducible exact Below.refl _ _ | with_reducible apply below_drew | with_reducible apply below_new)) hb)
           have K_w16 := KK.out _ B_w16.out
           clear hb))
  clear KK K0 KD K_w16
  replace r_m := Lib.hid (r_m.out.keep B_w16.out)
  replace r_d := Lib.hid (r_d.out.keep B_w16.out)
  replace r_a := Lib.hid (r_a.out.keep B_w16.out)
  replace r_t := Lib.hid (r_t.out.keep B_w16.out)
  replace BB := Lib.hid (below_next BB.out B_w16.out)
  clear B_w16
  go_wp2_with fail
  rw [← hcs.out] at r_a
  have HW := Lib.hid (WS.nine r_a.out f0 f1 f2 f3 f4 f5 f6 f7 f8)
  have HF : Hid (∀ i, Wd 200 (((List.range 9).map F).getD i 0)) := fun i => getD_wd (fun z hz => by
    simp only [List.mem_map, List.mem_range] at hz
    obtain ⟨k, hk, rfl⟩ := hz
    match k, hk with
    | 0, _ => exact (i128_wd f0.room).up (by omega)
    | 1, _ => exact (i128_wd f1.room).up (by omega)
    | 2, _ => exact (i128_wd f2.room).up (by omega)
    | 3, _ => exact (i128_wd f3.room).up (by omega)
    | 4, _ => exact (i128_wd f4.room).up (by omega)
    | 5, _ => exact (i128_wd f5.room).up (by omega)
    | 6, _ => exact (i128_wd f6.room).up (by omega)
    | 7, _ => exact (i128_wd f7.room).up (by omega)
    | 8, _ => exact (i128_wd f8.room).up (by omega)
    | n + 9, h => omega) i
  clear hcs hcz hc1
  rw [rounds_succ]
  obtain ⟨c_m0, c_m1, c_m2, c_m3, c_m4, c_m5, c_m6, c_m7, c_m8, f_m0, f_m1, f_m2, f_m3, f_m4, f_m5, f_m6, f_m7, f_m8⟩ := reads9 r_m.out
  have l_m := r_m.out.lt
  go_wp2_with fail
  refine (COf.out _ _ (is_at9 r_m.out HZ.out)).mono ?_
  rintro e w17 ⟨vb, rfl, hb, hbig⟩
  clear c_m0 c_m1 c_m2 c_m3 c_m4 c_m5 c_m6 c_m7 c_m8 f_m0 f_m1 f_m2 f_m3 f_m4 f_m5 f_m6 f_m7 f_m8 l_m
  replace r_m := Lib.hid (r_m.out.keep hb)
  replace r_d := Lib.hid (r_d.out.keep hb)
  replace r_a := Lib.hid (r_a.out.keep hb)
  replace r_t := Lib.hid (r_t.out.keep hb)
  replace HW := Lib.hid (WS.below HW.out hb)
  replace BB := Lib.hid (below_next BB.out hb)
  clear hb
  have D1 := Lib.hid (fun w9 (h9 : Below w17.heap.size w17 w9) => CDet.out _ _ w9 (hbig.below h9))
  have D2 := Lib.hid (fun w9 (h9 : Below w17.heap.size w17 w9) => CAdj.out _ _ w9 (hbig.below h9))
  have HWc := HW
  have AL1 := Lib.hid (fun g g2 s T w ha h2 hb => alike_one dz dh dl g g2 s T w ((i128_wd hd.room).up (by omega)) hd ha h2 hb)
  have AL2 := Lib.hid (fun r base w9 (hr : BL w9 base r ((List.range 9).map F)) (h9 : Below w17.heap.size w17 w9) => alike_any (.slice (some ⟨g_a, 0, none⟩) 9 9) r _ base w9 (HWc.out.below h9) hr (by simp) (by simp) HF.out)
  go_wp2_with fail
  have U9 := Try.underlying56
  have Z9 : (Try.prog.info? 56).map (·.size) = some ([.int .i64 m0, .int .i64 m1, .int .i64 m2, .int .i64 m3, .int .i64 m4, .int .i64 m5, .int .i64 m6, .int .i64 m7, .int .i64 m8] : List Value).length := m9_size
  have KM := Lib.hid (fun (w9 : World) (h9 : Below w17.heap.size w17 w9) => AtB.range (r_m.out.keep h9))
  have KK := Lib.hid (fun (w9 : World) (h : Below w17.heap.size w17 w9) => (⟨KM.out _ h, cells2 (r_d.out.keep h)⟩ : (w9.rangeAt w.heap.size 0 [.int .i64 m0, .int .i64 m1, .int .i64 m2, .int .i64 m3, .int .i64 m4, .int .i64 m5, .int .i64 m6, .int .i64 m7, .int .i64 m8]) ∧ (w9.cell? ⟨g_d, 0, none⟩ = some (.int .i64 dh) ∧ w9.cell? ⟨g_d, 1, none⟩ = some (.int .u64 dl))))
  have K0 := KK.out w17 (Below.refl _ _)
  have KD := KK.out w17.drew (below_drew (Below.refl _ _))
  have tok2 : Hid True := trivial
  have tok4 : Hid True := trivial
  go_region_held3 (fun w9 => (w9.rangeAt w.heap.size 0 [.int .i64 m0, .int .i64 m1, .int .i64 m2, .int .i64 m3, .int .i64 m4, .int .i64 m5, .int .i64 m6, .int .i64 m7, .int .i64 m8]) ∧ (w9.cell? ⟨g_d, 0, none⟩ = some (.int .i64 dh) ∧ w9.cell? ⟨g_d, 1, none⟩ = some (.int .u64 dl)))
      (first | with_reducible exact KD | with_reducible exact K0 | with_reducible exact K_w18 | with_reducible exact K_w19 | with_reducible exact K_w20 | with_reducible exact K_w21 | with_reducible exact K_w22 | with_reducible exact K_w23 | (refine KK.out _ ?_; repeat' (first | with_reducible exact Below.refl _ _ | with_reducible exact B_w18.out | with_reducible exact B_w19.out | with_reducible exact B_w20.out | with_reducible exact B_w21.out | with_reducible exact B_w22.out | with_reducible exact B_w23.out | with_reducible apply below_new | with_reducible apply below_drew | with_reducible apply below_set | omega)))
      (first
        | (go_at_call 35
           refine (CR.out _).mono ?_
           rintro e w18 ⟨rfl, hb⟩
           have B_w18 := Lib.hid (reg_next (w0 := w17) (by repeat (first | with_reducible exact Below.refl _ _ | with_reducible apply below_drew | with_reducible apply below_new)) hb)
           have K_w18 := KK.out _ B_w18.out
           obtain ⟨hc_w18, hf_w18⟩ := below_reads hb
           have hz_w18 := hb.size
           try simp at hz_w18
           try (have z1_w18 := Nat.lt_of_succ_le hz_w18)
           try (have z2_w18 := Nat.lt_of_succ_lt z1_w18)
           have HB_w18 := Lib.hid hb
           clear hb)
        | (go_at_call 39
           refine (D1.out _ ?_).mono ?_
           · repeat (first | with_reducible exact Below.refl _ _ | with_reducible exact B_w18.out | with_reducible apply below_drew | with_reducible apply below_new)
           rintro e w19 ⟨v_x, rfl, hb, h_x⟩
           obtain ⟨A_x, n_x, cap_x, rfl, -⟩ := id h_x.form
           replace h_x := Lib.hid h_x
           have B_w19 := Lib.hid (below_next (by repeat (first | with_reducible exact B_w18.out | with_reducible apply below_new | with_reducible apply below_drew)) hb)
           have K_w19 := KK.out _ B_w19.out
           obtain ⟨hc_w19, hf_w19⟩ := below_reads hb
           have hz_w19 := hb.size
           try simp at hz_w19
           try (have z1_w19 := Nat.lt_of_succ_le hz_w19)
           try (have z2_w19 := Nat.lt_of_succ_lt z1_w19)
           have HB_w19 := Lib.hid hb
           have y_w19_w18 := Nat.le_trans HB_w18.out.size (Nat.le_trans (by (try simp only [World.size_alloc]); omega) hb.size)
           try simp at y_w19_w18
           try (have z3_w19_w18 := Nat.lt_of_succ_le y_w19_w18)
           try (have z4_w19_w18 := Nat.lt_of_succ_lt z3_w19_w18)
           clear hb)
        | (go_at_call 38
           have t_k := tok2
           refine (AL1.out _ _ _ _ _ (by first | exact new_at _ _ _ | exact new_at1 _ _ _ _ | exact AtB.keep (new_at _ _ _) (below_new (Below.refl _ _) _) | exact AtB.keep (AtB.keep (new_at _ _ _) HB_w19.out) (below_new (Below.refl _ _) _)) (by first | exact new_at _ _ _ | exact new_at1 _ _ _ _ | exact AtB.keep (new_at _ _ _) (below_new (Below.refl _ _) _) | exact AtB.keep (AtB.keep (new_at _ _ _) HB_w19.out) (below_new (Below.refl _ _) _)) (h_x.out.below ?_)).mono ?_
           · repeat (first | with_reducible exact Below.refl _ _ | with_reducible exact B_w19.out | with_reducible apply below_drew | with_reducible apply below_new)
           rintro e w20 ⟨rfl, hb⟩
           replace h_x := Lib.hid (h_x.out.below (below_next (by repeat (first | with_reducible exact Below.refl _ _ | with_reducible apply below_new | with_reducible apply below_drew)) hb))
           have B_w20 := Lib.hid (below_next (by repeat (first | with_reducible exact B_w19.out | with_reducible apply below_new | with_reducible apply below_drew)) hb)
           have K_w20 := KK.out _ B_w20.out
           obtain ⟨hc_w20, hf_w20⟩ := below_reads hb
           have hz_w20 := hb.size
           try simp at hz_w20
           try (have z1_w20 := Nat.lt_of_succ_le hz_w20)
           try (have z2_w20 := Nat.lt_of_succ_lt z1_w20)
           have HB_w20 := Lib.hid hb
           have y_w20_w18 := Nat.le_trans HB_w18.out.size (Nat.le_trans (by (try simp only [World.size_alloc]); omega) hb.size)
           try simp at y_w20_w18
           try (have z3_w20_w18 := Nat.lt_of_succ_le y_w20_w18)
           try (have z4_w20_w18 := Nat.lt_of_succ_lt z3_w20_w18)
           have y_w20_w19 := Nat.le_trans HB_w19.out.size (Nat.le_trans (by (try simp only [World.size_alloc]); omega) hb.size)
           try simp at y_w20_w19
           try (have z3_w20_w19 := Nat.lt_of_succ_le y_w20_w19)
           try (have z4_w20_w19 := Nat.lt_of_succ_lt z3_w20_w19)
           clear hb
           clear t_k tok2)
        | (go_at_call 40
           refine (D2.out _ ?_).mono ?_
           · repeat (first | with_reducible exact Below.refl _ _ | with_reducible exact B_w20.out | with_reducible apply below_drew | with_reducible apply below_new)
           rintro e w21 ⟨rr, rfl, hb, hr⟩
           replace h_x := Lib.hid (h_x.out.below (below_next (by repeat (first | with_reducible exact Below.refl _ _ | with_reducible apply below_new | with_reducible apply below_drew)) hb))
           have B_w21 := Lib.hid (below_next (by repeat (first | with_reducible exact B_w20.out | with_reducible apply below_new | with_reducible apply below_drew)) hb)
           have K_w21 := KK.out _ B_w21.out
           obtain ⟨hc_w21, hf_w21⟩ := below_reads hb
           have hz_w21 := hb.size
           try simp at hz_w21
           try (have z1_w21 := Nat.lt_of_succ_le hz_w21)
           try (have z2_w21 := Nat.lt_of_succ_lt z1_w21)
           have HB_w21 := Lib.hid hb
           have y_w21_w18 := Nat.le_trans HB_w18.out.size (Nat.le_trans (by (try simp only [World.size_alloc]); omega) hb.size)
           try simp at y_w21_w18
           try (have z3_w21_w18 := Nat.lt_of_succ_le y_w21_w18)
           try (have z4_w21_w18 := Nat.lt_of_succ_lt z3_w21_w18)
           have y_w21_w19 := Nat.le_trans HB_w19.out.size (Nat.le_trans (by (try simp only [World.size_alloc]); omega) hb.size)
           try simp at y_w21_w19
           try (have z3_w21_w19 := Nat.lt_of_succ_le y_w21_w19)
           try (have z4_w21_w19 := Nat.lt_of_succ_lt z3_w21_w19)
           have y_w21_w20 := Nat.le_trans HB_w20.out.size (Nat.le_trans (by (try simp only [World.size_alloc]); omega) hb.size)
           try simp at y_w21_w20
           try (have z3_w21_w20 := Nat.lt_of_succ_le y_w21_w20)
           try (have z4_w21_w20 := Nat.lt_of_succ_lt z3_w21_w20)
           clear hb)
        | (go_at_call 38
           have t_k := tok4
           refine (AL2.out _ _ _ hr ?_).mono ?_
           · repeat (first | with_reducible exact Below.refl _ _ | with_reducible exact B_w21.out | with_reducible apply below_drew | with_reducible apply below_new)
           rintro e w22 ⟨rfl, hb⟩
           replace h_x := Lib.hid (h_x.out.below (below_next (by repeat (first | with_reducible exact Below.refl _ _ | with_reducible apply below_new | with_reducible apply below_drew)) hb))
           have B_w22 := Lib.hid (below_next (by repeat (first | with_reducible exact B_w21.out | with_reducible apply below_new | with_reducible apply below_drew)) hb)
           have K_w22 := KK.out _ B_w22.out
           obtain ⟨hc_w22, hf_w22⟩ := below_reads hb
           have hz_w22 := hb.size
           try simp at hz_w22
           try (have z1_w22 := Nat.lt_of_succ_le hz_w22)
           try (have z2_w22 := Nat.lt_of_succ_lt z1_w22)
           have HB_w22 := Lib.hid hb
           have y_w22_w18 := Nat.le_trans HB_w18.out.size (Nat.le_trans (by (try simp only [World.size_alloc]); omega) hb.size)
           try simp at y_w22_w18
           try (have z3_w22_w18 := Nat.lt_of_succ_le y_w22_w18)
           try (have z4_w22_w18 := Nat.lt_of_succ_lt z3_w22_w18)
           have y_w22_w19 := Nat.le_trans HB_w19.out.size (Nat.le_trans (by (try simp only [World.size_alloc]); omega) hb.size)
           try simp at y_w22_w19
           try (have z3_w22_w19 := Nat.lt_of_succ_le y_w22_w19)
           try (have z4_w22_w19 := Nat.lt_of_succ_lt z3_w22_w19)
           have y_w22_w20 := Nat.le_trans HB_w20.out.size (Nat.le_trans (by (try simp only [World.size_alloc]); omega) hb.size)
           try simp at y_w22_w20
           try (have z3_w22_w20 := Nat.lt_of_succ_le y_w22_w20)
           try (have z4_w22_w20 := Nat.lt_of_succ_lt z3_w22_w20)
           have y_w22_w21 := Nat.le_trans HB_w21.out.size (Nat.le_trans (by (try simp only [World.size_alloc]); omega) hb.size)
           try simp at y_w22_w21
           try (have z3_w22_w21 := Nat.lt_of_succ_le y_w22_w21)
           try (have z4_w22_w21 := Nat.lt_of_succ_lt z3_w22_w21)
           clear hb
           clear t_k tok4)
        | (go_at_call 36
           refine (CV.out _).mono ?_
           rintro e w23 ⟨rfl, hb⟩
           replace h_x := Lib.hid (h_x.out.below (below_next (by repeat (first | with_reducible exact Below.refl _ _ | with_reducible apply below_new | with_reducible apply below_drew)) hb))
           have B_w23 := Lib.hid (below_next (by repeat (first | with_reducible exact B_w22.out | with_reducible apply below_new | with_reducible apply below_drew)) hb)
           have K_w23 := KK.out _ B_w23.out
           obtain ⟨hc_w23, hf_w23⟩ := below_reads hb
           have hz_w23 := hb.size
           try simp at hz_w23
           try (have z1_w23 := Nat.lt_of_succ_le hz_w23)
           try (have z2_w23 := Nat.lt_of_succ_lt z1_w23)
           have HB_w23 := Lib.hid hb
           have y_w23_w18 := Nat.le_trans HB_w18.out.size (Nat.le_trans (by (try simp only [World.size_alloc]); omega) hb.size)
           try simp at y_w23_w18
           try (have z3_w23_w18 := Nat.lt_of_succ_le y_w23_w18)
           try (have z4_w23_w18 := Nat.lt_of_succ_lt z3_w23_w18)
           have y_w23_w19 := Nat.le_trans HB_w19.out.size (Nat.le_trans (by (try simp only [World.size_alloc]); omega) hb.size)
           try simp at y_w23_w19
           try (have z3_w23_w19 := Nat.lt_of_succ_le y_w23_w19)
           try (have z4_w23_w19 := Nat.lt_of_succ_lt z3_w23_w19)
           have y_w23_w20 := Nat.le_trans HB_w20.out.size (Nat.le_trans (by (try simp only [World.size_alloc]); omega) hb.size)
           try simp at y_w23_w20
           try (have z3_w23_w20 := Nat.lt_of_succ_le y_w23_w20)
           try (have z4_w23_w20 := Nat.lt_of_succ_lt z3_w23_w20)
           have y_w23_w21 := Nat.le_trans HB_w21.out.size (Nat.le_trans (by (try simp only [World.size_alloc]); omega) hb.size)
           try simp at y_w23_w21
           try (have z3_w23_w21 := Nat.lt_of_succ_le y_w23_w21)
           try (have z4_w23_w21 := Nat.lt_of_succ_lt z3_w23_w21)
           have y_w23_w22 := Nat.le_trans HB_w22.out.size (Nat.le_trans (by (try simp only [World.size_alloc]); omega) hb.size)
           try simp at y_w23_w22
           try (have z3_w23_w22 := Nat.lt_of_succ_le y_w23_w22)
           try (have z4_w23_w22 := Nat.lt_of_succ_lt z3_w23_w22)
           clear hb))
  all_goals clear KK K0 KD K_w18 K_w19 K_w20 K_w21 K_w22 K_w23
  all_goals go_wp2_with fail
  all_goals go_ret
  all_goals refine ⟨rfl, below_next BB.out ?_⟩
  all_goals first | exact B_w23.out | skip
  all_goals trace_state
end Go.Proofs.Ythoakbjnofhpbaa
