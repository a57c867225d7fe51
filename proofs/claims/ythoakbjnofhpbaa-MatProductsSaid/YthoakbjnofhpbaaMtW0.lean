/- The walk of law05.MatTells. -/
import Derived.Test.YthoakbjnofhpbaaMl1
import Derived.Test.YthoakbjnofhpbaaMp0
import Derived.Test.YthoakbjnofhpbaaMtT
set_option linter.unusedVariables false
set_option linter.unusedSimpArgs false
namespace Go.Proofs.Ythoakbjnofhpbaa
open Go.RowKit
theorem wpList_load_row_g {P : Program} {ops : Array Oper} {rest : List Oper} {o : Oper} {a : Act} {w : World} {Q : Exit → Act → World → Prop} (ty : TypeId) (x : Operand) (ho : o.op = .load ty x)
    (hw : Region.wanted o (yielded ops a.tmps) = true) (g : Nat) (hx : a.eval x = .pointer (some ⟨g, 0, none⟩)) (t : TypeId) (cs : Array Value) (fr : Nat × Nat) (d : TypeDesc) (hg : w.heap[g]? = some (.cells cs t fr))
    (hu : P.underlying ty = some d) (hd : (match d with | .struct _ | .array _ _ => true | _ => false) = true) (hi : (P.info? ty).map (·.size) = some cs.size)
    (h : wpList P ops Q rest (a.put o.dst (.agg cs)) w) : wpList P ops Q (o :: rest) a w :=
  wpList_step fun K hK => by rw [if_pos hw]; exact wp_load_row ty x ho g hx t cs fr d hg hu hd hi (hK _ _ h)
theorem eq18 (w : World) : (Op.equalIn 10000 W9T (.agg #[.int .i64 0, .int .u64 0, .int .i64 0, .int .u64 0, .int .i64 0, .int .u64 0, .int .i64 0, .int .u64 0, .int .i64 0, .int .u64 0, .int .i64 0, .int .u64 0, .int .i64 0, .int .u64 0, .int .i64 0, .int .u64 0, .int .i64 0, .int .u64 0]) (.agg #[.int .i64 0, .int .u64 0, .int .i64 0, .int .u64 0, .int .i64 0, .int .u64 0, .int .i64 0, .int .u64 0, .int .i64 0, .int .u64 0, .int .i64 0, .int .u64 0, .int .i64 0, .int .u64 0, .int .i64 0, .int .u64 0, .int .i64 0, .int .u64 0])).run Try.prog w = .ok true w := by kernel_rfl
set_option maxRecDepth 100000 in
set_option maxHeartbeats 16000000 in
theorem matTells_no (m0 m1 m2 m3 m4 m5 m6 m7 m8 : Int) (hz : ∀ z ∈ [m0, m1, m2, m3, m4, m5, m6, m7, m8], I64 z) (hf : [m0, m1, m2, m3, m4, m5, m6, m7, m8].any farM = true) (w : World) : Calls Try.prog 7 #[.agg #[.int .i64 m0, .int .i64 m1, .int .i64 m2, .int .i64 m3, .int .i64 m4, .int .i64 m5, .int .i64 m6, .int .i64 m7, .int .i64 m8]] w fun e w' => e = .returned (.bool true) ∧ Below w.heap.size w w' := by
  have CD := Lib.hid (fun w => mdet_no m0 m1 m2 m3 m4 m5 m6 m7 m8 hz hf w)
  have CA := Lib.hid (fun w => madj_no m0 m1 m2 m3 m4 m5 m6 m7 m8 hz hf w)
  have CR5 := Lib.hid (fun v w hv => r5right v [m0, m1, m2, m3, m4, m5, m6, m7, m8] w hv)
  have CR := Lib.hid (fun w => mright m0 m1 m2 m3 m4 m5 m6 m7 m8 hz w)
  rw [hf] at CR5 CR
  have CT := Lib.hid (fun w => mturn m0 m1 m2 m3 m4 m5 m6 m7 m8 w)
  have CU := Lib.hid (fun w => munit w)
  have CV := Lib.hid (fun w => alive5_any w)
  have HZ := Lib.hid hz
  clear hz hf
  have u0 : ∀ w, (Instr.index M9T (.agg #[.int .i64 1, .int .i64 0, .int .i64 0, .int .i64 0, .int .i64 1, .int .i64 0, .int .i64 0, .int .i64 0, .int .i64 1]) (.int .i64 0)).run Try.prog w = .ok (.int .i64 1) w := by intro w; kernel_rfl
  have u1 : ∀ w, (Instr.index M9T (.agg #[.int .i64 1, .int .i64 0, .int .i64 0, .int .i64 0, .int .i64 1, .int .i64 0, .int .i64 0, .int .i64 0, .int .i64 1]) (.int .i64 1)).run Try.prog w = .ok (.int .i64 0) w := by intro w; kernel_rfl
  have u2 : ∀ w, (Instr.index M9T (.agg #[.int .i64 1, .int .i64 0, .int .i64 0, .int .i64 0, .int .i64 1, .int .i64 0, .int .i64 0, .int .i64 0, .int .i64 1]) (.int .i64 2)).run Try.prog w = .ok (.int .i64 0) w := by intro w; kernel_rfl
  have u3 : ∀ w, (Instr.index M9T (.agg #[.int .i64 1, .int .i64 0, .int .i64 0, .int .i64 0, .int .i64 1, .int .i64 0, .int .i64 0, .int .i64 0, .int .i64 1]) (.int .i64 3)).run Try.prog w = .ok (.int .i64 0) w := by intro w; kernel_rfl
  have u4 : ∀ w, (Instr.index M9T (.agg #[.int .i64 1, .int .i64 0, .int .i64 0, .int .i64 0, .int .i64 1, .int .i64 0, .int .i64 0, .int .i64 0, .int .i64 1]) (.int .i64 4)).run Try.prog w = .ok (.int .i64 1) w := by intro w; kernel_rfl
  have u5 : ∀ w, (Instr.index M9T (.agg #[.int .i64 1, .int .i64 0, .int .i64 0, .int .i64 0, .int .i64 1, .int .i64 0, .int .i64 0, .int .i64 0, .int .i64 1]) (.int .i64 5)).run Try.prog w = .ok (.int .i64 0) w := by intro w; kernel_rfl
  have u6 : ∀ w, (Instr.index M9T (.agg #[.int .i64 1, .int .i64 0, .int .i64 0, .int .i64 0, .int .i64 1, .int .i64 0, .int .i64 0, .int .i64 0, .int .i64 1]) (.int .i64 6)).run Try.prog w = .ok (.int .i64 0) w := by intro w; kernel_rfl
  have u7 : ∀ w, (Instr.index M9T (.agg #[.int .i64 1, .int .i64 0, .int .i64 0, .int .i64 0, .int .i64 1, .int .i64 0, .int .i64 0, .int .i64 0, .int .i64 1]) (.int .i64 7)).run Try.prog w = .ok (.int .i64 0) w := by intro w; kernel_rfl
  have u8 : ∀ w, (Instr.index M9T (.agg #[.int .i64 1, .int .i64 0, .int .i64 0, .int .i64 0, .int .i64 1, .int .i64 0, .int .i64 0, .int .i64 0, .int .i64 1]) (.int .i64 8)).run Try.prog w = .ok (.int .i64 1) w := by intro w; kernel_rfl
  have v0 : IntKind.i64.wrap 0 = 0 := by decide
  have v1 : IntKind.i64.wrap 1 = 1 := by decide
  have v2 : IntKind.i64.wrap 2 = 2 := by decide
  have v3 : IntKind.i64.wrap 3 = 3 := by decide
  have v4 : IntKind.i64.wrap 4 = 4 := by decide
  have v5 : IntKind.i64.wrap 5 = 5 := by decide
  have v6 : IntKind.i64.wrap 6 = 6 := by decide
  have v7 : IntKind.i64.wrap 7 = 7 := by decide
  have v8 : IntKind.i64.wrap 8 = 8 := by decide
  have v9 : IntKind.i64.wrap 9 = 9 := by decide
  go_enter Try.func7, Try.ntmps7
  go_upto_region 1 with fail
  have BB := start1 w #[.int .i64 m0, .int .i64 m1, .int .i64 m2, .int .i64 m3, .int .i64 m4, .int .i64 m5, .int .i64 m6, .int .i64 m7, .int .i64 m8] M9T
  obtain ⟨BB, hsz, r_m⟩ := BB
  generalize (w.alloc (.cells #[.int .i64 m0, .int .i64 m1, .int .i64 m2, .int .i64 m3, .int .i64 m4, .int .i64 m5, .int .i64 m6, .int .i64 m7, .int .i64 m8] M9T)) = w0 at *
  replace BB := Lib.hid BB
  replace r_m := Lib.hid r_m
  clear hsz
  obtain ⟨c_m0, c_m1, c_m2, c_m3, c_m4, c_m5, c_m6, c_m7, c_m8, f_m0, f_m1, f_m2, f_m3, f_m4, f_m5, f_m6, f_m7, f_m8⟩ := reads9 r_m.out
  have l_m := r_m.out.lt
  go_wp2_with fail
  refine (CD.out _).mono ?_
  rintro e w1 ⟨rfl, hb⟩
  clear c_m0 c_m1 c_m2 c_m3 c_m4 c_m5 c_m6 c_m7 c_m8 f_m0 f_m1 f_m2 f_m3 f_m4 f_m5 f_m6 f_m7 f_m8 l_m
  replace r_m := Lib.hid (r_m.out.keep hb)
  replace BB := Lib.hid (below_next BB.out hb)
  clear hb
  go_upto_region 2 with fail
  have d_d := Lib.hid (And.intro BB.out.size (And.intro r_m.out.lt (True.intro)))
  obtain ⟨hb, r_d⟩ := laid w1 #[.int .i64 0, .int .u64 0] WT5
  replace r_m := Lib.hid (r_m.out.keep hb)
  replace BB := Lib.hid (below_next BB.out hb)
  replace r_d := Lib.hid r_d
  clear hb
  generalize w1.alloc (.cells #[.int .i64 0, .int .u64 0] WT5) = w2 at *
  generalize w1.heap.size = g_d at *
  obtain ⟨c_m0, c_m1, c_m2, c_m3, c_m4, c_m5, c_m6, c_m7, c_m8, f_m0, f_m1, f_m2, f_m3, f_m4, f_m5, f_m6, f_m7, f_m8⟩ := reads9 r_m.out
  have l_m := r_m.out.lt
  go_wp2_with fail
  refine (CA.out _).mono ?_
  rintro e w3 ⟨rfl, hb⟩
  clear c_m0 c_m1 c_m2 c_m3 c_m4 c_m5 c_m6 c_m7 c_m8 f_m0 f_m1 f_m2 f_m3 f_m4 f_m5 f_m6 f_m7 f_m8 l_m
  replace r_m := Lib.hid (r_m.out.keep hb)
  replace r_d := Lib.hid (r_d.out.keep hb)
  replace BB := Lib.hid (below_next BB.out hb)
  clear hb
  obtain ⟨cs, hcs⟩ : ∃ cs, (#[.int .i64 0, .int .u64 0, .int .i64 0, .int .u64 0, .int .i64 0, .int .u64 0, .int .i64 0, .int .u64 0, .int .i64 0, .int .u64 0, .int .i64 0, .int .u64 0, .int .i64 0, .int .u64 0, .int .i64 0, .int .u64 0, .int .i64 0, .int .u64 0] : Array Value) = cs := ⟨_, rfl⟩
  have hcz : cs.size = 18 := by rw [← hcs]; rfl
  have hc1 : cs.all (·.oneCell') = true := by rw [← hcs]; kernel_rfl
  rw [hcs]
  replace hcs := Lib.hid hcs
  obtain ⟨ST1, ST2⟩ := wide_new w3 #[.int .i64 0, .int .u64 0, .int .i64 0, .int .u64 0, .int .i64 0, .int .u64 0, .int .i64 0, .int .u64 0, .int .i64 0, .int .u64 0, .int .i64 0, .int .u64 0, .int .i64 0, .int .u64 0, .int .i64 0, .int .u64 0, .int .i64 0, .int .u64 0] cs rfl hcz hc1
  clear CD CA
  go_upto_region 3 with fail
  clear ST1 ST2
  have d_a := Lib.hid (And.intro BB.out.size (And.intro r_m.out.lt (And.intro r_d.out.lt (True.intro))))
  obtain ⟨hb, r_a⟩ := laid w3 cs W9T
  replace r_m := Lib.hid (r_m.out.keep hb)
  replace r_d := Lib.hid (r_d.out.keep hb)
  replace BB := Lib.hid (below_next BB.out hb)
  replace r_a := Lib.hid r_a
  clear hb
  generalize w3.alloc (.cells cs W9T) = w4 at *
  generalize w3.heap.size = g_a at *
  obtain ⟨c_m0, c_m1, c_m2, c_m3, c_m4, c_m5, c_m6, c_m7, c_m8, f_m0, f_m1, f_m2, f_m3, f_m4, f_m5, f_m6, f_m7, f_m8⟩ := reads9 r_m.out
  have l_m := r_m.out.lt
  go_wp2_with fail
  refine (CR5.out _ _ (is_at9 r_m.out HZ.out)).mono ?_
  rintro e w9 ⟨rfl, rfl⟩
  go_upto_region 4 with fail
  go_wp2_with fail
  refine (CT.out _).mono ?_
  rintro e w5 ⟨rfl, hb⟩
  clear c_m0 c_m1 c_m2 c_m3 c_m4 c_m5 c_m6 c_m7 c_m8 f_m0 f_m1 f_m2 f_m3 f_m4 f_m5 f_m6 f_m7 f_m8 l_m
  replace r_m := Lib.hid (r_m.out.keep hb)
  replace r_d := Lib.hid (r_d.out.keep hb)
  replace r_a := Lib.hid (r_a.out.keep hb)
  replace BB := Lib.hid (below_next BB.out hb)
  clear hb
  go_upto_region 5 with fail
  have d_t := Lib.hid (And.intro BB.out.size (And.intro r_m.out.lt (And.intro r_d.out.lt (And.intro r_a.out.lt (True.intro)))))
  obtain ⟨hb, r_t⟩ := laid w5 #[.int .i64 m0, .int .i64 m3, .int .i64 m6, .int .i64 m1, .int .i64 m4, .int .i64 m7, .int .i64 m2, .int .i64 m5, .int .i64 m8] M9T
  replace r_m := Lib.hid (r_m.out.keep hb)
  replace r_d := Lib.hid (r_d.out.keep hb)
  replace r_a := Lib.hid (r_a.out.keep hb)
  replace BB := Lib.hid (below_next BB.out hb)
  replace r_t := Lib.hid r_t
  clear hb
  generalize w5.alloc (.cells #[.int .i64 m0, .int .i64 m3, .int .i64 m6, .int .i64 m1, .int .i64 m4, .int .i64 m7, .int .i64 m2, .int .i64 m5, .int .i64 m8] M9T) = w6 at *
  generalize w5.heap.size = g_t at *
  go_wp2_with fail
  refine wp_loop_rounds 10 ?_
  rw [rounds_succ]
  go_wp2_with fail
  have KK := Lib.hid (fun (w9 : World) (h : Below w6.heap.size w6 w9) => (⟨cells9 (r_m.out.keep h), cells9 (r_t.out.keep h)⟩ : (w9.cell? ⟨w.heap.size, 0, none⟩ = some (.int .i64 m0) ∧ w9.cell? ⟨w.heap.size, 1, none⟩ = some (.int .i64 m1) ∧ w9.cell? ⟨w.heap.size, 2, none⟩ = some (.int .i64 m2) ∧ w9.cell? ⟨w.heap.size, 3, none⟩ = some (.int .i64 m3) ∧ w9.cell? ⟨w.heap.size, 4, none⟩ = some (.int .i64 m4) ∧ w9.cell? ⟨w.heap.size, 5, none⟩ = some (.int .i64 m5) ∧ w9.cell? ⟨w.heap.size, 6, none⟩ = some (.int .i64 m6) ∧ w9.cell? ⟨w.heap.size, 7, none⟩ = some (.int .i64 m7) ∧ w9.cell? ⟨w.heap.size, 8, none⟩ = some (.int .i64 m8)) ∧ (w9.cell? ⟨g_t, 0, none⟩ = some (.int .i64 m0) ∧ w9.cell? ⟨g_t, 1, none⟩ = some (.int .i64 m3) ∧ w9.cell? ⟨g_t, 2, none⟩ = some (.int .i64 m6) ∧ w9.cell? ⟨g_t, 3, none⟩ = some (.int .i64 m1) ∧ w9.cell? ⟨g_t, 4, none⟩ = some (.int .i64 m4) ∧ w9.cell? ⟨g_t, 5, none⟩ = some (.int .i64 m7) ∧ w9.cell? ⟨g_t, 6, none⟩ = some (.int .i64 m2) ∧ w9.cell? ⟨g_t, 7, none⟩ = some (.int .i64 m5) ∧ w9.cell? ⟨g_t, 8, none⟩ = some (.int .i64 m8))))
  have K0 := KK.out w6 (Below.refl _ _)
  have KD := KK.out w6.drew (below_drew (Below.refl _ _))
  go_region_held3 (fun w9 => (w9.cell? ⟨w.heap.size, 0, none⟩ = some (.int .i64 m0) ∧ w9.cell? ⟨w.heap.size, 1, none⟩ = some (.int .i64 m1) ∧ w9.cell? ⟨w.heap.size, 2, none⟩ = some (.int .i64 m2) ∧ w9.cell? ⟨w.heap.size, 3, none⟩ = some (.int .i64 m3) ∧ w9.cell? ⟨w.heap.size, 4, none⟩ = some (.int .i64 m4) ∧ w9.cell? ⟨w.heap.size, 5, none⟩ = some (.int .i64 m5) ∧ w9.cell? ⟨w.heap.size, 6, none⟩ = some (.int .i64 m6) ∧ w9.cell? ⟨w.heap.size, 7, none⟩ = some (.int .i64 m7) ∧ w9.cell? ⟨w.heap.size, 8, none⟩ = some (.int .i64 m8)) ∧ (w9.cell? ⟨g_t, 0, none⟩ = some (.int .i64 m0) ∧ w9.cell? ⟨g_t, 1, none⟩ = some (.int .i64 m3) ∧ w9.cell? ⟨g_t, 2, none⟩ = some (.int .i64 m6) ∧ w9.cell? ⟨g_t, 3, none⟩ = some (.int .i64 m1) ∧ w9.cell? ⟨g_t, 4, none⟩ = some (.int .i64 m4) ∧ w9.cell? ⟨g_t, 5, none⟩ = some (.int .i64 m7) ∧ w9.cell? ⟨g_t, 6, none⟩ = some (.int .i64 m2) ∧ w9.cell? ⟨g_t, 7, none⟩ = some (.int .i64 m5) ∧ w9.cell? ⟨g_t, 8, none⟩ = some (.int .i64 m8)))
      (first | with_reducible exact KD | with_reducible exact K0 | with_reducible exact K_w7)
      (first
        | (go_at_call 34
           refine (CU.out _).mono ?_
           rintro e w7 ⟨rfl, hb⟩
           have B_w7 := Lib.hid (reg_next (w0 := w6) (by repeat (first | with_reducible exact Below.refl _ _ | with_reducible apply below_drew | with_reducible apply below_new)) hb)
           have K_w7 := KK.out _ B_w7.out
           clear hb))
  clear KK K0 KD K_w7
  replace r_m := Lib.hid (r_m.out.keep B_w7.out)
  replace r_d := Lib.hid (r_d.out.keep B_w7.out)
  replace r_a := Lib.hid (r_a.out.keep B_w7.out)
  replace r_t := Lib.hid (r_t.out.keep B_w7.out)
  replace BB := Lib.hid (below_next BB.out B_w7.out)
  clear B_w7
  go_wp2_with fail
  rw [rounds_succ]
  go_wp2_with fail
  have KK := Lib.hid (fun (w9 : World) (h : Below w7.heap.size w7 w9) => (⟨cells9 (r_m.out.keep h), cells9 (r_t.out.keep h)⟩ : (w9.cell? ⟨w.heap.size, 0, none⟩ = some (.int .i64 m0) ∧ w9.cell? ⟨w.heap.size, 1, none⟩ = some (.int .i64 m1) ∧ w9.cell? ⟨w.heap.size, 2, none⟩ = some (.int .i64 m2) ∧ w9.cell? ⟨w.heap.size, 3, none⟩ = some (.int .i64 m3) ∧ w9.cell? ⟨w.heap.size, 4, none⟩ = some (.int .i64 m4) ∧ w9.cell? ⟨w.heap.size, 5, none⟩ = some (.int .i64 m5) ∧ w9.cell? ⟨w.heap.size, 6, none⟩ = some (.int .i64 m6) ∧ w9.cell? ⟨w.heap.size, 7, none⟩ = some (.int .i64 m7) ∧ w9.cell? ⟨w.heap.size, 8, none⟩ = some (.int .i64 m8)) ∧ (w9.cell? ⟨g_t, 0, none⟩ = some (.int .i64 m0) ∧ w9.cell? ⟨g_t, 1, none⟩ = some (.int .i64 m3) ∧ w9.cell? ⟨g_t, 2, none⟩ = some (.int .i64 m6) ∧ w9.cell? ⟨g_t, 3, none⟩ = some (.int .i64 m1) ∧ w9.cell? ⟨g_t, 4, none⟩ = some (.int .i64 m4) ∧ w9.cell? ⟨g_t, 5, none⟩ = some (.int .i64 m7) ∧ w9.cell? ⟨g_t, 6, none⟩ = some (.int .i64 m2) ∧ w9.cell? ⟨g_t, 7, none⟩ = some (.int .i64 m5) ∧ w9.cell? ⟨g_t, 8, none⟩ = some (.int .i64 m8))))
  have K0 := KK.out w7 (Below.refl _ _)
  have KD := KK.out w7.drew (below_drew (Below.refl _ _))
  go_region_held3 (fun w9 => (w9.cell? ⟨w.heap.size, 0, none⟩ = some (.int .i64 m0) ∧ w9.cell? ⟨w.heap.size, 1, none⟩ = some (.int .i64 m1) ∧ w9.cell? ⟨w.heap.size, 2, none⟩ = some (.int .i64 m2) ∧ w9.cell? ⟨w.heap.size, 3, none⟩ = some (.int .i64 m3) ∧ w9.cell? ⟨w.heap.size, 4, none⟩ = some (.int .i64 m4) ∧ w9.cell? ⟨w.heap.size, 5, none⟩ = some (.int .i64 m5) ∧ w9.cell? ⟨w.heap.size, 6, none⟩ = some (.int .i64 m6) ∧ w9.cell? ⟨w.heap.size, 7, none⟩ = some (.int .i64 m7) ∧ w9.cell? ⟨w.heap.size, 8, none⟩ = some (.int .i64 m8)) ∧ (w9.cell? ⟨g_t, 0, none⟩ = some (.int .i64 m0) ∧ w9.cell? ⟨g_t, 1, none⟩ = some (.int .i64 m3) ∧ w9.cell? ⟨g_t, 2, none⟩ = some (.int .i64 m6) ∧ w9.cell? ⟨g_t, 3, none⟩ = some (.int .i64 m1) ∧ w9.cell? ⟨g_t, 4, none⟩ = some (.int .i64 m4) ∧ w9.cell? ⟨g_t, 5, none⟩ = some (.int .i64 m7) ∧ w9.cell? ⟨g_t, 6, none⟩ = some (.int .i64 m2) ∧ w9.cell? ⟨g_t, 7, none⟩ = some (.int .i64 m5) ∧ w9.cell? ⟨g_t, 8, none⟩ = some (.int .i64 m8)))
      (first | with_reducible exact KD | with_reducible exact K0 | with_reducible exact K_w8)
      (first
        | (go_at_call 34
           refine (CU.out _).mono ?_
           rintro e w8 ⟨rfl, hb⟩
           have B_w8 := Lib.hid (reg_next (w0 := w7) (by repeat (first | with_reducible exact Below.refl _ _ | with_reducible apply below_drew | with_reducible apply below_new)) hb)
           have K_w8 := KK.out _ B_w8.out
           clear hb))
  clear KK K0 KD K_w8
  replace r_m := Lib.hid (r_m.out.keep B_w8.out)
  replace r_d := Lib.hid (r_d.out.keep B_w8.out)
  replace r_a := Lib.hid (r_a.out.keep B_w8.out)
  replace r_t := Lib.hid (r_t.out.keep B_w8.out)
  replace BB := Lib.hid (below_next BB.out B_w8.out)
  clear B_w8
  go_wp2_with fail
  rw [rounds_succ]
  go_wp2_with fail
  have KK := Lib.hid (fun (w9 : World) (h : Below w8.heap.size w8 w9) => (⟨cells9 (r_m.out.keep h), cells9 (r_t.out.keep h)⟩ : (w9.cell? ⟨w.heap.size, 0, none⟩ = some (.int .i64 m0) ∧ w9.cell? ⟨w.heap.size, 1, none⟩ = some (.int .i64 m1) ∧ w9.cell? ⟨w.heap.size, 2, none⟩ = some (.int .i64 m2) ∧ w9.cell? ⟨w.heap.size, 3, none⟩ = some (.int .i64 m3) ∧ w9.cell? ⟨w.heap.size, 4, none⟩ = some (.int .i64 m4) ∧ w9.cell? ⟨w.heap.size, 5, none⟩ = some (.int .i64 m5) ∧ w9.cell? ⟨w.heap.size, 6, none⟩ = some (.int .i64 m6) ∧ w9.cell? ⟨w.heap.size, 7, none⟩ = some (.int .i64 m7) ∧ w9.cell? ⟨w.heap.size, 8, none⟩ = some (.int .i64 m8)) ∧ (w9.cell? ⟨g_t, 0, none⟩ = some (.int .i64 m0) ∧ w9.cell? ⟨g_t, 1, none⟩ = some (.int .i64 m3) ∧ w9.cell? ⟨g_t, 2, none⟩ = some (.int .i64 m6) ∧ w9.cell? ⟨g_t, 3, none⟩ = some (.int .i64 m1) ∧ w9.cell? ⟨g_t, 4, none⟩ = some (.int .i64 m4) ∧ w9.cell? ⟨g_t, 5, none⟩ = some (.int .i64 m7) ∧ w9.cell? ⟨g_t, 6, none⟩ = some (.int .i64 m2) ∧ w9.cell? ⟨g_t, 7, none⟩ = some (.int .i64 m5) ∧ w9.cell? ⟨g_t, 8, none⟩ = some (.int .i64 m8))))
  have K0 := KK.out w8 (Below.refl _ _)
  have KD := KK.out w8.drew (below_drew (Below.refl _ _))
  go_region_held3 (fun w9 => (w9.cell? ⟨w.heap.size, 0, none⟩ = some (.int .i64 m0) ∧ w9.cell? ⟨w.heap.size, 1, none⟩ = some (.int .i64 m1) ∧ w9.cell? ⟨w.heap.size, 2, none⟩ = some (.int .i64 m2) ∧ w9.cell? ⟨w.heap.size, 3, none⟩ = some (.int .i64 m3) ∧ w9.cell? ⟨w.heap.size, 4, none⟩ = some (.int .i64 m4) ∧ w9.cell? ⟨w.heap.size, 5, none⟩ = some (.int .i64 m5) ∧ w9.cell? ⟨w.heap.size, 6, none⟩ = some (.int .i64 m6) ∧ w9.cell? ⟨w.heap.size, 7, none⟩ = some (.int .i64 m7) ∧ w9.cell? ⟨w.heap.size, 8, none⟩ = some (.int .i64 m8)) ∧ (w9.cell? ⟨g_t, 0, none⟩ = some (.int .i64 m0) ∧ w9.cell? ⟨g_t, 1, none⟩ = some (.int .i64 m3) ∧ w9.cell? ⟨g_t, 2, none⟩ = some (.int .i64 m6) ∧ w9.cell? ⟨g_t, 3, none⟩ = some (.int .i64 m1) ∧ w9.cell? ⟨g_t, 4, none⟩ = some (.int .i64 m4) ∧ w9.cell? ⟨g_t, 5, none⟩ = some (.int .i64 m7) ∧ w9.cell? ⟨g_t, 6, none⟩ = some (.int .i64 m2) ∧ w9.cell? ⟨g_t, 7, none⟩ = some (.int .i64 m5) ∧ w9.cell? ⟨g_t, 8, none⟩ = some (.int .i64 m8)))
      (first | with_reducible exact KD | with_reducible exact K0 | with_reducible exact K_w10)
      (first
        | (go_at_call 34
           refine (CU.out _).mono ?_
           rintro e w10 ⟨rfl, hb⟩
           have B_w10 := Lib.hid (reg_next (w0 := w8) (by repeat (first | with_reducible exact Below.refl _ _ | with_reducible apply below_drew | with_reducible apply below_new)) hb)
           have K_w10 := KK.out _ B_w10.out
           clear hb))
  clear KK K0 KD K_w10
  replace r_m := Lib.hid (r_m.out.keep B_w10.out)
  replace r_d := Lib.hid (r_d.out.keep B_w10.out)
  replace r_a := Lib.hid (r_a.out.keep B_w10.out)
  replace r_t := Lib.hid (r_t.out.keep B_w10.out)
  replace BB := Lib.hid (below_next BB.out B_w10.out)
  clear B_w10
  go_wp2_with fail
  rw [rounds_succ]
  go_wp2_with fail
  have KK := Lib.hid (fun (w9 : World) (h : Below w10.heap.size w10 w9) => (⟨cells9 (r_m.out.keep h), cells9 (r_t.out.keep h)⟩ : (w9.cell? ⟨w.heap.size, 0, none⟩ = some (.int .i64 m0) ∧ w9.cell? ⟨w.heap.size, 1, none⟩ = some (.int .i64 m1) ∧ w9.cell? ⟨w.heap.size, 2, none⟩ = some (.int .i64 m2) ∧ w9.cell? ⟨w.heap.size, 3, none⟩ = some (.int .i64 m3) ∧ w9.cell? ⟨w.heap.size, 4, none⟩ = some (.int .i64 m4) ∧ w9.cell? ⟨w.heap.size, 5, none⟩ = some (.int .i64 m5) ∧ w9.cell? ⟨w.heap.size, 6, none⟩ = some (.int .i64 m6) ∧ w9.cell? ⟨w.heap.size, 7, none⟩ = some (.int .i64 m7) ∧ w9.cell? ⟨w.heap.size, 8, none⟩ = some (.int .i64 m8)) ∧ (w9.cell? ⟨g_t, 0, none⟩ = some (.int .i64 m0) ∧ w9.cell? ⟨g_t, 1, none⟩ = some (.int .i64 m3) ∧ w9.cell? ⟨g_t, 2, none⟩ = some (.int .i64 m6) ∧ w9.cell? ⟨g_t, 3, none⟩ = some (.int .i64 m1) ∧ w9.cell? ⟨g_t, 4, none⟩ = some (.int .i64 m4) ∧ w9.cell? ⟨g_t, 5, none⟩ = some (.int .i64 m7) ∧ w9.cell? ⟨g_t, 6, none⟩ = some (.int .i64 m2) ∧ w9.cell? ⟨g_t, 7, none⟩ = some (.int .i64 m5) ∧ w9.cell? ⟨g_t, 8, none⟩ = some (.int .i64 m8))))
  have K0 := KK.out w10 (Below.refl _ _)
  have KD := KK.out w10.drew (below_drew (Below.refl _ _))
  go_region_held3 (fun w9 => (w9.cell? ⟨w.heap.size, 0, none⟩ = some (.int .i64 m0) ∧ w9.cell? ⟨w.heap.size, 1, none⟩ = some (.int .i64 m1) ∧ w9.cell? ⟨w.heap.size, 2, none⟩ = some (.int .i64 m2) ∧ w9.cell? ⟨w.heap.size, 3, none⟩ = some (.int .i64 m3) ∧ w9.cell? ⟨w.heap.size, 4, none⟩ = some (.int .i64 m4) ∧ w9.cell? ⟨w.heap.size, 5, none⟩ = some (.int .i64 m5) ∧ w9.cell? ⟨w.heap.size, 6, none⟩ = some (.int .i64 m6) ∧ w9.cell? ⟨w.heap.size, 7, none⟩ = some (.int .i64 m7) ∧ w9.cell? ⟨w.heap.size, 8, none⟩ = some (.int .i64 m8)) ∧ (w9.cell? ⟨g_t, 0, none⟩ = some (.int .i64 m0) ∧ w9.cell? ⟨g_t, 1, none⟩ = some (.int .i64 m3) ∧ w9.cell? ⟨g_t, 2, none⟩ = some (.int .i64 m6) ∧ w9.cell? ⟨g_t, 3, none⟩ = some (.int .i64 m1) ∧ w9.cell? ⟨g_t, 4, none⟩ = some (.int .i64 m4) ∧ w9.cell? ⟨g_t, 5, none⟩ = some (.int .i64 m7) ∧ w9.cell? ⟨g_t, 6, none⟩ = some (.int .i64 m2) ∧ w9.cell? ⟨g_t, 7, none⟩ = some (.int .i64 m5) ∧ w9.cell? ⟨g_t, 8, none⟩ = some (.int .i64 m8)))
      (first | with_reducible exact KD | with_reducible exact K0 | with_reducible exact K_w11)
      (first
        | (go_at_call 34
           refine (CU.out _).mono ?_
           rintro e w11 ⟨rfl, hb⟩
           have B_w11 := Lib.hid (reg_next (w0 := w10) (by repeat (first | with_reducible exact Below.refl _ _ | with_reducible apply below_drew | with_reducible apply below_new)) hb)
           have K_w11 := KK.out _ B_w11.out
           clear hb))
  clear KK K0 KD K_w11
  replace r_m := Lib.hid (r_m.out.keep B_w11.out)
  replace r_d := Lib.hid (r_d.out.keep B_w11.out)
  replace r_a := Lib.hid (r_a.out.keep B_w11.out)
  replace r_t := Lib.hid (r_t.out.keep B_w11.out)
  replace BB := Lib.hid (below_next BB.out B_w11.out)
  clear B_w11
  go_wp2_with fail
  rw [rounds_succ]
  go_wp2_with fail
  have KK := Lib.hid (fun (w9 : World) (h : Below w11.heap.size w11 w9) => (⟨cells9 (r_m.out.keep h), cells9 (r_t.out.keep h)⟩ : (w9.cell? ⟨w.heap.size, 0, none⟩ = some (.int .i64 m0) ∧ w9.cell? ⟨w.heap.size, 1, none⟩ = some (.int .i64 m1) ∧ w9.cell? ⟨w.heap.size, 2, none⟩ = some (.int .i64 m2) ∧ w9.cell? ⟨w.heap.size, 3, none⟩ = some (.int .i64 m3) ∧ w9.cell? ⟨w.heap.size, 4, none⟩ = some (.int .i64 m4) ∧ w9.cell? ⟨w.heap.size, 5, none⟩ = some (.int .i64 m5) ∧ w9.cell? ⟨w.heap.size, 6, none⟩ = some (.int .i64 m6) ∧ w9.cell? ⟨w.heap.size, 7, none⟩ = some (.int .i64 m7) ∧ w9.cell? ⟨w.heap.size, 8, none⟩ = some (.int .i64 m8)) ∧ (w9.cell? ⟨g_t, 0, none⟩ = some (.int .i64 m0) ∧ w9.cell? ⟨g_t, 1, none⟩ = some (.int .i64 m3) ∧ w9.cell? ⟨g_t, 2, none⟩ = some (.int .i64 m6) ∧ w9.cell? ⟨g_t, 3, none⟩ = some (.int .i64 m1) ∧ w9.cell? ⟨g_t, 4, none⟩ = some (.int .i64 m4) ∧ w9.cell? ⟨g_t, 5, none⟩ = some (.int .i64 m7) ∧ w9.cell? ⟨g_t, 6, none⟩ = some (.int .i64 m2) ∧ w9.cell? ⟨g_t, 7, none⟩ = some (.int .i64 m5) ∧ w9.cell? ⟨g_t, 8, none⟩ = some (.int .i64 m8))))
  have K0 := KK.out w11 (Below.refl _ _)
  have KD := KK.out w11.drew (below_drew (Below.refl _ _))
  go_region_held3 (fun w9 => (w9.cell? ⟨w.heap.size, 0, none⟩ = some (.int .i64 m0) ∧ w9.cell? ⟨w.heap.size, 1, none⟩ = some (.int .i64 m1) ∧ w9.cell? ⟨w.heap.size, 2, none⟩ = some (.int .i64 m2) ∧ w9.cell? ⟨w.heap.size, 3, none⟩ = some (.int .i64 m3) ∧ w9.cell? ⟨w.heap.size, 4, none⟩ = some (.int .i64 m4) ∧ w9.cell? ⟨w.heap.size, 5, none⟩ = some (.int .i64 m5) ∧ w9.cell? ⟨w.heap.size, 6, none⟩ = some (.int .i64 m6) ∧ w9.cell? ⟨w.heap.size, 7, none⟩ = some (.int .i64 m7) ∧ w9.cell? ⟨w.heap.size, 8, none⟩ = some (.int .i64 m8)) ∧ (w9.cell? ⟨g_t, 0, none⟩ = some (.int .i64 m0) ∧ w9.cell? ⟨g_t, 1, none⟩ = some (.int .i64 m3) ∧ w9.cell? ⟨g_t, 2, none⟩ = some (.int .i64 m6) ∧ w9.cell? ⟨g_t, 3, none⟩ = some (.int .i64 m1) ∧ w9.cell? ⟨g_t, 4, none⟩ = some (.int .i64 m4) ∧ w9.cell? ⟨g_t, 5, none⟩ = some (.int .i64 m7) ∧ w9.cell? ⟨g_t, 6, none⟩ = some (.int .i64 m2) ∧ w9.cell? ⟨g_t, 7, none⟩ = some (.int .i64 m5) ∧ w9.cell? ⟨g_t, 8, none⟩ = some (.int .i64 m8)))
      (first | with_reducible exact KD | with_reducible exact K0 | with_reducible exact K_w12)
      (first
        | (go_at_call 34
           refine (CU.out _).mono ?_
           rintro e w12 ⟨rfl, hb⟩
           have B_w12 := Lib.hid (reg_next (w0 := w11) (by repeat (first | with_reducible exact Below.refl _ _ | with_reducible apply below_drew | with_reducible apply below_new)) hb)
           have K_w12 := KK.out _ B_w12.out
           clear hb))
  clear KK K0 KD K_w12
  replace r_m := Lib.hid (r_m.out.keep B_w12.out)
  replace r_d := Lib.hid (r_d.out.keep B_w12.out)
  replace r_a := Lib.hid (r_a.out.keep B_w12.out)
  replace r_t := Lib.hid (r_t.out.keep B_w12.out)
  replace BB := Lib.hid (below_next BB.out B_w12.out)
  clear B_w12
  go_wp2_with fail
  rw [rounds_succ]
  go_wp2_with fail
  have KK := Lib.hid (fun (w9 : World) (h : Below w12.heap.size w12 w9) => (⟨cells9 (r_m.out.keep h), cells9 (r_t.out.keep h)⟩ : (w9.cell? ⟨w.heap.size, 0, none⟩ = some (.int .i64 m0) ∧ w9.cell? ⟨w.heap.size, 1, none⟩ = some (.int .i64 m1) ∧ w9.cell? ⟨w.heap.size, 2, none⟩ = some (.int .i64 m2) ∧ w9.cell? ⟨w.heap.size, 3, none⟩ = some (.int .i64 m3) ∧ w9.cell? ⟨w.heap.size, 4, none⟩ = some (.int .i64 m4) ∧ w9.cell? ⟨w.heap.size, 5, none⟩ = some (.int .i64 m5) ∧ w9.cell? ⟨w.heap.size, 6, none⟩ = some (.int .i64 m6) ∧ w9.cell? ⟨w.heap.size, 7, none⟩ = some (.int .i64 m7) ∧ w9.cell? ⟨w.heap.size, 8, none⟩ = some (.int .i64 m8)) ∧ (w9.cell? ⟨g_t, 0, none⟩ = some (.int .i64 m0) ∧ w9.cell? ⟨g_t, 1, none⟩ = some (.int .i64 m3) ∧ w9.cell? ⟨g_t, 2, none⟩ = some (.int .i64 m6) ∧ w9.cell? ⟨g_t, 3, none⟩ = some (.int .i64 m1) ∧ w9.cell? ⟨g_t, 4, none⟩ = some (.int .i64 m4) ∧ w9.cell? ⟨g_t, 5, none⟩ = some (.int .i64 m7) ∧ w9.cell? ⟨g_t, 6, none⟩ = some (.int .i64 m2) ∧ w9.cell? ⟨g_t, 7, none⟩ = some (.int .i64 m5) ∧ w9.cell? ⟨g_t, 8, none⟩ = some (.int .i64 m8))))
  have K0 := KK.out w12 (Below.refl _ _)
  have KD := KK.out w12.drew (below_drew (Below.refl _ _))
  go_region_held3 (fun w9 => (w9.cell? ⟨w.heap.size, 0, none⟩ = some (.int .i64 m0) ∧ w9.cell? ⟨w.heap.size, 1, none⟩ = some (.int .i64 m1) ∧ w9.cell? ⟨w.heap.size, 2, none⟩ = some (.int .i64 m2) ∧ w9.cell? ⟨w.heap.size, 3, none⟩ = some (.int .i64 m3) ∧ w9.cell? ⟨w.heap.size, 4, none⟩ = some (.int .i64 m4) ∧ w9.cell? ⟨w.heap.size, 5, none⟩ = some (.int .i64 m5) ∧ w9.cell? ⟨w.heap.size, 6, none⟩ = some (.int .i64 m6) ∧ w9.cell? ⟨w.heap.size, 7, none⟩ = some (.int .i64 m7) ∧ w9.cell? ⟨w.heap.size, 8, none⟩ = some (.int .i64 m8)) ∧ (w9.cell? ⟨g_t, 0, none⟩ = some (.int .i64 m0) ∧ w9.cell? ⟨g_t, 1, none⟩ = some (.int .i64 m3) ∧ w9.cell? ⟨g_t, 2, none⟩ = some (.int .i64 m6) ∧ w9.cell? ⟨g_t, 3, none⟩ = some (.int .i64 m1) ∧ w9.cell? ⟨g_t, 4, none⟩ = some (.int .i64 m4) ∧ w9.cell? ⟨g_t, 5, none⟩ = some (.int .i64 m7) ∧ w9.cell? ⟨g_t, 6, none⟩ = some (.int .i64 m2) ∧ w9.cell? ⟨g_t, 7, none⟩ = some (.int .i64 m5) ∧ w9.cell? ⟨g_t, 8, none⟩ = some (.int .i64 m8)))
      (first | with_reducible exact KD | with_reducible exact K0 | with_reducible exact K_w13)
      (first
        | (go_at_call 34
           refine (CU.out _).mono ?_
           rintro e w13 ⟨rfl, hb⟩
           have B_w13 := Lib.hid (reg_next (w0 := w12) (by repeat (first | with_reducible exact Below.refl _ _ | with_reducible apply below_drew | with_reducible apply below_new)) hb)
           have K_w13 := KK.out _ B_w13.out
           clear hb))
  clear KK K0 KD K_w13
  replace r_m := Lib.hid (r_m.out.keep B_w13.out)
  replace r_d := Lib.hid (r_d.out.keep B_w13.out)
  replace r_a := Lib.hid (r_a.out.keep B_w13.out)
  replace r_t := Lib.hid (r_t.out.keep B_w13.out)
  replace BB := Lib.hid (below_next BB.out B_w13.out)
  clear B_w13
  go_wp2_with fail
  rw [rounds_succ]
  go_wp2_with fail
  have KK := Lib.hid (fun (w9 : World) (h : Below w13.heap.size w13 w9) => (⟨cells9 (r_m.out.keep h), cells9 (r_t.out.keep h)⟩ : (w9.cell? ⟨w.heap.size, 0, none⟩ = some (.int .i64 m0) ∧ w9.cell? ⟨w.heap.size, 1, none⟩ = some (.int .i64 m1) ∧ w9.cell? ⟨w.heap.size, 2, none⟩ = some (.int .i64 m2) ∧ w9.cell? ⟨w.heap.size, 3, none⟩ = some (.int .i64 m3) ∧ w9.cell? ⟨w.heap.size, 4, none⟩ = some (.int .i64 m4) ∧ w9.cell? ⟨w.heap.size, 5, none⟩ = some (.int .i64 m5) ∧ w9.cell? ⟨w.heap.size, 6, none⟩ = some (.int .i64 m6) ∧ w9.cell? ⟨w.heap.size, 7, none⟩ = some (.int .i64 m7) ∧ w9.cell? ⟨w.heap.size, 8, none⟩ = some (.int .i64 m8)) ∧ (w9.cell? ⟨g_t, 0, none⟩ = some (.int .i64 m0) ∧ w9.cell? ⟨g_t, 1, none⟩ = some (.int .i64 m3) ∧ w9.cell? ⟨g_t, 2, none⟩ = some (.int .i64 m6) ∧ w9.cell? ⟨g_t, 3, none⟩ = some (.int .i64 m1) ∧ w9.cell? ⟨g_t, 4, none⟩ = some (.int .i64 m4) ∧ w9.cell? ⟨g_t, 5, none⟩ = some (.int .i64 m7) ∧ w9.cell? ⟨g_t, 6, none⟩ = some (.int .i64 m2) ∧ w9.cell? ⟨g_t, 7, none⟩ = some (.int .i64 m5) ∧ w9.cell? ⟨g_t, 8, none⟩ = some (.int .i64 m8))))
  have K0 := KK.out w13 (Below.refl _ _)
  have KD := KK.out w13.drew (below_drew (Below.refl _ _))
  go_region_held3 (fun w9 => (w9.cell? ⟨w.heap.size, 0, none⟩ = some (.int .i64 m0) ∧ w9.cell? ⟨w.heap.size, 1, none⟩ = some (.int .i64 m1) ∧ w9.cell? ⟨w.heap.size, 2, none⟩ = some (.int .i64 m2) ∧ w9.cell? ⟨w.heap.size, 3, none⟩ = some (.int .i64 m3) ∧ w9.cell? ⟨w.heap.size, 4, none⟩ = some (.int .i64 m4) ∧ w9.cell? ⟨w.heap.size, 5, none⟩ = some (.int .i64 m5) ∧ w9.cell? ⟨w.heap.size, 6, none⟩ = some (.int .i64 m6) ∧ w9.cell? ⟨w.heap.size, 7, none⟩ = some (.int .i64 m7) ∧ w9.cell? ⟨w.heap.size, 8, none⟩ = some (.int .i64 m8)) ∧ (w9.cell? ⟨g_t, 0, none⟩ = some (.int .i64 m0) ∧ w9.cell? ⟨g_t, 1, none⟩ = some (.int .i64 m3) ∧ w9.cell? ⟨g_t, 2, none⟩ = some (.int .i64 m6) ∧ w9.cell? ⟨g_t, 3, none⟩ = some (.int .i64 m1) ∧ w9.cell? ⟨g_t, 4, none⟩ = some (.int .i64 m4) ∧ w9.cell? ⟨g_t, 5, none⟩ = some (.int .i64 m7) ∧ w9.cell? ⟨g_t, 6, none⟩ = some (.int .i64 m2) ∧ w9.cell? ⟨g_t, 7, none⟩ = some (.int .i64 m5) ∧ w9.cell? ⟨g_t, 8, none⟩ = some (.int .i64 m8)))
      (first | with_reducible exact KD | with_reducible exact K0 | with_reducible exact K_w14)
      (first
        | (go_at_call 34
           refine (CU.out _).mono ?_
           rintro e w14 ⟨rfl, hb⟩
           have B_w14 := Lib.hid (reg_next (w0 := w13) (by repeat (first | with_reducible exact Below.refl _ _ | with_reducible apply below_drew | with_reducible apply below_new)) hb)
           have K_w14 := KK.out _ B_w14.out
           clear hb))
  clear KK K0 KD K_w14
  replace r_m := Lib.hid (r_m.out.keep B_w14.out)
  replace r_d := Lib.hid (r_d.out.keep B_w14.out)
  replace r_a := Lib.hid (r_a.out.keep B_w14.out)
  replace r_t := Lib.hid (r_t.out.keep B_w14.out)
  replace BB := Lib.hid (below_next BB.out B_w14.out)
  clear B_w14
  go_wp2_with fail
  rw [rounds_succ]
  go_wp2_with fail
  have KK := Lib.hid (fun (w9 : World) (h : Below w14.heap.size w14 w9) => (⟨cells9 (r_m.out.keep h), cells9 (r_t.out.keep h)⟩ : (w9.cell? ⟨w.heap.size, 0, none⟩ = some (.int .i64 m0) ∧ w9.cell? ⟨w.heap.size, 1, none⟩ = some (.int .i64 m1) ∧ w9.cell? ⟨w.heap.size, 2, none⟩ = some (.int .i64 m2) ∧ w9.cell? ⟨w.heap.size, 3, none⟩ = some (.int .i64 m3) ∧ w9.cell? ⟨w.heap.size, 4, none⟩ = some (.int .i64 m4) ∧ w9.cell? ⟨w.heap.size, 5, none⟩ = some (.int .i64 m5) ∧ w9.cell? ⟨w.heap.size, 6, none⟩ = some (.int .i64 m6) ∧ w9.cell? ⟨w.heap.size, 7, none⟩ = some (.int .i64 m7) ∧ w9.cell? ⟨w.heap.size, 8, none⟩ = some (.int .i64 m8)) ∧ (w9.cell? ⟨g_t, 0, none⟩ = some (.int .i64 m0) ∧ w9.cell? ⟨g_t, 1, none⟩ = some (.int .i64 m3) ∧ w9.cell? ⟨g_t, 2, none⟩ = some (.int .i64 m6) ∧ w9.cell? ⟨g_t, 3, none⟩ = some (.int .i64 m1) ∧ w9.cell? ⟨g_t, 4, none⟩ = some (.int .i64 m4) ∧ w9.cell? ⟨g_t, 5, none⟩ = some (.int .i64 m7) ∧ w9.cell? ⟨g_t, 6, none⟩ = some (.int .i64 m2) ∧ w9.cell? ⟨g_t, 7, none⟩ = some (.int .i64 m5) ∧ w9.cell? ⟨g_t, 8, none⟩ = some (.int .i64 m8))))
  have K0 := KK.out w14 (Below.refl _ _)
  have KD := KK.out w14.drew (below_drew (Below.refl _ _))
  go_region_held3 (fun w9 => (w9.cell? ⟨w.heap.size, 0, none⟩ = some (.int .i64 m0) ∧ w9.cell? ⟨w.heap.size, 1, none⟩ = some (.int .i64 m1) ∧ w9.cell? ⟨w.heap.size, 2, none⟩ = some (.int .i64 m2) ∧ w9.cell? ⟨w.heap.size, 3, none⟩ = some (.int .i64 m3) ∧ w9.cell? ⟨w.heap.size, 4, none⟩ = some (.int .i64 m4) ∧ w9.cell? ⟨w.heap.size, 5, none⟩ = some (.int .i64 m5) ∧ w9.cell? ⟨w.heap.size, 6, none⟩ = some (.int .i64 m6) ∧ w9.cell? ⟨w.heap.size, 7, none⟩ = some (.int .i64 m7) ∧ w9.cell? ⟨w.heap.size, 8, none⟩ = some (.int .i64 m8)) ∧ (w9.cell? ⟨g_t, 0, none⟩ = some (.int .i64 m0) ∧ w9.cell? ⟨g_t, 1, none⟩ = some (.int .i64 m3) ∧ w9.cell? ⟨g_t, 2, none⟩ = some (.int .i64 m6) ∧ w9.cell? ⟨g_t, 3, none⟩ = some (.int .i64 m1) ∧ w9.cell? ⟨g_t, 4, none⟩ = some (.int .i64 m4) ∧ w9.cell? ⟨g_t, 5, none⟩ = some (.int .i64 m7) ∧ w9.cell? ⟨g_t, 6, none⟩ = some (.int .i64 m2) ∧ w9.cell? ⟨g_t, 7, none⟩ = some (.int .i64 m5) ∧ w9.cell? ⟨g_t, 8, none⟩ = some (.int .i64 m8)))
      (first | with_reducible exact KD | with_reducible exact K0 | with_reducible exact K_w15)
      (first
        | (go_at_call 34
           refine (CU.out _).mono ?_
           rintro e w15 ⟨rfl, hb⟩
           have B_w15 := Lib.hid (reg_next (w0 := w14) (by repeat (first | with_reducible exact Below.refl _ _ | with_reducible apply below_drew | with_reducible apply below_new)) hb)
           have K_w15 := KK.out _ B_w15.out
           clear hb))
  clear KK K0 KD K_w15
  replace r_m := Lib.hid (r_m.out.keep B_w15.out)
  replace r_d := Lib.hid (r_d.out.keep B_w15.out)
  replace r_a := Lib.hid (r_a.out.keep B_w15.out)
  replace r_t := Lib.hid (r_t.out.keep B_w15.out)
  replace BB := Lib.hid (below_next BB.out B_w15.out)
  clear B_w15
  go_wp2_with fail
  rw [rounds_succ]
  go_wp2_with fail
  have KK := Lib.hid (fun (w9 : World) (h : Below w15.heap.size w15 w9) => (⟨cells9 (r_m.out.keep h), cells9 (r_t.out.keep h)⟩ : (w9.cell? ⟨w.heap.size, 0, none⟩ = some (.int .i64 m0) ∧ w9.cell? ⟨w.heap.size, 1, none⟩ = some (.int .i64 m1) ∧ w9.cell? ⟨w.heap.size, 2, none⟩ = some (.int .i64 m2) ∧ w9.cell? ⟨w.heap.size, 3, none⟩ = some (.int .i64 m3) ∧ w9.cell? ⟨w.heap.size, 4, none⟩ = some (.int .i64 m4) ∧ w9.cell? ⟨w.heap.size, 5, none⟩ = some (.int .i64 m5) ∧ w9.cell? ⟨w.heap.size, 6, none⟩ = some (.int .i64 m6) ∧ w9.cell? ⟨w.heap.size, 7, none⟩ = some (.int .i64 m7) ∧ w9.cell? ⟨w.heap.size, 8, none⟩ = some (.int .i64 m8)) ∧ (w9.cell? ⟨g_t, 0, none⟩ = some (.int .i64 m0) ∧ w9.cell? ⟨g_t, 1, none⟩ = some (.int .i64 m3) ∧ w9.cell? ⟨g_t, 2, none⟩ = some (.int .i64 m6) ∧ w9.cell? ⟨g_t, 3, none⟩ = some (.int .i64 m1) ∧ w9.cell? ⟨g_t, 4, none⟩ = some (.int .i64 m4) ∧ w9.cell? ⟨g_t, 5, none⟩ = some (.int .i64 m7) ∧ w9.cell? ⟨g_t, 6, none⟩ = some (.int .i64 m2) ∧ w9.cell? ⟨g_t, 7, none⟩ = some (.int .i64 m5) ∧ w9.cell? ⟨g_t, 8, none⟩ = some (.int .i64 m8))))
  have K0 := KK.out w15 (Below.refl _ _)
  have KD := KK.out w15.drew (below_drew (Below.refl _ _))
  go_region_held3 (fun w9 => (w9.cell? ⟨w.heap.size, 0, none⟩ = some (.int .i64 m0) ∧ w9.cell? ⟨w.heap.size, 1, none⟩ = some (.int .i64 m1) ∧ w9.cell? ⟨w.heap.size, 2, none⟩ = some (.int .i64 m2) ∧ w9.cell? ⟨w.heap.size, 3, none⟩ = some (.int .i64 m3) ∧ w9.cell? ⟨w.heap.size, 4, none⟩ = some (.int .i64 m4) ∧ w9.cell? ⟨w.heap.size, 5, none⟩ = some (.int .i64 m5) ∧ w9.cell? ⟨w.heap.size, 6, none⟩ = some (.int .i64 m6) ∧ w9.cell? ⟨w.heap.size, 7, none⟩ = some (.int .i64 m7) ∧ w9.cell? ⟨w.heap.size, 8, none⟩ = some (.int .i64 m8)) ∧ (w9.cell? ⟨g_t, 0, none⟩ = some (.int .i64 m0) ∧ w9.cell? ⟨g_t, 1, none⟩ = some (.int .i64 m3) ∧ w9.cell? ⟨g_t, 2, none⟩ = some (.int .i64 m6) ∧ w9.cell? ⟨g_t, 3, none⟩ = some (.int .i64 m1) ∧ w9.cell? ⟨g_t, 4, none⟩ = some (.int .i64 m4) ∧ w9.cell? ⟨g_t, 5, none⟩ = some (.int .i64 m7) ∧ w9.cell? ⟨g_t, 6, none⟩ = some (.int .i64 m2) ∧ w9.cell? ⟨g_t, 7, none⟩ = some (.int .i64 m5) ∧ w9.cell? ⟨g_t, 8, none⟩ = some (.int .i64 m8)))
      (first | with_reducible exact KD | with_reducible exact K0 | with_reducible exact K_w16)
      (first
        | (go_at_call 34
           refine (CU.out _).mono ?_
           rintro e w16 ⟨rfl, hb⟩
           have B_w16 := Lib.hid (reg_next (w0 := w15) (by repeat (first | with_reducible exact Below.refl _ _ | with_reducible apply below_drew | with_reducible apply below_new)) hb)
           have K_w16 := KK.out _ B_w16.out
           clear hb))
  clear KK K0 KD K_w16
  replace r_m := Lib.hid (r_m.out.keep B_w16.out)
  replace r_d := Lib.hid (r_d.out.keep B_w16.out)
  replace r_a := Lib.hid (r_a.out.keep B_w16.out)
  replace r_t := Lib.hid (r_t.out.keep B_w16.out)
  replace BB := Lib.hid (below_next BB.out B_w16.out)
  clear B_w16
  go_wp2_with fail
  have AB : Try.prog.built W9T [] = some cs := by rw [← hcs.out]; exact adj_built
  have EQ : ∀ w, (Op.equalIn 10000 W9T (.agg cs) (.agg #[.int .i64 0, .int .u64 0, .int .i64 0, .int .u64 0, .int .i64 0, .int .u64 0, .int .i64 0, .int .u64 0, .int .i64 0, .int .u64 0, .int .i64 0, .int .u64 0, .int .i64 0, .int .u64 0, .int .i64 0, .int .u64 0, .int .i64 0, .int .u64 0])).run Try.prog w = .ok true w := by rw [← hcs.out]; exact eq18
  have HI : (Try.prog.info? W9T).map (·.size) = some cs.size := by rw [hcz]; kernel_rfl
  obtain ⟨c_m0, c_m1, c_m2, c_m3, c_m4, c_m5, c_m6, c_m7, c_m8, f_m0, f_m1, f_m2, f_m3, f_m4, f_m5, f_m6, f_m7, f_m8⟩ := reads9 r_m.out
  have l_m := r_m.out.lt
  obtain ⟨c_d0, c_d1, f_d0, f_d1⟩ := reads2 r_d.out
  have l_d := r_d.out.lt
  rw [rounds_succ]
  go_wp2_with fail
  refine (CR.out _).mono ?_
  rintro e w17 ⟨rfl, hb⟩
  clear c_m0 c_m1 c_m2 c_m3 c_m4 c_m5 c_m6 c_m7 c_m8 f_m0 f_m1 f_m2 f_m3 f_m4 f_m5 f_m6 f_m7 f_m8 l_m c_d0 c_d1 f_d0 f_d1 l_d
  replace r_m := Lib.hid (r_m.out.keep hb)
  replace r_d := Lib.hid (r_d.out.keep hb)
  replace r_a := Lib.hid (r_a.out.keep hb)
  replace r_t := Lib.hid (r_t.out.keep hb)
  replace BB := Lib.hid (below_next BB.out hb)
  clear hb
  obtain ⟨c_m0, c_m1, c_m2, c_m3, c_m4, c_m5, c_m6, c_m7, c_m8, f_m0, f_m1, f_m2, f_m3, f_m4, f_m5, f_m6, f_m7, f_m8⟩ := reads9 r_m.out
  have l_m := r_m.out.lt
  obtain ⟨c_d0, c_d1, f_d0, f_d1⟩ := reads2 r_d.out
  have l_d := r_d.out.lt
  go_wp2_with (refine wpList_load_row_g W9T (.tmp 5) rfl (by rfl) g_a rfl W9T cs (0, 0) _ r_a.out Try.underlying63 rfl HI ?_)
  refine (CV.out _).mono ?_
  rintro e w18 ⟨rfl, hb⟩
  clear c_m0 c_m1 c_m2 c_m3 c_m4 c_m5 c_m6 c_m7 c_m8 f_m0 f_m1 f_m2 f_m3 f_m4 f_m5 f_m6 f_m7 f_m8 l_m c_d0 c_d1 f_d0 f_d1 l_d
  replace r_m := Lib.hid (r_m.out.keep hb)
  replace r_d := Lib.hid (r_d.out.keep hb)
  replace r_a := Lib.hid (r_a.out.keep hb)
  replace r_t := Lib.hid (r_t.out.keep hb)
  replace BB := Lib.hid (below_next BB.out hb)
  clear hb
  go_wp2_with fail
  go_ret
  exact ⟨rfl, BB.out⟩
end Go.Proofs.Ythoakbjnofhpbaa
