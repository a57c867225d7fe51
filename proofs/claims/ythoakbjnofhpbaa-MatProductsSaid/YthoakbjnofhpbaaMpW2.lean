/- The walk of law05.MatProducts. -/
import Derived.Test.YthoakbjnofhpbaaMpP
import Derived.Test.YthoakbjnofhpbaaMtW0
set_option linter.unusedVariables false
set_option linter.unusedSimpArgs false
namespace Go.Proofs.Ythoakbjnofhpbaa
open Go.RowKit
set_option maxRecDepth 100000 in
set_option maxHeartbeats 16000000 in
theorem mprod_c (m0 m1 m2 m3 m4 m5 m6 m7 m8 n0 n1 n2 n3 n4 n5 n6 n7 n8 x0 x1 x2 : Int) (hz : ∀ z ∈ [m0, m1, m2, m3, m4, m5, m6, m7, m8], I64 z) (hz2 : ∀ z ∈ [n0, n1, n2, n3, n4, n5, n6, n7, n8], I64 z) (hz3 : ∀ z ∈ [x0, x1, x2], I64 z) (hf1 : [m0, m1, m2, m3, m4, m5, m6, m7, m8].any farM = false) (hf2 : [n0, n1, n2, n3, n4, n5, n6, n7, n8].any farM = true) (hf3 : [x0, x1, x2].any farM = false) (w : World) : Calls Try.prog 8 #[.agg #[.int .i64 m0, .int .i64 m1, .int .i64 m2, .int .i64 m3, .int .i64 m4, .int .i64 m5, .int .i64 m6, .int .i64 m7, .int .i64 m8], .agg #[.int .i64 n0, .int .i64 n1, .int .i64 n2, .int .i64 n3, .int .i64 n4, .int .i64 n5, .int .i64 n6, .int .i64 n7, .int .i64 n8], .agg #[.int .i64 x0, .int .i64 x1, .int .i64 x2]] w fun e w' => e = .returned (.bool true) ∧ Below w.heap.size w w' := by
  have CMu := Lib.hid (fun w => mmul_no2 m0 m1 m2 m3 m4 m5 m6 m7 m8 n0 n1 n2 n3 n4 n5 n6 n7 n8 hz hz2 hf1 hf2 w)
  have CPu := Lib.hid (fun w => mput_ok m0 m1 m2 m3 m4 m5 m6 m7 m8 x0 x1 x2 (far_i32 hf1) (far_i32 hf3) w)
  have D1 := Lib.hid (fun v w hv => r5right v [m0, m1, m2, m3, m4, m5, m6, m7, m8] w hv)
  have D2 := Lib.hid (fun v w hv => r5right v [n0, n1, n2, n3, n4, n5, n6, n7, n8] w hv)
  have D3 := Lib.hid (fun v w hv => r5right v [x0, x1, x2] w hv)
  rw [hf1] at D1
  rw [hf2] at D2
  rw [hf3] at D3
  have HZ := Lib.hid hz
  have HZ2 := Lib.hid hz2
  have HZ3 := Lib.hid hz3
  have COm := Lib.hid (fun v w hv => r5of v [m0, m1, m2, m3, m4, m5, m6, m7, m8] w hv (by simp))
  have COn := Lib.hid (fun v w hv => r5of v [n0, n1, n2, n3, n4, n5, n6, n7, n8] w hv (by simp))
  have COx := Lib.hid (fun v w hv => r5of v [x0, x1, x2] w hv (by simp))
  have CV := Lib.hid (fun w => alive5_any w)
  have Wm : ∀ z ∈ [m0, m1, m2, m3, m4, m5, m6, m7, m8], Wd 200 z := fun z h => (i64_wd (hz z h)).up (by omega)
  have Wn : ∀ z ∈ [n0, n1, n2, n3, n4, n5, n6, n7, n8], Wd 200 z := fun z h => (i64_wd (hz2 z h)).up (by omega)
  have Wx : ∀ z ∈ [x0, x1, x2], Wd 200 z := fun z h => (i64_wd (hz3 z h)).up (by omega)
  have CMul := Lib.hid (fun v u w (hv : BL w 0 v [m0, m1, m2, m3, m4, m5, m6, m7, m8]) (hu : BL w 0 u [n0, n1, n2, n3, n4, n5, n6, n7, n8]) => r5mul v u [m0, m1, m2, m3, m4, m5, m6, m7, m8] [n0, n1, n2, n3, n4, n5, n6, n7, n8] 3 0 w hv hu rfl (.inr rfl) rfl Wm Wn)
  have CMux := Lib.hid (fun v u w (hv : BL w 0 v [m0, m1, m2, m3, m4, m5, m6, m7, m8]) (hu : BL w 0 u [x0, x1, x2]) => r5mul v u [m0, m1, m2, m3, m4, m5, m6, m7, m8] [x0, x1, x2] 1 0 w hv hu rfl (.inl rfl) rfl Wm Wx)
  rw [mul_same] at CMul
  rw [put_same] at CMux
  generalize putF [m0, m1, m2, m3, m4, m5, m6, m7, m8] x0 x1 x2 = E at *
  clear hz hz2 hz3 Wm Wn Wx hf1 hf2 hf3
  go_enter Try.func8, Try.ntmps8
  go_upto_region 1 with fail
  have BB := start3 w #[.int .i64 m0, .int .i64 m1, .int .i64 m2, .int .i64 m3, .int .i64 m4, .int .i64 m5, .int .i64 m6, .int .i64 m7, .int .i64 m8] M9T #[.int .i64 n0, .int .i64 n1, .int .i64 n2, .int .i64 n3, .int .i64 n4, .int .i64 n5, .int .i64 n6, .int .i64 n7, .int .i64 n8] M9T #[.int .i64 x0, .int .i64 x1, .int .i64 x2] A3T
  obtain ⟨BB, hsz, r_m, r_n, r_x⟩ := BB
  generalize (((w.alloc (.cells #[.int .i64 m0, .int .i64 m1, .int .i64 m2, .int .i64 m3, .int .i64 m4, .int .i64 m5, .int .i64 m6, .int .i64 m7, .int .i64 m8] M9T)).alloc (.cells #[.int .i64 n0, .int .i64 n1, .int .i64 n2, .int .i64 n3, .int .i64 n4, .int .i64 n5, .int .i64 n6, .int .i64 n7, .int .i64 n8] M9T)).alloc (.cells #[.int .i64 x0, .int .i64 x1, .int .i64 x2] A3T)) = w0 at *
  replace BB := Lib.hid BB
  replace r_m := Lib.hid r_m
  replace r_n := Lib.hid r_n
  replace r_x := Lib.hid r_x
  clear hsz
  obtain ⟨c_m0, c_m1, c_m2, c_m3, c_m4, c_m5, c_m6, c_m7, c_m8, f_m0, f_m1, f_m2, f_m3, f_m4, f_m5, f_m6, f_m7, f_m8⟩ := reads9 r_m.out
  have l_m := r_m.out.lt
  obtain ⟨c_n0, c_n1, c_n2, c_n3, c_n4, c_n5, c_n6, c_n7, c_n8, f_n0, f_n1, f_n2, f_n3, f_n4, f_n5, f_n6, f_n7, f_n8⟩ := reads9 r_n.out
  have l_n := r_n.out.lt
  go_wp2_with fail
  refine (CMu.out _).mono ?_
  rintro e w1 ⟨rfl, hb⟩
  clear c_m0 c_m1 c_m2 c_m3 c_m4 c_m5 c_m6 c_m7 c_m8 f_m0 f_m1 f_m2 f_m3 f_m4 f_m5 f_m6 f_m7 f_m8 l_m c_n0 c_n1 c_n2 c_n3 c_n4 c_n5 c_n6 c_n7 c_n8 f_n0 f_n1 f_n2 f_n3 f_n4 f_n5 f_n6 f_n7 f_n8 l_n
  replace r_m := Lib.hid (r_m.out.keep hb)
  replace r_n := Lib.hid (r_n.out.keep hb)
  replace r_x := Lib.hid (r_x.out.keep hb)
  replace BB := Lib.hid (below_next BB.out hb)
  clear hb
  obtain ⟨cs, hcs⟩ : ∃ cs, (#[.int .i64 0, .int .u64 0, .int .i64 0, .int .u64 0, .int .i64 0, .int .u64 0, .int .i64 0, .int .u64 0, .int .i64 0, .int .u64 0, .int .i64 0, .int .u64 0, .int .i64 0, .int .u64 0, .int .i64 0, .int .u64 0, .int .i64 0, .int .u64 0] : Array Value) = cs := ⟨_, rfl⟩
  have hcz : cs.size = 18 := by rw [← hcs]; rfl
  have hc1 : cs.all (·.oneCell') = true := by rw [← hcs]; kernel_rfl
  rw [hcs]
  replace hcs := Lib.hid hcs
  obtain ⟨ST1, ST2⟩ := wide_new w1 #[.int .i64 0, .int .u64 0, .int .i64 0, .int .u64 0, .int .i64 0, .int .u64 0, .int .i64 0, .int .u64 0, .int .i64 0, .int .u64 0, .int .i64 0, .int .u64 0, .int .i64 0, .int .u64 0, .int .i64 0, .int .u64 0, .int .i64 0, .int .u64 0] cs rfl hcz hc1
  clear CMu
  go_upto_region 2 with fail
  clear ST1 ST2
  have d_p := Lib.hid (And.intro BB.out.size (And.intro r_m.out.lt (And.intro r_n.out.lt (And.intro r_x.out.lt (True.intro)))))
  obtain ⟨hb, r_p⟩ := laid w1 cs W9T
  replace r_m := Lib.hid (r_m.out.keep hb)
  replace r_n := Lib.hid (r_n.out.keep hb)
  replace r_x := Lib.hid (r_x.out.keep hb)
  replace BB := Lib.hid (below_next BB.out hb)
  replace r_p := Lib.hid r_p
  clear hb
  generalize w1.alloc (.cells cs W9T) = w2 at *
  generalize w1.heap.size = g_p at *
  obtain ⟨c_m0, c_m1, c_m2, c_m3, c_m4, c_m5, c_m6, c_m7, c_m8, f_m0, f_m1, f_m2, f_m3, f_m4, f_m5, f_m6, f_m7, f_m8⟩ := reads9 r_m.out
  have l_m := r_m.out.lt
  obtain ⟨c_x0, c_x1, c_x2, f_x0, f_x1, f_x2⟩ := reads3 r_x.out
  have l_x := r_x.out.lt
  go_wp2_with fail
  refine (CPu.out _).mono ?_
  rintro e w3 ⟨ch0, cl0, ch1, cl1, ch2, cl2, rfl, hb, e0, e1, e2⟩
  clear c_m0 c_m1 c_m2 c_m3 c_m4 c_m5 c_m6 c_m7 c_m8 f_m0 f_m1 f_m2 f_m3 f_m4 f_m5 f_m6 f_m7 f_m8 l_m c_x0 c_x1 c_x2 f_x0 f_x1 f_x2 l_x
  replace r_m := Lib.hid (r_m.out.keep hb)
  replace r_n := Lib.hid (r_n.out.keep hb)
  replace r_x := Lib.hid (r_x.out.keep hb)
  replace r_p := Lib.hid (r_p.out.keep hb)
  replace BB := Lib.hid (below_next BB.out hb)
  clear hb
  clear CPu
  go_upto_region 3 with fail
  have d_c := Lib.hid (And.intro BB.out.size (And.intro r_m.out.lt (And.intro r_n.out.lt (And.intro r_x.out.lt (And.intro r_p.out.lt (True.intro))))))
  obtain ⟨hb, r_c⟩ := laid w3 #[.int .i64 ch0, .int .u64 cl0, .int .i64 ch1, .int .u64 cl1, .int .i64 ch2, .int .u64 cl2] W3T
  replace r_m := Lib.hid (r_m.out.keep hb)
  replace r_n := Lib.hid (r_n.out.keep hb)
  replace r_x := Lib.hid (r_x.out.keep hb)
  replace r_p := Lib.hid (r_p.out.keep hb)
  replace BB := Lib.hid (below_next BB.out hb)
  replace r_c := Lib.hid r_c
  clear hb
  generalize w3.alloc (.cells #[.int .i64 ch0, .int .u64 cl0, .int .i64 ch1, .int .u64 cl1, .int .i64 ch2, .int .u64 cl2] W3T) = w4 at *
  generalize w3.heap.size = g_c at *
  have Q_0 := Lib.hid (fun n => quiet_same (D1.out _ (w4.drewN n) (is_at9 (r_m.out.keep (below_drawn (Below.refl w4.heap.size w4) n)) HZ.out)))
  have Q_1 := Lib.hid (fun n => quiet_same (D2.out _ (w4.drewN n) (is_at9 (r_n.out.keep (below_drawn (Below.refl w4.heap.size w4) n)) HZ2.out)))
  have Q_2 := Lib.hid (fun n => quiet_same (D3.out _ (w4.drewN n) (is_at3 (r_x.out.keep (below_drawn (Below.refl w4.heap.size w4) n)) HZ3.out)))
  go_quiet ((first | (go_at_call 32; with_reducible exact Q_0.out _) | (go_at_call 32; with_reducible exact Q_1.out _) | (go_at_call 32; with_reducible exact Q_2.out _)))
  clear Q_0 Q_1 Q_2
  have hb := below_drawn (Below.refl w4.heap.size w4) nq
  generalize w4.drewN nq = w5 at *
  replace r_m := Lib.hid (r_m.out.keep hb)
  replace r_n := Lib.hid (r_n.out.keep hb)
  replace r_x := Lib.hid (r_x.out.keep hb)
  replace r_p := Lib.hid (r_p.out.keep hb)
  replace r_c := Lib.hid (r_c.out.keep hb)
  replace BB := Lib.hid (below_next BB.out hb)
  clear hb nq
  go_wp2_with fail
  refine (COm.out _ _ (is_at9 r_m.out HZ.out)).mono ?_
  rintro e w6 ⟨v_vb, rfl, hb, h_vb⟩
  replace r_m := Lib.hid (r_m.out.keep hb)
  replace r_n := Lib.hid (r_n.out.keep hb)
  replace r_x := Lib.hid (r_x.out.keep hb)
  replace r_p := Lib.hid (r_p.out.keep hb)
  replace r_c := Lib.hid (r_c.out.keep hb)
  replace BB := Lib.hid (below_next BB.out hb)
  clear hb
  replace h_vb := Lib.hid h_vb
  have h_nn := Lib.hid (is_at9 r_n.out HZ2.out)
  have h_xx := Lib.hid (is_at3 r_x.out HZ3.out)
  have h_cw := Lib.hid (WS.three r_c.out e0 e1 e2)
  have HE : Hid (∀ i, Wd 200 (((List.range 3).map E).getD i 0)) := fun i => getD_wd (fun z hz => by
    simp only [List.mem_map, List.mem_range] at hz
    obtain ⟨k, hk, rfl⟩ := hz
    match k, hk with
    | 0, _ => exact (i128_wd e0.room).up (by omega)
    | 1, _ => exact (i128_wd e1.room).up (by omega)
    | 2, _ => exact (i128_wd e2.room).up (by omega)
    | n + 3, h => omega) i
  have ALc := Lib.hid (fun r base w9 hu hr => alike_any (.slice (some ⟨g_c, 0, none⟩) 3 3) r ((List.range 3).map E) base w9 hu hr (by simp) (by simp) HE.out)
  have AB : Try.prog.built W9T [] = some cs := by rw [← hcs.out]; exact adj_built
  have EQ : ∀ w, (Op.equalIn 10000 W9T (.agg cs) (.agg #[.int .i64 0, .int .u64 0, .int .i64 0, .int .u64 0, .int .i64 0, .int .u64 0, .int .i64 0, .int .u64 0, .int .i64 0, .int .u64 0, .int .i64 0, .int .u64 0, .int .i64 0, .int .u64 0, .int .i64 0, .int .u64 0, .int .i64 0, .int .u64 0])).run Try.prog w = .ok true w := by rw [← hcs.out]; exact eq18
  have HI : (Try.prog.info? W9T).map (·.size) = some cs.size := by rw [hcz]; kernel_rfl
  go_wp2_with (refine wpList_load_row_g W9T (.tmp 7) rfl (by rfl) g_p rfl W9T cs (0, 0) _ r_p.out Try.underlying63 rfl HI ?_)
  clear AB EQ HI
  go_wp2_with fail
  have KK := Lib.hid (fun (w9 : World) (h : Below w6.heap.size w6 w9) => (cells9 (r_m.out.keep h) : (w9.cell? ⟨w.heap.size, 0, none⟩ = some (.int .i64 m0) ∧ w9.cell? ⟨w.heap.size, 1, none⟩ = some (.int .i64 m1) ∧ w9.cell? ⟨w.heap.size, 2, none⟩ = some (.int .i64 m2) ∧ w9.cell? ⟨w.heap.size, 3, none⟩ = some (.int .i64 m3) ∧ w9.cell? ⟨w.heap.size, 4, none⟩ = some (.int .i64 m4) ∧ w9.cell? ⟨w.heap.size, 5, none⟩ = some (.int .i64 m5) ∧ w9.cell? ⟨w.heap.size, 6, none⟩ = some (.int .i64 m6) ∧ w9.cell? ⟨w.heap.size, 7, none⟩ = some (.int .i64 m7) ∧ w9.cell? ⟨w.heap.size, 8, none⟩ = some (.int .i64 m8))))
  have K0 := KK.out w6 (Below.refl _ _)
  have KD := KK.out w6.drew (below_drew (Below.refl _ _))
  go_region_held3 (fun w9 => (w9.cell? ⟨w.heap.size, 0, none⟩ = some (.int .i64 m0) ∧ w9.cell? ⟨w.heap.size, 1, none⟩ = some (.int .i64 m1) ∧ w9.cell? ⟨w.heap.size, 2, none⟩ = some (.int .i64 m2) ∧ w9.cell? ⟨w.heap.size, 3, none⟩ = some (.int .i64 m3) ∧ w9.cell? ⟨w.heap.size, 4, none⟩ = some (.int .i64 m4) ∧ w9.cell? ⟨w.heap.size, 5, none⟩ = some (.int .i64 m5) ∧ w9.cell? ⟨w.heap.size, 6, none⟩ = some (.int .i64 m6) ∧ w9.cell? ⟨w.heap.size, 7, none⟩ = some (.int .i64 m7) ∧ w9.cell? ⟨w.heap.size, 8, none⟩ = some (.int .i64 m8)))
      (first | with_reducible exact KD | with_reducible exact K0 | with_reducible exact K_w7 | with_reducible exact K_w8 | with_reducible exact K_w10 | with_reducible exact K_w11)
      (first
        | (go_at_call 37
           refine (COx.out _ _ (h_xx.out.below ?_)).mono ?_
           · repeat (first | with_reducible exact Below.refl _ _ | with_reducible apply below_drew | with_reducible apply below_new)
           rintro e w7 ⟨v_xb, rfl, hb, h_xb⟩
           replace h_xb := Lib.hid h_xb
           have B_w7 := Lib.hid (reg_next (w0 := w6) (by repeat (first | with_reducible exact Below.refl _ _ | with_reducible apply below_drew | with_reducible apply below_new)) hb)
           have K_w7 := KK.out _ B_w7.out
           clear hb)
        | (go_at_call 43
           refine (CMux.out _ _ _ ((h_vb.out.below B_w7.out).mono (Nat.zero_le _)) (h_xb.out.mono (Nat.zero_le _))).mono ?_
           rintro e w8 ⟨v_qr, rfl, hb, h_qr⟩
           replace h_qr := Lib.hid h_qr
           replace h_xb := Lib.hid (h_xb.out.below hb)
           have B_w8 := Lib.hid (below_next B_w7.out hb)
           have K_w8 := KK.out _ B_w8.out
           clear hb)
        | (go_at_call 38
           refine (ALc.out _ _ _ (h_cw.out.below B_w8.out) h_qr.out).mono ?_
           rintro e w10 ⟨rfl, hb⟩
           replace h_xb := Lib.hid (h_xb.out.below hb)
           replace h_qr := Lib.hid (h_qr.out.below hb)
           have B_w10 := Lib.hid (below_next B_w8.out hb)
           have K_w10 := KK.out _ B_w10.out
           clear hb)
        | (go_at_call 36
           refine (CV.out _).mono ?_
           rintro e w11 ⟨rfl, hb⟩
           replace h_xb := Lib.hid (h_xb.out.below hb)
           replace h_qr := Lib.hid (h_qr.out.below hb)
           have B_w11 := Lib.hid (below_next B_w10.out hb)
           have K_w11 := KK.out _ B_w11.out
           clear hb))
  clear KK K0 KD K_w7 K_w8 K_w10 K_w11
  replace r_m := Lib.hid (r_m.out.keep B_w11.out)
  replace r_n := Lib.hid (r_n.out.keep B_w11.out)
  replace r_x := Lib.hid (r_x.out.keep B_w11.out)
  replace r_p := Lib.hid (r_p.out.keep B_w11.out)
  replace r_c := Lib.hid (r_c.out.keep B_w11.out)
  replace h_vb := Lib.hid (h_vb.out.below B_w11.out)
  replace h_nn := Lib.hid (h_nn.out.below B_w11.out)
  replace h_xx := Lib.hid (h_xx.out.below B_w11.out)
  replace h_cw := Lib.hid (h_cw.out.below B_w11.out)
  replace BB := Lib.hid (below_next BB.out B_w11.out)
  clear B_w7 B_w8 B_w10 B_w11
  go_wp2_with fail
  go_ret
  exact ⟨rfl, BB.out⟩
end Go.Proofs.Ythoakbjnofhpbaa
