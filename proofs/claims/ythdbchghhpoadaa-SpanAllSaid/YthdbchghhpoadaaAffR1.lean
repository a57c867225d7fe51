/- Contracts of the document's affine maps: times, apart, At. -/
import Derived.Test.YthdbchghhpoadaaAffR0
import Derived.Test.YthdbchghhpoadaaAff3
import Derived.Test.YthdbchghhpoadaaRQuot1
import Derived.Deep.DeepCutAuto
set_option linter.unusedVariables false
namespace Go.Proofs.Ythdbchghhpoadaa
open Go.RowKit
abbrev BT : TypeId := 52

set_option maxHeartbeats 2000000 in
theorem rtimes (a : Int) (v : Value) (z : Int) {n : Nat} (ha : I64 a) (hz : Wd n z) (hn : n ≤ 1400) (w : World) (hv : BR w v z) : Calls Try.prog 66 #[.int .i64 a, v] w (GiveB (a * z) w) := by
  obtain ⟨A, m, cap, rfl, -⟩ := id hv.form
  have CO := Lib.hid (fun w => of_any a ha w)
  have CM := Lib.hid (fun (u v : Value) w (hu : BR w u a) (hv : BR w v z) => mul_any u v a z w hu hv ((i64_wd ha).mid (by omega)) (hz.mid (by omega)))
  replace hv := Lib.hid hv
  clear ha hz hn
  generalize a * z = P at *
  go_enter Try.func66, Try.ntmps66
  go_wp2_with fail
  have BB := start2 w #[.bool (sgn z), .slice A m cap] BT #[.bool false, .slice none 0 0] BT
  obtain ⟨BB, hsz, r_b, r_res⟩ := BB
  generalize ((w.alloc (.cells #[.bool (sgn z), .slice A m cap] BT)).alloc (.cells #[.bool false, .slice none 0 0] BT)) = w0 at *
  replace BB := Lib.hid BB
  replace r_b := Lib.hid r_b
  replace r_res := Lib.hid r_res
  clear hsz
  have h_b := Lib.hid (hv.out.below BB.out)
  clear hv
  have KK := Lib.hid (fun (w9 : World) (h : Below w0.heap.size w0 w9) => (cells2 (r_b.out.keep h) : (w9.cell? ⟨w.heap.size, 0, none⟩ = some (.bool (sgn z)) ∧ w9.cell? ⟨w.heap.size, 1, none⟩ = some (.slice A m cap))))
  have K0 := KK.out w0 (Below.refl _ _)
  have KD := KK.out w0.drew (below_drew (Below.refl _ _))
  go_region_held3 (fun w9 => (w9.cell? ⟨w.heap.size, 0, none⟩ = some (.bool (sgn z)) ∧ w9.cell? ⟨w.heap.size, 1, none⟩ = some (.slice A m cap)))
      (first | with_reducible exact KD | with_reducible exact K0 | with_reducible exact K_w1 | with_reducible exact K_w2 | with_reducible exact cells2 ((r_b.out.keep B_w2.out).far2 (by omega) _ _))
      (first
        | (go_at_call 67
           refine (CO.out _).mono ?_
           rintro e w1 ⟨v_o, rfl, hb, h_o⟩
           obtain ⟨A_o, n_o, cap_o, rfl, -⟩ := id h_o.form
           replace h_o := Lib.hid h_o
           have B_w1 := Lib.hid (reg_next (w0 := w0) (by repeat (first | with_reducible exact Below.refl _ _ | with_reducible apply below_drew | with_reducible apply below_new)) hb)
           have K_w1 := KK.out _ B_w1.out
           clear hb)
        | (go_at_call 58
           refine (CM.out _ _ _ h_o.out (h_b.out.below B_w1.out)).mono ?_
           rintro e w2 ⟨v_p, rfl, hb, h_p⟩
           obtain ⟨A_p, n_p, cap_p, rfl, -⟩ := id h_p.form
           replace h_p := Lib.hid h_p
           replace h_o := Lib.hid (h_o.out.below hb)
           have B_w2 := Lib.hid (below_next B_w1.out hb)
           have K_w2 := KK.out _ B_w2.out
           obtain ⟨rc_res0, rc_res1, rf_res0, rf_res1⟩ := reads2 (r_res.out.keep B_w2.out)
           have rl_res := (r_res.out.keep B_w2.out).lt
           clear hb))
  clear KK K0 KD K_w1 K_w2
  replace r_b := Lib.hid (r_b.out.keep B_w2.out)
  replace r_res := Lib.hid (r_res.out.keep B_w2.out)
  replace h_b := Lib.hid (h_b.out.below B_w2.out)
  replace BB := Lib.hid (below_next BB.out B_w2.out)
  clear B_w1 B_w2
  go_wp2_with fail
  refine bodyPost_ret (v := .agg #[.bool (sgn P), .slice A_p n_p cap_p]) (by unfold results; simp only [Try.results66]; go_simp) rfl ?_
  exact give_res BB.out h_p.out r_res.out (by omega) rfl

set_option maxHeartbeats 4000000 in
theorem rapart (p d l : Int) (hp : I64 p) (hd : I64 d) (hl : I64 l) (w : World) : Calls Try.prog 64 #[.int .i64 p, .int .i64 d, .int .i64 l] w (GiveB (p * 65536 - d * l) w) := by
  have wp' := i64_wd hp
  have wl := i64_wd hl
  have w1 : Wd 200 (p * 65536) := ((wp'.mul (show Wd 16 65536 by unfold Wd; decide))).up (by omega)
  have w2 : Wd 200 (d * l) := ((i64_wd hd).mul wl).up (by omega)
  have CP := Lib.hid (fun w => of_any p hp w)
  have CL := Lib.hid (fun w => of_any l hl w)
  have CW := Lib.hid (fun w => pow_any 16 (by omega) w)
  rw [pow16] at CW
  have CM := Lib.hid (fun (u v : Value) w (hu : BR w u p) (hv : BR w v 65536) => mul_any u v p 65536 w hu hv (wp'.mid (by omega)) ((show Wd 16 65536 by unfold Wd; decide).mid (by omega)))
  have CT := Lib.hid (fun (v : Value) w (hv : BR w v l) => rtimes d v l hd wl (by omega) w hv)
  have CS := Lib.hid (fun (u v : Value) w (hu : BR w u (p * 65536)) (hv : BR w v (d * l)) => sub_any u v (p * 65536) (d * l) w hu hv (w1.mid (by omega)) (w2.mid (by omega)))
  clear hp hd hl wp' wl w1 w2
  generalize p * 65536 - d * l = Z at *
  generalize p * 65536 = P at *
  generalize d * l = Q at *
  go_enter Try.func64, Try.ntmps64
  go_wp2_with fail
  have BB := start1 w #[.bool false, .slice none 0 0] BT
  obtain ⟨BB, hsz, r_res⟩ := BB
  generalize (w.alloc (.cells #[.bool false, .slice none 0 0] BT)) = w0 at *
  replace BB := Lib.hid BB
  replace r_res := Lib.hid r_res
  clear hsz
  refine (CP.out _).mono ?_
  rintro e w1 ⟨v_a, rfl, hb, h_a⟩
  obtain ⟨A_a, n_a, cap_a, rfl, -⟩ := id h_a.form
  replace h_a := Lib.hid h_a
  replace r_res := Lib.hid (r_res.out.keep hb)
  replace BB := Lib.hid (below_next BB.out hb)
  clear hb
  go_wp2_with fail
  refine (CW.out _).mono ?_
  rintro e w2 ⟨v_b, rfl, hb, h_b⟩
  obtain ⟨A_b, n_b, cap_b, rfl, -⟩ := id h_b.form
  replace h_b := Lib.hid h_b
  replace r_res := Lib.hid (r_res.out.keep hb)
  replace h_a := Lib.hid (h_a.out.below hb)
  replace BB := Lib.hid (below_next BB.out hb)
  clear hb
  go_wp2_with fail
  refine (CM.out _ _ _ h_a.out h_b.out).mono ?_
  rintro e w3 ⟨v_m, rfl, hb, h_m⟩
  obtain ⟨A_m, n_m, cap_m, rfl, -⟩ := id h_m.form
  replace h_m := Lib.hid h_m
  replace r_res := Lib.hid (r_res.out.keep hb)
  replace h_a := Lib.hid (h_a.out.below hb)
  replace h_b := Lib.hid (h_b.out.below hb)
  replace BB := Lib.hid (below_next BB.out hb)
  clear hb
  go_wp2_with fail
  refine (CL.out _).mono ?_
  rintro e w4 ⟨v_c, rfl, hb, h_c⟩
  obtain ⟨A_c, n_c, cap_c, rfl, -⟩ := id h_c.form
  replace h_c := Lib.hid h_c
  replace r_res := Lib.hid (r_res.out.keep hb)
  replace h_a := Lib.hid (h_a.out.below hb)
  replace h_b := Lib.hid (h_b.out.below hb)
  replace h_m := Lib.hid (h_m.out.below hb)
  replace BB := Lib.hid (below_next BB.out hb)
  clear hb
  go_wp2_with fail
  refine (CT.out _ _ h_c.out).mono ?_
  rintro e w5 ⟨v_t, rfl, hb, h_t⟩
  obtain ⟨A_t, n_t, cap_t, rfl, -⟩ := id h_t.form
  replace h_t := Lib.hid h_t
  replace r_res := Lib.hid (r_res.out.keep hb)
  replace h_a := Lib.hid (h_a.out.below hb)
  replace h_b := Lib.hid (h_b.out.below hb)
  replace h_m := Lib.hid (h_m.out.below hb)
  replace h_c := Lib.hid (h_c.out.below hb)
  replace BB := Lib.hid (below_next BB.out hb)
  clear hb
  go_wp2_with fail
  refine (CS.out _ _ _ h_m.out h_t.out).mono ?_
  rintro e w6 ⟨v_s, rfl, hb, h_s⟩
  obtain ⟨A_s, n_s, cap_s, rfl, -⟩ := id h_s.form
  replace h_s := Lib.hid h_s
  replace r_res := Lib.hid (r_res.out.keep hb)
  replace h_a := Lib.hid (h_a.out.below hb)
  replace h_b := Lib.hid (h_b.out.below hb)
  replace h_m := Lib.hid (h_m.out.below hb)
  replace h_c := Lib.hid (h_c.out.below hb)
  replace h_t := Lib.hid (h_t.out.below hb)
  replace BB := Lib.hid (below_next BB.out hb)
  clear hb
  obtain ⟨c_res0, c_res1, f_res0, f_res1⟩ := reads2 r_res.out
  have l_res := r_res.out.lt
  go_wp2_with fail
  refine bodyPost_ret (v := .agg #[.bool (sgn Z), .slice A_s n_s cap_s]) (by unfold results; simp only [Try.results64]; go_simp) rfl ?_
  exact give_res BB.out h_s.out r_res.out (by omega) rfl

set_option maxRecDepth 100000 in
set_option maxHeartbeats 16000000 in
theorem rat18 (v : Value) (c0 c1 c2 c3 c4 c5 px py d : Int) (hM : AM c0 c1 c2 c3 c4 c5) (hp : rightI px py d = true) (w : World) (hv : IS w v [c0, c1, c2, c3, c4, c5]) :
    Calls Try.prog 32 #[v, .int .i64 px, .int .i64 py, .int .i64 d] w fun e w' =>
      e = .returned (.tuple #[.int .i64 (plU (65536 * c4) (-65536 * c1) (c1 * c5 - c4 * c2) (detI c0 c1 c3 c4) px py d), .int .i64 (plU (-65536 * c3) (65536 * c0) (c3 * c2 - c0 * c5) (detI c0 c1 c3 c4) px py d)]) ∧ Below w.heap.size w w' := by
  obtain ⟨q0, q1, h1, h2⟩ := rightI_iff.1 hp
  have CD := Lib.hid (fun w hv => rdet18 v c0 c1 c2 c3 c4 c5 hM.a hM.b hM.d hM.e w hv)
  have hdet := (det_in hM.a hM.b hM.d hM.e).2.2
  obtain ⟨ha, hb, hc, hd, he, hf, hz⟩ := hM
  have X1 := Lib.hid (fun w => rapart px d c2 ⟨by omega, by omega⟩ ⟨by omega, by omega⟩ ⟨by omega, by omega⟩ w)
  have X2 := Lib.hid (fun w => rapart py d c5 ⟨by omega, by omega⟩ ⟨by omega, by omega⟩ ⟨by omega, by omega⟩ w)
  have k1 := mul_in (show -16 ≤ d ∧ d ≤ 16 by omega) hc
  have k2 := mul_in (show -16 ≤ d ∧ d ≤ 16 by omega) hf
  have wx : Wd 63 (px * 65536 - d * c2) := i64_wd ⟨by omega, by omega⟩
  have wy : Wd 63 (py * 65536 - d * c5) := i64_wd ⟨by omega, by omega⟩
  have i0 : I64 c0 := ⟨by omega, by omega⟩
  have i1 : I64 c1 := ⟨by omega, by omega⟩
  have i3 : I64 c3 := ⟨by omega, by omega⟩
  have i4 : I64 c4 := ⟨by omega, by omega⟩
  have id : I64 d := ⟨by omega, by omega⟩
  have iD : I64 (detI c0 c1 c3 c4) := ⟨by omega, by omega⟩
  have hU : c4 * (px * 65536 - d * c2) - c1 * (py * 65536 - d * c5) = 65536 * c4 * px + -65536 * c1 * py + (c1 * c5 - c4 * c2) * d := by grind
  have hV : c0 * (py * 65536 - d * c5) - c3 * (px * 65536 - d * c2) = -65536 * c3 * px + 65536 * c0 * py + (c3 * c2 - c0 * c5) * d := by grind
  have hn : d * detI c0 c1 c3 c4 ≠ 0 := Int.mul_ne_zero (by omega) hz
  have PU : plU (65536 * c4) (-65536 * c1) (c1 * c5 - c4 * c2) (detI c0 c1 c3 c4) px py d = cutI (((c4 * (px * 65536 - d * c2) - c1 * (py * 65536 - d * c5)) * 65536).fdiv (d * detI c0 c1 c3 c4)) := by unfold plU; rw [hU, Int.mul_comm d]
  have PV : plU (-65536 * c3) (65536 * c0) (c3 * c2 - c0 * c5) (detI c0 c1 c3 c4) px py d = cutI (((c0 * (py * 65536 - d * c5) - c3 * (px * 65536 - d * c2)) * 65536).fdiv (d * detI c0 c1 c3 c4)) := by unfold plU; rw [hV, Int.mul_comm d]
  rw [PU, PV]
  clear PU PV hU hV
  generalize px * 65536 - d * c2 = x at *
  generalize py * 65536 - d * c5 = y at *
  generalize detI c0 c1 c3 c4 = D at *
  have T1 := Lib.hid (fun (v : Value) w (hv : BR w v x) => rtimes c4 v x i4 wx (by omega) w hv)
  have T2 := Lib.hid (fun (v : Value) w (hv : BR w v y) => rtimes c1 v y i1 wy (by omega) w hv)
  have T3 := Lib.hid (fun (v : Value) w (hv : BR w v y) => rtimes c0 v y i0 wy (by omega) w hv)
  have T4 := Lib.hid (fun (v : Value) w (hv : BR w v x) => rtimes c3 v x i3 wx (by omega) w hv)
  have T5 := Lib.hid (fun (v : Value) w (hv : BR w v D) => rtimes d v D id (i64_wd iD) (by omega) w hv)
  have w1 : Wd 126 (c4 * x) := (i64_wd i4).mul wx
  have w2 : Wd 126 (c1 * y) := (i64_wd i1).mul wy
  have w3 : Wd 126 (c0 * y) := (i64_wd i0).mul wy
  have w4 : Wd 126 (c3 * x) := (i64_wd i3).mul wx
  have w5 : Wd 126 (d * D) := (i64_wd id).mul (i64_wd iD)
  have S1 := Lib.hid (fun (u v : Value) w (hu : BR w u (c4 * x)) (hv : BR w v (c1 * y)) => sub_any u v (c4 * x) (c1 * y) w hu hv (w1.mid (by omega)) (w2.mid (by omega)))
  have S2 := Lib.hid (fun (u v : Value) w (hu : BR w u (c0 * y)) (hv : BR w v (c3 * x)) => sub_any u v (c0 * y) (c3 * x) w hu hv (w3.mid (by omega)) (w4.mid (by omega)))
  have P1 := Lib.hid (fun (u v : Value) w (hu : BR w u (c4 * x - c1 * y)) (hv : BR w v (d * D)) => r2place u v (c4 * x - c1 * y) (d * D) w hu hv ((w1.sub w2).up (by omega)) (w5.up (by omega)) hn)
  have P2 := Lib.hid (fun (u v : Value) w (hu : BR w u (c0 * y - c3 * x)) (hv : BR w v (d * D)) => r2place u v (c0 * y - c3 * x) (d * D) w hu hv ((w3.sub w4).up (by omega)) (w5.up (by omega)) hn)
  have O1 := Lib.hid (fun w => of_any D iD w)
  have hv' := Lib.hid hv
  obtain ⟨bk, off, cap, rfl, hcap, h2', hlt, hS⟩ := hv.six
  have KS := Lib.hid (fun w9 h => (hS.keep hlt h : S6 bk off c0 c1 c2 c3 c4 c5 w9))
  obtain ⟨s0, s1, s2, s3, s4, s5⟩ := hS
  clear hp q0 q1 h1 h2 hdet ha hb hc hd he hf hz k1 k2 wx wy i0 i1 i3 i4 id iD hn w1 w2 w3 w4 w5 hv
  generalize cutI (((c4 * x - c1 * y) * 65536).fdiv (d * D)) = RU at *
  generalize cutI (((c0 * y - c3 * x) * 65536).fdiv (d * D)) = RV at *
  generalize c4 * x - c1 * y = U at *
  generalize c0 * y - c3 * x = V at *
  generalize d * D = B at *
  generalize c4 * x = e1 at *
  generalize c1 * y = e2 at *
  generalize c0 * y = e3 at *
  generalize c3 * x = e4 at *
  go_enter Try.func32, Try.ntmps32
  go_wp2_with fail
  have BB : Hid (Below w.heap.size w w) := Below.refl _ _
  have h_v := Lib.hid (hv'.out.below BB.out)
  clear s0 s1 s2 s3 s4 s5
  refine (X1.out _).mono ?_
  rintro e w1 ⟨v_x, rfl, hb, h_x⟩
  obtain ⟨A_x, n_x, cap_x, rfl, -⟩ := id h_x.form
  replace h_x := Lib.hid h_x
  replace h_v := Lib.hid (IS.below h_v.out hb)
  replace BB := Lib.hid (below_next BB.out hb)
  clear hb
  obtain ⟨k0, k1, k2, k3, k4, k5⟩ := KS.out _ BB.out
  have kl := Nat.lt_of_lt_of_le hlt BB.out.size
  go_wp2_with fail
  clear k0 k1 k2 k3 k4 k5 kl
  have d_x := Lib.hid (And.intro BB.out.size (True.intro))
  obtain ⟨hb, r_x⟩ := laid w1 #[.bool (sgn (x)), .slice A_x n_x cap_x] 52
  replace h_x := Lib.hid (h_x.out.below hb)
  replace h_v := Lib.hid (IS.below h_v.out hb)
  replace BB := Lib.hid (below_next BB.out hb)
  replace r_x := Lib.hid r_x
  clear hb
  generalize w1.alloc (.cells #[.bool (sgn (x)), .slice A_x n_x cap_x] 52) = w2 at *
  generalize w1.heap.size = g_x at *
  refine (X2.out _).mono ?_
  rintro e w3 ⟨v_y, rfl, hb, h_y⟩
  obtain ⟨A_y, n_y, cap_y, rfl, -⟩ := id h_y.form
  replace h_y := Lib.hid h_y
  replace r_x := Lib.hid (r_x.out.keep hb)
  replace h_x := Lib.hid (h_x.out.below hb)
  replace h_v := Lib.hid (IS.below h_v.out hb)
  replace BB := Lib.hid (below_next BB.out hb)
  clear hb
  obtain ⟨k0, k1, k2, k3, k4, k5⟩ := KS.out _ BB.out
  have kl := Nat.lt_of_lt_of_le hlt BB.out.size
  go_wp2_with fail
  clear k0 k1 k2 k3 k4 k5 kl
  have d_y := Lib.hid (And.intro BB.out.size (And.intro r_x.out.lt (True.intro)))
  obtain ⟨hb, r_y⟩ := laid w3 #[.bool (sgn (y)), .slice A_y n_y cap_y] 52
  replace r_x := Lib.hid (r_x.out.keep hb)
  replace h_x := Lib.hid (h_x.out.below hb)
  replace h_y := Lib.hid (h_y.out.below hb)
  replace h_v := Lib.hid (IS.below h_v.out hb)
  replace BB := Lib.hid (below_next BB.out hb)
  replace r_y := Lib.hid r_y
  clear hb
  generalize w3.alloc (.cells #[.bool (sgn (y)), .slice A_y n_y cap_y] 52) = w4 at *
  generalize w3.heap.size = g_y at *
  go_cut [12] (fun s5 wc1 => ∃ gp A3 n3 c3, s5 = .pointer (some ⟨gp, 0, none⟩) ∧ Hid (AtB wc1 gp #[.bool (sgn (U)), .slice A3 n3 c3] 52 ∧ BR wc1 (.agg #[.bool (sgn (U)), .slice A3 n3 c3]) (U) ∧ Below w4.heap.size w4 wc1 ∧ w4.heap.size ≤ gp))
  case first =>
    clear X1 X2 T3 T4 T5 S2 P1 P2 O1 CD
    have KK := Lib.hid (fun (w9 : World) (h : Below w4.heap.size w4 w9) => (⟨KS.out _ (below_next BB.out h), cells2 (r_x.out.keep h), cells2 (r_y.out.keep h)⟩ : (S6 bk off c0 c1 c2 c3 c4 c5 w9) ∧ (w9.cell? ⟨g_x, 0, none⟩ = some (.bool (sgn (x))) ∧ w9.cell? ⟨g_x, 1, none⟩ = some (.slice A_x n_x cap_x)) ∧ (w9.cell? ⟨g_y, 0, none⟩ = some (.bool (sgn (y))) ∧ w9.cell? ⟨g_y, 1, none⟩ = some (.slice A_y n_y cap_y))))
    have K0 := KK.out w4 (Below.refl _ _)
    have KD := KK.out w4.drew (below_drew (Below.refl _ _))
    have tok0 : Hid True := trivial
    have tok1 : Hid True := trivial
    go_region_held3 (fun w9 => (S6 bk off c0 c1 c2 c3 c4 c5 w9) ∧ (w9.cell? ⟨g_x, 0, none⟩ = some (.bool (sgn (x))) ∧ w9.cell? ⟨g_x, 1, none⟩ = some (.slice A_x n_x cap_x)) ∧ (w9.cell? ⟨g_y, 0, none⟩ = some (.bool (sgn (y))) ∧ w9.cell? ⟨g_y, 1, none⟩ = some (.slice A_y n_y cap_y)))
        (first | with_reducible exact KD | with_reducible exact K0 | with_reducible exact K_w5 | with_reducible exact K_w6 | with_reducible exact K_w7 | (refine KK.out _ ?_; repeat' (first | with_reducible exact Below.refl _ _ | with_reducible exact B_w5.out | with_reducible exact B_w6.out | with_reducible exact B_w7.out | with_reducible apply below_new | with_reducible apply below_drew | with_reducible apply below_set | omega)))
        (first
          | (go_at_call 66
             have t_k := tok0
             refine (T1.out _ _ (h_x.out.below ?_)).mono ?_
             · repeat (first | with_reducible exact Below.refl _ _ | with_reducible apply below_drew | with_reducible apply below_new)
             rintro e w5 ⟨v_m, rfl, hb, h_m⟩
             obtain ⟨A_m, n_m, cap_m, rfl, -⟩ := id h_m.form
             replace h_m := Lib.hid h_m
             have B_w5 := Lib.hid (reg_next (w0 := w4) (by repeat (first | with_reducible exact Below.refl _ _ | with_reducible apply below_drew | with_reducible apply below_new)) hb)
             have K_w5 := KK.out _ B_w5.out
             obtain ⟨hc_w5, hf_w5⟩ := below_reads hb
             have hz_w5 := hb.size
             try simp at hz_w5
             try (have z1_w5 := Nat.lt_of_succ_le hz_w5)
             try (have z2_w5 := Nat.lt_of_succ_lt z1_w5)
             have HB_w5 := Lib.hid hb
             clear hb
             clear t_k tok0)
          | (go_at_call 66
             have t_k := tok1
             refine (T2.out _ _ (h_y.out.below ?_)).mono ?_
             · repeat (first | with_reducible exact Below.refl _ _ | with_reducible exact B_w5.out | with_reducible apply below_drew | with_reducible apply below_new)
             rintro e w6 ⟨v_n, rfl, hb, h_n⟩
             obtain ⟨A_n, n_n, cap_n, rfl, -⟩ := id h_n.form
             replace h_n := Lib.hid h_n
             replace h_m := Lib.hid (h_m.out.below (below_next (by repeat (first | with_reducible exact Below.refl _ _ | with_reducible apply below_new | with_reducible apply below_drew)) hb))
             have B_w6 := Lib.hid (below_next (by repeat (first | with_reducible exact B_w5.out | with_reducible apply below_new | with_reducible apply below_drew)) hb)
             have K_w6 := KK.out _ B_w6.out
             obtain ⟨hc_w6, hf_w6⟩ := below_reads hb
             have hz_w6 := hb.size
             try simp at hz_w6
             try (have z1_w6 := Nat.lt_of_succ_le hz_w6)
             try (have z2_w6 := Nat.lt_of_succ_lt z1_w6)
             have HB_w6 := Lib.hid hb
             have y_w6_w5 := Nat.le_trans HB_w5.out.size (Nat.le_trans (by (try simp only [World.size_alloc]); omega) hb.size)
             try simp at y_w6_w5
             try (have z3_w6_w5 := Nat.lt_of_succ_le y_w6_w5)
             try (have z4_w6_w5 := Nat.lt_of_succ_lt z3_w6_w5)
             clear hb
             clear t_k tok1)
          | (go_at_call 65
             refine (S1.out _ _ _ (h_m.out.below ?_) (h_n.out.below ?_)).mono ?_
             · repeat (first | with_reducible exact Below.refl _ _ | with_reducible exact B_w6.out | with_reducible apply below_drew | with_reducible apply below_new)
             · repeat (first | with_reducible exact Below.refl _ _ | with_reducible exact B_w6.out | with_reducible apply below_drew | with_reducible apply below_new)
             rintro e w7 ⟨v_u, rfl, hb, h_u⟩
             obtain ⟨A_u, n_u, cap_u, rfl, -⟩ := id h_u.form
             replace h_u := Lib.hid h_u
             replace h_m := Lib.hid (h_m.out.below (below_next (by repeat (first | with_reducible exact Below.refl _ _ | with_reducible apply below_new | with_reducible apply below_drew)) hb))
             replace h_n := Lib.hid (h_n.out.below (below_next (by repeat (first | with_reducible exact Below.refl _ _ | with_reducible apply below_new | with_reducible apply below_drew)) hb))
             have B_w7 := Lib.hid (below_next (by repeat (first | with_reducible exact B_w6.out | with_reducible apply below_new | with_reducible apply below_drew)) hb)
             have K_w7 := KK.out _ B_w7.out
             obtain ⟨hc_w7, hf_w7⟩ := below_reads hb
             have hz_w7 := hb.size
             try simp at hz_w7
             try (have z1_w7 := Nat.lt_of_succ_le hz_w7)
             try (have z2_w7 := Nat.lt_of_succ_lt z1_w7)
             have HB_w7 := Lib.hid hb
             have y_w7_w5 := Nat.le_trans HB_w5.out.size (Nat.le_trans (by (try simp only [World.size_alloc]); omega) hb.size)
             try simp at y_w7_w5
             try (have z3_w7_w5 := Nat.lt_of_succ_le y_w7_w5)
             try (have z4_w7_w5 := Nat.lt_of_succ_lt z3_w7_w5)
             have y_w7_w6 := Nat.le_trans HB_w6.out.size (Nat.le_trans (by (try simp only [World.size_alloc]); omega) hb.size)
             try simp at y_w7_w6
             try (have z3_w7_w6 := Nat.lt_of_succ_le y_w7_w6)
             try (have z4_w7_w6 := Nat.lt_of_succ_lt z3_w7_w6)
             clear hb))
    all_goals clear KK K0 KD K_w5 K_w6 K_w7
    all_goals go_wp2_with fail
    all_goals go_meet
    all_goals refine ⟨_, A_u, n_u, cap_u, rfl, ⟨?_, ?_, ?_, ?_⟩⟩
    all_goals repeat' (first | with_reducible exact h_u.out | with_reducible exact B_w5.out | with_reducible exact B_w6.out | with_reducible exact B_w7.out | with_reducible exact Below.refl _ _ | with_reducible apply below_new | with_reducible apply below_drew | (with_reducible refine below_set ?_ ?_ _) | (with_reducible refine AtB.set2 (a := .bool false) (b := .slice none 0 0) (T := 52) ?_ _ _) | (with_reducible refine AtB.set2 (a := .int .i64 0) (b := .int .u64 0) (T := 113) ?_ _ _) | (with_reducible refine AtB.far2 ?_ ?_ _ _) | (with_reducible refine BR.alloc ?_ _) | (with_reducible refine BR.far2 (a := .bool false) (b := .slice none 0 0) (T := 52) ?_ ?_ (by decide) _ _) | (with_reducible refine new_at_eq ?_ _ _; first | rfl | (simp; done)) | (with_reducible refine AtB.alloc ?_ _) | with_reducible apply AtB.drew | (with_reducible refine AtB.keep ?_ HB_w7.out) | (with_reducible refine AtB.keep ?_ HB_w6.out) | (with_reducible refine AtB.keep ?_ HB_w5.out) | omega)
  clear X1 X2 T1 T2 S1
  obtain ⟨wc1, rfl⟩ : ∃ wo : World, wo = wc := ⟨_, rfl⟩
  obtain ⟨g_u, A_u, n_u, cap_u, rfl, hcut⟩ := hcut
  obtain ⟨r_u, h_u, hb, hge⟩ := hcut.out
  clear hcut
  replace r_u := Lib.hid r_u; replace h_u := Lib.hid h_u
  have d_u := Lib.hid (And.intro (Nat.le_trans BB.out.size hge) (And.intro (Nat.lt_of_lt_of_le r_x.out.lt hge) (And.intro (Nat.lt_of_lt_of_le r_y.out.lt hge) (True.intro))))
  replace r_x := Lib.hid (r_x.out.keep hb)
  replace r_y := Lib.hid (r_y.out.keep hb)
  replace h_x := Lib.hid (h_x.out.below hb)
  replace h_y := Lib.hid (h_y.out.below hb)
  replace h_v := Lib.hid (IS.below h_v.out hb)
  replace BB := Lib.hid (below_next BB.out hb)
  clear hb hge
  go_wp2_with fail
  go_cut [13] (fun s5 wc2 => ∃ gp A3 n3 c3, s5 = .pointer (some ⟨gp, 0, none⟩) ∧ Hid (AtB wc2 gp #[.bool (sgn (V)), .slice A3 n3 c3] 52 ∧ BR wc2 (.agg #[.bool (sgn (V)), .slice A3 n3 c3]) (V) ∧ Below wc1.heap.size wc1 wc2 ∧ wc1.heap.size ≤ gp))
  case first =>
    clear T5 P1 P2 O1 CD
    have KK := Lib.hid (fun (w9 : World) (h : Below wc1.heap.size wc1 w9) => (⟨KS.out _ (below_next BB.out h), cells2 (r_x.out.keep h), cells2 (r_y.out.keep h)⟩ : (S6 bk off c0 c1 c2 c3 c4 c5 w9) ∧ (w9.cell? ⟨g_x, 0, none⟩ = some (.bool (sgn (x))) ∧ w9.cell? ⟨g_x, 1, none⟩ = some (.slice A_x n_x cap_x)) ∧ (w9.cell? ⟨g_y, 0, none⟩ = some (.bool (sgn (y))) ∧ w9.cell? ⟨g_y, 1, none⟩ = some (.slice A_y n_y cap_y))))
    have K0 := KK.out wc1 (Below.refl _ _)
    have KD := KK.out wc1.drew (below_drew (Below.refl _ _))
    have tok0 : Hid True := trivial
    have tok1 : Hid True := trivial
    go_region_held3 (fun w9 => (S6 bk off c0 c1 c2 c3 c4 c5 w9) ∧ (w9.cell? ⟨g_x, 0, none⟩ = some (.bool (sgn (x))) ∧ w9.cell? ⟨g_x, 1, none⟩ = some (.slice A_x n_x cap_x)) ∧ (w9.cell? ⟨g_y, 0, none⟩ = some (.bool (sgn (y))) ∧ w9.cell? ⟨g_y, 1, none⟩ = some (.slice A_y n_y cap_y)))
        (first | with_reducible exact KD | with_reducible exact K0 | with_reducible exact K_w8 | with_reducible exact K_w9 | with_reducible exact K_w10 | (refine KK.out _ ?_; repeat' (first | with_reducible exact Below.refl _ _ | with_reducible exact B_w8.out | with_reducible exact B_w9.out | with_reducible exact B_w10.out | with_reducible apply below_new | with_reducible apply below_drew | with_reducible apply below_set | omega)))
        (first
          | (go_at_call 66
             have t_k := tok0
             refine (T3.out _ _ (h_y.out.below ?_)).mono ?_
             · repeat (first | with_reducible exact Below.refl _ _ | with_reducible apply below_drew | with_reducible apply below_new)
             rintro e w8 ⟨v_m, rfl, hb, h_m⟩
             obtain ⟨A_m, n_m, cap_m, rfl, -⟩ := id h_m.form
             replace h_m := Lib.hid h_m
             have B_w8 := Lib.hid (reg_next (w0 := wc1) (by repeat (first | with_reducible exact Below.refl _ _ | with_reducible apply below_drew | with_reducible apply below_new)) hb)
             have K_w8 := KK.out _ B_w8.out
             obtain ⟨hc_w8, hf_w8⟩ := below_reads hb
             have hz_w8 := hb.size
             try simp at hz_w8
             try (have z1_w8 := Nat.lt_of_succ_le hz_w8)
             try (have z2_w8 := Nat.lt_of_succ_lt z1_w8)
             have HB_w8 := Lib.hid hb
             clear hb
             clear t_k tok0)
          | (go_at_call 66
             have t_k := tok1
             refine (T4.out _ _ (h_x.out.below ?_)).mono ?_
             · repeat (first | with_reducible exact Below.refl _ _ | with_reducible exact B_w8.out | with_reducible apply below_drew | with_reducible apply below_new)
             rintro e w9 ⟨v_n, rfl, hb, h_n⟩
             obtain ⟨A_n, n_n, cap_n, rfl, -⟩ := id h_n.form
             replace h_n := Lib.hid h_n
             replace h_m := Lib.hid (h_m.out.below (below_next (by repeat (first | with_reducible exact Below.refl _ _ | with_reducible apply below_new | with_reducible apply below_drew)) hb))
             have B_w9 := Lib.hid (below_next (by repeat (first | with_reducible exact B_w8.out | with_reducible apply below_new | with_reducible apply below_drew)) hb)
             have K_w9 := KK.out _ B_w9.out
             obtain ⟨hc_w9, hf_w9⟩ := below_reads hb
             have hz_w9 := hb.size
             try simp at hz_w9
             try (have z1_w9 := Nat.lt_of_succ_le hz_w9)
             try (have z2_w9 := Nat.lt_of_succ_lt z1_w9)
             have HB_w9 := Lib.hid hb
             have y_w9_w8 := Nat.le_trans HB_w8.out.size (Nat.le_trans (by (try simp only [World.size_alloc]); omega) hb.size)
             try simp at y_w9_w8
             try (have z3_w9_w8 := Nat.lt_of_succ_le y_w9_w8)
             try (have z4_w9_w8 := Nat.lt_of_succ_lt z3_w9_w8)
             clear hb
             clear t_k tok1)
          | (go_at_call 65
             refine (S2.out _ _ _ (h_m.out.below ?_) (h_n.out.below ?_)).mono ?_
             · repeat (first | with_reducible exact Below.refl _ _ | with_reducible exact B_w9.out | with_reducible apply below_drew | with_reducible apply below_new)
             · repeat (first | with_reducible exact Below.refl _ _ | with_reducible exact B_w9.out | with_reducible apply below_drew | with_reducible apply below_new)
             rintro e w10 ⟨v_vv, rfl, hb, h_vv⟩
             obtain ⟨A_vv, n_vv, cap_vv, rfl, -⟩ := id h_vv.form
             replace h_vv := Lib.hid h_vv
             replace h_m := Lib.hid (h_m.out.below (below_next (by repeat (first | with_reducible exact Below.refl _ _ | with_reducible apply below_new | with_reducible apply below_drew)) hb))
             replace h_n := Lib.hid (h_n.out.below (below_next (by repeat (first | with_reducible exact Below.refl _ _ | with_reducible apply below_new | with_reducible apply below_drew)) hb))
             have B_w10 := Lib.hid (below_next (by repeat (first | with_reducible exact B_w9.out | with_reducible apply below_new | with_reducible apply below_drew)) hb)
             have K_w10 := KK.out _ B_w10.out
             obtain ⟨hc_w10, hf_w10⟩ := below_reads hb
             have hz_w10 := hb.size
             try simp at hz_w10
             try (have z1_w10 := Nat.lt_of_succ_le hz_w10)
             try (have z2_w10 := Nat.lt_of_succ_lt z1_w10)
             have HB_w10 := Lib.hid hb
             have y_w10_w8 := Nat.le_trans HB_w8.out.size (Nat.le_trans (by (try simp only [World.size_alloc]); omega) hb.size)
             try simp at y_w10_w8
             try (have z3_w10_w8 := Nat.lt_of_succ_le y_w10_w8)
             try (have z4_w10_w8 := Nat.lt_of_succ_lt z3_w10_w8)
             have y_w10_w9 := Nat.le_trans HB_w9.out.size (Nat.le_trans (by (try simp only [World.size_alloc]); omega) hb.size)
             try simp at y_w10_w9
             try (have z3_w10_w9 := Nat.lt_of_succ_le y_w10_w9)
             try (have z4_w10_w9 := Nat.lt_of_succ_lt z3_w10_w9)
             clear hb))
    all_goals clear KK K0 KD K_w8 K_w9 K_w10
    all_goals go_wp2_with fail
    all_goals go_meet
    all_goals refine ⟨_, A_vv, n_vv, cap_vv, rfl, ⟨?_, ?_, ?_, ?_⟩⟩
    all_goals repeat' (first | with_reducible exact h_vv.out | with_reducible exact B_w8.out | with_reducible exact B_w9.out | with_reducible exact B_w10.out | with_reducible exact Below.refl _ _ | with_reducible apply below_new | with_reducible apply below_drew | (with_reducible refine below_set ?_ ?_ _) | (with_reducible refine AtB.set2 (a := .bool false) (b := .slice none 0 0) (T := 52) ?_ _ _) | (with_reducible refine AtB.set2 (a := .int .i64 0) (b := .int .u64 0) (T := 113) ?_ _ _) | (with_reducible refine AtB.far2 ?_ ?_ _ _) | (with_reducible refine BR.alloc ?_ _) | (with_reducible refine BR.far2 (a := .bool false) (b := .slice none 0 0) (T := 52) ?_ ?_ (by decide) _ _) | (with_reducible refine new_at_eq ?_ _ _; first | rfl | (simp; done)) | (with_reducible refine AtB.alloc ?_ _) | with_reducible apply AtB.drew | (with_reducible refine AtB.keep ?_ HB_w10.out) | (with_reducible refine AtB.keep ?_ HB_w9.out) | (with_reducible refine AtB.keep ?_ HB_w8.out) | omega)
  clear T3 T4 S2
  obtain ⟨wc2, rfl⟩ : ∃ wo : World, wo = wc := ⟨_, rfl⟩
  obtain ⟨g_vv, A_vv, n_vv, cap_vv, rfl, hcut⟩ := hcut
  obtain ⟨r_vv, h_vv, hb, hge⟩ := hcut.out
  clear hcut
  replace r_vv := Lib.hid r_vv; replace h_vv := Lib.hid h_vv
  have d_vv := Lib.hid (And.intro (Nat.le_trans BB.out.size hge) (And.intro (Nat.lt_of_lt_of_le r_x.out.lt hge) (And.intro (Nat.lt_of_lt_of_le r_y.out.lt hge) (And.intro (Nat.lt_of_lt_of_le r_u.out.lt hge) (True.intro)))))
  clear r_x
  clear h_x
  clear r_y
  clear h_y
  replace r_u := Lib.hid (r_u.out.keep hb)
  replace h_u := Lib.hid (h_u.out.below hb)
  replace h_v := Lib.hid (IS.below h_v.out hb)
  replace BB := Lib.hid (below_next BB.out hb)
  clear hb hge
  go_wp2_with fail
  refine (CD.out _ h_v.out).mono ?_
  rintro e w9 ⟨rfl, m_q, rfl⟩
  have hb := below_drawn (Below.refl wc2.heap.size wc2) m_q
  generalize wc2.drewN m_q = w11 at *
  replace r_u := Lib.hid (r_u.out.keep hb)
  replace r_vv := Lib.hid (r_vv.out.keep hb)
  replace h_u := Lib.hid (h_u.out.below hb)
  replace h_vv := Lib.hid (h_vv.out.below hb)
  replace h_v := Lib.hid (IS.below h_v.out hb)
  replace BB := Lib.hid (below_next BB.out hb)
  clear hb
  go_wp2_with fail
  refine (O1.out _).mono ?_
  rintro e w12 ⟨v_o, rfl, hb, h_o⟩
  obtain ⟨A_o, n_o, cap_o, rfl, -⟩ := id h_o.form
  replace h_o := Lib.hid h_o
  replace r_u := Lib.hid (r_u.out.keep hb)
  replace r_vv := Lib.hid (r_vv.out.keep hb)
  replace h_u := Lib.hid (h_u.out.below hb)
  replace h_vv := Lib.hid (h_vv.out.below hb)
  replace h_v := Lib.hid (IS.below h_v.out hb)
  replace BB := Lib.hid (below_next BB.out hb)
  clear hb
  go_wp2_with fail
  refine (T5.out _ _ h_o.out).mono ?_
  rintro e w13 ⟨v_b, rfl, hb, h_b⟩
  obtain ⟨A_b, n_b, cap_b, rfl, -⟩ := id h_b.form
  replace h_b := Lib.hid h_b
  replace r_u := Lib.hid (r_u.out.keep hb)
  replace r_vv := Lib.hid (r_vv.out.keep hb)
  replace h_u := Lib.hid (h_u.out.below hb)
  replace h_vv := Lib.hid (h_vv.out.below hb)
  replace h_o := Lib.hid (h_o.out.below hb)
  replace h_v := Lib.hid (IS.below h_v.out hb)
  replace BB := Lib.hid (below_next BB.out hb)
  clear hb
  go_wp2_with fail
  have d_b := Lib.hid (And.intro BB.out.size (And.intro r_u.out.lt (And.intro r_vv.out.lt (True.intro))))
  obtain ⟨hb, r_b⟩ := laid w13 #[.bool (sgn (B)), .slice A_b n_b cap_b] 52
  replace r_u := Lib.hid (r_u.out.keep hb)
  replace r_vv := Lib.hid (r_vv.out.keep hb)
  replace h_u := Lib.hid (h_u.out.below hb)
  replace h_vv := Lib.hid (h_vv.out.below hb)
  replace h_o := Lib.hid (h_o.out.below hb)
  replace h_b := Lib.hid (h_b.out.below hb)
  replace h_v := Lib.hid (IS.below h_v.out hb)
  replace BB := Lib.hid (below_next BB.out hb)
  replace r_b := Lib.hid r_b
  clear hb
  generalize w13.alloc (.cells #[.bool (sgn (B)), .slice A_b n_b cap_b] 52) = w14 at *
  generalize w13.heap.size = g_b at *
  go_wp2_with fail
  have KK := Lib.hid (fun (w9 : World) (h : Below w14.heap.size w14 w9) => (⟨cells2 (r_u.out.keep h), cells2 (r_b.out.keep h), cells2 (r_vv.out.keep h)⟩ : (w9.cell? ⟨g_u, 0, none⟩ = some (.bool (sgn (U))) ∧ w9.cell? ⟨g_u, 1, none⟩ = some (.slice A_u n_u cap_u)) ∧ (w9.cell? ⟨g_b, 0, none⟩ = some (.bool (sgn (B))) ∧ w9.cell? ⟨g_b, 1, none⟩ = some (.slice A_b n_b cap_b)) ∧ (w9.cell? ⟨g_vv, 0, none⟩ = some (.bool (sgn (V))) ∧ w9.cell? ⟨g_vv, 1, none⟩ = some (.slice A_vv n_vv cap_vv))))
  have K0 := KK.out w14 (Below.refl _ _)
  have KD := KK.out w14.drew (below_drew (Below.refl _ _))
  have tok0 : Hid True := trivial
  have tok1 : Hid True := trivial
  go_region_held3 (fun w9 => (w9.cell? ⟨g_u, 0, none⟩ = some (.bool (sgn (U))) ∧ w9.cell? ⟨g_u, 1, none⟩ = some (.slice A_u n_u cap_u)) ∧ (w9.cell? ⟨g_b, 0, none⟩ = some (.bool (sgn (B))) ∧ w9.cell? ⟨g_b, 1, none⟩ = some (.slice A_b n_b cap_b)) ∧ (w9.cell? ⟨g_vv, 0, none⟩ = some (.bool (sgn (V))) ∧ w9.cell? ⟨g_vv, 1, none⟩ = some (.slice A_vv n_vv cap_vv)))
      (first | with_reducible exact KD | with_reducible exact K0 | with_reducible exact K_w15 | with_reducible exact K_w16)
      (first
        | (go_at_call 68
           have t_k := tok0
           refine (P1.out _ _ _ (h_u.out.below ?_) (h_b.out.below ?_)).mono ?_
           · repeat (first | with_reducible exact Below.refl _ _ | with_reducible apply below_drew | with_reducible apply below_new)
           · repeat (first | with_reducible exact Below.refl _ _ | with_reducible apply below_drew | with_reducible apply below_new)
           rintro e w15 ⟨rfl, hb⟩
           have B_w15 := Lib.hid (reg_next (w0 := w14) (by repeat (first | with_reducible exact Below.refl _ _ | with_reducible apply below_drew | with_reducible apply below_new)) hb)
           have K_w15 := KK.out _ B_w15.out
           clear hb
           clear t_k tok0)
        | (go_at_call 68
           have t_k := tok1
           refine (P2.out _ _ _ (h_vv.out.below B_w15.out) (h_b.out.below B_w15.out)).mono ?_
           rintro e w16 ⟨rfl, hb⟩
           have B_w16 := Lib.hid (below_next B_w15.out hb)
           have K_w16 := KK.out _ B_w16.out
           clear hb
           clear t_k tok1))
  clear KK K0 KD K_w15 K_w16
  replace r_u := Lib.hid (r_u.out.keep B_w16.out)
  replace r_vv := Lib.hid (r_vv.out.keep B_w16.out)
  replace r_b := Lib.hid (r_b.out.keep B_w16.out)
  replace h_u := Lib.hid (h_u.out.below B_w16.out)
  replace h_vv := Lib.hid (h_vv.out.below B_w16.out)
  replace h_o := Lib.hid (h_o.out.below B_w16.out)
  replace h_b := Lib.hid (h_b.out.below B_w16.out)
  replace h_v := Lib.hid (IS.below h_v.out B_w16.out)
  replace BB := Lib.hid (below_next BB.out B_w16.out)
  clear B_w15 B_w16
  go_wp2_with fail
  refine bodyPost_ret (v := .tuple #[.int .i64 RU, .int .i64 RV]) (by unfold results; simp only [Try.results32]; go_simp) rfl ?_
  exact ⟨rfl, BB.out⟩

end Go.Proofs.Ythdbchghhpoadaa
