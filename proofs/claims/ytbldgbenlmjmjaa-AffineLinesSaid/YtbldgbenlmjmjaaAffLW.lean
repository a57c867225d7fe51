/- Walk of the law AffineLines. -/
import Derived.Test.YtbldgbenlmjmjaaAffL
import Derived.Test.YtbldgbenlmjmjaaEqArr
set_option linter.unusedVariables false
namespace Go.Proofs.Ytbldgbenlmjmjaa
open Go.RowKit Go.ChangeShapes Go.WideShapes Go.ChangeAt Go.Deep
abbrev PL : TypeId := 35

theorem info_i64 : (Try.prog.info? 2).map (fun i => (i.zero, i.size, i.bytes)) = some (some (.int .i64 0), 1, 8) := by kernel_rfl
theorem eq_arr3 (a b c : Int) (w : World) : (Op.equalIn 10000 47 (.agg #[.int .i64 a, .int .i64 b, .int .i64 c]) (.agg #[.int .i64 a, .int .i64 b, .int .i64 c])).run Try.prog w = .ok true w := by
  obtain ⟨i, hi, he⟩ := Option.map_eq_some_iff.1 info_i64
  simp only [Prod.mk.injEq] at he
  exact run_eq_arr w [a, b, c] Try.underlying47 Try.underlying2 hi he.2.1 9998

set_option maxRecDepth 100000 in
set_option maxHeartbeats 8000000 in
theorem lsum (k0 k1 k2 x y d : Int) (h0 : I64 k0) (h1 : I64 k1) (h2 : I64 k2) (hx : I64 x) (hy : I64 y) (hd : I64 d) (w : World) :
    Calls Try.prog 29 #[.agg #[.int .i64 k0, .int .i64 k1, .int .i64 k2], .agg #[.int .i64 x, .int .i64 y, .int .i64 d]] w (GiveB (k0 * x + k1 * y + k2 * d) w) := by
  have O0 := Lib.hid (fun w => of_any k0 h0 w)
  have O1 := Lib.hid (fun w => of_any k1 h1 w)
  have O2 := Lib.hid (fun w => of_any k2 h2 w)
  have Ox := Lib.hid (fun w => of_any x hx w)
  have Oy := Lib.hid (fun w => of_any y hy w)
  have Od := Lib.hid (fun w => of_any d hd w)
  have M0 := Lib.hid (fun (u v : Value) w (hu : BR w u k0) (hv : BR w v x) => mul_any u v k0 x w hu hv (i64_mid' h0) (i64_mid' hx))
  have M1 := Lib.hid (fun (u v : Value) w (hu : BR w u k1) (hv : BR w v y) => mul_any u v k1 y w hu hv (i64_mid' h1) (i64_mid' hy))
  have M2 := Lib.hid (fun (u v : Value) w (hu : BR w u k2) (hv : BR w v d) => mul_any u v k2 d w hu hv (i64_mid' h2) (i64_mid' hd))
  have w0 : Wd 126 (k0 * x) := (i64_wd h0).mul (i64_wd hx)
  have w1 : Wd 126 (k1 * y) := (i64_wd h1).mul (i64_wd hy)
  have w2 : Wd 126 (k2 * d) := (i64_wd h2).mul (i64_wd hd)
  have A1 := Lib.hid (fun (u v : Value) w (hu : BR w u (k0 * x)) (hv : BR w v (k1 * y)) => add_any u v (k0 * x) (k1 * y) w hu hv (w0.mid (by omega)) (w1.mid (by omega)))
  have A2 := Lib.hid (fun (u v : Value) w (hu : BR w u (k0 * x + k1 * y)) (hv : BR w v (k2 * d)) => add_any u v (k0 * x + k1 * y) (k2 * d) w hu hv ((w0.add w1).mid (by omega)) (w2.mid (by omega)))
  clear h0 h1 h2 hx hy hd w0 w1 w2
  generalize k0 * x + k1 * y + k2 * d = Z at *
  generalize k0 * x + k1 * y = Y at *
  generalize k0 * x = p0 at *
  generalize k1 * y = p1 at *
  generalize k2 * d = p2 at *
  go_enter Try.func29, Try.ntmps29
  go_wp2_with fail
  have BB := start3 w #[.int .i64 k0, .int .i64 k1, .int .i64 k2] LN #[.int .i64 x, .int .i64 y, .int .i64 d] PL #[.bool false, .slice none 0 0] BT
  obtain ⟨BB, hsz, r_k, r_p, r_res⟩ := BB
  generalize (((w.alloc (.cells #[.int .i64 k0, .int .i64 k1, .int .i64 k2] LN)).alloc (.cells #[.int .i64 x, .int .i64 y, .int .i64 d] PL)).alloc (.cells #[.bool false, .slice none 0 0] BT)) = w0 at *
  replace BB := Lib.hid BB
  replace r_k := Lib.hid r_k
  replace r_p := Lib.hid r_p
  replace r_res := Lib.hid r_res
  clear hsz
  go_cut [5] (fun s5 wc1 => ∃ gp A3 n3 c3, s5 = .pointer (some ⟨gp, 0, none⟩) ∧ Hid (AtB wc1 gp #[.bool (sgn (p0)), .slice A3 n3 c3] 52 ∧ BR wc1 (.agg #[.bool (sgn (p0)), .slice A3 n3 c3]) (p0) ∧ Below w0.heap.size w0 wc1 ∧ w0.heap.size ≤ gp))
  case first =>
    clear O1 O2 Oy Od M1 M2 A1 A2
    have KK := Lib.hid (fun (w9 : World) (h : Below w0.heap.size w0 w9) => (⟨cells3 (r_k.out.keep h), cells3 (r_p.out.keep h)⟩ : (w9.cell? ⟨w.heap.size, 0, none⟩ = some (.int .i64 k0) ∧ w9.cell? ⟨w.heap.size, 1, none⟩ = some (.int .i64 k1) ∧ w9.cell? ⟨w.heap.size, 2, none⟩ = some (.int .i64 k2)) ∧ (w9.cell? ⟨w.heap.size + 1, 0, none⟩ = some (.int .i64 x) ∧ w9.cell? ⟨w.heap.size + 1, 1, none⟩ = some (.int .i64 y) ∧ w9.cell? ⟨w.heap.size + 1, 2, none⟩ = some (.int .i64 d))))
    have K0 := KK.out w0 (Below.refl _ _)
    have KD := KK.out w0.drew (below_drew (Below.refl _ _))
    have tok0 : Hid True := trivial
    have tok1 : Hid True := trivial
    go_region_held3 (fun w9 => (w9.cell? ⟨w.heap.size, 0, none⟩ = some (.int .i64 k0) ∧ w9.cell? ⟨w.heap.size, 1, none⟩ = some (.int .i64 k1) ∧ w9.cell? ⟨w.heap.size, 2, none⟩ = some (.int .i64 k2)) ∧ (w9.cell? ⟨w.heap.size + 1, 0, none⟩ = some (.int .i64 x) ∧ w9.cell? ⟨w.heap.size + 1, 1, none⟩ = some (.int .i64 y) ∧ w9.cell? ⟨w.heap.size + 1, 2, none⟩ = some (.int .i64 d)))
        (first | with_reducible exact KD | with_reducible exact K0 | with_reducible exact K_w1 | with_reducible exact K_w2 | with_reducible exact K_w3 | (refine KK.out _ ?_; repeat' (first | with_reducible exact Below.refl _ _ | with_reducible exact B_w1.out | with_reducible exact B_w2.out | with_reducible exact B_w3.out | with_reducible apply below_new | with_reducible apply below_drew | with_reducible apply below_set | omega)))
        (first
          | (go_at_call 27
             have t_k := tok0
             refine (O0.out _).mono ?_
             rintro e w1 ⟨v_e, rfl, hb, h_e⟩
             obtain ⟨A_e, n_e, cap_e, rfl, -⟩ := id h_e.form
             replace h_e := Lib.hid h_e
             have B_w1 := Lib.hid (reg_next (w0 := w0) (by repeat (first | with_reducible exact Below.refl _ _ | with_reducible apply below_drew | with_reducible apply below_new)) hb)
             have K_w1 := KK.out _ B_w1.out
             obtain ⟨hc_w1, hf_w1⟩ := below_reads hb
             have hz_w1 := hb.size
             try simp at hz_w1
             try (have z1_w1 := Nat.lt_of_succ_le hz_w1)
             try (have z2_w1 := Nat.lt_of_succ_lt z1_w1)
             have HB_w1 := Lib.hid hb
             clear hb
             clear t_k tok0)
          | (go_at_call 27
             have t_k := tok1
             refine (Ox.out _).mono ?_
             rintro e w2 ⟨v_f, rfl, hb, h_f⟩
             obtain ⟨A_f, n_f, cap_f, rfl, -⟩ := id h_f.form
             replace h_f := Lib.hid h_f
             replace h_e := Lib.hid (h_e.out.below (below_next (by repeat (first | with_reducible exact Below.refl _ _ | with_reducible apply below_new | with_reducible apply below_drew)) hb))
             have B_w2 := Lib.hid (below_next (by repeat (first | with_reducible exact B_w1.out | with_reducible apply below_new | with_reducible apply below_drew)) hb)
             have K_w2 := KK.out _ B_w2.out
             obtain ⟨hc_w2, hf_w2⟩ := below_reads hb
             have hz_w2 := hb.size
             try simp at hz_w2
             try (have z1_w2 := Nat.lt_of_succ_le hz_w2)
             try (have z2_w2 := Nat.lt_of_succ_lt z1_w2)
             have HB_w2 := Lib.hid hb
             have y_w2_w1 := Nat.le_trans HB_w1.out.size (Nat.le_trans (by (try simp only [World.size_alloc]); omega) hb.size)
             try simp at y_w2_w1
             try (have z3_w2_w1 := Nat.lt_of_succ_le y_w2_w1)
             try (have z4_w2_w1 := Nat.lt_of_succ_lt z3_w2_w1)
             clear hb
             clear t_k tok1)
          | (go_at_call 26
             refine (M0.out _ _ _ (h_e.out.below ?_) (h_f.out.below ?_)).mono ?_
             · repeat (first | with_reducible exact Below.refl _ _ | with_reducible exact B_w2.out | with_reducible apply below_drew | with_reducible apply below_new)
             · repeat (first | with_reducible exact Below.refl _ _ | with_reducible exact B_w2.out | with_reducible apply below_drew | with_reducible apply below_new)
             rintro e w3 ⟨v_a, rfl, hb, h_a⟩
             obtain ⟨A_a, n_a, cap_a, rfl, -⟩ := id h_a.form
             replace h_a := Lib.hid h_a
             replace h_e := Lib.hid (h_e.out.below (below_next (by repeat (first | with_reducible exact Below.refl _ _ | with_reducible apply below_new | with_reducible apply below_drew)) hb))
             replace h_f := Lib.hid (h_f.out.below (below_next (by repeat (first | with_reducible exact Below.refl _ _ | with_reducible apply below_new | with_reducible apply below_drew)) hb))
             have B_w3 := Lib.hid (below_next (by repeat (first | with_reducible exact B_w2.out | with_reducible apply below_new | with_reducible apply below_drew)) hb)
             have K_w3 := KK.out _ B_w3.out
             obtain ⟨hc_w3, hf_w3⟩ := below_reads hb
             have hz_w3 := hb.size
             try simp at hz_w3
             try (have z1_w3 := Nat.lt_of_succ_le hz_w3)
             try (have z2_w3 := Nat.lt_of_succ_lt z1_w3)
             have HB_w3 := Lib.hid hb
             have y_w3_w1 := Nat.le_trans HB_w1.out.size (Nat.le_trans (by (try simp only [World.size_alloc]); omega) hb.size)
             try simp at y_w3_w1
             try (have z3_w3_w1 := Nat.lt_of_succ_le y_w3_w1)
             try (have z4_w3_w1 := Nat.lt_of_succ_lt z3_w3_w1)
             have y_w3_w2 := Nat.le_trans HB_w2.out.size (Nat.le_trans (by (try simp only [World.size_alloc]); omega) hb.size)
             try simp at y_w3_w2
             try (have z3_w3_w2 := Nat.lt_of_succ_le y_w3_w2)
             try (have z4_w3_w2 := Nat.lt_of_succ_lt z3_w3_w2)
             clear hb))
    all_goals clear KK K0 KD K_w1 K_w2 K_w3
    all_goals go_wp2_with fail
    all_goals go_meet
    all_goals refine ⟨_, A_a, n_a, cap_a, rfl, ⟨?_, ?_, ?_, ?_⟩⟩
    all_goals repeat' (first | with_reducible exact h_a.out | with_reducible exact B_w1.out | with_reducible exact B_w2.out | with_reducible exact B_w3.out | with_reducible exact Below.refl _ _ | with_reducible apply below_new | with_reducible apply below_drew | (with_reducible refine below_set ?_ ?_ _) | (with_reducible refine AtB.set2 (a := .bool false) (b := .slice none 0 0) (T := 52) ?_ _ _) | (with_reducible refine AtB.set2 (a := .int .i64 0) (b := .int .u64 0) (T := 88) ?_ _ _) | (with_reducible refine AtB.far2 ?_ ?_ _ _) | (with_reducible refine BR.alloc ?_ _) | (with_reducible refine BR.far2 (a := .bool false) (b := .slice none 0 0) (T := 52) ?_ ?_ (by decide) _ _) | (with_reducible refine new_at_eq ?_ _ _; first | rfl | (simp; done)) | (with_reducible refine AtB.alloc ?_ _) | with_reducible apply AtB.drew | (with_reducible refine AtB.keep ?_ HB_w3.out) | (with_reducible refine AtB.keep ?_ HB_w2.out) | (with_reducible refine AtB.keep ?_ HB_w1.out) | omega)
  clear O0 Ox M0
  obtain ⟨wc1, rfl⟩ : ∃ wo : World, wo = wc := ⟨_, rfl⟩
  obtain ⟨g_a, A_a, n_a, cap_a, rfl, hcut⟩ := hcut
  obtain ⟨r_a, h_a, hb, hge⟩ := hcut.out
  clear hcut
  replace r_a := Lib.hid r_a; replace h_a := Lib.hid h_a
  have d_a := Lib.hid (And.intro (Nat.le_trans BB.out.size hge) (And.intro (Nat.lt_of_lt_of_le r_k.out.lt hge) (And.intro (Nat.lt_of_lt_of_le r_p.out.lt hge) (And.intro (Nat.lt_of_lt_of_le r_res.out.lt hge) (True.intro)))))
  replace r_k := Lib.hid (r_k.out.keep hb)
  replace r_p := Lib.hid (r_p.out.keep hb)
  replace r_res := Lib.hid (r_res.out.keep hb)
  replace BB := Lib.hid (below_next BB.out hb)
  clear hb hge
  go_wp2_with fail
  go_cut [6] (fun s5 wc2 => ∃ gp A3 n3 c3, s5 = .pointer (some ⟨gp, 0, none⟩) ∧ Hid (AtB wc2 gp #[.bool (sgn (p1)), .slice A3 n3 c3] 52 ∧ BR wc2 (.agg #[.bool (sgn (p1)), .slice A3 n3 c3]) (p1) ∧ Below wc1.heap.size wc1 wc2 ∧ wc1.heap.size ≤ gp))
  case first =>
    clear O2 Od M2 A1 A2
    have KK := Lib.hid (fun (w9 : World) (h : Below wc1.heap.size wc1 w9) => (⟨cells3 (r_k.out.keep h), cells3 (r_p.out.keep h)⟩ : (w9.cell? ⟨w.heap.size, 0, none⟩ = some (.int .i64 k0) ∧ w9.cell? ⟨w.heap.size, 1, none⟩ = some (.int .i64 k1) ∧ w9.cell? ⟨w.heap.size, 2, none⟩ = some (.int .i64 k2)) ∧ (w9.cell? ⟨w.heap.size + 1, 0, none⟩ = some (.int .i64 x) ∧ w9.cell? ⟨w.heap.size + 1, 1, none⟩ = some (.int .i64 y) ∧ w9.cell? ⟨w.heap.size + 1, 2, none⟩ = some (.int .i64 d))))
    have K0 := KK.out wc1 (Below.refl _ _)
    have KD := KK.out wc1.drew (below_drew (Below.refl _ _))
    have tok0 : Hid True := trivial
    have tok1 : Hid True := trivial
    go_region_held3 (fun w9 => (w9.cell? ⟨w.heap.size, 0, none⟩ = some (.int .i64 k0) ∧ w9.cell? ⟨w.heap.size, 1, none⟩ = some (.int .i64 k1) ∧ w9.cell? ⟨w.heap.size, 2, none⟩ = some (.int .i64 k2)) ∧ (w9.cell? ⟨w.heap.size + 1, 0, none⟩ = some (.int .i64 x) ∧ w9.cell? ⟨w.heap.size + 1, 1, none⟩ = some (.int .i64 y) ∧ w9.cell? ⟨w.heap.size + 1, 2, none⟩ = some (.int .i64 d)))
        (first | with_reducible exact KD | with_reducible exact K0 | with_reducible exact K_w4 | with_reducible exact K_w5 | with_reducible exact K_w6 | (refine KK.out _ ?_; repeat' (first | with_reducible exact Below.refl _ _ | with_reducible exact B_w4.out | with_reducible exact B_w5.out | with_reducible exact B_w6.out | with_reducible apply below_new | with_reducible apply below_drew | with_reducible apply below_set | omega)))
        (first
          | (go_at_call 27
             have t_k := tok0
             refine (O1.out _).mono ?_
             rintro e w4 ⟨v_e, rfl, hb, h_e⟩
             obtain ⟨A_e, n_e, cap_e, rfl, -⟩ := id h_e.form
             replace h_e := Lib.hid h_e
             have B_w4 := Lib.hid (reg_next (w0 := wc1) (by repeat (first | with_reducible exact Below.refl _ _ | with_reducible apply below_drew | with_reducible apply below_new)) hb)
             have K_w4 := KK.out _ B_w4.out
             obtain ⟨hc_w4, hf_w4⟩ := below_reads hb
             have hz_w4 := hb.size
             try simp at hz_w4
             try (have z1_w4 := Nat.lt_of_succ_le hz_w4)
             try (have z2_w4 := Nat.lt_of_succ_lt z1_w4)
             have HB_w4 := Lib.hid hb
             clear hb
             clear t_k tok0)
          | (go_at_call 27
             have t_k := tok1
             refine (Oy.out _).mono ?_
             rintro e w5 ⟨v_f, rfl, hb, h_f⟩
             obtain ⟨A_f, n_f, cap_f, rfl, -⟩ := id h_f.form
             replace h_f := Lib.hid h_f
             replace h_e := Lib.hid (h_e.out.below (below_next (by repeat (first | with_reducible exact Below.refl _ _ | with_reducible apply below_new | with_reducible apply below_drew)) hb))
             have B_w5 := Lib.hid (below_next (by repeat (first | with_reducible exact B_w4.out | with_reducible apply below_new | with_reducible apply below_drew)) hb)
             have K_w5 := KK.out _ B_w5.out
             obtain ⟨hc_w5, hf_w5⟩ := below_reads hb
             have hz_w5 := hb.size
             try simp at hz_w5
             try (have z1_w5 := Nat.lt_of_succ_le hz_w5)
             try (have z2_w5 := Nat.lt_of_succ_lt z1_w5)
             have HB_w5 := Lib.hid hb
             have y_w5_w4 := Nat.le_trans HB_w4.out.size (Nat.le_trans (by (try simp only [World.size_alloc]); omega) hb.size)
             try simp at y_w5_w4
             try (have z3_w5_w4 := Nat.lt_of_succ_le y_w5_w4)
             try (have z4_w5_w4 := Nat.lt_of_succ_lt z3_w5_w4)
             clear hb
             clear t_k tok1)
          | (go_at_call 26
             refine (M1.out _ _ _ (h_e.out.below ?_) (h_f.out.below ?_)).mono ?_
             · repeat (first | with_reducible exact Below.refl _ _ | with_reducible exact B_w5.out | with_reducible apply below_drew | with_reducible apply below_new)
             · repeat (first | with_reducible exact Below.refl _ _ | with_reducible exact B_w5.out | with_reducible apply below_drew | with_reducible apply below_new)
             rintro e w6 ⟨v_b, rfl, hb, h_b⟩
             obtain ⟨A_b, n_b, cap_b, rfl, -⟩ := id h_b.form
             replace h_b := Lib.hid h_b
             replace h_e := Lib.hid (h_e.out.below (below_next (by repeat (first | with_reducible exact Below.refl _ _ | with_reducible apply below_new | with_reducible apply below_drew)) hb))
             replace h_f := Lib.hid (h_f.out.below (below_next (by repeat (first | with_reducible exact Below.refl _ _ | with_reducible apply below_new | with_reducible apply below_drew)) hb))
             have B_w6 := Lib.hid (below_next (by repeat (first | with_reducible exact B_w5.out | with_reducible apply below_new | with_reducible apply below_drew)) hb)
             have K_w6 := KK.out _ B_w6.out
             obtain ⟨hc_w6, hf_w6⟩ := below_reads hb
             have hz_w6 := hb.size
             try simp at hz_w6
             try (have z1_w6 := Nat.lt_of_succ_le hz_w6)
             try (have z2_w6 := Nat.lt_of_succ_lt z1_w6)
             have HB_w6 := Lib.hid hb
             have y_w6_w4 := Nat.le_trans HB_w4.out.size (Nat.le_trans (by (try simp only [World.size_alloc]); omega) hb.size)
             try simp at y_w6_w4
             try (have z3_w6_w4 := Nat.lt_of_succ_le y_w6_w4)
             try (have z4_w6_w4 := Nat.lt_of_succ_lt z3_w6_w4)
             have y_w6_w5 := Nat.le_trans HB_w5.out.size (Nat.le_trans (by (try simp only [World.size_alloc]); omega) hb.size)
             try simp at y_w6_w5
             try (have z3_w6_w5 := Nat.lt_of_succ_le y_w6_w5)
             try (have z4_w6_w5 := Nat.lt_of_succ_lt z3_w6_w5)
             clear hb))
    all_goals clear KK K0 KD K_w4 K_w5 K_w6
    all_goals go_wp2_with fail
    all_goals go_meet
    all_goals refine ⟨_, A_b, n_b, cap_b, rfl, ⟨?_, ?_, ?_, ?_⟩⟩
    all_goals repeat' (first | with_reducible exact h_b.out | with_reducible exact B_w4.out | with_reducible exact B_w5.out | with_reducible exact B_w6.out | with_reducible exact Below.refl _ _ | with_reducible apply below_new | with_reducible apply below_drew | (with_reducible refine below_set ?_ ?_ _) | (with_reducible refine AtB.set2 (a := .bool false) (b := .slice none 0 0) (T := 52) ?_ _ _) | (with_reducible refine AtB.set2 (a := .int .i64 0) (b := .int .u64 0) (T := 88) ?_ _ _) | (with_reducible refine AtB.far2 ?_ ?_ _ _) | (with_reducible refine BR.alloc ?_ _) | (with_reducible refine BR.far2 (a := .bool false) (b := .slice none 0 0) (T := 52) ?_ ?_ (by decide) _ _) | (with_reducible refine new_at_eq ?_ _ _; first | rfl | (simp; done)) | (with_reducible refine AtB.alloc ?_ _) | with_reducible apply AtB.drew | (with_reducible refine AtB.keep ?_ HB_w6.out) | (with_reducible refine AtB.keep ?_ HB_w5.out) | (with_reducible refine AtB.keep ?_ HB_w4.out) | omega)
  clear O1 Oy M1
  obtain ⟨wc2, rfl⟩ : ∃ wo : World, wo = wc := ⟨_, rfl⟩
  obtain ⟨g_b, A_b, n_b, cap_b, rfl, hcut⟩ := hcut
  obtain ⟨r_b, h_b, hb, hge⟩ := hcut.out
  clear hcut
  replace r_b := Lib.hid r_b; replace h_b := Lib.hid h_b
  have d_b := Lib.hid (And.intro (Nat.le_trans BB.out.size hge) (And.intro (Nat.lt_of_lt_of_le r_k.out.lt hge) (And.intro (Nat.lt_of_lt_of_le r_p.out.lt hge) (And.intro (Nat.lt_of_lt_of_le r_res.out.lt hge) (And.intro (Nat.lt_of_lt_of_le r_a.out.lt hge) (True.intro))))))
  replace r_k := Lib.hid (r_k.out.keep hb)
  replace r_p := Lib.hid (r_p.out.keep hb)
  replace r_res := Lib.hid (r_res.out.keep hb)
  replace r_a := Lib.hid (r_a.out.keep hb)
  replace h_a := Lib.hid (h_a.out.below hb)
  replace BB := Lib.hid (below_next BB.out hb)
  clear hb hge
  go_wp2_with fail
  have KK := Lib.hid (fun (w9 : World) (h : Below wc2.heap.size wc2 w9) => (⟨cells3 (r_k.out.keep h), cells3 (r_p.out.keep h), cells2 (r_a.out.keep h), cells2 (r_b.out.keep h)⟩ : (w9.cell? ⟨w.heap.size, 0, none⟩ = some (.int .i64 k0) ∧ w9.cell? ⟨w.heap.size, 1, none⟩ = some (.int .i64 k1) ∧ w9.cell? ⟨w.heap.size, 2, none⟩ = some (.int .i64 k2)) ∧ (w9.cell? ⟨w.heap.size + 1, 0, none⟩ = some (.int .i64 x) ∧ w9.cell? ⟨w.heap.size + 1, 1, none⟩ = some (.int .i64 y) ∧ w9.cell? ⟨w.heap.size + 1, 2, none⟩ = some (.int .i64 d)) ∧ (w9.cell? ⟨g_a, 0, none⟩ = some (.bool (sgn (p0))) ∧ w9.cell? ⟨g_a, 1, none⟩ = some (.slice A_a n_a cap_a)) ∧ (w9.cell? ⟨g_b, 0, none⟩ = some (.bool (sgn (p1))) ∧ w9.cell? ⟨g_b, 1, none⟩ = some (.slice A_b n_b cap_b))))
  have K0 := KK.out wc2 (Below.refl _ _)
  have KD := KK.out wc2.drew (below_drew (Below.refl _ _))
  have tok0 : Hid True := trivial
  have tok1 : Hid True := trivial
  have tok2 : Hid True := trivial
  have tok4 : Hid True := trivial
  go_region_held3 (fun w9 => (w9.cell? ⟨w.heap.size, 0, none⟩ = some (.int .i64 k0) ∧ w9.cell? ⟨w.heap.size, 1, none⟩ = some (.int .i64 k1) ∧ w9.cell? ⟨w.heap.size, 2, none⟩ = some (.int .i64 k2)) ∧ (w9.cell? ⟨w.heap.size + 1, 0, none⟩ = some (.int .i64 x) ∧ w9.cell? ⟨w.heap.size + 1, 1, none⟩ = some (.int .i64 y) ∧ w9.cell? ⟨w.heap.size + 1, 2, none⟩ = some (.int .i64 d)) ∧ (w9.cell? ⟨g_a, 0, none⟩ = some (.bool (sgn (p0))) ∧ w9.cell? ⟨g_a, 1, none⟩ = some (.slice A_a n_a cap_a)) ∧ (w9.cell? ⟨g_b, 0, none⟩ = some (.bool (sgn (p1))) ∧ w9.cell? ⟨g_b, 1, none⟩ = some (.slice A_b n_b cap_b)))
      (first | with_reducible exact KD | with_reducible exact K0 | with_reducible exact K_w7 | with_reducible exact K_w8 | with_reducible exact K_w9 | with_reducible exact K_w10 | with_reducible exact K_w11 | with_reducible exact ⟨cells3 ((r_k.out.keep B_w11.out).far2 (by omega) _ _), cells3 ((r_p.out.keep B_w11.out).far2 (by omega) _ _), cells2 ((r_a.out.keep B_w11.out).far2 (by have dd_a := d_a.out; omega) _ _), cells2 ((r_b.out.keep B_w11.out).far2 (by have dd_b := d_b.out; omega) _ _)⟩)
      (first
        | (go_at_call 58
           have t_k := tok0
           refine (A1.out _ _ _ (h_a.out.below ?_) (h_b.out.below ?_)).mono ?_
           · repeat (first | with_reducible exact Below.refl _ _ | with_reducible apply below_drew | with_reducible apply below_new)
           · repeat (first | with_reducible exact Below.refl _ _ | with_reducible apply below_drew | with_reducible apply below_new)
           rintro e w7 ⟨v_s, rfl, hb, h_s⟩
           obtain ⟨A_s, n_s, cap_s, rfl, -⟩ := id h_s.form
           replace h_s := Lib.hid h_s
           have B_w7 := Lib.hid (reg_next (w0 := wc2) (by repeat (first | with_reducible exact Below.refl _ _ | with_reducible apply below_drew | with_reducible apply below_new)) hb)
           have K_w7 := KK.out _ B_w7.out
           clear hb
           clear t_k tok0)
        | (go_at_call 27
           have t_k := tok1
           refine (O2.out _).mono ?_
           rintro e w8 ⟨v_e, rfl, hb, h_e⟩
           obtain ⟨A_e, n_e, cap_e, rfl, -⟩ := id h_e.form
           replace h_e := Lib.hid h_e
           replace h_s := Lib.hid (h_s.out.below hb)
           have B_w8 := Lib.hid (below_next B_w7.out hb)
           have K_w8 := KK.out _ B_w8.out
           clear hb
           clear t_k tok1)
        | (go_at_call 27
           have t_k := tok2
           refine (Od.out _).mono ?_
           rintro e w9 ⟨v_f, rfl, hb, h_f⟩
           obtain ⟨A_f, n_f, cap_f, rfl, -⟩ := id h_f.form
           replace h_f := Lib.hid h_f
           replace h_s := Lib.hid (h_s.out.below hb)
           replace h_e := Lib.hid (h_e.out.below hb)
           have B_w9 := Lib.hid (below_next B_w8.out hb)
           have K_w9 := KK.out _ B_w9.out
           clear hb
           clear t_k tok2)
        | (go_at_call 26
           refine (M2.out _ _ _ h_e.out h_f.out).mono ?_
           rintro e w10 ⟨v_m, rfl, hb, h_m⟩
           obtain ⟨A_m, n_m, cap_m, rfl, -⟩ := id h_m.form
           replace h_m := Lib.hid h_m
           replace h_s := Lib.hid (h_s.out.below hb)
           replace h_e := Lib.hid (h_e.out.below hb)
           replace h_f := Lib.hid (h_f.out.below hb)
           have B_w10 := Lib.hid (below_next B_w9.out hb)
           have K_w10 := KK.out _ B_w10.out
           clear hb)
        | (go_at_call 58
           have t_k := tok4
           refine (A2.out _ _ _ h_s.out h_m.out).mono ?_
           rintro e w11 ⟨v_z, rfl, hb, h_z⟩
           obtain ⟨A_z, n_z, cap_z, rfl, -⟩ := id h_z.form
           replace h_z := Lib.hid h_z
           replace h_s := Lib.hid (h_s.out.below hb)
           replace h_e := Lib.hid (h_e.out.below hb)
           replace h_f := Lib.hid (h_f.out.below hb)
           replace h_m := Lib.hid (h_m.out.below hb)
           have B_w11 := Lib.hid (below_next B_w10.out hb)
           have K_w11 := KK.out _ B_w11.out
           obtain ⟨rc_res0, rc_res1, rf_res0, rf_res1⟩ := reads2 (r_res.out.keep B_w11.out)
           have rl_res := (r_res.out.keep B_w11.out).lt
           clear hb
           clear t_k tok4))
  clear KK K0 KD K_w7 K_w8 K_w9 K_w10 K_w11
  replace r_k := Lib.hid (r_k.out.keep B_w11.out)
  replace r_p := Lib.hid (r_p.out.keep B_w11.out)
  replace r_res := Lib.hid (r_res.out.keep B_w11.out)
  replace r_a := Lib.hid (r_a.out.keep B_w11.out)
  replace r_b := Lib.hid (r_b.out.keep B_w11.out)
  replace h_a := Lib.hid (h_a.out.below B_w11.out)
  replace h_b := Lib.hid (h_b.out.below B_w11.out)
  replace BB := Lib.hid (below_next BB.out B_w11.out)
  clear B_w7 B_w8 B_w9 B_w10 B_w11
  go_wp2_with fail
  refine bodyPost_ret (v := .agg #[.bool (sgn Z), .slice A_z n_z cap_z]) (by unfold results; simp only [Try.results29]; go_simp) rfl ?_
  exact give_res BB.out h_z.out r_res.out (by omega) rfl

set_option maxRecDepth 100000 in
set_option maxHeartbeats 8000000 in
theorem affineLines_bad (v u : Value) (zs : List Int) (ps : List P3) (hC : afC zs ≠ 0) (w : World) (hv : IS w v zs) (hu : PS w u ps) :
    Calls Try.prog 6 #[v, u] w fun e w' => e = .returned (.bool true) ∧ Below w.heap.size w w' := by
  have CN := Lib.hid (fun w hv => afnew v zs w hv)
  have CD := Lib.hid (fun w hv => rcheck18 v zs w hv)
  have CL := Lib.hid (fun w => aflines_nil w)
  have CA := Lib.hid (fun w => alive18 w)
  obtain ⟨A, cap, rfl⟩ := hv.form
  obtain ⟨L, capl, rfl⟩ := hu.form
  have hv := Lib.hid hv
  have hC' : (afC zs != 0) = true := by simpa using hC
  have HC := Lib.hid hC
  clear hC hu
  generalize zs.length = n1 at *
  generalize ps.length = n2 at *
  generalize hCe : afC zs = C at *
  have hCe := Lib.hid hCe
  rcases dec_both ((n1 : Int) > 60) with ⟨g1, d1⟩ | ⟨g1, d1⟩
  · clear CN CD CL CA g1
    go_enter Try.func6, Try.ntmps6
    go_wp2_with fail
    have BB : Hid (Below w.heap.size w w) := Below.refl _ _
    refine bodyPost_ret (v := .bool true) (by unfold results; simp only [Try.results6]; go_simp) rfl ?_
    exact ⟨rfl, BB.out⟩
  rcases dec_both ((n2 : Int) > 60) with ⟨g2, d2⟩ | ⟨g2, d2⟩
  · clear CN CD CL CA g1 g2
    go_enter Try.func6, Try.ntmps6
    go_wp2_with fail
    have BB : Hid (Below w.heap.size w w) := Below.refl _ _
    refine bodyPost_ret (v := .bool true) (by unfold results; simp only [Try.results6]; go_simp) rfl ?_
    exact ⟨rfl, BB.out⟩
  have E3 := eq_arr3
  go_enter Try.func6, Try.ntmps6
  go_wp2_with fail
  have BB : Hid (Below w.heap.size w w) := Below.refl _ _
  have h_v := Lib.hid (hv.out.below BB.out)
  refine (CN.out _ h_v.out).mono ?_
  rintro e w1 ⟨m, rfl, hb, hn, -⟩
  replace h_v := Lib.hid (IS.below h_v.out hb)
  replace BB := Lib.hid (below_next BB.out hb)
  clear hb
  rw [hCe.out] at hn ⊢
  obtain rfl := hn HC.out
  clear hn CN
  go_wp2_with fail
  refine (CL.out _).mono ?_
  rintro e w2 ⟨rfl, hb⟩
  replace h_v := Lib.hid (IS.below h_v.out hb)
  replace BB := Lib.hid (below_next BB.out hb)
  clear hb
  clear CL
  go_wp2_with fail
  have d_h := Lib.hid (And.intro BB.out.size (True.intro))
  obtain ⟨hb, -, r_h, r_k⟩ := start2 w2 #[.int .i64 0, .int .i64 0, .int .i64 0] LN #[.int .i64 0, .int .i64 0, .int .i64 0] LN
  replace h_v := Lib.hid (IS.below h_v.out hb)
  replace BB := Lib.hid (below_next BB.out hb)
  clear hb
  replace r_h := Lib.hid r_h; replace r_k := Lib.hid r_k
  generalize (w2.alloc (.cells #[.int .i64 0, .int .i64 0, .int .i64 0] LN)).alloc (.cells #[.int .i64 0, .int .i64 0, .int .i64 0] LN) = w3 at *
  generalize w2.heap.size = g_h at *
  have d_k := d_h
  refine (CD.out _ h_v.out).mono ?_
  rintro e w9 ⟨rfl, m_q, rfl⟩
  have hb := below_drawn (Below.refl w3.heap.size w3) m_q
  generalize w3.drewN m_q = w4 at *
  replace r_h := Lib.hid (r_h.out.keep hb)
  replace r_k := Lib.hid (r_k.out.keep hb)
  replace h_v := Lib.hid (IS.below h_v.out hb)
  replace BB := Lib.hid (below_next BB.out hb)
  clear hb
  clear CD
  obtain ⟨c_h0, c_h1, c_h2, f_h0, f_h1, f_h2⟩ := reads3 r_h.out
  have l_h := r_h.out.lt
  obtain ⟨c_k0, c_k1, c_k2, f_k0, f_k1, f_k2⟩ := reads3 r_k.out
  have l_k := r_k.out.lt
  go_wp2_with fail
  refine (CA.out _).mono ?_
  rintro e w5 ⟨rfl, hb⟩
  clear c_h0 c_h1 c_h2 f_h0 f_h1 f_h2 l_h c_k0 c_k1 c_k2 f_k0 f_k1 f_k2 l_k
  replace r_h := Lib.hid (r_h.out.keep hb)
  replace r_k := Lib.hid (r_k.out.keep hb)
  replace h_v := Lib.hid (IS.below h_v.out hb)
  replace BB := Lib.hid (below_next BB.out hb)
  clear hb
  go_wp2_with fail
  go_ret
  exact ⟨rfl, BB.out⟩

theorem r2placeU (k0 k1 k2 D px py d : Int) (h : LB k0 k1 k2 D) (hp : -1048576 ≤ px ∧ px ≤ 1048576) (hq : -1048576 ≤ py ∧ py ≤ 1048576) (h1 : 1 ≤ d) (h2 : d ≤ 16) (u v : Value) (w : World) (hu : BR w u (k0 * px + k1 * py + k2 * d)) (hv : BR w v (D * d)) :
    Calls Try.prog 28 #[u, v] w fun e w' => e = .returned (.int .i64 (plU k0 k1 k2 D px py d)) ∧ Below w.heap.size w w' := by
  have pf := place_facts h hp hq h1 h2
  exact r2place u v (k0 * px + k1 * py + k2 * d) (D * d) w hu hv ((i128_wd pf.2.1).up (by omega)) ((i64_wd pf.2.2.1).up (by omega)) pf.2.2.2
theorem rdet18b (v : Value) (c0 c1 c2 c3 c4 c5 : Int) (hM : AM c0 c1 c2 c3 c4 c5) (w : World) (hv : IS w v [c0, c1, c2, c3, c4, c5]) : Calls Try.prog 24 #[v] w fun e w' => e = .returned (.int .i64 (detI c0 c1 c3 c4)) ∧ Below w.heap.size w w' := by
  refine (rdet18 v c0 c1 c2 c3 c4 c5 hM.a hM.b hM.d hM.e w hv).mono ?_
  rintro e w' ⟨h, m, rfl⟩
  exact ⟨h, below_drawn (Below.refl _ _) m⟩
set_option maxRecDepth 100000 in
set_option maxHeartbeats 16000000 in
theorem affineLines_ok (v u : Value) (c0 c1 c2 c3 c4 c5 : Int) (ps : List P3) (hC : afC [c0, c1, c2, c3, c4, c5] = 0) (hM : AM c0 c1 c2 c3 c4 c5) (w : World) (hv : IS w v [c0, c1, c2, c3, c4, c5]) (hu : PS w u ps) :
    Calls Try.prog 6 #[v, u] w fun e w' => e = .returned (.bool true) ∧ Below w.heap.size w w' := by
  have CN := Lib.hid (fun w hv => afnew v [c0, c1, c2, c3, c4, c5] w hv)
  have CD := Lib.hid (fun w hv => rcheck18 v [c0, c1, c2, c3, c4, c5] w hv)
  have CL := Lib.hid (fun g w hm => aflines g (65536 * c4) (-65536 * c1) (c1 * c5 - c4 * c2) (-65536 * c3) (65536 * c0) (c3 * c2 - c0 * c5) (detI c0 c1 c3 c4) w hm)
  have CE := Lib.hid (fun w hv => rdet18b v c0 c1 c2 c3 c4 c5 hM w hv)
  have CR := Lib.hid (fun px py d w => rright px py d w)
  have CQ := Lib.hid (fun px py d hp w hv => rat18 v c0 c1 c2 c3 c4 c5 px py d hM hp w hv)
  have CA := Lib.hid (fun w => alive18 w)
  obtain ⟨L1, L2⟩ := hM.lines
  have lU := Lib.hid L1; have lV := Lib.hid L2
  have CS := Lib.hid (fun k0 k1 k2 x y d (h : LB k0 k1 k2 (detI c0 c1 c3 c4)) hx hy hd w => lsum k0 k1 k2 x y d ⟨by have := h.a; omega, by have := h.a; omega⟩ ⟨by have := h.b; omega, by have := h.b; omega⟩ ⟨by have := h.c; omega, by have := h.c; omega⟩ hx hy hd w)
  have OD := Lib.hid (fun w => of_any (detI c0 c1 c3 c4) ⟨by have := L1.d; omega, by have := L1.d; omega⟩ w)
  have Od := Lib.hid (fun d (hd : I64 d) w => of_any d hd w)
  have MD := Lib.hid (fun d (hd : I64 d) (u v : Value) w (hu : BR w u (detI c0 c1 c3 c4)) (hv : BR w v d) => mul_any u v (detI c0 c1 c3 c4) d w hu hv (i64_mid' ⟨by have := L1.d; omega, by have := L1.d; omega⟩) (i64_mid' hd))
  have PLC := Lib.hid (fun k0 k1 k2 px py d (h : LB k0 k1 k2 (detI c0 c1 c3 c4)) (hp : -1048576 ≤ px ∧ px ≤ 1048576) (hq : -1048576 ≤ py ∧ py ≤ 1048576) (h1 : 1 ≤ d) (h2 : d ≤ 16) (u v : Value) w hu hv => r2placeU k0 k1 k2 (detI c0 c1 c3 c4) px py d h hp hq h1 h2 u v w hu hv)
  obtain ⟨A, cap, rfl⟩ := hv.form
  obtain ⟨L, capl, rfl⟩ := hu.form
  rw [show [c0, c1, c2, c3, c4, c5].length = 6 from rfl] at hv CN CD CE CQ ⊢
  have hv := Lib.hid hv; have hu := Lib.hid hu
  rw [hC] at CD
  have HC := Lib.hid hC
  clear hC hM L1 L2
  generalize hn2 : ps.length = n2 at *
  have hn2 := Lib.hid hn2
  rcases dec_both ((n2 : Int) > 60) with ⟨g2, d2⟩ | ⟨g2, d2⟩
  · clear CN CD CL CE CR CQ CA CS OD Od MD PLC g2
    go_enter Try.func6, Try.ntmps6
    go_wp2_with fail
    have BB : Hid (Below w.heap.size w w) := Below.refl _ _
    refine bodyPost_ret (v := .bool true) (by unfold results; simp only [Try.results6]; go_simp) rfl ?_
    exact ⟨rfl, BB.out⟩
  go_enter Try.func6, Try.ntmps6
  go_wp2_with fail
  have BB : Hid (Below w.heap.size w w) := Below.refl _ _
  have h_v := Lib.hid (hv.out.below BB.out)
  have h_u := Lib.hid (hu.out.below BB.out)
  refine (CN.out _ h_v.out).mono ?_
  rintro e w1 ⟨m, rfl, hb, -, hp⟩
  replace h_v := Lib.hid (h_v.out.below hb)
  replace h_u := Lib.hid (PS.below h_u.out hb)
  replace BB := Lib.hid (below_next BB.out hb)
  clear hb
  obtain ⟨g, x0, x1, x2, x3, x4, x5, rfl, hz, -, r_m⟩ := hp HC.out
  simp only [List.cons.injEq, and_true] at hz
  obtain ⟨rfl, rfl, rfl, rfl, rfl, rfl⟩ := hz
  rw [HC.out]
  replace r_m := Lib.hid r_m
  clear hp CN HC
  go_wp2_with fail
  refine (CL.out _ _ r_m.out).mono ?_
  rintro e w2 ⟨rfl, hb⟩
  replace h_v := Lib.hid (h_v.out.below hb)
  replace h_u := Lib.hid (PS.below h_u.out hb)
  replace BB := Lib.hid (below_next BB.out hb)
  clear hb
  clear CL r_m
  go_wp2_with fail
  generalize 65536 * c4 = a0 at *
  generalize -65536 * c1 = a1 at *
  generalize c1 * c5 - c4 * c2 = a2 at *
  generalize -65536 * c3 = a3 at *
  generalize 65536 * c0 = a4 at *
  generalize c3 * c2 - c0 * c5 = a5 at *
  generalize detI c0 c1 c3 c4 = D at *
  have d_h := Lib.hid (And.intro BB.out.size (True.intro))
  obtain ⟨hb, -, r_h, r_k⟩ := start2 w2 #[.int .i64 a0, .int .i64 a1, .int .i64 a2] LN #[.int .i64 a3, .int .i64 a4, .int .i64 a5] LN
  replace h_v := Lib.hid (h_v.out.below hb)
  replace h_u := Lib.hid (PS.below h_u.out hb)
  replace BB := Lib.hid (below_next BB.out hb)
  clear hb
  replace r_h := Lib.hid r_h; replace r_k := Lib.hid r_k
  generalize (w2.alloc (.cells #[.int .i64 a0, .int .i64 a1, .int .i64 a2] LN)).alloc (.cells #[.int .i64 a3, .int .i64 a4, .int .i64 a5] LN) = w3 at *
  generalize w2.heap.size = g_h at *
  have d_k := d_h
  refine (CD.out _ h_v.out).mono ?_
  rintro e w9 ⟨rfl, m_q, rfl⟩
  have hb := below_drawn (Below.refl w3.heap.size w3) m_q
  generalize w3.drewN m_q = w4 at *
  replace r_h := Lib.hid (r_h.out.keep hb)
  replace r_k := Lib.hid (r_k.out.keep hb)
  replace h_v := Lib.hid (h_v.out.below hb)
  replace h_u := Lib.hid (PS.below h_u.out hb)
  replace BB := Lib.hid (below_next BB.out hb)
  clear hb
  clear CD
  go_wp2_with fail
  go_loopw [11, 12, 13, 14, 53] (fun _ _ _ _ i wr => ∃ k : Nat, k ≤ n2 ∧ i = .int .i64 k ∧ Hid (Below w4.heap.size w4 wr)) (fun _ _ _ _ i _ => n2 - (intOf i).toNat)
  case atStart => exact ⟨0, by omega, rfl, Below.refl _ _⟩
  case round =>
    obtain ⟨k, hk, rfl, hbl⟩ := hrel
    replace r_h := Lib.hid (r_h.out.keep hbl.out); replace r_k := Lib.hid (r_k.out.keep hbl.out); replace h_v := Lib.hid (h_v.out.below hbl.out); replace h_u := Lib.hid (h_u.out.below hbl.out); replace BB := Lib.hid (below_next BB.out hbl.out)
    by_cases hkn : k < n2
    · obtain ⟨b', off', x, y, d, rfl, hlt', -, hx, hy, hd, q0, q1, q2⟩ := h_u.out.at_ hn2.out hkn
      have hkn' : (k : Int) < n2 := by omega
      clear CA
      have ix := Lib.hid hx; have iy := Lib.hid hy; have idd := Lib.hid hd
      clear hx hy hd
      go_wp2_with fail
      have d_p := Lib.hid (And.intro BB.out.size (And.intro r_h.out.lt (And.intro r_k.out.lt (True.intro))))
      obtain ⟨hb, r_p⟩ := laid wr #[.int .i64 x, .int .i64 y, .int .i64 d] PL
      replace r_h := Lib.hid (r_h.out.keep hb)
      replace r_k := Lib.hid (r_k.out.keep hb)
      replace h_v := Lib.hid (h_v.out.below hb)
      replace hbl := Lib.hid (below_next hbl.out hb)
      replace BB := Lib.hid (below_next BB.out hb)
      replace r_p := Lib.hid r_p
      clear hb
      generalize wr.alloc (.cells #[.int .i64 x, .int .i64 y, .int .i64 d] PL) = w5 at *
      generalize wr.heap.size = g_p at *
      clear q0 q1 q2
      replace CR := Lib.hid (fun w => CR.out x y d w)
      cases hr : rightI x y d
      · rw [hr] at CR
        clear CQ CE CS OD Od MD PLC hr
        obtain ⟨c_p0, c_p1, c_p2, f_p0, f_p1, f_p2⟩ := reads3 r_p.out
        have l_p := r_p.out.lt
        go_wp2_with fail
        refine (CR.out _).mono ?_
        rintro e w9 ⟨rfl, rfl⟩
        go_wp2_with fail
        go_round
        case rel => exact ⟨k + 1, by omega, rfl, hbl.out⟩
        case measure => simp [intOf]; omega
      · rw [hr] at CR
        obtain ⟨q0, q1, h1, h2⟩ := rightI_iff.1 hr
        replace CQ := Lib.hid (fun w hv => CQ.out x y d hr w hv)
        replace Od := Lib.hid (fun w => Od.out d idd.out w)
        replace MD := Lib.hid (fun u v w hu hv => MD.out d idd.out u v w hu hv)
        have S1 := Lib.hid (fun w => CS.out _ _ _ x y d lU.out ix.out iy.out idd.out w)
        have S2 := Lib.hid (fun w => CS.out _ _ _ x y d lV.out ix.out iy.out idd.out w)
        have P1 := Lib.hid (fun u v w hu hv => PLC.out _ _ _ x y d lU.out q0 q1 h1 h2 u v w hu hv)
        have P2 := Lib.hid (fun u v w hu hv => PLC.out _ _ _ x y d lV.out q0 q1 h1 h2 u v w hu hv)
        clear CS PLC hr q0 q1 h1 h2
        generalize plU a0 a1 a2 D x y d = U at *
        generalize plU a3 a4 a5 D x y d = V at *
        generalize a0 * x + a1 * y + a2 * d = Z1 at *
        generalize a3 * x + a4 * y + a5 * d = Z2 at *
        generalize D * d = B at *
        obtain ⟨c_p0, c_p1, c_p2, f_p0, f_p1, f_p2⟩ := reads3 r_p.out
        have l_p := r_p.out.lt
        go_wp2_with fail
        refine (CR.out _).mono ?_
        rintro e w9 ⟨rfl, rfl⟩
        go_wp2_with fail
        refine (CQ.out _ h_v.out).mono ?_
        rintro e w6 ⟨rfl, hb⟩
        clear c_p0 c_p1 c_p2 f_p0 f_p1 f_p2 l_p
        replace r_h := Lib.hid (r_h.out.keep hb)
        replace r_k := Lib.hid (r_k.out.keep hb)
        replace r_p := Lib.hid (r_p.out.keep hb)
        replace h_v := Lib.hid (h_v.out.below hb)
        replace hbl := Lib.hid (below_next hbl.out hb)
        replace BB := Lib.hid (below_next BB.out hb)
        clear hb
        go_wp2_with fail
        go_cut [14] (fun s5 wc3 => ∃ gp A3 n3 c3, s5 = .pointer (some ⟨gp, 0, none⟩) ∧ Hid (AtB wc3 gp #[.bool (sgn (B)), .slice A3 n3 c3] 52 ∧ BR wc3 (.agg #[.bool (sgn (B)), .slice A3 n3 c3]) (B) ∧ Below w6.heap.size w6 wc3 ∧ w6.heap.size ≤ gp))
        case first =>
          have KK := Lib.hid (fun (w9 : World) (h : Below w6.heap.size w6 w9) => (cells3 (r_p.out.keep h) : (w9.cell? ⟨g_p, 0, none⟩ = some (.int .i64 x) ∧ w9.cell? ⟨g_p, 1, none⟩ = some (.int .i64 y) ∧ w9.cell? ⟨g_p, 2, none⟩ = some (.int .i64 d))))
          have K0 := KK.out w6 (Below.refl _ _)
          have KD := KK.out w6.drew (below_drew (Below.refl _ _))
          have tok1 : Hid True := trivial
          have tok2 : Hid True := trivial
          go_region_held3 (fun w9 => (w9.cell? ⟨g_p, 0, none⟩ = some (.int .i64 x) ∧ w9.cell? ⟨g_p, 1, none⟩ = some (.int .i64 y) ∧ w9.cell? ⟨g_p, 2, none⟩ = some (.int .i64 d)))
              (first | with_reducible exact KD | with_reducible exact K0 | with_reducible exact K_w7 | with_reducible exact K_w8 | with_reducible exact K_w9 | with_reducible exact K_w10 | (refine KK.out _ ?_; repeat' (first | with_reducible exact Below.refl _ _ | with_reducible exact B_w7.out | with_reducible exact B_w8.out | with_reducible exact B_w9.out | with_reducible exact B_w10.out | with_reducible apply below_new | with_reducible apply below_drew | with_reducible apply below_set | omega)))
              (first
                | (go_at_call 24
                   refine (CE.out _ (h_v.out.below ?_)).mono ?_
                   · repeat (first | with_reducible exact Below.refl _ _ | with_reducible apply below_drew | with_reducible apply below_new)
                   rintro e w7 ⟨rfl, hb⟩
                   have B_w7 := Lib.hid (reg_next (w0 := w6) (by repeat (first | with_reducible exact Below.refl _ _ | with_reducible apply below_drew | with_reducible apply below_new)) hb)
                   have K_w7 := KK.out _ B_w7.out
                   obtain ⟨hc_w7, hf_w7⟩ := below_reads hb
                   have hz_w7 := hb.size
                   try simp at hz_w7
                   try (have z1_w7 := Nat.lt_of_succ_le hz_w7)
                   try (have z2_w7 := Nat.lt_of_succ_lt z1_w7)
                   have HB_w7 := Lib.hid hb
                   clear hb)
                | (go_at_call 27
                   have t_k := tok1
                   refine (OD.out _).mono ?_
                   rintro e w8 ⟨v_e, rfl, hb, h_e⟩
                   obtain ⟨A_e, n_e, cap_e, rfl, -⟩ := id h_e.form
                   replace h_e := Lib.hid h_e
                   have B_w8 := Lib.hid (below_next (by repeat (first | with_reducible exact B_w7.out | with_reducible apply below_new | with_reducible apply below_drew)) hb)
                   have K_w8 := KK.out _ B_w8.out
                   obtain ⟨hc_w8, hf_w8⟩ := below_reads hb
                   have hz_w8 := hb.size
                   try simp at hz_w8
                   try (have z1_w8 := Nat.lt_of_succ_le hz_w8)
                   try (have z2_w8 := Nat.lt_of_succ_lt z1_w8)
                   have HB_w8 := Lib.hid hb
                   have y_w8_w7 := Nat.le_trans HB_w7.out.size (Nat.le_trans (by (try simp only [World.size_alloc]); omega) hb.size)
                   try simp at y_w8_w7
                   try (have z3_w8_w7 := Nat.lt_of_succ_le y_w8_w7)
                   try (have z4_w8_w7 := Nat.lt_of_succ_lt z3_w8_w7)
                   clear hb
                   clear t_k tok1)
                | (go_at_call 27
                   have t_k := tok2
                   refine (Od.out _).mono ?_
                   rintro e w9 ⟨v_f, rfl, hb, h_f⟩
                   obtain ⟨A_f, n_f, cap_f, rfl, -⟩ := id h_f.form
                   replace h_f := Lib.hid h_f
                   replace h_e := Lib.hid (h_e.out.below (below_next (by repeat (first | with_reducible exact Below.refl _ _ | with_reducible apply below_new | with_reducible apply below_drew)) hb))
                   have B_w9 := Lib.hid (below_next (by repeat (first | with_reducible exact B_w8.out | with_reducible apply below_new | with_reducible apply below_drew)) hb)
                   have K_w9 := KK.out _ B_w9.out
                   obtain ⟨hc_w9, hf_w9⟩ := below_reads hb
                   have hz_w9 := hb.size
                   try simp at hz_w9
                   try (have z1_w9 := Nat.lt_of_succ_le hz_w9)
                   try (have z2_w9 := Nat.lt_of_succ_lt z1_w9)
                   have HB_w9 := Lib.hid hb
                   have y_w9_w7 := Nat.le_trans HB_w7.out.size (Nat.le_trans (by (try simp only [World.size_alloc]); omega) hb.size)
                   try simp at y_w9_w7
                   try (have z3_w9_w7 := Nat.lt_of_succ_le y_w9_w7)
                   try (have z4_w9_w7 := Nat.lt_of_succ_lt z3_w9_w7)
                   have y_w9_w8 := Nat.le_trans HB_w8.out.size (Nat.le_trans (by (try simp only [World.size_alloc]); omega) hb.size)
                   try simp at y_w9_w8
                   try (have z3_w9_w8 := Nat.lt_of_succ_le y_w9_w8)
                   try (have z4_w9_w8 := Nat.lt_of_succ_lt z3_w9_w8)
                   clear hb
                   clear t_k tok2)
                | (go_at_call 26
                   refine (MD.out _ _ _ (h_e.out.below ?_) (h_f.out.below ?_)).mono ?_
                   · repeat (first | with_reducible exact Below.refl _ _ | with_reducible exact B_w9.out | with_reducible apply below_drew | with_reducible apply below_new)
                   · repeat (first | with_reducible exact Below.refl _ _ | with_reducible exact B_w9.out | with_reducible apply below_drew | with_reducible apply below_new)
                   rintro e w10 ⟨v_b, rfl, hb, h_b⟩
                   obtain ⟨A_b, n_b, cap_b, rfl, -⟩ := id h_b.form
                   replace h_b := Lib.hid h_b
                   replace h_e := Lib.hid (h_e.out.below (below_next (by repeat (first | with_reducible exact Below.refl _ _ | with_reducible apply below_new | with_reducible apply below_drew)) hb))
                   replace h_f := Lib.hid (h_f.out.below (below_next (by repeat (first | with_reducible exact Below.refl _ _ | with_reducible apply below_new | with_reducible apply below_drew)) hb))
                   have B_w10 := Lib.hid (below_next (by repeat (first | with_reducible exact B_w9.out | with_reducible apply below_new | with_reducible apply below_drew)) hb)
                   have K_w10 := KK.out _ B_w10.out
                   obtain ⟨hc_w10, hf_w10⟩ := below_reads hb
                   have hz_w10 := hb.size
                   try simp at hz_w10
                   try (have z1_w10 := Nat.lt_of_succ_le hz_w10)
                   try (have z2_w10 := Nat.lt_of_succ_lt z1_w10)
                   have HB_w10 := Lib.hid hb
                   have y_w10_w7 := Nat.le_trans HB_w7.out.size (Nat.le_trans (by (try simp only [World.size_alloc]); omega) hb.size)
                   try simp at y_w10_w7
                   try (have z3_w10_w7 := Nat.lt_of_succ_le y_w10_w7)
                   try (have z4_w10_w7 := Nat.lt_of_succ_lt z3_w10_w7)
                   have y_w10_w8 := Nat.le_trans HB_w8.out.size (Nat.le_trans (by (try simp only [World.size_alloc]); omega) hb.size)
                   try simp at y_w10_w8
                   try (have z3_w10_w8 := Nat.lt_of_succ_le y_w10_w8)
                   try (have z4_w10_w8 := Nat.lt_of_succ_lt z3_w10_w8)
                   have y_w10_w9 := Nat.le_trans HB_w9.out.size (Nat.le_trans (by (try simp only [World.size_alloc]); omega) hb.size)
                   try simp at y_w10_w9
                   try (have z3_w10_w9 := Nat.lt_of_succ_le y_w10_w9)
                   try (have z4_w10_w9 := Nat.lt_of_succ_lt z3_w10_w9)
                   clear hb))
          all_goals clear KK K0 KD K_w7 K_w8 K_w9 K_w10
          all_goals go_wp2_with fail
          all_goals go_meet
          all_goals refine ⟨_, A_b, n_b, cap_b, rfl, ⟨?_, ?_, ?_, ?_⟩⟩
          all_goals repeat' (first | with_reducible exact h_b.out | with_reducible exact B_w7.out | with_reducible exact B_w8.out | with_reducible exact B_w9.out | with_reducible exact B_w10.out | with_reducible exact Below.refl _ _ | with_reducible apply below_new | with_reducible apply below_drew | (with_reducible refine below_set ?_ ?_ _) | (with_reducible refine AtB.set2 (a := .bool false) (b := .slice none 0 0) (T := 52) ?_ _ _) | (with_reducible refine AtB.set2 (a := .int .i64 0) (b := .int .u64 0) (T := 88) ?_ _ _) | (with_reducible refine AtB.far2 ?_ ?_ _ _) | (with_reducible refine BR.alloc ?_ _) | (with_reducible refine BR.far2 (a := .bool false) (b := .slice none 0 0) (T := 52) ?_ ?_ (by decide) _ _) | (with_reducible refine new_at_eq ?_ _ _; first | rfl | (simp; done)) | (with_reducible refine AtB.alloc ?_ _) | with_reducible apply AtB.drew | (with_reducible refine AtB.keep ?_ HB_w10.out) | (with_reducible refine AtB.keep ?_ HB_w9.out) | (with_reducible refine AtB.keep ?_ HB_w8.out) | (with_reducible refine AtB.keep ?_ HB_w7.out) | omega)
        clear CE OD Od MD
        obtain ⟨wc3, rfl⟩ : ∃ wo : World, wo = wc := ⟨_, rfl⟩
        obtain ⟨g_b, A_b, n_b, cap_b, rfl, hcut⟩ := hcut
        obtain ⟨r_b, h_b, hb, hge⟩ := hcut.out
        clear hcut
        replace r_b := Lib.hid r_b; replace h_b := Lib.hid h_b
        have d_b := Lib.hid (And.intro (Nat.le_trans BB.out.size hge) (And.intro (Nat.lt_of_lt_of_le r_h.out.lt hge) (And.intro (Nat.lt_of_lt_of_le r_k.out.lt hge) (And.intro (Nat.lt_of_lt_of_le r_p.out.lt hge) (True.intro)))))
        replace r_h := Lib.hid (r_h.out.keep hb)
        replace r_k := Lib.hid (r_k.out.keep hb)
        replace r_p := Lib.hid (r_p.out.keep hb)
        replace h_v := Lib.hid (h_v.out.below hb)
        replace hbl := Lib.hid (below_next hbl.out hb)
        replace BB := Lib.hid (below_next BB.out hb)
        clear hb hge
        go_wp2_with fail
        have KK := Lib.hid (fun (w9 : World) (h : Below wc3.heap.size wc3 w9) => (⟨cells3 (r_h.out.keep h), cells3 (r_k.out.keep h), cells3 (r_p.out.keep h), cells2 (r_b.out.keep h)⟩ : (w9.cell? ⟨g_h, 0, none⟩ = some (.int .i64 a0) ∧ w9.cell? ⟨g_h, 1, none⟩ = some (.int .i64 a1) ∧ w9.cell? ⟨g_h, 2, none⟩ = some (.int .i64 a2)) ∧ (w9.cell? ⟨g_h + 1, 0, none⟩ = some (.int .i64 a3) ∧ w9.cell? ⟨g_h + 1, 1, none⟩ = some (.int .i64 a4) ∧ w9.cell? ⟨g_h + 1, 2, none⟩ = some (.int .i64 a5)) ∧ (w9.cell? ⟨g_p, 0, none⟩ = some (.int .i64 x) ∧ w9.cell? ⟨g_p, 1, none⟩ = some (.int .i64 y) ∧ w9.cell? ⟨g_p, 2, none⟩ = some (.int .i64 d)) ∧ (w9.cell? ⟨g_b, 0, none⟩ = some (.bool (sgn (B))) ∧ w9.cell? ⟨g_b, 1, none⟩ = some (.slice A_b n_b cap_b))))
        have K0 := KK.out wc3 (Below.refl _ _)
        have KD := KK.out wc3.drew (below_drew (Below.refl _ _))
        have tok0 : Hid True := trivial
        have tok1 : Hid True := trivial
        have tok2 : Hid True := trivial
        have tok3 : Hid True := trivial
        go_region_held3 (fun w9 => (w9.cell? ⟨g_h, 0, none⟩ = some (.int .i64 a0) ∧ w9.cell? ⟨g_h, 1, none⟩ = some (.int .i64 a1) ∧ w9.cell? ⟨g_h, 2, none⟩ = some (.int .i64 a2)) ∧ (w9.cell? ⟨g_h + 1, 0, none⟩ = some (.int .i64 a3) ∧ w9.cell? ⟨g_h + 1, 1, none⟩ = some (.int .i64 a4) ∧ w9.cell? ⟨g_h + 1, 2, none⟩ = some (.int .i64 a5)) ∧ (w9.cell? ⟨g_p, 0, none⟩ = some (.int .i64 x) ∧ w9.cell? ⟨g_p, 1, none⟩ = some (.int .i64 y) ∧ w9.cell? ⟨g_p, 2, none⟩ = some (.int .i64 d)) ∧ (w9.cell? ⟨g_b, 0, none⟩ = some (.bool (sgn (B))) ∧ w9.cell? ⟨g_b, 1, none⟩ = some (.slice A_b n_b cap_b)))
            (first | with_reducible exact KD | with_reducible exact K0 | with_reducible exact K_w11 | with_reducible exact K_w12 | with_reducible exact K_w13 | with_reducible exact K_w14)
            (first
              | (go_at_call 29
                 have t_k := tok0
                 refine (S1.out _).mono ?_
                 rintro e w11 ⟨v_s, rfl, hb, h_s⟩
                 obtain ⟨A_s, n_s, cap_s, rfl, -⟩ := id h_s.form
                 replace h_s := Lib.hid h_s
                 have B_w11 := Lib.hid (reg_next (w0 := wc3) (by repeat (first | with_reducible exact Below.refl _ _ | with_reducible apply below_drew | with_reducible apply below_new)) hb)
                 have K_w11 := KK.out _ B_w11.out
                 clear hb
                 clear t_k tok0)
              | (go_at_call 28
                 have t_k := tok1
                 refine (P1.out _ _ _ h_s.out (h_b.out.below B_w11.out)).mono ?_
                 rintro e w12 ⟨rfl, hb⟩
                 replace h_s := Lib.hid (h_s.out.below hb)
                 have B_w12 := Lib.hid (below_next B_w11.out hb)
                 have K_w12 := KK.out _ B_w12.out
                 clear hb
                 clear t_k tok1)
              | (go_at_call 29
                 have t_k := tok2
                 refine (S2.out _).mono ?_
                 rintro e w13 ⟨v_t, rfl, hb, h_t⟩
                 obtain ⟨A_t, n_t, cap_t, rfl, -⟩ := id h_t.form
                 replace h_t := Lib.hid h_t
                 replace h_s := Lib.hid (h_s.out.below hb)
                 have B_w13 := Lib.hid (below_next B_w12.out hb)
                 have K_w13 := KK.out _ B_w13.out
                 clear hb
                 clear t_k tok2)
              | (go_at_call 28
                 have t_k := tok3
                 refine (P2.out _ _ _ h_t.out (h_b.out.below B_w13.out)).mono ?_
                 rintro e w14 ⟨rfl, hb⟩
                 replace h_s := Lib.hid (h_s.out.below hb)
                 replace h_t := Lib.hid (h_t.out.below hb)
                 have B_w14 := Lib.hid (below_next B_w13.out hb)
                 have K_w14 := KK.out _ B_w14.out
                 clear hb
                 clear t_k tok3))
        clear KK K0 KD K_w11 K_w12 K_w13 K_w14
        replace r_h := Lib.hid (r_h.out.keep B_w14.out)
        replace r_k := Lib.hid (r_k.out.keep B_w14.out)
        replace r_p := Lib.hid (r_p.out.keep B_w14.out)
        replace r_b := Lib.hid (r_b.out.keep B_w14.out)
        replace h_v := Lib.hid (h_v.out.below B_w14.out)
        replace h_b := Lib.hid (h_b.out.below B_w14.out)
        replace hbl := Lib.hid (below_next hbl.out B_w14.out)
        replace BB := Lib.hid (below_next BB.out B_w14.out)
        clear B_w11 B_w12 B_w13 B_w14
        go_wp2_with fail
        go_round
        case rel => exact ⟨k + 1, by omega, rfl, hbl.out⟩
        case measure => simp [intOf]; omega
    · have : ¬ (k : Int) < n2 := by omega
      clear CE CS OD Od MD PLC CR CQ
      go_wp2_with fail
      refine (CA.out _).mono ?_
      rintro e w15 ⟨rfl, hb⟩
      replace BB := Lib.hid (below_next BB.out hb)
      clear hb
      go_wp2_with fail
      refine bodyPost_ret (v := .bool true) (by unfold results; simp only [Try.results6]; go_simp) rfl ?_
      exact ⟨rfl, BB.out⟩

theorem affineLines_any (v u : Value) (zs : List Int) (ps : List P3) (w : World) (hv : IS w v zs) (hu : PS w u ps) :
    Calls Try.prog 6 #[v, u] w fun e w' => e = .returned (.bool true) ∧ Below w.heap.size w w' := by
  by_cases hC : afC zs = 0
  · obtain ⟨c0, c1, c2, c3, c4, c5, rfl, hM⟩ := afC_zero hC
    exact affineLines_ok v u c0 c1 c2 c3 c4 c5 ps hC hM w hv hu
  · exact affineLines_bad v u zs ps hC w hv hu

end Go.Proofs.Ytbldgbenlmjmjaa
