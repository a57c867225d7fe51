/- ref04's Show at any number. -/
import Derived.Test.YthdbchghhpoadaaDoorFxM
import Derived.Test.YthdbchghhpoadaaDoorRText
import Derived.Test.YthdbchghhpoadaaDoorRegG
import Derived.Test.YthdbchghhpoadaaDoorFxC
import Derived.Deep.DeepCutAuto
set_option linter.unusedVariables false
set_option linter.unusedSimpArgs false
namespace Go.Proofs.YthdbchghhpoadaaDoor
open Go.RowKit
theorem wd_nat {N : Nat} (h : N ≤ 9223372036854775808) : Wd 127 (N : Int) := by
  have : (2 : Int) ^ 127 = 170141183460469231731687303715884105728 := by decide
  unfold Wd; omega
theorem fl_nat (N : Nat) : ((N : Int)).fdiv 65536 = ((N / 65536 : Nat) : Int) := by
  rw [Int.fdiv_eq_ediv_of_nonneg _ (by omega)]; omega
theorem floor_nat (N : Nat) (h : N ≤ 9223372036854775808) (u v : Value) (w : World) (hu : BR w u (N : Int)) (hv : BR w v 65536) : Calls Tryd.prog 43 #[u, v] w (GiveB ((N / 65536 : Nat) : Int) w) := by
  rw [← fl_nat]
  exact floor_any u v _ 65536 w hu hv ((wd_nat h).mid (by omega)) ((show Wd 17 65536 by unfold Wd; decide).low (by omega)) (by omega)
theorem mul_nat (a b : Nat) (ha : a ≤ 9223372036854775808) (hb : b ≤ 65536) (u v : Value) (w : World) (hu : BR w u (a : Int)) (hv : BR w v (b : Int)) : Calls Tryd.prog 34 #[u, v] w (GiveB ((a * b : Nat) : Int) w) := by
  rw [Int.natCast_mul]
  exact mul_any u v _ _ w hu hv ((wd_nat ha).mid (by omega)) ((wd_nat (Nat.le_trans hb (by omega))).mid (by omega))
theorem sub_nat (a b : Nat) (hab : b ≤ a) (ha : a ≤ 9223372036854775808) (u v : Value) (w : World) (hu : BR w u (a : Int)) (hv : BR w v (b : Int)) : Calls Tryd.prog 14 #[u, v] w (GiveB ((a - b : Nat) : Int) w) := by
  rw [Int.natCast_sub hab]
  exact sub_any u v _ _ w hu hv ((wd_nat ha).mid (by omega)) ((wd_nat (Nat.le_trans hab ha)).mid (by omega))
theorem text_nat (a : Nat) (ha : a ≤ 9223372036854775808) (v : Value) (w : World) (hv : BR w v (a : Int)) : Calls Tryd.prog 52 #[v] w fun e w' => e = .returned (.string ⟨(Lib.decDigits a).toArray⟩) ∧ Below w.heap.size w w' := by
  rw [← txt_nat a (Nat.lt_of_le_of_lt ha (by decide))]
  exact rtext_any v _ w hv (wd_nat ha)
theorem dec_dig {p : Nat} (hp : p < 65536) : Lib.decDigits (p * 10 / 65536) = [dig p] := by
  rw [Lib.decDigits, dif_pos (by omega)]
  rfl
theorem big_zero {w : World} {b : Bool} {A : Option Addr} {n cap : Nat} {p : Nat} (h : BR w (.agg #[.bool b, .slice A n cap]) (p : Int)) : n = 0 ↔ p = 0 := by
  obtain ⟨_, _, _, hf, h0⟩ := h.nr.form
  injection hf with e1 e2 e3
  subst e2
  rw [h0]; omega
set_option maxRecDepth 100000 in
set_option maxHeartbeats 16000000 in
theorem r4show (x : Int) (hx : I64 x) (w : World) : Calls Tryd.prog 24 #[.int .i64 x] w fun e w' => e = .returned (.string ⟨(sT x).toArray⟩) ∧ Below w.heap.size w w' := by
  obtain ⟨N, hN⟩ : ∃ N, N = x.natAbs := ⟨_, rfl⟩
  have hN1 : N ≤ 9223372036854775808 := by unfold I64 at hx; omega
  obtain ⟨u, hu⟩ : ∃ u, u = N / 65536 := ⟨_, rfl⟩
  obtain ⟨p0, hpe⟩ : ∃ p, p = N % 65536 := ⟨_, rfl⟩
  have hp0 : Hid (p0 < 65536) := by show _ < _; omega
  have hu1 : u ≤ 140737488355328 := by omega
  obtain ⟨W, hW⟩ : ∃ W, W = Lib.decDigits u := ⟨_, rfl⟩
  have hWl : W.length ≤ 15 := by rw [hW]; exact dec_len 14 u (by omega)
  obtain ⟨R, hR⟩ : ∃ R, R = sT x := ⟨_, rfl⟩
  have hRe : Hid (R = (if x < 0 then [45] else []) ++ (W ++ (if p0 = 0 then [] else 46 :: dgs 16 p0))) := by
    show _ = _
    rw [hR, sT_eq]; unfold sU; rw [← hN, ← hu, ← hpe, ← hW]
  rw [← hR]
  have CO := Lib.hid (fun w => of_any x hx w)
  have CT := Lib.hid (fun w => of_any 10 (by unfold I64; omega) w)
  have CW := Lib.hid (fun w => pow_any 16 (by omega) w)
  rw [two16] at CW
  have CF := Lib.hid (fun a b w ha hb => floor_nat N hN1 a b w ha hb)
  have CM : Hid (∀ a b w, BR w a (u : Int) → BR w b 65536 → Calls Tryd.prog 34 #[a, b] w (GiveB ((u * 65536 : Nat) : Int) w)) := fun a b w ha hb => mul_nat u 65536 (by omega) (by omega) a b w ha hb
  have CS := Lib.hid (fun a b w ha hb => sub_nat N (u * 65536) (by omega) hN1 a b w ha hb)
  rw [show N - u * 65536 = p0 by omega] at CS
  rw [← hu] at CF
  have CX := Lib.hid (fun v w hv => text_nat u (by omega) v w hv)
  rw [← hW] at CX
  have HA1 := fun w => run_string_add_lists (P := Tryd.prog) w [45] W (by simp) (by omega)
  have HA2 := fun w => run_string_add_lists (P := Tryd.prog) w (45 :: W) [46] (by simp; omega) (by simp)
  have HA3 := fun w => run_string_add_lists (P := Tryd.prog) w W [46] (by omega) (by simp)
  have HNx : Hid ((x.natAbs : Int) = (N : Int)) := by rw [hN]; rfl
  have HsN : Hid (((N : Int).natAbs : Int) = (N : Int)) := by show _ = _; omega
  have hWl := Lib.hid hWl
  obtain ⟨m0, hm0⟩ : ∃ m, m = u * 65536 := ⟨_, rfl⟩
  rw [← hm0] at CM CS
  clear hx hR hW hu hpe hu1 hN1 hN hm0
  go_enter Tryd.func24, Tryd.ntmps24
  go_wp2_with fail
  have BB : Hid (Below w.heap.size w w) := Below.refl _ _
  refine (CO.out _).mono ?_
  rintro e w1 ⟨v_b, rfl, hb, h_b⟩
  obtain ⟨A_b, n_b, cap_b, rfl, -⟩ := id h_b.form
  replace h_b := Lib.hid h_b
  replace BB := Lib.hid (below_next BB.out hb)
  clear hb
  have h_a : Hid (BR w1 (.agg #[.bool false, .slice A_b n_b cap_b]) (N : Int)) := ⟨_, by rw [sgn_f (show (0 : Int) ≤ (N : Int) by omega)], by rw [HsN.out, ← HNx.out]; exact h_b.out.nr⟩
  go_upto_region 2 with fail
  have d_b := Lib.hid (And.intro BB.out.size (True.intro))
  obtain ⟨hb, r_b⟩ := laid w1 #[.bool (sgn (x)), .slice A_b n_b cap_b] 24
  replace h_b := Lib.hid (h_b.out.below hb)
  replace h_a := Lib.hid (h_a.out.below hb)
  replace BB := Lib.hid (below_next BB.out hb)
  replace r_b := Lib.hid r_b
  clear hb
  generalize w1.alloc (.cells #[.bool (sgn (x)), .slice A_b n_b cap_b] 24) = w2 at *
  generalize w1.heap.size = g_b at *
  go_wp2_with fail
  go_cut [4] (fun s5 wc1 => ∃ gp A3 n3 c3, s5 = .pointer (some ⟨gp, 0, none⟩) ∧ Hid (AtB wc1 gp #[.bool (sgn ((u : Int))), .slice A3 n3 c3] 24 ∧ BR wc1 (.agg #[.bool (sgn ((u : Int))), .slice A3 n3 c3]) ((u : Int)) ∧ Below w2.heap.size w2 wc1 ∧ w2.heap.size ≤ gp))
  case first =>
    have KK := Lib.hid (fun (w9 : World) (h : Below w2.heap.size w2 w9) => (cells2 (r_b.out.keep h) : (w9.cell? ⟨g_b, 0, none⟩ = some (.bool (sgn (x))) ∧ w9.cell? ⟨g_b, 1, none⟩ = some (.slice A_b n_b cap_b))))
    have K0 := KK.out w2 (Below.refl _ _)
    have KD := KK.out w2.drew (below_drew (Below.refl _ _))
    go_region_held3 (fun w9 => (w9.cell? ⟨g_b, 0, none⟩ = some (.bool (sgn (x))) ∧ w9.cell? ⟨g_b, 1, none⟩ = some (.slice A_b n_b cap_b)))
        (first | with_reducible exact KD | with_reducible exact K0 | with_reducible exact K_w3 | with_reducible exact K_w4 | (refine KK.out _ ?_; repeat' (first | with_reducible exact Below.refl _ _ | with_reducible exact B_w3.out | with_reducible exact B_w4.out | with_reducible apply below_new | with_reducible apply below_drew | with_reducible apply below_set | omega)))
        (first
          | (go_at_call 35
             refine (CW.out _).mono ?_
             rintro e w3 ⟨v_t, rfl, hb, h_t⟩
             obtain ⟨A_t, n_t, cap_t, rfl, -⟩ := id h_t.form
             replace h_t := Lib.hid h_t
             have B_w3 := Lib.hid (reg_next (w0 := w2) (by repeat (first | with_reducible exact Below.refl _ _ | with_reducible apply below_drew | with_reducible apply below_new)) hb)
             have K_w3 := KK.out _ B_w3.out
             obtain ⟨hc_w3, hf_w3⟩ := below_reads hb
             have hz_w3 := hb.size
             try simp at hz_w3
             try (have z1_w3 := Nat.lt_of_succ_le hz_w3)
             try (have z2_w3 := Nat.lt_of_succ_lt z1_w3)
             have HB_w3 := Lib.hid hb
             clear hb)
          | (go_at_call 43
             refine (CF.out _ _ _ (h_a.out.below ?_) (h_t.out.below ?_)).mono ?_
             · repeat (first | with_reducible exact Below.refl _ _ | with_reducible exact B_w3.out | with_reducible apply below_drew | with_reducible apply below_new)
             · repeat (first | with_reducible exact Below.refl _ _ | with_reducible exact B_w3.out | with_reducible apply below_drew | with_reducible apply below_new)
             rintro e w4 ⟨v_wh, rfl, hb, h_wh⟩
             obtain ⟨A_wh, n_wh, cap_wh, rfl, -⟩ := id h_wh.form
             replace h_wh := Lib.hid h_wh
             replace h_t := Lib.hid (h_t.out.below (below_next (by repeat (first | with_reducible exact Below.refl _ _ | with_reducible apply below_new | with_reducible apply below_drew)) hb))
             have B_w4 := Lib.hid (below_next (by repeat (first | with_reducible exact B_w3.out | with_reducible apply below_new | with_reducible apply below_drew)) hb)
             have K_w4 := KK.out _ B_w4.out
             obtain ⟨hc_w4, hf_w4⟩ := below_reads hb
             have hz_w4 := hb.size
             try simp at hz_w4
             try (have z1_w4 := Nat.lt_of_succ_le hz_w4)
             try (have z2_w4 := Nat.lt_of_succ_lt z1_w4)
             have HB_w4 := Lib.hid hb
             have y_w4_w3 := Nat.le_trans HB_w3.out.size (Nat.le_trans (by (try simp only [World.size_alloc]); omega) hb.size)
             try simp at y_w4_w3
             try (have z3_w4_w3 := Nat.lt_of_succ_le y_w4_w3)
             try (have z4_w4_w3 := Nat.lt_of_succ_lt z3_w4_w3)
             clear hb))
    all_goals clear KK K0 KD K_w3 K_w4
    all_goals go_wp2_with fail
    all_goals go_meet
    all_goals refine ⟨_, A_wh, n_wh, cap_wh, rfl, ⟨?_, ?_, ?_, ?_⟩⟩
    all_goals repeat' (first | with_reducible exact h_wh.out | with_reducible exact B_w3.out | with_reducible exact B_w4.out | with_reducible exact Below.refl _ _ | with_reducible apply below_new | with_reducible apply below_drew | (with_reducible refine below_set ?_ ?_ _) | (with_reducible refine AtB.set2 (a := .bool false) (b := .slice none 0 0) (T := 24) ?_ _ _) | (with_reducible refine AtB.set2 (a := .int .i64 0) (b := .int .u64 0) (T := 46) ?_ _ _) | (with_reducible refine AtB.far2 ?_ ?_ _ _) | (with_reducible refine BR.alloc ?_ _) | (with_reducible refine BR.far2 (a := .bool false) (b := .slice none 0 0) (T := 24) ?_ ?_ (by decide) _ _) | (with_reducible refine new_at_eq ?_ _ _; first | rfl | (simp; done)) | (with_reducible refine AtB.alloc ?_ _) | with_reducible apply AtB.drew | (with_reducible refine AtB.keep ?_ HB_w4.out) | (with_reducible refine AtB.keep ?_ HB_w3.out) | omega)
  obtain ⟨wc1, rfl⟩ : ∃ wo : World, wo = wc := ⟨_, rfl⟩
  obtain ⟨g_wh, A_wh, n_wh, cap_wh, rfl, hcut⟩ := hcut
  obtain ⟨r_wh, h_wh, hb, hge⟩ := hcut.out
  clear hcut
  replace r_wh := Lib.hid r_wh; replace h_wh := Lib.hid h_wh
  have d_wh := Lib.hid (And.intro (Nat.le_trans BB.out.size hge) (And.intro (Nat.lt_of_lt_of_le r_b.out.lt hge) (True.intro)))
  replace r_b := Lib.hid (r_b.out.keep hb)
  replace h_b := Lib.hid (h_b.out.below hb)
  replace h_a := Lib.hid (h_a.out.below hb)
  replace BB := Lib.hid (below_next BB.out hb)
  clear hb hge
  go_wp2_with fail
  go_cut [5] (fun s5 wc2 => ∃ gp A3 n3 c3, s5 = .pointer (some ⟨gp, 0, none⟩) ∧ Hid (AtB wc2 gp #[.bool (sgn ((p0 : Int))), .slice A3 n3 c3] 24 ∧ BR wc2 (.agg #[.bool (sgn ((p0 : Int))), .slice A3 n3 c3]) ((p0 : Int)) ∧ Below wc1.heap.size wc1 wc2 ∧ wc1.heap.size ≤ gp))
  case first =>
    have KK := Lib.hid (fun (w9 : World) (h : Below wc1.heap.size wc1 w9) => (⟨cells2 (r_b.out.keep h), cells2 (r_wh.out.keep h)⟩ : (w9.cell? ⟨g_b, 0, none⟩ = some (.bool (sgn (x))) ∧ w9.cell? ⟨g_b, 1, none⟩ = some (.slice A_b n_b cap_b)) ∧ (w9.cell? ⟨g_wh, 0, none⟩ = some (.bool (sgn ((u : Int)))) ∧ w9.cell? ⟨g_wh, 1, none⟩ = some (.slice A_wh n_wh cap_wh))))
    have K0 := KK.out wc1 (Below.refl _ _)
    have KD := KK.out wc1.drew (below_drew (Below.refl _ _))
    go_region_held3 (fun w9 => (w9.cell? ⟨g_b, 0, none⟩ = some (.bool (sgn (x))) ∧ w9.cell? ⟨g_b, 1, none⟩ = some (.slice A_b n_b cap_b)) ∧ (w9.cell? ⟨g_wh, 0, none⟩ = some (.bool (sgn ((u : Int)))) ∧ w9.cell? ⟨g_wh, 1, none⟩ = some (.slice A_wh n_wh cap_wh)))
        (first | with_reducible exact KD | with_reducible exact K0 | with_reducible exact K_w5 | with_reducible exact K_w6 | with_reducible exact K_w7 | (refine KK.out _ ?_; repeat' (first | with_reducible exact Below.refl _ _ | with_reducible exact B_w5.out | with_reducible exact B_w6.out | with_reducible exact B_w7.out | with_reducible apply below_new | with_reducible apply below_drew | with_reducible apply below_set | omega)))
        (first
          | (go_at_call 35
             refine (CW.out _).mono ?_
             rintro e w5 ⟨v_t, rfl, hb, h_t⟩
             obtain ⟨A_t, n_t, cap_t, rfl, -⟩ := id h_t.form
             replace h_t := Lib.hid h_t
             have B_w5 := Lib.hid (reg_next (w0 := wc1) (by repeat (first | with_reducible exact Below.refl _ _ | with_reducible apply below_drew | with_reducible apply below_new)) hb)
             have K_w5 := KK.out _ B_w5.out
             obtain ⟨hc_w5, hf_w5⟩ := below_reads hb
             have hz_w5 := hb.size
             try simp at hz_w5
             try (have z1_w5 := Nat.lt_of_succ_le hz_w5)
             try (have z2_w5 := Nat.lt_of_succ_lt z1_w5)
             have HB_w5 := Lib.hid hb
             clear hb)
          | (go_at_call 34
             refine (CM.out _ _ _ (h_wh.out.below ?_) (h_t.out.below ?_)).mono ?_
             · repeat (first | with_reducible exact Below.refl _ _ | with_reducible exact B_w5.out | with_reducible apply below_drew | with_reducible apply below_new)
             · repeat (first | with_reducible exact Below.refl _ _ | with_reducible exact B_w5.out | with_reducible apply below_drew | with_reducible apply below_new)
             rintro e w6 ⟨v_m, rfl, hb, h_m⟩
             obtain ⟨A_m, n_m, cap_m, rfl, -⟩ := id h_m.form
             replace h_m := Lib.hid h_m
             replace h_t := Lib.hid (h_t.out.below (below_next (by repeat (first | with_reducible exact Below.refl _ _ | with_reducible apply below_new | with_reducible apply below_drew)) hb))
             have B_w6 := Lib.hid (below_next (by repeat (first | with_reducible exact B_w5.out | with_reducible apply below_new | with_reducible apply below_drew)) hb)
             have K_w6 := KK.out _ B_w6.out
             obtain ⟨hc_w6, hf_w6⟩ := below_reads hb
             have hz_w6 := hb.size
             try simp at hz_w6
             try (have z1_w6 := Nat.lt_of_succ_le hz_w6)
             try (have z2_w6 := Nat.lt_of_succ_lt z1_w6)
             have HB_w6 := Lib.hid hb
             have y_w6_w5 := Nat.le_trans HB_w5.out.size (Nat.le_trans (by (try simp only [World.size_alloc]); omega) hb.size)
             try simp at y_w6_w5
             try (have z3_w6_w5 := Nat.lt_of_succ_le y_w6_w5)
             try (have z4_w6_w5 := Nat.lt_of_succ_lt z3_w6_w5)
             clear hb)
          | (go_at_call 14
             refine (CS.out _ _ _ (h_a.out.below ?_) (h_m.out.below ?_)).mono ?_
             · repeat (first | with_reducible exact Below.refl _ _ | with_reducible exact B_w6.out | with_reducible apply below_drew | with_reducible apply below_new)
             · repeat (first | with_reducible exact Below.refl _ _ | with_reducible exact B_w6.out | with_reducible apply below_drew | with_reducible apply below_new)
             rintro e w7 ⟨v_part, rfl, hb, h_part⟩
             obtain ⟨A_part, n_part, cap_part, rfl, -⟩ := id h_part.form
             replace h_part := Lib.hid h_part
             replace h_t := Lib.hid (h_t.out.below (below_next (by repeat (first | with_reducible exact Below.refl _ _ | with_reducible apply below_new | with_reducible apply below_drew)) hb))
             replace h_m := Lib.hid (h_m.out.below (below_next (by repeat (first | with_reducible exact Below.refl _ _ | with_reducible apply below_new | with_reducible apply below_drew)) hb))
             have B_w7 := Lib.hid (below_next (by repeat (first | with_reducible exact B_w6.out | with_reducible apply below_new | with_reducible apply below_drew)) hb)
             have K_w7 := KK.out _ B_w7.out
             obtain ⟨hc_w7, hf_w7⟩ := below_reads hb
             have hz_w7 := hb.size
             try simp at hz_w7
             try (have z1_w7 := Nat.lt_of_succ_le hz_w7)
             try (have z2_w7 := Nat.lt_of_succ_lt z1_w7)
             have HB_w7 := Lib.hid hb
             have y_w7_w5 := Nat.le_trans HB_w5.out.size (Nat.le_trans (by (try simp only [World.size_alloc]); omega) hb.size)
             try simp at y_w7_w5
             try (have z3_w7_w5 := Nat.lt_of_succ_le y_w7_w5)
             try (have z4_w7_w5 := Nat.lt_of_succ_lt z3_w7_w5)
             have y_w7_w6 := Nat.le_trans HB_w6.out.size (Nat.le_trans (by (try simp only [World.size_alloc]); omega) hb.size)
             try simp at y_w7_w6
             try (have z3_w7_w6 := Nat.lt_of_succ_le y_w7_w6)
             try (have z4_w7_w6 := Nat.lt_of_succ_lt z3_w7_w6)
             clear hb))
    all_goals clear KK K0 KD K_w5 K_w6 K_w7
    all_goals go_wp2_with fail
    all_goals go_meet
    all_goals refine ⟨_, A_part, n_part, cap_part, rfl, ⟨?_, ?_, ?_, ?_⟩⟩
    all_goals repeat' (first | with_reducible exact h_part.out | with_reducible exact B_w5.out | with_reducible exact B_w6.out | with_reducible exact B_w7.out | with_reducible exact Below.refl _ _ | with_reducible apply below_new | with_reducible apply below_drew | (with_reducible refine below_set ?_ ?_ _) | (with_reducible refine AtB.set2 (a := .bool false) (b := .slice none 0 0) (T := 24) ?_ _ _) | (with_reducible refine AtB.set2 (a := .int .i64 0) (b := .int .u64 0) (T := 46) ?_ _ _) | (with_reducible refine AtB.far2 ?_ ?_ _ _) | (with_reducible refine BR.alloc ?_ _) | (with_reducible refine BR.far2 (a := .bool false) (b := .slice none 0 0) (T := 24) ?_ ?_ (by decide) _ _) | (with_reducible refine new_at_eq ?_ _ _; first | rfl | (simp; done)) | (with_reducible refine AtB.alloc ?_ _) | with_reducible apply AtB.drew | (with_reducible refine AtB.keep ?_ HB_w7.out) | (with_reducible refine AtB.keep ?_ HB_w6.out) | (with_reducible refine AtB.keep ?_ HB_w5.out) | omega)
  obtain ⟨wc2, rfl⟩ : ∃ wo : World, wo = wc := ⟨_, rfl⟩
  obtain ⟨g_part, A_part, n_part, cap_part, rfl, hcut⟩ := hcut
  obtain ⟨r_part, h_part, hb, hge⟩ := hcut.out
  clear hcut
  replace r_part := Lib.hid r_part; replace h_part := Lib.hid h_part
  have d_part := Lib.hid (And.intro (Nat.le_trans BB.out.size hge) (And.intro (Nat.lt_of_lt_of_le r_b.out.lt hge) (And.intro (Nat.lt_of_lt_of_le r_wh.out.lt hge) (True.intro))))
  replace r_b := Lib.hid (r_b.out.keep hb)
  replace r_wh := Lib.hid (r_wh.out.keep hb)
  replace h_b := Lib.hid (h_b.out.below hb)
  replace h_a := Lib.hid (h_a.out.below hb)
  replace h_wh := Lib.hid (h_wh.out.below hb)
  replace BB := Lib.hid (below_next BB.out hb)
  clear hb hge
  clear CF CM CS CO
  obtain ⟨c_wh0, c_wh1, f_wh0, f_wh1⟩ := reads2 r_wh.out
  have l_wh := r_wh.out.lt
  go_wp2_with fail
  refine (CX.out _ _ h_wh.out).mono ?_
  rintro e w8 ⟨rfl, hb⟩
  clear c_wh0 c_wh1 f_wh0 f_wh1 l_wh
  replace r_b := Lib.hid (r_b.out.keep hb)
  replace r_wh := Lib.hid (r_wh.out.keep hb)
  replace r_part := Lib.hid (r_part.out.keep hb)
  replace h_b := Lib.hid (h_b.out.below hb)
  replace h_a := Lib.hid (h_a.out.below hb)
  replace h_wh := Lib.hid (h_wh.out.below hb)
  replace h_part := Lib.hid (h_part.out.below hb)
  replace BB := Lib.hid (below_next BB.out hb)
  clear hb
  clear h_b r_b h_wh r_wh h_a
  have sg0 : sgn (p0 : Int) = false := sgn_f (by omega)
  rw [sg0] at *
  have hz0 := big_zero h_part.out
  by_cases hp : p0 = 0
  · have hn0 : ¬ 0 < n_part := by have := hz0.2 hp; omega
    have hn1 : ¬ (0 : Int) < (n_part : Int) := by omega
    clear hz0
    by_cases hneg : x < 0
    · obtain ⟨T0, hT0e⟩ : ∃ T, T = [45] ++ W := ⟨_, rfl⟩
      have hT0 : Hid (T0.length ≤ 40) := by show _ ≤ _; rw [hT0e]; have := hWl.out; simp; omega
      have hR0 : Hid (T0 ++ dgs (16 - 0) p0 = R) := by show _ = _; rw [hRe.out, if_pos hneg, if_pos hp, hT0e, hp, dgs_zero]; simp
      rw [← hT0e] at HA1
      clear HA2
      clear hT0e hp hRe
      obtain ⟨c_part0, c_part1, f_part0, f_part1⟩ := reads2 r_part.out
      have l_part := r_part.out.lt
      go_wp2_with fail
      go_loopw [6, 7, 8] (fun s _ _ wr => ∃ (T : List UInt8) (p : Nat) (A : Option Addr) (n c : Nat), s = .string ⟨T.toArray⟩ ∧ Hid (AtB wr g_part #[.bool false, .slice A n c] BT4 ∧ BR wr (.agg #[.bool false, .slice A n c]) (p : Int) ∧ p < 65536 ∧ (∃ k, k ≤ 16 ∧ 2 ^ k ∣ p ∧ T ++ dgs (16 - k) p = R ∧ T.length = T0.length + k) ∧ Below w.heap.size w wr)) (fun s _ _ _ => 200 - strLen s)
      case atStart => exact ⟨T0, p0, A_part, n_part, cap_part, rfl, ⟨r_part.out, h_part.out, hp0.out, ⟨0, by omega, by simp, hR0.out, rfl⟩, BB.out⟩⟩
      case round =>
        clear r_part h_part BB hR0
        obtain ⟨T, p, A_part, n_part, cap_part, rfl, hI⟩ := hrel
        obtain ⟨r_part, h_part, hp, ⟨k, hk, hdv, hTR, hTl⟩, BB⟩ := hI.out
        clear hI
        have hz0 := big_zero h_part
        replace BB := Lib.hid BB; replace r_part := Lib.hid r_part; replace h_part := Lib.hid h_part; replace hTR := Lib.hid hTR
        have hT40 := hT0.out
        by_cases h0 : p = 0
        · have hn0 : n_part = 0 := hz0.2 h0
          subst hn0
          subst h0
          rw [dgs_zero, List.append_nil] at hTR
          clear hz0 hTl hdv hp
          obtain ⟨c_part0, c_part1, f_part0, f_part1⟩ := reads2 r_part.out
          have l_part := r_part.out.lt
          go_wp2_with fail
          go_ret
          exact ⟨by rw [hTR.out]; rfl, BB.out⟩
        · have hn0 : 0 < n_part := Nat.pos_of_ne_zero fun h => h0 (hz0.1 h)
          have hn1 : (0 : Int) < (n_part : Int) := by omega
          have hk16 : k < 16 := by
            have h1 := Nat.le_of_dvd (Nat.pos_of_ne_zero h0) hdv
            refine Nat.lt_of_le_of_ne hk (fun e => ?_)
            subst e
            have : (2 : Nat) ^ 16 = 65536 := by decide
            omega
          have hdv2 := Lib.hid (dv_step hk16 hdv)
          have hdg2 : Hid ((T ++ [dig p]) ++ dgs (16 - (k + 1)) (p * 10 % 65536) = R) := by
            show _ = _
            rw [← hTR.out, show 16 - k = 16 - (k + 1) + 1 by omega, dgs_pos h0, List.append_assoc]; rfl
          have C1 : Hid (∀ u v w, BR w u (p : Int) → BR w v 10 → Calls Tryd.prog 34 #[u, v] w (GiveB ((p * 10 : Nat) : Int) w)) := fun u v w hu hv => mul_nat p 10 (by omega) (by omega) u v w hu hv
          have C2 := Lib.hid (fun u v w hu hv => floor_nat (p * 10) (by omega) u v w hu hv)
          have C3 : Hid (∀ u v w, BR w u ((p * 10 / 65536 : Nat) : Int) → BR w v 65536 → Calls Tryd.prog 34 #[u, v] w (GiveB ((p * 10 / 65536 * 65536 : Nat) : Int) w)) := fun u v w hu hv => mul_nat _ 65536 (by omega) (by omega) u v w hu hv
          have C4 := Lib.hid (fun u v w hu hv => sub_nat (p * 10) (p * 10 / 65536 * 65536) (by omega) (by omega) u v w hu hv)
          have C5 := Lib.hid (fun v w hv => text_nat (p * 10 / 65536) (by omega) v w hv)
          rw [dec_dig hp] at C5
          rw [show p * 10 - p * 10 / 65536 * 65536 = p * 10 % 65536 by omega] at C4
          have HSA := fun w => run_string_add_lists (P := Tryd.prog) w T [dig p] (by omega) (by simp)
          have hql : p * 10 % 65536 < 65536 := by omega
          obtain ⟨z, hz⟩ : ∃ z, z = p * 10 := ⟨_, rfl⟩
          rw [← hz] at hdv2 hdg2 C1 C2 C3 C4 C5 hql
          generalize dig p = dg at *
          clear hz hdv hp hz0 h0
          obtain ⟨q, hq⟩ : ∃ q, q = z % 65536 := ⟨_, rfl⟩
          obtain ⟨d, hd⟩ : ∃ d, d = z / 65536 := ⟨_, rfl⟩
          rw [← hq] at hdv2 hdg2 C4 hql
          rw [← hd] at C2 C3 C4 C5
          obtain ⟨m, hm⟩ : ∃ m, m = d * 65536 := ⟨_, rfl⟩
          rw [← hm] at C3 C4
          clear hq hd hm
          have hLt := Lib.hid hTl
          clear hTl
          obtain ⟨c_part0, c_part1, f_part0, f_part1⟩ := reads2 r_part.out
          have l_part := r_part.out.lt
          go_wp2_with fail
          clear c_part0 c_part1 f_part0 f_part1 l_part
          go_cut [7] (fun s5 wc3 => ∃ gp A3 n3 c3, s5 = .pointer (some ⟨gp, 0, none⟩) ∧ Hid (AtB wc3 gp #[.bool (sgn ((z : Int))), .slice A3 n3 c3] 24 ∧ BR wc3 (.agg #[.bool (sgn ((z : Int))), .slice A3 n3 c3]) ((z : Int)) ∧ Below wr.heap.size wr wc3 ∧ wr.heap.size ≤ gp))
          case first =>
            have KK := Lib.hid (fun (w9 : World) (h : Below wr.heap.size wr w9) => (cells2 (r_part.out.keep h) : (w9.cell? ⟨g_part, 0, none⟩ = some (.bool false) ∧ w9.cell? ⟨g_part, 1, none⟩ = some (.slice A_part n_part cap_part))))
            have K0 := KK.out wr (Below.refl _ _)
            have KD := KK.out wr.drew (below_drew (Below.refl _ _))
            go_region_held3 (fun w9 => (w9.cell? ⟨g_part, 0, none⟩ = some (.bool false) ∧ w9.cell? ⟨g_part, 1, none⟩ = some (.slice A_part n_part cap_part)))
                (first | with_reducible exact KD | with_reducible exact K0 | with_reducible exact K_w10 | with_reducible exact K_w11 | (refine KK.out _ ?_; repeat' (first | with_reducible exact Below.refl _ _ | with_reducible exact B_w10.out | with_reducible exact B_w11.out | with_reducible apply below_new | with_reducible apply below_drew | with_reducible apply below_set | omega)))
                (first
                  | (go_at_call 6
                     refine (CT.out _).mono ?_
                     rintro e w10 ⟨v_t, rfl, hb, h_t⟩
                     obtain ⟨A_t, n_t, cap_t, rfl, -⟩ := id h_t.form
                     replace h_t := Lib.hid h_t
                     have B_w10 := Lib.hid (reg_next (w0 := wr) (by repeat (first | with_reducible exact Below.refl _ _ | with_reducible apply below_drew | with_reducible apply below_new)) hb)
                     have K_w10 := KK.out _ B_w10.out
                     obtain ⟨hc_w10, hf_w10⟩ := below_reads hb
                     have hz_w10 := hb.size
                     try simp at hz_w10
                     try (have z1_w10 := Nat.lt_of_succ_le hz_w10)
                     try (have z2_w10 := Nat.lt_of_succ_lt z1_w10)
                     have HB_w10 := Lib.hid hb
                     clear hb)
                  | (go_at_call 34
                     refine (C1.out _ _ _ (h_part.out.below ?_) (h_t.out.below ?_)).mono ?_
                     · repeat (first | with_reducible exact Below.refl _ _ | with_reducible exact B_w10.out | with_reducible apply below_drew | with_reducible apply below_new)
                     · repeat (first | with_reducible exact Below.refl _ _ | with_reducible exact B_w10.out | with_reducible apply below_drew | with_reducible apply below_new)
                     rintro e w11 ⟨v_ten, rfl, hb, h_ten⟩
                     obtain ⟨A_ten, n_ten, cap_ten, rfl, -⟩ := id h_ten.form
                     replace h_ten := Lib.hid h_ten
                     replace h_t := Lib.hid (h_t.out.below (below_next (by repeat (first | with_reducible exact Below.refl _ _ | with_reducible apply below_new | with_reducible apply below_drew)) hb))
                     have B_w11 := Lib.hid (below_next (by repeat (first | with_reducible exact B_w10.out | with_reducible apply below_new | with_reducible apply below_drew)) hb)
                     have K_w11 := KK.out _ B_w11.out
                     obtain ⟨hc_w11, hf_w11⟩ := below_reads hb
                     have hz_w11 := hb.size
                     try simp at hz_w11
                     try (have z1_w11 := Nat.lt_of_succ_le hz_w11)
                     try (have z2_w11 := Nat.lt_of_succ_lt z1_w11)
                     have HB_w11 := Lib.hid hb
                     have y_w11_w10 := Nat.le_trans HB_w10.out.size (Nat.le_trans (by (try simp only [World.size_alloc]); omega) hb.size)
                     try simp at y_w11_w10
                     try (have z3_w11_w10 := Nat.lt_of_succ_le y_w11_w10)
                     try (have z4_w11_w10 := Nat.lt_of_succ_lt z3_w11_w10)
                     clear hb))
            all_goals clear KK K0 KD K_w10 K_w11
            all_goals go_wp2_with fail
            all_goals go_meet
            all_goals refine ⟨_, A_ten, n_ten, cap_ten, rfl, ⟨?_, ?_, ?_, ?_⟩⟩
            all_goals repeat' (first | with_reducible exact h_ten.out | with_reducible exact B_w10.out | with_reducible exact B_w11.out | with_reducible exact Below.refl _ _ | with_reducible apply below_new | with_reducible apply below_drew | (with_reducible refine below_set ?_ ?_ _) | (with_reducible refine AtB.set2 (a := .bool false) (b := .slice none 0 0) (T := 24) ?_ _ _) | (with_reducible refine AtB.set2 (a := .int .i64 0) (b := .int .u64 0) (T := 46) ?_ _ _) | (with_reducible refine AtB.far2 ?_ ?_ _ _) | (with_reducible refine BR.alloc ?_ _) | (with_reducible refine BR.far2 (a := .bool false) (b := .slice none 0 0) (T := 24) ?_ ?_ (by decide) _ _) | (with_reducible refine new_at_eq ?_ _ _; first | rfl | (simp; done)) | (with_reducible refine AtB.alloc ?_ _) | with_reducible apply AtB.drew | (with_reducible refine AtB.keep ?_ HB_w11.out) | (with_reducible refine AtB.keep ?_ HB_w10.out) | omega)
          obtain ⟨wc3, rfl⟩ : ∃ wo : World, wo = wc := ⟨_, rfl⟩
          obtain ⟨g_ten, A_ten, n_ten, cap_ten, rfl, hcut⟩ := hcut
          obtain ⟨r_ten, h_ten, hb, hge⟩ := hcut.out
          clear hcut
          replace r_ten := Lib.hid r_ten; replace h_ten := Lib.hid h_ten
          have d_ten := Lib.hid (And.intro (Nat.le_trans BB.out.size hge) (And.intro (Nat.lt_of_lt_of_le r_part.out.lt hge) (True.intro)))
          replace r_part := Lib.hid (r_part.out.keep hb)
          replace h_part := Lib.hid (h_part.out.below hb)
          replace BB := Lib.hid (below_next BB.out hb)
          clear hb hge
          go_wp2_with fail
          go_cut [8] (fun s5 wc4 => ∃ gp A3 n3 c3, s5 = .pointer (some ⟨gp, 0, none⟩) ∧ Hid (AtB wc4 gp #[.bool (sgn ((d : Int))), .slice A3 n3 c3] 24 ∧ BR wc4 (.agg #[.bool (sgn ((d : Int))), .slice A3 n3 c3]) ((d : Int)) ∧ Below wc3.heap.size wc3 wc4 ∧ wc3.heap.size ≤ gp))
          case first =>
            have KK := Lib.hid (fun (w9 : World) (h : Below wc3.heap.size wc3 w9) => (cells2 (r_ten.out.keep h) : (w9.cell? ⟨g_ten, 0, none⟩ = some (.bool (sgn ((z : Int)))) ∧ w9.cell? ⟨g_ten, 1, none⟩ = some (.slice A_ten n_ten cap_ten))))
            have K0 := KK.out wc3 (Below.refl _ _)
            have KD := KK.out wc3.drew (below_drew (Below.refl _ _))
            go_region_held3 (fun w9 => (w9.cell? ⟨g_ten, 0, none⟩ = some (.bool (sgn ((z : Int)))) ∧ w9.cell? ⟨g_ten, 1, none⟩ = some (.slice A_ten n_ten cap_ten)))
                (first | with_reducible exact KD | with_reducible exact K0 | with_reducible exact K_w12 | with_reducible exact K_w13 | (refine KK.out _ ?_; repeat' (first | with_reducible exact Below.refl _ _ | with_reducible exact B_w12.out | with_reducible exact B_w13.out | with_reducible apply below_new | with_reducible apply below_drew | with_reducible apply below_set | omega)))
                (first
                  | (go_at_call 35
                     refine (CW.out _).mono ?_
                     rintro e w12 ⟨v_t, rfl, hb, h_t⟩
                     obtain ⟨A_t, n_t, cap_t, rfl, -⟩ := id h_t.form
                     replace h_t := Lib.hid h_t
                     have B_w12 := Lib.hid (reg_next (w0 := wc3) (by repeat (first | with_reducible exact Below.refl _ _ | with_reducible apply below_drew | with_reducible apply below_new)) hb)
                     have K_w12 := KK.out _ B_w12.out
                     obtain ⟨hc_w12, hf_w12⟩ := below_reads hb
                     have hz_w12 := hb.size
                     try simp at hz_w12
                     try (have z1_w12 := Nat.lt_of_succ_le hz_w12)
                     try (have z2_w12 := Nat.lt_of_succ_lt z1_w12)
                     have HB_w12 := Lib.hid hb
                     clear hb)
                  | (go_at_call 43
                     refine (C2.out _ _ _ (h_ten.out.below ?_) (h_t.out.below ?_)).mono ?_
                     · repeat (first | with_reducible exact Below.refl _ _ | with_reducible exact B_w12.out | with_reducible apply below_drew | with_reducible apply below_new)
                     · repeat (first | with_reducible exact Below.refl _ _ | with_reducible exact B_w12.out | with_reducible apply below_drew | with_reducible apply below_new)
                     rintro e w13 ⟨v_dd, rfl, hb, h_dd⟩
                     obtain ⟨A_dd, n_dd, cap_dd, rfl, -⟩ := id h_dd.form
                     replace h_dd := Lib.hid h_dd
                     replace h_t := Lib.hid (h_t.out.below (below_next (by repeat (first | with_reducible exact Below.refl _ _ | with_reducible apply below_new | with_reducible apply below_drew)) hb))
                     have B_w13 := Lib.hid (below_next (by repeat (first | with_reducible exact B_w12.out | with_reducible apply below_new | with_reducible apply below_drew)) hb)
                     have K_w13 := KK.out _ B_w13.out
                     obtain ⟨hc_w13, hf_w13⟩ := below_reads hb
                     have hz_w13 := hb.size
                     try simp at hz_w13
                     try (have z1_w13 := Nat.lt_of_succ_le hz_w13)
                     try (have z2_w13 := Nat.lt_of_succ_lt z1_w13)
                     have HB_w13 := Lib.hid hb
                     have y_w13_w12 := Nat.le_trans HB_w12.out.size (Nat.le_trans (by (try simp only [World.size_alloc]); omega) hb.size)
                     try simp at y_w13_w12
                     try (have z3_w13_w12 := Nat.lt_of_succ_le y_w13_w12)
                     try (have z4_w13_w12 := Nat.lt_of_succ_lt z3_w13_w12)
                     clear hb))
            all_goals clear KK K0 KD K_w12 K_w13
            all_goals go_wp2_with fail
            all_goals go_meet
            all_goals refine ⟨_, A_dd, n_dd, cap_dd, rfl, ⟨?_, ?_, ?_, ?_⟩⟩
            all_goals repeat' (first | with_reducible exact h_dd.out | with_reducible exact B_w12.out | with_reducible exact B_w13.out | with_reducible exact Below.refl _ _ | with_reducible apply below_new | with_reducible apply below_drew | (with_reducible refine below_set ?_ ?_ _) | (with_reducible refine AtB.set2 (a := .bool false) (b := .slice none 0 0) (T := 24) ?_ _ _) | (with_reducible refine AtB.set2 (a := .int .i64 0) (b := .int .u64 0) (T := 46) ?_ _ _) | (with_reducible refine AtB.far2 ?_ ?_ _ _) | (with_reducible refine BR.alloc ?_ _) | (with_reducible refine BR.far2 (a := .bool false) (b := .slice none 0 0) (T := 24) ?_ ?_ (by decide) _ _) | (with_reducible refine new_at_eq ?_ _ _; first | rfl | (simp; done)) | (with_reducible refine AtB.alloc ?_ _) | with_reducible apply AtB.drew | (with_reducible refine AtB.keep ?_ HB_w13.out) | (with_reducible refine AtB.keep ?_ HB_w12.out) | omega)
          obtain ⟨wc4, rfl⟩ : ∃ wo : World, wo = wc := ⟨_, rfl⟩
          obtain ⟨g_dd, A_dd, n_dd, cap_dd, rfl, hcut⟩ := hcut
          obtain ⟨r_dd, h_dd, hb, hge⟩ := hcut.out
          clear hcut
          replace r_dd := Lib.hid r_dd; replace h_dd := Lib.hid h_dd
          have d_dd := Lib.hid (And.intro (Nat.le_trans BB.out.size hge) (And.intro (Nat.lt_of_lt_of_le r_part.out.lt hge) (And.intro (Nat.lt_of_lt_of_le r_ten.out.lt hge) (True.intro))))
          replace r_part := Lib.hid (r_part.out.keep hb)
          replace r_ten := Lib.hid (r_ten.out.keep hb)
          replace h_part := Lib.hid (h_part.out.below hb)
          replace h_ten := Lib.hid (h_ten.out.below hb)
          replace BB := Lib.hid (below_next BB.out hb)
          clear hb hge
          clear C1 C2
          obtain ⟨c_dd0, c_dd1, f_dd0, f_dd1⟩ := reads2 r_dd.out
          have l_dd := r_dd.out.lt
          go_wp2_with fail
          refine (C5.out _ _ h_dd.out).mono ?_
          rintro e w14 ⟨rfl, hb⟩
          clear c_dd0 c_dd1 f_dd0 f_dd1 l_dd
          replace r_part := Lib.hid (r_part.out.keep hb)
          replace r_ten := Lib.hid (r_ten.out.keep hb)
          replace r_dd := Lib.hid (r_dd.out.keep hb)
          replace h_part := Lib.hid (h_part.out.below hb)
          replace h_ten := Lib.hid (h_ten.out.below hb)
          replace h_dd := Lib.hid (h_dd.out.below hb)
          replace BB := Lib.hid (below_next BB.out hb)
          clear hb
          go_upto_region 13 with fail
          have hLE := Lib.hid (show AtB w14 g_part #[.bool false, .slice A_part n_part cap_part] BT4 from r_part.out)
          have KK := Lib.hid (fun (w9 : World) (h : Below w14.heap.size w14 w9) => (⟨cells2 (r_part.out.keep h), cells2 (r_ten.out.keep h), cells2 (r_dd.out.keep h)⟩ : (w9.cell? ⟨g_part, 0, none⟩ = some (.bool false) ∧ w9.cell? ⟨g_part, 1, none⟩ = some (.slice A_part n_part cap_part)) ∧ (w9.cell? ⟨g_ten, 0, none⟩ = some (.bool (sgn ((z : Int)))) ∧ w9.cell? ⟨g_ten, 1, none⟩ = some (.slice A_ten n_ten cap_ten)) ∧ (w9.cell? ⟨g_dd, 0, none⟩ = some (.bool (sgn ((d : Int)))) ∧ w9.cell? ⟨g_dd, 1, none⟩ = some (.slice A_dd n_dd cap_dd))))
          have K0 := KK.out w14 (Below.refl _ _)
          have KD := KK.out w14.drew (below_drew (Below.refl _ _))
          refine AnyG.begin_ (fun w9 => (w9.cell? ⟨g_part, 0, none⟩ = some (.bool false) ∧ w9.cell? ⟨g_part, 1, none⟩ = some (.slice A_part n_part cap_part)) ∧ (w9.cell? ⟨g_ten, 0, none⟩ = some (.bool (sgn ((z : Int)))) ∧ w9.cell? ⟨g_ten, 1, none⟩ = some (.slice A_ten n_ten cap_ten)) ∧ (w9.cell? ⟨g_dd, 0, none⟩ = some (.bool (sgn ((d : Int)))) ∧ w9.cell? ⟨g_dd, 1, none⟩ = some (.slice A_dd n_dd cap_dd))) 5 (by kernel_rfl) ?_
          refine AnyG.take (i := 0) (v := ?_) rfl (by kernel_rfl) (by kernel_rfl) (by kernel_rfl) (fun _ _ _ h => h) (by kernel_rfl) (by kernel_rfl) (Or.inl ⟨by rfl, ?_⟩) (by assumption) ?_
          rotate_left
          · intro w9 hSw; (try dsimp only at hSw); go_simp <;> with_reducible rfl
          try simp only [Act.put, List.getElem_toArray, List.getElem_cons_zero, List.getElem_cons_succ, List.setIfInBounds_toArray, List.set_cons_zero, List.set_cons_succ]
          refine AnyG.take (i := 1) (v := ?_) rfl (by kernel_rfl) (by kernel_rfl) (by kernel_rfl) (fun _ _ _ h => h) (by kernel_rfl) (by kernel_rfl) (Or.inl ⟨by rfl, ?_⟩) (by assumption) ?_
          rotate_left
          · intro w9 hSw; (try dsimp only at hSw); go_simp <;> with_reducible rfl
          try simp only [Act.put, List.getElem_toArray, List.getElem_cons_zero, List.getElem_cons_succ, List.setIfInBounds_toArray, List.set_cons_zero, List.set_cons_succ]
          refine AnyG.step (i := 2) (by kernel_rfl) rfl (fun K hK => ?_)
          go_simp
          go_at_call 35
          refine (CW.out _).mono ?_
          rintro e w15 ⟨v_t, rfl, hb, h_t⟩
          obtain ⟨A_t, n_t, cap_t, rfl, -⟩ := id h_t.form
          replace h_t := Lib.hid h_t
          have B_w15 := Lib.hid (reg_next (w0 := w14) (by repeat (first | with_reducible exact Below.refl _ _ | with_reducible apply below_drew | with_reducible apply below_new)) hb)
          have K_w15 := KK.out _ B_w15.out
          clear hb
          refine hK.out _ _ (fun _ => K_w15) (fun hHeld => ?_)
          replace hHeld := hHeld (by decide)
          clear hK
          try simp only [Act.put, List.getElem_toArray, List.getElem_cons_zero, List.getElem_cons_succ, List.setIfInBounds_toArray, List.set_cons_zero, List.set_cons_succ]
          refine AnyG.step (i := 3) (by kernel_rfl) rfl (fun K hK => ?_)
          go_simp
          go_at_call 34
          refine (C3.out _ _ _ (h_dd.out.below B_w15.out) h_t.out).mono ?_
          rintro e w16 ⟨v_m, rfl, hb, h_m⟩
          obtain ⟨A_m, n_m, cap_m, rfl, -⟩ := id h_m.form
          replace h_m := Lib.hid h_m
          replace h_t := Lib.hid (h_t.out.below hb)
          have B_w16 := Lib.hid (below_next B_w15.out hb)
          have K_w16 := KK.out _ B_w16.out
          clear hb
          refine hK.out _ _ (fun _ => K_w16) (fun hHeld => ?_)
          replace hHeld := hHeld (by decide)
          clear hK
          try simp only [Act.put, List.getElem_toArray, List.getElem_cons_zero, List.getElem_cons_succ, List.setIfInBounds_toArray, List.set_cons_zero, List.set_cons_succ]
          refine AnyG.step (i := 4) (by kernel_rfl) rfl (fun K hK => ?_)
          go_simp
          go_at_call 14
          refine (C4.out _ _ _ (h_ten.out.below B_w16.out) h_m.out).mono ?_
          rintro e w17 ⟨v_nx, rfl, hb, h_nx⟩
          obtain ⟨A_nx, n_nx, cap_nx, rfl, -⟩ := id h_nx.form
          replace h_nx := Lib.hid h_nx
          replace h_t := Lib.hid (h_t.out.below hb)
          replace h_m := Lib.hid (h_m.out.below hb)
          have B_w17 := Lib.hid (below_next B_w16.out hb)
          have K_w17 := KK.out _ B_w17.out
          obtain ⟨rc_part0, rc_part1, rf_part0, rf_part1⟩ := reads2 (r_part.out.keep B_w17.out)
          have rl_part := (r_part.out.keep B_w17.out).lt
          clear hb
          refine hK.out _ _ (fun _ => K_w17) (fun hHeld => ?_)
          replace hHeld := hHeld (by decide)
          clear hK
          try simp only [Act.put, List.getElem_toArray, List.getElem_cons_zero, List.getElem_cons_succ, List.setIfInBounds_toArray, List.set_cons_zero, List.set_cons_succ]
          refine AnyG.step (i := 5) (by kernel_rfl) rfl (fun K hK => ?_)
          go_simp
          refine hK.out _ _ (fun h => absurd h (by decide)) (fun _ => ?_)
          clear hK
          try simp only [Act.put, List.getElem_toArray, List.getElem_cons_zero, List.getElem_cons_succ, List.setIfInBounds_toArray, List.set_cons_zero, List.set_cons_succ]
          refine AnyG.done (by kernel_rfl) ?_ _
          clear KK K0 KD K_w15 K_w16 K_w17
          replace r_part := Lib.hid (r_part.out.keep B_w17.out)
          replace r_ten := Lib.hid (r_ten.out.keep B_w17.out)
          replace r_dd := Lib.hid (r_dd.out.keep B_w17.out)
          replace h_part := Lib.hid (h_part.out.below B_w17.out)
          replace h_ten := Lib.hid (h_ten.out.below B_w17.out)
          replace h_dd := Lib.hid (h_dd.out.below B_w17.out)
          replace BB := Lib.hid (below_next BB.out B_w17.out)
          clear B_w15 B_w16 B_w17
          clear hLE
          have sg : sgn (q : Int) = false := sgn_f (by omega)
          rw [sg] at *
          replace h_nx := Lib.hid (h_nx.out.far2 r_part.out (by decide) (.bool false) (.slice A_nx n_nx cap_nx))
          replace r_part := Lib.hid (r_part.out.set2 (.bool false) (.slice A_nx n_nx cap_nx))
          replace r_ten := Lib.hid (r_ten.out.far2 (p := g_part) (by have dd_ten := d_ten.out; have dd_part := d_part.out; omega) (.bool false) (.slice A_nx n_nx cap_nx))
          replace r_dd := Lib.hid (r_dd.out.far2 (p := g_part) (by have dd_dd := d_dd.out; have dd_part := d_part.out; omega) (.bool false) (.slice A_nx n_nx cap_nx))
          replace BB := Lib.hid (below_far2 BB.out (p := g_part) (by have dd := d_part.out; omega) (.bool false) (.slice A_nx n_nx cap_nx))
          generalize ((w17.setCell ⟨g_part, 0, none⟩ (.bool false)).setCell ⟨g_part, 1, none⟩ (.slice A_nx n_nx cap_nx)) = w18 at *
          go_wp2_with fail
          go_roundw
          case rel => exact ⟨T ++ [dg], q, A_nx, n_nx, cap_nx, rfl, ⟨r_part.out, h_nx.out, hql, ⟨k + 1, hk16, hdv2.out, hdg2.out, by rw [List.length_append, hLt.out]; simp; omega⟩, BB.out⟩⟩
          case measure => have := hLt.out; simp [strLen, ByteArray.size]; omega
    · obtain ⟨T0, hT0e⟩ : ∃ T, T = W := ⟨_, rfl⟩
      have hT0 : Hid (T0.length ≤ 40) := by show _ ≤ _; rw [hT0e]; have := hWl.out; omega
      have hR0 : Hid (T0 ++ dgs (16 - 0) p0 = R) := by show _ = _; rw [hRe.out, if_neg hneg, if_pos hp, hT0e, hp, dgs_zero]; simp
      subst hT0e
      clear hp hRe
      obtain ⟨c_part0, c_part1, f_part0, f_part1⟩ := reads2 r_part.out
      have l_part := r_part.out.lt
      go_wp2_with fail
      go_loopw [6, 7, 8] (fun s _ _ wr => ∃ (T : List UInt8) (p : Nat) (A : Option Addr) (n c : Nat), s = .string ⟨T.toArray⟩ ∧ Hid (AtB wr g_part #[.bool false, .slice A n c] BT4 ∧ BR wr (.agg #[.bool false, .slice A n c]) (p : Int) ∧ p < 65536 ∧ (∃ k, k ≤ 16 ∧ 2 ^ k ∣ p ∧ T ++ dgs (16 - k) p = R ∧ T.length = T0.length + k) ∧ Below w.heap.size w wr)) (fun s _ _ _ => 200 - strLen s)
      case atStart => exact ⟨T0, p0, A_part, n_part, cap_part, rfl, ⟨r_part.out, h_part.out, hp0.out, ⟨0, by omega, by simp, hR0.out, rfl⟩, BB.out⟩⟩
      case round =>
        clear r_part h_part BB hR0
        obtain ⟨T, p, A_part, n_part, cap_part, rfl, hI⟩ := hrel
        obtain ⟨r_part, h_part, hp, ⟨k, hk, hdv, hTR, hTl⟩, BB⟩ := hI.out
        clear hI
        have hz0 := big_zero h_part
        replace BB := Lib.hid BB; replace r_part := Lib.hid r_part; replace h_part := Lib.hid h_part; replace hTR := Lib.hid hTR
        have hT40 := hT0.out
        by_cases h0 : p = 0
        · have hn0 : n_part = 0 := hz0.2 h0
          subst hn0
          subst h0
          rw [dgs_zero, List.append_nil] at hTR
          clear hz0 hTl hdv hp
          obtain ⟨c_part0, c_part1, f_part0, f_part1⟩ := reads2 r_part.out
          have l_part := r_part.out.lt
          go_wp2_with fail
          go_ret
          exact ⟨by rw [hTR.out]; rfl, BB.out⟩
        · have hn0 : 0 < n_part := Nat.pos_of_ne_zero fun h => h0 (hz0.1 h)
          have hn1 : (0 : Int) < (n_part : Int) := by omega
          have hk16 : k < 16 := by
            have h1 := Nat.le_of_dvd (Nat.pos_of_ne_zero h0) hdv
            refine Nat.lt_of_le_of_ne hk (fun e => ?_)
            subst e
            have : (2 : Nat) ^ 16 = 65536 := by decide
            omega
          have hdv2 := Lib.hid (dv_step hk16 hdv)
          have hdg2 : Hid ((T ++ [dig p]) ++ dgs (16 - (k + 1)) (p * 10 % 65536) = R) := by
            show _ = _
            rw [← hTR.out, show 16 - k = 16 - (k + 1) + 1 by omega, dgs_pos h0, List.append_assoc]; rfl
          have C1 : Hid (∀ u v w, BR w u (p : Int) → BR w v 10 → Calls Tryd.prog 34 #[u, v] w (GiveB ((p * 10 : Nat) : Int) w)) := fun u v w hu hv => mul_nat p 10 (by omega) (by omega) u v w hu hv
          have C2 := Lib.hid (fun u v w hu hv => floor_nat (p * 10) (by omega) u v w hu hv)
          have C3 : Hid (∀ u v w, BR w u ((p * 10 / 65536 : Nat) : Int) → BR w v 65536 → Calls Tryd.prog 34 #[u, v] w (GiveB ((p * 10 / 65536 * 65536 : Nat) : Int) w)) := fun u v w hu hv => mul_nat _ 65536 (by omega) (by omega) u v w hu hv
          have C4 := Lib.hid (fun u v w hu hv => sub_nat (p * 10) (p * 10 / 65536 * 65536) (by omega) (by omega) u v w hu hv)
          have C5 := Lib.hid (fun v w hv => text_nat (p * 10 / 65536) (by omega) v w hv)
          rw [dec_dig hp] at C5
          rw [show p * 10 - p * 10 / 65536 * 65536 = p * 10 % 65536 by omega] at C4
          have HSA := fun w => run_string_add_lists (P := Tryd.prog) w T [dig p] (by omega) (by simp)
          have hql : p * 10 % 65536 < 65536 := by omega
          obtain ⟨z, hz⟩ : ∃ z, z = p * 10 := ⟨_, rfl⟩
          rw [← hz] at hdv2 hdg2 C1 C2 C3 C4 C5 hql
          generalize dig p = dg at *
          clear hz hdv hp hz0 h0
          obtain ⟨q, hq⟩ : ∃ q, q = z % 65536 := ⟨_, rfl⟩
          obtain ⟨d, hd⟩ : ∃ d, d = z / 65536 := ⟨_, rfl⟩
          rw [← hq] at hdv2 hdg2 C4 hql
          rw [← hd] at C2 C3 C4 C5
          obtain ⟨m, hm⟩ : ∃ m, m = d * 65536 := ⟨_, rfl⟩
          rw [← hm] at C3 C4
          clear hq hd hm
          have hLt := Lib.hid hTl
          clear hTl
          obtain ⟨c_part0, c_part1, f_part0, f_part1⟩ := reads2 r_part.out
          have l_part := r_part.out.lt
          go_wp2_with fail
          clear c_part0 c_part1 f_part0 f_part1 l_part
          go_cut [7] (fun s5 wc5 => ∃ gp A3 n3 c3, s5 = .pointer (some ⟨gp, 0, none⟩) ∧ Hid (AtB wc5 gp #[.bool (sgn ((z : Int))), .slice A3 n3 c3] 24 ∧ BR wc5 (.agg #[.bool (sgn ((z : Int))), .slice A3 n3 c3]) ((z : Int)) ∧ Below wr.heap.size wr wc5 ∧ wr.heap.size ≤ gp))
          case first =>
            have KK := Lib.hid (fun (w9 : World) (h : Below wr.heap.size wr w9) => (cells2 (r_part.out.keep h) : (w9.cell? ⟨g_part, 0, none⟩ = some (.bool false) ∧ w9.cell? ⟨g_part, 1, none⟩ = some (.slice A_part n_part cap_part))))
            have K0 := KK.out wr (Below.refl _ _)
            have KD := KK.out wr.drew (below_drew (Below.refl _ _))
            go_region_held3 (fun w9 => (w9.cell? ⟨g_part, 0, none⟩ = some (.bool false) ∧ w9.cell? ⟨g_part, 1, none⟩ = some (.slice A_part n_part cap_part)))
                (first | with_reducible exact KD | with_reducible exact K0 | with_reducible exact K_w10 | with_reducible exact K_w11 | (refine KK.out _ ?_; repeat' (first | with_reducible exact Below.refl _ _ | with_reducible exact B_w10.out | with_reducible exact B_w11.out | with_reducible apply below_new | with_reducible apply below_drew | with_reducible apply below_set | omega)))
                (first
                  | (go_at_call 6
                     refine (CT.out _).mono ?_
                     rintro e w10 ⟨v_t, rfl, hb, h_t⟩
                     obtain ⟨A_t, n_t, cap_t, rfl, -⟩ := id h_t.form
                     replace h_t := Lib.hid h_t
                     have B_w10 := Lib.hid (reg_next (w0 := wr) (by repeat (first | with_reducible exact Below.refl _ _ | with_reducible apply below_drew | with_reducible apply below_new)) hb)
                     have K_w10 := KK.out _ B_w10.out
                     obtain ⟨hc_w10, hf_w10⟩ := below_reads hb
                     have hz_w10 := hb.size
                     try simp at hz_w10
                     try (have z1_w10 := Nat.lt_of_succ_le hz_w10)
                     try (have z2_w10 := Nat.lt_of_succ_lt z1_w10)
                     have HB_w10 := Lib.hid hb
                     clear hb)
                  | (go_at_call 34
                     refine (C1.out _ _ _ (h_part.out.below ?_) (h_t.out.below ?_)).mono ?_
                     · repeat (first | with_reducible exact Below.refl _ _ | with_reducible exact B_w10.out | with_reducible apply below_drew | with_reducible apply below_new)
                     · repeat (first | with_reducible exact Below.refl _ _ | with_reducible exact B_w10.out | with_reducible apply below_drew | with_reducible apply below_new)
                     rintro e w11 ⟨v_ten, rfl, hb, h_ten⟩
                     obtain ⟨A_ten, n_ten, cap_ten, rfl, -⟩ := id h_ten.form
                     replace h_ten := Lib.hid h_ten
                     replace h_t := Lib.hid (h_t.out.below (below_next (by repeat (first | with_reducible exact Below.refl _ _ | with_reducible apply below_new | with_reducible apply below_drew)) hb))
                     have B_w11 := Lib.hid (below_next (by repeat (first | with_reducible exact B_w10.out | with_reducible apply below_new | with_reducible apply below_drew)) hb)
                     have K_w11 := KK.out _ B_w11.out
                     obtain ⟨hc_w11, hf_w11⟩ := below_reads hb
                     have hz_w11 := hb.size
                     try simp at hz_w11
                     try (have z1_w11 := Nat.lt_of_succ_le hz_w11)
                     try (have z2_w11 := Nat.lt_of_succ_lt z1_w11)
                     have HB_w11 := Lib.hid hb
                     have y_w11_w10 := Nat.le_trans HB_w10.out.size (Nat.le_trans (by (try simp only [World.size_alloc]); omega) hb.size)
                     try simp at y_w11_w10
                     try (have z3_w11_w10 := Nat.lt_of_succ_le y_w11_w10)
                     try (have z4_w11_w10 := Nat.lt_of_succ_lt z3_w11_w10)
                     clear hb))
            all_goals clear KK K0 KD K_w10 K_w11
            all_goals go_wp2_with fail
            all_goals go_meet
            all_goals refine ⟨_, A_ten, n_ten, cap_ten, rfl, ⟨?_, ?_, ?_, ?_⟩⟩
            all_goals repeat' (first | with_reducible exact h_ten.out | with_reducible exact B_w10.out | with_reducible exact B_w11.out | with_reducible exact Below.refl _ _ | with_reducible apply below_new | with_reducible apply below_drew | (with_reducible refine below_set ?_ ?_ _) | (with_reducible refine AtB.set2 (a := .bool false) (b := .slice none 0 0) (T := 24) ?_ _ _) | (with_reducible refine AtB.set2 (a := .int .i64 0) (b := .int .u64 0) (T := 46) ?_ _ _) | (with_reducible refine AtB.far2 ?_ ?_ _ _) | (with_reducible refine BR.alloc ?_ _) | (with_reducible refine BR.far2 (a := .bool false) (b := .slice none 0 0) (T := 24) ?_ ?_ (by decide) _ _) | (with_reducible refine new_at_eq ?_ _ _; first | rfl | (simp; done)) | (with_reducible refine AtB.alloc ?_ _) | with_reducible apply AtB.drew | (with_reducible refine AtB.keep ?_ HB_w11.out) | (with_reducible refine AtB.keep ?_ HB_w10.out) | omega)
          obtain ⟨wc5, rfl⟩ : ∃ wo : World, wo = wc := ⟨_, rfl⟩
          obtain ⟨g_ten, A_ten, n_ten, cap_ten, rfl, hcut⟩ := hcut
          obtain ⟨r_ten, h_ten, hb, hge⟩ := hcut.out
          clear hcut
          replace r_ten := Lib.hid r_ten; replace h_ten := Lib.hid h_ten
          have d_ten := Lib.hid (And.intro (Nat.le_trans BB.out.size hge) (And.intro (Nat.lt_of_lt_of_le r_part.out.lt hge) (True.intro)))
          replace r_part := Lib.hid (r_part.out.keep hb)
          replace h_part := Lib.hid (h_part.out.below hb)
          replace BB := Lib.hid (below_next BB.out hb)
          clear hb hge
          go_wp2_with fail
          go_cut [8] (fun s5 wc6 => ∃ gp A3 n3 c3, s5 = .pointer (some ⟨gp, 0, none⟩) ∧ Hid (AtB wc6 gp #[.bool (sgn ((d : Int))), .slice A3 n3 c3] 24 ∧ BR wc6 (.agg #[.bool (sgn ((d : Int))), .slice A3 n3 c3]) ((d : Int)) ∧ Below wc5.heap.size wc5 wc6 ∧ wc5.heap.size ≤ gp))
          case first =>
            have KK := Lib.hid (fun (w9 : World) (h : Below wc5.heap.size wc5 w9) => (cells2 (r_ten.out.keep h) : (w9.cell? ⟨g_ten, 0, none⟩ = some (.bool (sgn ((z : Int)))) ∧ w9.cell? ⟨g_ten, 1, none⟩ = some (.slice A_ten n_ten cap_ten))))
            have K0 := KK.out wc5 (Below.refl _ _)
            have KD := KK.out wc5.drew (below_drew (Below.refl _ _))
            go_region_held3 (fun w9 => (w9.cell? ⟨g_ten, 0, none⟩ = some (.bool (sgn ((z : Int)))) ∧ w9.cell? ⟨g_ten, 1, none⟩ = some (.slice A_ten n_ten cap_ten)))
                (first | with_reducible exact KD | with_reducible exact K0 | with_reducible exact K_w12 | with_reducible exact K_w13 | (refine KK.out _ ?_; repeat' (first | with_reducible exact Below.refl _ _ | with_reducible exact B_w12.out | with_reducible exact B_w13.out | with_reducible apply below_new | with_reducible apply below_drew | with_reducible apply below_set | omega)))
                (first
                  | (go_at_call 35
                     refine (CW.out _).mono ?_
                     rintro e w12 ⟨v_t, rfl, hb, h_t⟩
                     obtain ⟨A_t, n_t, cap_t, rfl, -⟩ := id h_t.form
                     replace h_t := Lib.hid h_t
                     have B_w12 := Lib.hid (reg_next (w0 := wc5) (by repeat (first | with_reducible exact Below.refl _ _ | with_reducible apply below_drew | with_reducible apply below_new)) hb)
                     have K_w12 := KK.out _ B_w12.out
                     obtain ⟨hc_w12, hf_w12⟩ := below_reads hb
                     have hz_w12 := hb.size
                     try simp at hz_w12
                     try (have z1_w12 := Nat.lt_of_succ_le hz_w12)
                     try (have z2_w12 := Nat.lt_of_succ_lt z1_w12)
                     have HB_w12 := Lib.hid hb
                     clear hb)
                  | (go_at_call 43
                     refine (C2.out _ _ _ (h_ten.out.below ?_) (h_t.out.below ?_)).mono ?_
                     · repeat (first | with_reducible exact Below.refl _ _ | with_reducible exact B_w12.out | with_reducible apply below_drew | with_reducible apply below_new)
                     · repeat (first | with_reducible exact Below.refl _ _ | with_reducible exact B_w12.out | with_reducible apply below_drew | with_reducible apply below_new)
                     rintro e w13 ⟨v_dd, rfl, hb, h_dd⟩
                     obtain ⟨A_dd, n_dd, cap_dd, rfl, -⟩ := id h_dd.form
                     replace h_dd := Lib.hid h_dd
                     replace h_t := Lib.hid (h_t.out.below (below_next (by repeat (first | with_reducible exact Below.refl _ _ | with_reducible apply below_new | with_reducible apply below_drew)) hb))
                     have B_w13 := Lib.hid (below_next (by repeat (first | with_reducible exact B_w12.out | with_reducible apply below_new | with_reducible apply below_drew)) hb)
                     have K_w13 := KK.out _ B_w13.out
                     obtain ⟨hc_w13, hf_w13⟩ := below_reads hb
                     have hz_w13 := hb.size
                     try simp at hz_w13
                     try (have z1_w13 := Nat.lt_of_succ_le hz_w13)
                     try (have z2_w13 := Nat.lt_of_succ_lt z1_w13)
                     have HB_w13 := Lib.hid hb
                     have y_w13_w12 := Nat.le_trans HB_w12.out.size (Nat.le_trans (by (try simp only [World.size_alloc]); omega) hb.size)
                     try simp at y_w13_w12
                     try (have z3_w13_w12 := Nat.lt_of_succ_le y_w13_w12)
                     try (have z4_w13_w12 := Nat.lt_of_succ_lt z3_w13_w12)
                     clear hb))
            all_goals clear KK K0 KD K_w12 K_w13
            all_goals go_wp2_with fail
            all_goals go_meet
            all_goals refine ⟨_, A_dd, n_dd, cap_dd, rfl, ⟨?_, ?_, ?_, ?_⟩⟩
            all_goals repeat' (first | with_reducible exact h_dd.out | with_reducible exact B_w12.out | with_reducible exact B_w13.out | with_reducible exact Below.refl _ _ | with_reducible apply below_new | with_reducible apply below_drew | (with_reducible refine below_set ?_ ?_ _) | (with_reducible refine AtB.set2 (a := .bool false) (b := .slice none 0 0) (T := 24) ?_ _ _) | (with_reducible refine AtB.set2 (a := .int .i64 0) (b := .int .u64 0) (T := 46) ?_ _ _) | (with_reducible refine AtB.far2 ?_ ?_ _ _) | (with_reducible refine BR.alloc ?_ _) | (with_reducible refine BR.far2 (a := .bool false) (b := .slice none 0 0) (T := 24) ?_ ?_ (by decide) _ _) | (with_reducible refine new_at_eq ?_ _ _; first | rfl | (simp; done)) | (with_reducible refine AtB.alloc ?_ _) | with_reducible apply AtB.drew | (with_reducible refine AtB.keep ?_ HB_w13.out) | (with_reducible refine AtB.keep ?_ HB_w12.out) | omega)
          obtain ⟨wc6, rfl⟩ : ∃ wo : World, wo = wc := ⟨_, rfl⟩
          obtain ⟨g_dd, A_dd, n_dd, cap_dd, rfl, hcut⟩ := hcut
          obtain ⟨r_dd, h_dd, hb, hge⟩ := hcut.out
          clear hcut
          replace r_dd := Lib.hid r_dd; replace h_dd := Lib.hid h_dd
          have d_dd := Lib.hid (And.intro (Nat.le_trans BB.out.size hge) (And.intro (Nat.lt_of_lt_of_le r_part.out.lt hge) (And.intro (Nat.lt_of_lt_of_le r_ten.out.lt hge) (True.intro))))
          replace r_part := Lib.hid (r_part.out.keep hb)
          replace r_ten := Lib.hid (r_ten.out.keep hb)
          replace h_part := Lib.hid (h_part.out.below hb)
          replace h_ten := Lib.hid (h_ten.out.below hb)
          replace BB := Lib.hid (below_next BB.out hb)
          clear hb hge
          clear C1 C2
          obtain ⟨c_dd0, c_dd1, f_dd0, f_dd1⟩ := reads2 r_dd.out
          have l_dd := r_dd.out.lt
          go_wp2_with fail
          refine (C5.out _ _ h_dd.out).mono ?_
          rintro e w14 ⟨rfl, hb⟩
          clear c_dd0 c_dd1 f_dd0 f_dd1 l_dd
          replace r_part := Lib.hid (r_part.out.keep hb)
          replace r_ten := Lib.hid (r_ten.out.keep hb)
          replace r_dd := Lib.hid (r_dd.out.keep hb)
          replace h_part := Lib.hid (h_part.out.below hb)
          replace h_ten := Lib.hid (h_ten.out.below hb)
          replace h_dd := Lib.hid (h_dd.out.below hb)
          replace BB := Lib.hid (below_next BB.out hb)
          clear hb
          go_upto_region 13 with fail
          have hLE := Lib.hid (show AtB w14 g_part #[.bool false, .slice A_part n_part cap_part] BT4 from r_part.out)
          have KK := Lib.hid (fun (w9 : World) (h : Below w14.heap.size w14 w9) => (⟨cells2 (r_part.out.keep h), cells2 (r_ten.out.keep h), cells2 (r_dd.out.keep h)⟩ : (w9.cell? ⟨g_part, 0, none⟩ = some (.bool false) ∧ w9.cell? ⟨g_part, 1, none⟩ = some (.slice A_part n_part cap_part)) ∧ (w9.cell? ⟨g_ten, 0, none⟩ = some (.bool (sgn ((z : Int)))) ∧ w9.cell? ⟨g_ten, 1, none⟩ = some (.slice A_ten n_ten cap_ten)) ∧ (w9.cell? ⟨g_dd, 0, none⟩ = some (.bool (sgn ((d : Int)))) ∧ w9.cell? ⟨g_dd, 1, none⟩ = some (.slice A_dd n_dd cap_dd))))
          have K0 := KK.out w14 (Below.refl _ _)
          have KD := KK.out w14.drew (below_drew (Below.refl _ _))
          refine AnyG.begin_ (fun w9 => (w9.cell? ⟨g_part, 0, none⟩ = some (.bool false) ∧ w9.cell? ⟨g_part, 1, none⟩ = some (.slice A_part n_part cap_part)) ∧ (w9.cell? ⟨g_ten, 0, none⟩ = some (.bool (sgn ((z : Int)))) ∧ w9.cell? ⟨g_ten, 1, none⟩ = some (.slice A_ten n_ten cap_ten)) ∧ (w9.cell? ⟨g_dd, 0, none⟩ = some (.bool (sgn ((d : Int)))) ∧ w9.cell? ⟨g_dd, 1, none⟩ = some (.slice A_dd n_dd cap_dd))) 5 (by kernel_rfl) ?_
          refine AnyG.take (i := 0) (v := ?_) rfl (by kernel_rfl) (by kernel_rfl) (by kernel_rfl) (fun _ _ _ h => h) (by kernel_rfl) (by kernel_rfl) (Or.inl ⟨by rfl, ?_⟩) (by assumption) ?_
          rotate_left
          · intro w9 hSw; (try dsimp only at hSw); go_simp <;> with_reducible rfl
          try simp only [Act.put, List.getElem_toArray, List.getElem_cons_zero, List.getElem_cons_succ, List.setIfInBounds_toArray, List.set_cons_zero, List.set_cons_succ]
          refine AnyG.take (i := 1) (v := ?_) rfl (by kernel_rfl) (by kernel_rfl) (by kernel_rfl) (fun _ _ _ h => h) (by kernel_rfl) (by kernel_rfl) (Or.inl ⟨by rfl, ?_⟩) (by assumption) ?_
          rotate_left
          · intro w9 hSw; (try dsimp only at hSw); go_simp <;> with_reducible rfl
          try simp only [Act.put, List.getElem_toArray, List.getElem_cons_zero, List.getElem_cons_succ, List.setIfInBounds_toArray, List.set_cons_zero, List.set_cons_succ]
          refine AnyG.step (i := 2) (by kernel_rfl) rfl (fun K hK => ?_)
          go_simp
          go_at_call 35
          refine (CW.out _).mono ?_
          rintro e w15 ⟨v_t, rfl, hb, h_t⟩
          obtain ⟨A_t, n_t, cap_t, rfl, -⟩ := id h_t.form
          replace h_t := Lib.hid h_t
          have B_w15 := Lib.hid (reg_next (w0 := w14) (by repeat (first | with_reducible exact Below.refl _ _ | with_reducible apply below_drew | with_reducible apply below_new)) hb)
          have K_w15 := KK.out _ B_w15.out
          clear hb
          refine hK.out _ _ (fun _ => K_w15) (fun hHeld => ?_)
          replace hHeld := hHeld (by decide)
          clear hK
          try simp only [Act.put, List.getElem_toArray, List.getElem_cons_zero, List.getElem_cons_succ, List.setIfInBounds_toArray, List.set_cons_zero, List.set_cons_succ]
          refine AnyG.step (i := 3) (by kernel_rfl) rfl (fun K hK => ?_)
          go_simp
          go_at_call 34
          refine (C3.out _ _ _ (h_dd.out.below B_w15.out) h_t.out).mono ?_
          rintro e w16 ⟨v_m, rfl, hb, h_m⟩
          obtain ⟨A_m, n_m, cap_m, rfl, -⟩ := id h_m.form
          replace h_m := Lib.hid h_m
          replace h_t := Lib.hid (h_t.out.below hb)
          have B_w16 := Lib.hid (below_next B_w15.out hb)
          have K_w16 := KK.out _ B_w16.out
          clear hb
          refine hK.out _ _ (fun _ => K_w16) (fun hHeld => ?_)
          replace hHeld := hHeld (by decide)
          clear hK
          try simp only [Act.put, List.getElem_toArray, List.getElem_cons_zero, List.getElem_cons_succ, List.setIfInBounds_toArray, List.set_cons_zero, List.set_cons_succ]
          refine AnyG.step (i := 4) (by kernel_rfl) rfl (fun K hK => ?_)
          go_simp
          go_at_call 14
          refine (C4.out _ _ _ (h_ten.out.below B_w16.out) h_m.out).mono ?_
          rintro e w17 ⟨v_nx, rfl, hb, h_nx⟩
          obtain ⟨A_nx, n_nx, cap_nx, rfl, -⟩ := id h_nx.form
          replace h_nx := Lib.hid h_nx
          replace h_t := Lib.hid (h_t.out.below hb)
          replace h_m := Lib.hid (h_m.out.below hb)
          have B_w17 := Lib.hid (below_next B_w16.out hb)
          have K_w17 := KK.out _ B_w17.out
          obtain ⟨rc_part0, rc_part1, rf_part0, rf_part1⟩ := reads2 (r_part.out.keep B_w17.out)
          have rl_part := (r_part.out.keep B_w17.out).lt
          clear hb
          refine hK.out _ _ (fun _ => K_w17) (fun hHeld => ?_)
          replace hHeld := hHeld (by decide)
          clear hK
          try simp only [Act.put, List.getElem_toArray, List.getElem_cons_zero, List.getElem_cons_succ, List.setIfInBounds_toArray, List.set_cons_zero, List.set_cons_succ]
          refine AnyG.step (i := 5) (by kernel_rfl) rfl (fun K hK => ?_)
          go_simp
          refine hK.out _ _ (fun h => absurd h (by decide)) (fun _ => ?_)
          clear hK
          try simp only [Act.put, List.getElem_toArray, List.getElem_cons_zero, List.getElem_cons_succ, List.setIfInBounds_toArray, List.set_cons_zero, List.set_cons_succ]
          refine AnyG.done (by kernel_rfl) ?_ _
          clear KK K0 KD K_w15 K_w16 K_w17
          replace r_part := Lib.hid (r_part.out.keep B_w17.out)
          replace r_ten := Lib.hid (r_ten.out.keep B_w17.out)
          replace r_dd := Lib.hid (r_dd.out.keep B_w17.out)
          replace h_part := Lib.hid (h_part.out.below B_w17.out)
          replace h_ten := Lib.hid (h_ten.out.below B_w17.out)
          replace h_dd := Lib.hid (h_dd.out.below B_w17.out)
          replace BB := Lib.hid (below_next BB.out B_w17.out)
          clear B_w15 B_w16 B_w17
          clear hLE
          have sg : sgn (q : Int) = false := sgn_f (by omega)
          rw [sg] at *
          replace h_nx := Lib.hid (h_nx.out.far2 r_part.out (by decide) (.bool false) (.slice A_nx n_nx cap_nx))
          replace r_part := Lib.hid (r_part.out.set2 (.bool false) (.slice A_nx n_nx cap_nx))
          replace r_ten := Lib.hid (r_ten.out.far2 (p := g_part) (by have dd_ten := d_ten.out; have dd_part := d_part.out; omega) (.bool false) (.slice A_nx n_nx cap_nx))
          replace r_dd := Lib.hid (r_dd.out.far2 (p := g_part) (by have dd_dd := d_dd.out; have dd_part := d_part.out; omega) (.bool false) (.slice A_nx n_nx cap_nx))
          replace BB := Lib.hid (below_far2 BB.out (p := g_part) (by have dd := d_part.out; omega) (.bool false) (.slice A_nx n_nx cap_nx))
          generalize ((w17.setCell ⟨g_part, 0, none⟩ (.bool false)).setCell ⟨g_part, 1, none⟩ (.slice A_nx n_nx cap_nx)) = w18 at *
          go_wp2_with fail
          go_roundw
          case rel => exact ⟨T ++ [dg], q, A_nx, n_nx, cap_nx, rfl, ⟨r_part.out, h_nx.out, hql, ⟨k + 1, hk16, hdv2.out, hdg2.out, by rw [List.length_append, hLt.out]; simp; omega⟩, BB.out⟩⟩
          case measure => have := hLt.out; simp [strLen, ByteArray.size]; omega
  · have hn0 : 0 < n_part := Nat.pos_of_ne_zero fun h => hp (hz0.1 h)
    have hn1 : (0 : Int) < (n_part : Int) := by omega
    clear hz0
    by_cases hneg : x < 0
    · obtain ⟨T0, hT0e⟩ : ∃ T, T = 45 :: W ++ [46] := ⟨_, rfl⟩
      have hT0 : Hid (T0.length ≤ 40) := by show _ ≤ _; rw [hT0e]; have := hWl.out; simp; omega
      have hR0 : Hid (T0 ++ dgs (16 - 0) p0 = R) := by show _ = _; rw [hRe.out, if_pos hneg, if_neg hp, hT0e]; simp
      rw [← hT0e] at HA2
      clear hT0e hp hRe
      obtain ⟨c_part0, c_part1, f_part0, f_part1⟩ := reads2 r_part.out
      have l_part := r_part.out.lt
      go_wp2_with fail
      go_loopw [6, 7, 8] (fun s _ _ wr => ∃ (T : List UInt8) (p : Nat) (A : Option Addr) (n c : Nat), s = .string ⟨T.toArray⟩ ∧ Hid (AtB wr g_part #[.bool false, .slice A n c] BT4 ∧ BR wr (.agg #[.bool false, .slice A n c]) (p : Int) ∧ p < 65536 ∧ (∃ k, k ≤ 16 ∧ 2 ^ k ∣ p ∧ T ++ dgs (16 - k) p = R ∧ T.length = T0.length + k) ∧ Below w.heap.size w wr)) (fun s _ _ _ => 200 - strLen s)
      case atStart => exact ⟨T0, p0, A_part, n_part, cap_part, rfl, ⟨r_part.out, h_part.out, hp0.out, ⟨0, by omega, by simp, hR0.out, rfl⟩, BB.out⟩⟩
      case round =>
        clear r_part h_part BB hR0
        obtain ⟨T, p, A_part, n_part, cap_part, rfl, hI⟩ := hrel
        obtain ⟨r_part, h_part, hp, ⟨k, hk, hdv, hTR, hTl⟩, BB⟩ := hI.out
        clear hI
        have hz0 := big_zero h_part
        replace BB := Lib.hid BB; replace r_part := Lib.hid r_part; replace h_part := Lib.hid h_part; replace hTR := Lib.hid hTR
        have hT40 := hT0.out
        by_cases h0 : p = 0
        · have hn0 : n_part = 0 := hz0.2 h0
          subst hn0
          subst h0
          rw [dgs_zero, List.append_nil] at hTR
          clear hz0 hTl hdv hp
          obtain ⟨c_part0, c_part1, f_part0, f_part1⟩ := reads2 r_part.out
          have l_part := r_part.out.lt
          go_wp2_with fail
          go_ret
          exact ⟨by rw [hTR.out]; rfl, BB.out⟩
        · have hn0 : 0 < n_part := Nat.pos_of_ne_zero fun h => h0 (hz0.1 h)
          have hn1 : (0 : Int) < (n_part : Int) := by omega
          have hk16 : k < 16 := by
            have h1 := Nat.le_of_dvd (Nat.pos_of_ne_zero h0) hdv
            refine Nat.lt_of_le_of_ne hk (fun e => ?_)
            subst e
            have : (2 : Nat) ^ 16 = 65536 := by decide
            omega
          have hdv2 := Lib.hid (dv_step hk16 hdv)
          have hdg2 : Hid ((T ++ [dig p]) ++ dgs (16 - (k + 1)) (p * 10 % 65536) = R) := by
            show _ = _
            rw [← hTR.out, show 16 - k = 16 - (k + 1) + 1 by omega, dgs_pos h0, List.append_assoc]; rfl
          have C1 : Hid (∀ u v w, BR w u (p : Int) → BR w v 10 → Calls Tryd.prog 34 #[u, v] w (GiveB ((p * 10 : Nat) : Int) w)) := fun u v w hu hv => mul_nat p 10 (by omega) (by omega) u v w hu hv
          have C2 := Lib.hid (fun u v w hu hv => floor_nat (p * 10) (by omega) u v w hu hv)
          have C3 : Hid (∀ u v w, BR w u ((p * 10 / 65536 : Nat) : Int) → BR w v 65536 → Calls Tryd.prog 34 #[u, v] w (GiveB ((p * 10 / 65536 * 65536 : Nat) : Int) w)) := fun u v w hu hv => mul_nat _ 65536 (by omega) (by omega) u v w hu hv
          have C4 := Lib.hid (fun u v w hu hv => sub_nat (p * 10) (p * 10 / 65536 * 65536) (by omega) (by omega) u v w hu hv)
          have C5 := Lib.hid (fun v w hv => text_nat (p * 10 / 65536) (by omega) v w hv)
          rw [dec_dig hp] at C5
          rw [show p * 10 - p * 10 / 65536 * 65536 = p * 10 % 65536 by omega] at C4
          have HSA := fun w => run_string_add_lists (P := Tryd.prog) w T [dig p] (by omega) (by simp)
          have hql : p * 10 % 65536 < 65536 := by omega
          obtain ⟨z, hz⟩ : ∃ z, z = p * 10 := ⟨_, rfl⟩
          rw [← hz] at hdv2 hdg2 C1 C2 C3 C4 C5 hql
          generalize dig p = dg at *
          clear hz hdv hp hz0 h0
          obtain ⟨q, hq⟩ : ∃ q, q = z % 65536 := ⟨_, rfl⟩
          obtain ⟨d, hd⟩ : ∃ d, d = z / 65536 := ⟨_, rfl⟩
          rw [← hq] at hdv2 hdg2 C4 hql
          rw [← hd] at C2 C3 C4 C5
          obtain ⟨m, hm⟩ : ∃ m, m = d * 65536 := ⟨_, rfl⟩
          rw [← hm] at C3 C4
          clear hq hd hm
          have hLt := Lib.hid hTl
          clear hTl
          obtain ⟨c_part0, c_part1, f_part0, f_part1⟩ := reads2 r_part.out
          have l_part := r_part.out.lt
          go_wp2_with fail
          clear c_part0 c_part1 f_part0 f_part1 l_part
          go_cut [7] (fun s5 wc7 => ∃ gp A3 n3 c3, s5 = .pointer (some ⟨gp, 0, none⟩) ∧ Hid (AtB wc7 gp #[.bool (sgn ((z : Int))), .slice A3 n3 c3] 24 ∧ BR wc7 (.agg #[.bool (sgn ((z : Int))), .slice A3 n3 c3]) ((z : Int)) ∧ Below wr.heap.size wr wc7 ∧ wr.heap.size ≤ gp))
          case first =>
            have KK := Lib.hid (fun (w9 : World) (h : Below wr.heap.size wr w9) => (cells2 (r_part.out.keep h) : (w9.cell? ⟨g_part, 0, none⟩ = some (.bool false) ∧ w9.cell? ⟨g_part, 1, none⟩ = some (.slice A_part n_part cap_part))))
            have K0 := KK.out wr (Below.refl _ _)
            have KD := KK.out wr.drew (below_drew (Below.refl _ _))
            go_region_held3 (fun w9 => (w9.cell? ⟨g_part, 0, none⟩ = some (.bool false) ∧ w9.cell? ⟨g_part, 1, none⟩ = some (.slice A_part n_part cap_part)))
                (first | with_reducible exact KD | with_reducible exact K0 | with_reducible exact K_w10 | with_reducible exact K_w11 | (refine KK.out _ ?_; repeat' (first | with_reducible exact Below.refl _ _ | with_reducible exact B_w10.out | with_reducible exact B_w11.out | with_reducible apply below_new | with_reducible apply below_drew | with_reducible apply below_set | omega)))
                (first
                  | (go_at_call 6
                     refine (CT.out _).mono ?_
                     rintro e w10 ⟨v_t, rfl, hb, h_t⟩
                     obtain ⟨A_t, n_t, cap_t, rfl, -⟩ := id h_t.form
                     replace h_t := Lib.hid h_t
                     have B_w10 := Lib.hid (reg_next (w0 := wr) (by repeat (first | with_reducible exact Below.refl _ _ | with_reducible apply below_drew | with_reducible apply below_new)) hb)
                     have K_w10 := KK.out _ B_w10.out
                     obtain ⟨hc_w10, hf_w10⟩ := below_reads hb
                     have hz_w10 := hb.size
                     try simp at hz_w10
                     try (have z1_w10 := Nat.lt_of_succ_le hz_w10)
                     try (have z2_w10 := Nat.lt_of_succ_lt z1_w10)
                     have HB_w10 := Lib.hid hb
                     clear hb)
                  | (go_at_call 34
                     refine (C1.out _ _ _ (h_part.out.below ?_) (h_t.out.below ?_)).mono ?_
                     · repeat (first | with_reducible exact Below.refl _ _ | with_reducible exact B_w10.out | with_reducible apply below_drew | with_reducible apply below_new)
                     · repeat (first | with_reducible exact Below.refl _ _ | with_reducible exact B_w10.out | with_reducible apply below_drew | with_reducible apply below_new)
                     rintro e w11 ⟨v_ten, rfl, hb, h_ten⟩
                     obtain ⟨A_ten, n_ten, cap_ten, rfl, -⟩ := id h_ten.form
                     replace h_ten := Lib.hid h_ten
                     replace h_t := Lib.hid (h_t.out.below (below_next (by repeat (first | with_reducible exact Below.refl _ _ | with_reducible apply below_new | with_reducible apply below_drew)) hb))
                     have B_w11 := Lib.hid (below_next (by repeat (first | with_reducible exact B_w10.out | with_reducible apply below_new | with_reducible apply below_drew)) hb)
                     have K_w11 := KK.out _ B_w11.out
                     obtain ⟨hc_w11, hf_w11⟩ := below_reads hb
                     have hz_w11 := hb.size
                     try simp at hz_w11
                     try (have z1_w11 := Nat.lt_of_succ_le hz_w11)
                     try (have z2_w11 := Nat.lt_of_succ_lt z1_w11)
                     have HB_w11 := Lib.hid hb
                     have y_w11_w10 := Nat.le_trans HB_w10.out.size (Nat.le_trans (by (try simp only [World.size_alloc]); omega) hb.size)
                     try simp at y_w11_w10
                     try (have z3_w11_w10 := Nat.lt_of_succ_le y_w11_w10)
                     try (have z4_w11_w10 := Nat.lt_of_succ_lt z3_w11_w10)
                     clear hb))
            all_goals clear KK K0 KD K_w10 K_w11
            all_goals go_wp2_with fail
            all_goals go_meet
            all_goals refine ⟨_, A_ten, n_ten, cap_ten, rfl, ⟨?_, ?_, ?_, ?_⟩⟩
            all_goals repeat' (first | with_reducible exact h_ten.out | with_reducible exact B_w10.out | with_reducible exact B_w11.out | with_reducible exact Below.refl _ _ | with_reducible apply below_new | with_reducible apply below_drew | (with_reducible refine below_set ?_ ?_ _) | (with_reducible refine AtB.set2 (a := .bool false) (b := .slice none 0 0) (T := 24) ?_ _ _) | (with_reducible refine AtB.set2 (a := .int .i64 0) (b := .int .u64 0) (T := 46) ?_ _ _) | (with_reducible refine AtB.far2 ?_ ?_ _ _) | (with_reducible refine BR.alloc ?_ _) | (with_reducible refine BR.far2 (a := .bool false) (b := .slice none 0 0) (T := 24) ?_ ?_ (by decide) _ _) | (with_reducible refine new_at_eq ?_ _ _; first | rfl | (simp; done)) | (with_reducible refine AtB.alloc ?_ _) | with_reducible apply AtB.drew | (with_reducible refine AtB.keep ?_ HB_w11.out) | (with_reducible refine AtB.keep ?_ HB_w10.out) | omega)
          obtain ⟨wc7, rfl⟩ : ∃ wo : World, wo = wc := ⟨_, rfl⟩
          obtain ⟨g_ten, A_ten, n_ten, cap_ten, rfl, hcut⟩ := hcut
          obtain ⟨r_ten, h_ten, hb, hge⟩ := hcut.out
          clear hcut
          replace r_ten := Lib.hid r_ten; replace h_ten := Lib.hid h_ten
          have d_ten := Lib.hid (And.intro (Nat.le_trans BB.out.size hge) (And.intro (Nat.lt_of_lt_of_le r_part.out.lt hge) (True.intro)))
          replace r_part := Lib.hid (r_part.out.keep hb)
          replace h_part := Lib.hid (h_part.out.below hb)
          replace BB := Lib.hid (below_next BB.out hb)
          clear hb hge
          go_wp2_with fail
          go_cut [8] (fun s5 wc8 => ∃ gp A3 n3 c3, s5 = .pointer (some ⟨gp, 0, none⟩) ∧ Hid (AtB wc8 gp #[.bool (sgn ((d : Int))), .slice A3 n3 c3] 24 ∧ BR wc8 (.agg #[.bool (sgn ((d : Int))), .slice A3 n3 c3]) ((d : Int)) ∧ Below wc7.heap.size wc7 wc8 ∧ wc7.heap.size ≤ gp))
          case first =>
            have KK := Lib.hid (fun (w9 : World) (h : Below wc7.heap.size wc7 w9) => (cells2 (r_ten.out.keep h) : (w9.cell? ⟨g_ten, 0, none⟩ = some (.bool (sgn ((z : Int)))) ∧ w9.cell? ⟨g_ten, 1, none⟩ = some (.slice A_ten n_ten cap_ten))))
            have K0 := KK.out wc7 (Below.refl _ _)
            have KD := KK.out wc7.drew (below_drew (Below.refl _ _))
            go_region_held3 (fun w9 => (w9.cell? ⟨g_ten, 0, none⟩ = some (.bool (sgn ((z : Int)))) ∧ w9.cell? ⟨g_ten, 1, none⟩ = some (.slice A_ten n_ten cap_ten)))
                (first | with_reducible exact KD | with_reducible exact K0 | with_reducible exact K_w12 | with_reducible exact K_w13 | (refine KK.out _ ?_; repeat' (first | with_reducible exact Below.refl _ _ | with_reducible exact B_w12.out | with_reducible exact B_w13.out | with_reducible apply below_new | with_reducible apply below_drew | with_reducible apply below_set | omega)))
                (first
                  | (go_at_call 35
                     refine (CW.out _).mono ?_
                     rintro e w12 ⟨v_t, rfl, hb, h_t⟩
                     obtain ⟨A_t, n_t, cap_t, rfl, -⟩ := id h_t.form
                     replace h_t := Lib.hid h_t
                     have B_w12 := Lib.hid (reg_next (w0 := wc7) (by repeat (first | with_reducible exact Below.refl _ _ | with_reducible apply below_drew | with_reducible apply below_new)) hb)
                     have K_w12 := KK.out _ B_w12.out
                     obtain ⟨hc_w12, hf_w12⟩ := below_reads hb
                     have hz_w12 := hb.size
                     try simp at hz_w12
                     try (have z1_w12 := Nat.lt_of_succ_le hz_w12)
                     try (have z2_w12 := Nat.lt_of_succ_lt z1_w12)
                     have HB_w12 := Lib.hid hb
                     clear hb)
                  | (go_at_call 43
                     refine (C2.out _ _ _ (h_ten.out.below ?_) (h_t.out.below ?_)).mono ?_
                     · repeat (first | with_reducible exact Below.refl _ _ | with_reducible exact B_w12.out | with_reducible apply below_drew | with_reducible apply below_new)
                     · repeat (first | with_reducible exact Below.refl _ _ | with_reducible exact B_w12.out | with_reducible apply below_drew | with_reducible apply below_new)
                     rintro e w13 ⟨v_dd, rfl, hb, h_dd⟩
                     obtain ⟨A_dd, n_dd, cap_dd, rfl, -⟩ := id h_dd.form
                     replace h_dd := Lib.hid h_dd
                     replace h_t := Lib.hid (h_t.out.below (below_next (by repeat (first | with_reducible exact Below.refl _ _ | with_reducible apply below_new | with_reducible apply below_drew)) hb))
                     have B_w13 := Lib.hid (below_next (by repeat (first | with_reducible exact B_w12.out | with_reducible apply below_new | with_reducible apply below_drew)) hb)
                     have K_w13 := KK.out _ B_w13.out
                     obtain ⟨hc_w13, hf_w13⟩ := below_reads hb
                     have hz_w13 := hb.size
                     try simp at hz_w13
                     try (have z1_w13 := Nat.lt_of_succ_le hz_w13)
                     try (have z2_w13 := Nat.lt_of_succ_lt z1_w13)
                     have HB_w13 := Lib.hid hb
                     have y_w13_w12 := Nat.le_trans HB_w12.out.size (Nat.le_trans (by (try simp only [World.size_alloc]); omega) hb.size)
                     try simp at y_w13_w12
                     try (have z3_w13_w12 := Nat.lt_of_succ_le y_w13_w12)
                     try (have z4_w13_w12 := Nat.lt_of_succ_lt z3_w13_w12)
                     clear hb))
            all_goals clear KK K0 KD K_w12 K_w13
            all_goals go_wp2_with fail
            all_goals go_meet
            all_goals refine ⟨_, A_dd, n_dd, cap_dd, rfl, ⟨?_, ?_, ?_, ?_⟩⟩
            all_goals repeat' (first | with_reducible exact h_dd.out | with_reducible exact B_w12.out | with_reducible exact B_w13.out | with_reducible exact Below.refl _ _ | with_reducible apply below_new | with_reducible apply below_drew | (with_reducible refine below_set ?_ ?_ _) | (with_reducible refine AtB.set2 (a := .bool false) (b := .slice none 0 0) (T := 24) ?_ _ _) | (with_reducible refine AtB.set2 (a := .int .i64 0) (b := .int .u64 0) (T := 46) ?_ _ _) | (with_reducible refine AtB.far2 ?_ ?_ _ _) | (with_reducible refine BR.alloc ?_ _) | (with_reducible refine BR.far2 (a := .bool false) (b := .slice none 0 0) (T := 24) ?_ ?_ (by decide) _ _) | (with_reducible refine new_at_eq ?_ _ _; first | rfl | (simp; done)) | (with_reducible refine AtB.alloc ?_ _) | with_reducible apply AtB.drew | (with_reducible refine AtB.keep ?_ HB_w13.out) | (with_reducible refine AtB.keep ?_ HB_w12.out) | omega)
          obtain ⟨wc8, rfl⟩ : ∃ wo : World, wo = wc := ⟨_, rfl⟩
          obtain ⟨g_dd, A_dd, n_dd, cap_dd, rfl, hcut⟩ := hcut
          obtain ⟨r_dd, h_dd, hb, hge⟩ := hcut.out
          clear hcut
          replace r_dd := Lib.hid r_dd; replace h_dd := Lib.hid h_dd
          have d_dd := Lib.hid (And.intro (Nat.le_trans BB.out.size hge) (And.intro (Nat.lt_of_lt_of_le r_part.out.lt hge) (And.intro (Nat.lt_of_lt_of_le r_ten.out.lt hge) (True.intro))))
          replace r_part := Lib.hid (r_part.out.keep hb)
          replace r_ten := Lib.hid (r_ten.out.keep hb)
          replace h_part := Lib.hid (h_part.out.below hb)
          replace h_ten := Lib.hid (h_ten.out.below hb)
          replace BB := Lib.hid (below_next BB.out hb)
          clear hb hge
          clear C1 C2
          obtain ⟨c_dd0, c_dd1, f_dd0, f_dd1⟩ := reads2 r_dd.out
          have l_dd := r_dd.out.lt
          go_wp2_with fail
          refine (C5.out _ _ h_dd.out).mono ?_
          rintro e w14 ⟨rfl, hb⟩
          clear c_dd0 c_dd1 f_dd0 f_dd1 l_dd
          replace r_part := Lib.hid (r_part.out.keep hb)
          replace r_ten := Lib.hid (r_ten.out.keep hb)
          replace r_dd := Lib.hid (r_dd.out.keep hb)
          replace h_part := Lib.hid (h_part.out.below hb)
          replace h_ten := Lib.hid (h_ten.out.below hb)
          replace h_dd := Lib.hid (h_dd.out.below hb)
          replace BB := Lib.hid (below_next BB.out hb)
          clear hb
          go_upto_region 13 with fail
          have hLE := Lib.hid (show AtB w14 g_part #[.bool false, .slice A_part n_part cap_part] BT4 from r_part.out)
          have KK := Lib.hid (fun (w9 : World) (h : Below w14.heap.size w14 w9) => (⟨cells2 (r_part.out.keep h), cells2 (r_ten.out.keep h), cells2 (r_dd.out.keep h)⟩ : (w9.cell? ⟨g_part, 0, none⟩ = some (.bool false) ∧ w9.cell? ⟨g_part, 1, none⟩ = some (.slice A_part n_part cap_part)) ∧ (w9.cell? ⟨g_ten, 0, none⟩ = some (.bool (sgn ((z : Int)))) ∧ w9.cell? ⟨g_ten, 1, none⟩ = some (.slice A_ten n_ten cap_ten)) ∧ (w9.cell? ⟨g_dd, 0, none⟩ = some (.bool (sgn ((d : Int)))) ∧ w9.cell? ⟨g_dd, 1, none⟩ = some (.slice A_dd n_dd cap_dd))))
          have K0 := KK.out w14 (Below.refl _ _)
          have KD := KK.out w14.drew (below_drew (Below.refl _ _))
          refine AnyG.begin_ (fun w9 => (w9.cell? ⟨g_part, 0, none⟩ = some (.bool false) ∧ w9.cell? ⟨g_part, 1, none⟩ = some (.slice A_part n_part cap_part)) ∧ (w9.cell? ⟨g_ten, 0, none⟩ = some (.bool (sgn ((z : Int)))) ∧ w9.cell? ⟨g_ten, 1, none⟩ = some (.slice A_ten n_ten cap_ten)) ∧ (w9.cell? ⟨g_dd, 0, none⟩ = some (.bool (sgn ((d : Int)))) ∧ w9.cell? ⟨g_dd, 1, none⟩ = some (.slice A_dd n_dd cap_dd))) 5 (by kernel_rfl) ?_
          refine AnyG.take (i := 0) (v := ?_) rfl (by kernel_rfl) (by kernel_rfl) (by kernel_rfl) (fun _ _ _ h => h) (by kernel_rfl) (by kernel_rfl) (Or.inl ⟨by rfl, ?_⟩) (by assumption) ?_
          rotate_left
          · intro w9 hSw; (try dsimp only at hSw); go_simp <;> with_reducible rfl
          try simp only [Act.put, List.getElem_toArray, List.getElem_cons_zero, List.getElem_cons_succ, List.setIfInBounds_toArray, List.set_cons_zero, List.set_cons_succ]
          refine AnyG.take (i := 1) (v := ?_) rfl (by kernel_rfl) (by kernel_rfl) (by kernel_rfl) (fun _ _ _ h => h) (by kernel_rfl) (by kernel_rfl) (Or.inl ⟨by rfl, ?_⟩) (by assumption) ?_
          rotate_left
          · intro w9 hSw; (try dsimp only at hSw); go_simp <;> with_reducible rfl
          try simp only [Act.put, List.getElem_toArray, List.getElem_cons_zero, List.getElem_cons_succ, List.setIfInBounds_toArray, List.set_cons_zero, List.set_cons_succ]
          refine AnyG.step (i := 2) (by kernel_rfl) rfl (fun K hK => ?_)
          go_simp
          go_at_call 35
          refine (CW.out _).mono ?_
          rintro e w15 ⟨v_t, rfl, hb, h_t⟩
          obtain ⟨A_t, n_t, cap_t, rfl, -⟩ := id h_t.form
          replace h_t := Lib.hid h_t
          have B_w15 := Lib.hid (reg_next (w0 := w14) (by repeat (first | with_reducible exact Below.refl _ _ | with_reducible apply below_drew | with_reducible apply below_new)) hb)
          have K_w15 := KK.out _ B_w15.out
          clear hb
          refine hK.out _ _ (fun _ => K_w15) (fun hHeld => ?_)
          replace hHeld := hHeld (by decide)
          clear hK
          try simp only [Act.put, List.getElem_toArray, List.getElem_cons_zero, List.getElem_cons_succ, List.setIfInBounds_toArray, List.set_cons_zero, List.set_cons_succ]
          refine AnyG.step (i := 3) (by kernel_rfl) rfl (fun K hK => ?_)
          go_simp
          go_at_call 34
          refine (C3.out _ _ _ (h_dd.out.below B_w15.out) h_t.out).mono ?_
          rintro e w16 ⟨v_m, rfl, hb, h_m⟩
          obtain ⟨A_m, n_m, cap_m, rfl, -⟩ := id h_m.form
          replace h_m := Lib.hid h_m
          replace h_t := Lib.hid (h_t.out.below hb)
          have B_w16 := Lib.hid (below_next B_w15.out hb)
          have K_w16 := KK.out _ B_w16.out
          clear hb
          refine hK.out _ _ (fun _ => K_w16) (fun hHeld => ?_)
          replace hHeld := hHeld (by decide)
          clear hK
          try simp only [Act.put, List.getElem_toArray, List.getElem_cons_zero, List.getElem_cons_succ, List.setIfInBounds_toArray, List.set_cons_zero, List.set_cons_succ]
          refine AnyG.step (i := 4) (by kernel_rfl) rfl (fun K hK => ?_)
          go_simp
          go_at_call 14
          refine (C4.out _ _ _ (h_ten.out.below B_w16.out) h_m.out).mono ?_
          rintro e w17 ⟨v_nx, rfl, hb, h_nx⟩
          obtain ⟨A_nx, n_nx, cap_nx, rfl, -⟩ := id h_nx.form
          replace h_nx := Lib.hid h_nx
          replace h_t := Lib.hid (h_t.out.below hb)
          replace h_m := Lib.hid (h_m.out.below hb)
          have B_w17 := Lib.hid (below_next B_w16.out hb)
          have K_w17 := KK.out _ B_w17.out
          obtain ⟨rc_part0, rc_part1, rf_part0, rf_part1⟩ := reads2 (r_part.out.keep B_w17.out)
          have rl_part := (r_part.out.keep B_w17.out).lt
          clear hb
          refine hK.out _ _ (fun _ => K_w17) (fun hHeld => ?_)
          replace hHeld := hHeld (by decide)
          clear hK
          try simp only [Act.put, List.getElem_toArray, List.getElem_cons_zero, List.getElem_cons_succ, List.setIfInBounds_toArray, List.set_cons_zero, List.set_cons_succ]
          refine AnyG.step (i := 5) (by kernel_rfl) rfl (fun K hK => ?_)
          go_simp
          refine hK.out _ _ (fun h => absurd h (by decide)) (fun _ => ?_)
          clear hK
          try simp only [Act.put, List.getElem_toArray, List.getElem_cons_zero, List.getElem_cons_succ, List.setIfInBounds_toArray, List.set_cons_zero, List.set_cons_succ]
          refine AnyG.done (by kernel_rfl) ?_ _
          clear KK K0 KD K_w15 K_w16 K_w17
          replace r_part := Lib.hid (r_part.out.keep B_w17.out)
          replace r_ten := Lib.hid (r_ten.out.keep B_w17.out)
          replace r_dd := Lib.hid (r_dd.out.keep B_w17.out)
          replace h_part := Lib.hid (h_part.out.below B_w17.out)
          replace h_ten := Lib.hid (h_ten.out.below B_w17.out)
          replace h_dd := Lib.hid (h_dd.out.below B_w17.out)
          replace BB := Lib.hid (below_next BB.out B_w17.out)
          clear B_w15 B_w16 B_w17
          clear hLE
          have sg : sgn (q : Int) = false := sgn_f (by omega)
          rw [sg] at *
          replace h_nx := Lib.hid (h_nx.out.far2 r_part.out (by decide) (.bool false) (.slice A_nx n_nx cap_nx))
          replace r_part := Lib.hid (r_part.out.set2 (.bool false) (.slice A_nx n_nx cap_nx))
          replace r_ten := Lib.hid (r_ten.out.far2 (p := g_part) (by have dd_ten := d_ten.out; have dd_part := d_part.out; omega) (.bool false) (.slice A_nx n_nx cap_nx))
          replace r_dd := Lib.hid (r_dd.out.far2 (p := g_part) (by have dd_dd := d_dd.out; have dd_part := d_part.out; omega) (.bool false) (.slice A_nx n_nx cap_nx))
          replace BB := Lib.hid (below_far2 BB.out (p := g_part) (by have dd := d_part.out; omega) (.bool false) (.slice A_nx n_nx cap_nx))
          generalize ((w17.setCell ⟨g_part, 0, none⟩ (.bool false)).setCell ⟨g_part, 1, none⟩ (.slice A_nx n_nx cap_nx)) = w18 at *
          go_wp2_with fail
          go_roundw
          case rel => exact ⟨T ++ [dg], q, A_nx, n_nx, cap_nx, rfl, ⟨r_part.out, h_nx.out, hql, ⟨k + 1, hk16, hdv2.out, hdg2.out, by rw [List.length_append, hLt.out]; simp; omega⟩, BB.out⟩⟩
          case measure => have := hLt.out; simp [strLen, ByteArray.size]; omega
    · obtain ⟨T0, hT0e⟩ : ∃ T, T = W ++ [46] := ⟨_, rfl⟩
      have hT0 : Hid (T0.length ≤ 40) := by show _ ≤ _; rw [hT0e]; have := hWl.out; simp; omega
      have hR0 : Hid (T0 ++ dgs (16 - 0) p0 = R) := by show _ = _; rw [hRe.out, if_neg hneg, if_neg hp, hT0e]; simp
      rw [← hT0e] at HA3
      clear hT0e hp hRe
      obtain ⟨c_part0, c_part1, f_part0, f_part1⟩ := reads2 r_part.out
      have l_part := r_part.out.lt
      go_wp2_with fail
      go_loopw [6, 7, 8] (fun s _ _ wr => ∃ (T : List UInt8) (p : Nat) (A : Option Addr) (n c : Nat), s = .string ⟨T.toArray⟩ ∧ Hid (AtB wr g_part #[.bool false, .slice A n c] BT4 ∧ BR wr (.agg #[.bool false, .slice A n c]) (p : Int) ∧ p < 65536 ∧ (∃ k, k ≤ 16 ∧ 2 ^ k ∣ p ∧ T ++ dgs (16 - k) p = R ∧ T.length = T0.length + k) ∧ Below w.heap.size w wr)) (fun s _ _ _ => 200 - strLen s)
      case atStart => exact ⟨T0, p0, A_part, n_part, cap_part, rfl, ⟨r_part.out, h_part.out, hp0.out, ⟨0, by omega, by simp, hR0.out, rfl⟩, BB.out⟩⟩
      case round =>
        clear r_part h_part BB hR0
        obtain ⟨T, p, A_part, n_part, cap_part, rfl, hI⟩ := hrel
        obtain ⟨r_part, h_part, hp, ⟨k, hk, hdv, hTR, hTl⟩, BB⟩ := hI.out
        clear hI
        have hz0 := big_zero h_part
        replace BB := Lib.hid BB; replace r_part := Lib.hid r_part; replace h_part := Lib.hid h_part; replace hTR := Lib.hid hTR
        have hT40 := hT0.out
        by_cases h0 : p = 0
        · have hn0 : n_part = 0 := hz0.2 h0
          subst hn0
          subst h0
          rw [dgs_zero, List.append_nil] at hTR
          clear hz0 hTl hdv hp
          obtain ⟨c_part0, c_part1, f_part0, f_part1⟩ := reads2 r_part.out
          have l_part := r_part.out.lt
          go_wp2_with fail
          go_ret
          exact ⟨by rw [hTR.out]; rfl, BB.out⟩
        · have hn0 : 0 < n_part := Nat.pos_of_ne_zero fun h => h0 (hz0.1 h)
          have hn1 : (0 : Int) < (n_part : Int) := by omega
          have hk16 : k < 16 := by
            have h1 := Nat.le_of_dvd (Nat.pos_of_ne_zero h0) hdv
            refine Nat.lt_of_le_of_ne hk (fun e => ?_)
            subst e
            have : (2 : Nat) ^ 16 = 65536 := by decide
            omega
          have hdv2 := Lib.hid (dv_step hk16 hdv)
          have hdg2 : Hid ((T ++ [dig p]) ++ dgs (16 - (k + 1)) (p * 10 % 65536) = R) := by
            show _ = _
            rw [← hTR.out, show 16 - k = 16 - (k + 1) + 1 by omega, dgs_pos h0, List.append_assoc]; rfl
          have C1 : Hid (∀ u v w, BR w u (p : Int) → BR w v 10 → Calls Tryd.prog 34 #[u, v] w (GiveB ((p * 10 : Nat) : Int) w)) := fun u v w hu hv => mul_nat p 10 (by omega) (by omega) u v w hu hv
          have C2 := Lib.hid (fun u v w hu hv => floor_nat (p * 10) (by omega) u v w hu hv)
          have C3 : Hid (∀ u v w, BR w u ((p * 10 / 65536 : Nat) : Int) → BR w v 65536 → Calls Tryd.prog 34 #[u, v] w (GiveB ((p * 10 / 65536 * 65536 : Nat) : Int) w)) := fun u v w hu hv => mul_nat _ 65536 (by omega) (by omega) u v w hu hv
          have C4 := Lib.hid (fun u v w hu hv => sub_nat (p * 10) (p * 10 / 65536 * 65536) (by omega) (by omega) u v w hu hv)
          have C5 := Lib.hid (fun v w hv => text_nat (p * 10 / 65536) (by omega) v w hv)
          rw [dec_dig hp] at C5
          rw [show p * 10 - p * 10 / 65536 * 65536 = p * 10 % 65536 by omega] at C4
          have HSA := fun w => run_string_add_lists (P := Tryd.prog) w T [dig p] (by omega) (by simp)
          have hql : p * 10 % 65536 < 65536 := by omega
          obtain ⟨z, hz⟩ : ∃ z, z = p * 10 := ⟨_, rfl⟩
          rw [← hz] at hdv2 hdg2 C1 C2 C3 C4 C5 hql
          generalize dig p = dg at *
          clear hz hdv hp hz0 h0
          obtain ⟨q, hq⟩ : ∃ q, q = z % 65536 := ⟨_, rfl⟩
          obtain ⟨d, hd⟩ : ∃ d, d = z / 65536 := ⟨_, rfl⟩
          rw [← hq] at hdv2 hdg2 C4 hql
          rw [← hd] at C2 C3 C4 C5
          obtain ⟨m, hm⟩ : ∃ m, m = d * 65536 := ⟨_, rfl⟩
          rw [← hm] at C3 C4
          clear hq hd hm
          have hLt := Lib.hid hTl
          clear hTl
          obtain ⟨c_part0, c_part1, f_part0, f_part1⟩ := reads2 r_part.out
          have l_part := r_part.out.lt
          go_wp2_with fail
          clear c_part0 c_part1 f_part0 f_part1 l_part
          go_cut [7] (fun s5 wc9 => ∃ gp A3 n3 c3, s5 = .pointer (some ⟨gp, 0, none⟩) ∧ Hid (AtB wc9 gp #[.bool (sgn ((z : Int))), .slice A3 n3 c3] 24 ∧ BR wc9 (.agg #[.bool (sgn ((z : Int))), .slice A3 n3 c3]) ((z : Int)) ∧ Below wr.heap.size wr wc9 ∧ wr.heap.size ≤ gp))
          case first =>
            have KK := Lib.hid (fun (w9 : World) (h : Below wr.heap.size wr w9) => (cells2 (r_part.out.keep h) : (w9.cell? ⟨g_part, 0, none⟩ = some (.bool false) ∧ w9.cell? ⟨g_part, 1, none⟩ = some (.slice A_part n_part cap_part))))
            have K0 := KK.out wr (Below.refl _ _)
            have KD := KK.out wr.drew (below_drew (Below.refl _ _))
            go_region_held3 (fun w9 => (w9.cell? ⟨g_part, 0, none⟩ = some (.bool false) ∧ w9.cell? ⟨g_part, 1, none⟩ = some (.slice A_part n_part cap_part)))
                (first | with_reducible exact KD | with_reducible exact K0 | with_reducible exact K_w10 | with_reducible exact K_w11 | (refine KK.out _ ?_; repeat' (first | with_reducible exact Below.refl _ _ | with_reducible exact B_w10.out | with_reducible exact B_w11.out | with_reducible apply below_new | with_reducible apply below_drew | with_reducible apply below_set | omega)))
                (first
                  | (go_at_call 6
                     refine (CT.out _).mono ?_
                     rintro e w10 ⟨v_t, rfl, hb, h_t⟩
                     obtain ⟨A_t, n_t, cap_t, rfl, -⟩ := id h_t.form
                     replace h_t := Lib.hid h_t
                     have B_w10 := Lib.hid (reg_next (w0 := wr) (by repeat (first | with_reducible exact Below.refl _ _ | with_reducible apply below_drew | with_reducible apply below_new)) hb)
                     have K_w10 := KK.out _ B_w10.out
                     obtain ⟨hc_w10, hf_w10⟩ := below_reads hb
                     have hz_w10 := hb.size
                     try simp at hz_w10
                     try (have z1_w10 := Nat.lt_of_succ_le hz_w10)
                     try (have z2_w10 := Nat.lt_of_succ_lt z1_w10)
                     have HB_w10 := Lib.hid hb
                     clear hb)
                  | (go_at_call 34
                     refine (C1.out _ _ _ (h_part.out.below ?_) (h_t.out.below ?_)).mono ?_
                     · repeat (first | with_reducible exact Below.refl _ _ | with_reducible exact B_w10.out | with_reducible apply below_drew | with_reducible apply below_new)
                     · repeat (first | with_reducible exact Below.refl _ _ | with_reducible exact B_w10.out | with_reducible apply below_drew | with_reducible apply below_new)
                     rintro e w11 ⟨v_ten, rfl, hb, h_ten⟩
                     obtain ⟨A_ten, n_ten, cap_ten, rfl, -⟩ := id h_ten.form
                     replace h_ten := Lib.hid h_ten
                     replace h_t := Lib.hid (h_t.out.below (below_next (by repeat (first | with_reducible exact Below.refl _ _ | with_reducible apply below_new | with_reducible apply below_drew)) hb))
                     have B_w11 := Lib.hid (below_next (by repeat (first | with_reducible exact B_w10.out | with_reducible apply below_new | with_reducible apply below_drew)) hb)
                     have K_w11 := KK.out _ B_w11.out
                     obtain ⟨hc_w11, hf_w11⟩ := below_reads hb
                     have hz_w11 := hb.size
                     try simp at hz_w11
                     try (have z1_w11 := Nat.lt_of_succ_le hz_w11)
                     try (have z2_w11 := Nat.lt_of_succ_lt z1_w11)
                     have HB_w11 := Lib.hid hb
                     have y_w11_w10 := Nat.le_trans HB_w10.out.size (Nat.le_trans (by (try simp only [World.size_alloc]); omega) hb.size)
                     try simp at y_w11_w10
                     try (have z3_w11_w10 := Nat.lt_of_succ_le y_w11_w10)
                     try (have z4_w11_w10 := Nat.lt_of_succ_lt z3_w11_w10)
                     clear hb))
            all_goals clear KK K0 KD K_w10 K_w11
            all_goals go_wp2_with fail
            all_goals go_meet
            all_goals refine ⟨_, A_ten, n_ten, cap_ten, rfl, ⟨?_, ?_, ?_, ?_⟩⟩
            all_goals repeat' (first | with_reducible exact h_ten.out | with_reducible exact B_w10.out | with_reducible exact B_w11.out | with_reducible exact Below.refl _ _ | with_reducible apply below_new | with_reducible apply below_drew | (with_reducible refine below_set ?_ ?_ _) | (with_reducible refine AtB.set2 (a := .bool false) (b := .slice none 0 0) (T := 24) ?_ _ _) | (with_reducible refine AtB.set2 (a := .int .i64 0) (b := .int .u64 0) (T := 46) ?_ _ _) | (with_reducible refine AtB.far2 ?_ ?_ _ _) | (with_reducible refine BR.alloc ?_ _) | (with_reducible refine BR.far2 (a := .bool false) (b := .slice none 0 0) (T := 24) ?_ ?_ (by decide) _ _) | (with_reducible refine new_at_eq ?_ _ _; first | rfl | (simp; done)) | (with_reducible refine AtB.alloc ?_ _) | with_reducible apply AtB.drew | (with_reducible refine AtB.keep ?_ HB_w11.out) | (with_reducible refine AtB.keep ?_ HB_w10.out) | omega)
          obtain ⟨wc9, rfl⟩ : ∃ wo : World, wo = wc := ⟨_, rfl⟩
          obtain ⟨g_ten, A_ten, n_ten, cap_ten, rfl, hcut⟩ := hcut
          obtain ⟨r_ten, h_ten, hb, hge⟩ := hcut.out
          clear hcut
          replace r_ten := Lib.hid r_ten; replace h_ten := Lib.hid h_ten
          have d_ten := Lib.hid (And.intro (Nat.le_trans BB.out.size hge) (And.intro (Nat.lt_of_lt_of_le r_part.out.lt hge) (True.intro)))
          replace r_part := Lib.hid (r_part.out.keep hb)
          replace h_part := Lib.hid (h_part.out.below hb)
          replace BB := Lib.hid (below_next BB.out hb)
          clear hb hge
          go_wp2_with fail
          go_cut [8] (fun s5 wc10 => ∃ gp A3 n3 c3, s5 = .pointer (some ⟨gp, 0, none⟩) ∧ Hid (AtB wc10 gp #[.bool (sgn ((d : Int))), .slice A3 n3 c3] 24 ∧ BR wc10 (.agg #[.bool (sgn ((d : Int))), .slice A3 n3 c3]) ((d : Int)) ∧ Below wc9.heap.size wc9 wc10 ∧ wc9.heap.size ≤ gp))
          case first =>
            have KK := Lib.hid (fun (w9 : World) (h : Below wc9.heap.size wc9 w9) => (cells2 (r_ten.out.keep h) : (w9.cell? ⟨g_ten, 0, none⟩ = some (.bool (sgn ((z : Int)))) ∧ w9.cell? ⟨g_ten, 1, none⟩ = some (.slice A_ten n_ten cap_ten))))
            have K0 := KK.out wc9 (Below.refl _ _)
            have KD := KK.out wc9.drew (below_drew (Below.refl _ _))
            go_region_held3 (fun w9 => (w9.cell? ⟨g_ten, 0, none⟩ = some (.bool (sgn ((z : Int)))) ∧ w9.cell? ⟨g_ten, 1, none⟩ = some (.slice A_ten n_ten cap_ten)))
                (first | with_reducible exact KD | with_reducible exact K0 | with_reducible exact K_w12 | with_reducible exact K_w13 | (refine KK.out _ ?_; repeat' (first | with_reducible exact Below.refl _ _ | with_reducible exact B_w12.out | with_reducible exact B_w13.out | with_reducible apply below_new | with_reducible apply below_drew | with_reducible apply below_set | omega)))
                (first
                  | (go_at_call 35
                     refine (CW.out _).mono ?_
                     rintro e w12 ⟨v_t, rfl, hb, h_t⟩
                     obtain ⟨A_t, n_t, cap_t, rfl, -⟩ := id h_t.form
                     replace h_t := Lib.hid h_t
                     have B_w12 := Lib.hid (reg_next (w0 := wc9) (by repeat (first | with_reducible exact Below.refl _ _ | with_reducible apply below_drew | with_reducible apply below_new)) hb)
                     have K_w12 := KK.out _ B_w12.out
                     obtain ⟨hc_w12, hf_w12⟩ := below_reads hb
                     have hz_w12 := hb.size
                     try simp at hz_w12
                     try (have z1_w12 := Nat.lt_of_succ_le hz_w12)
                     try (have z2_w12 := Nat.lt_of_succ_lt z1_w12)
                     have HB_w12 := Lib.hid hb
                     clear hb)
                  | (go_at_call 43
                     refine (C2.out _ _ _ (h_ten.out.below ?_) (h_t.out.below ?_)).mono ?_
                     · repeat (first | with_reducible exact Below.refl _ _ | with_reducible exact B_w12.out | with_reducible apply below_drew | with_reducible apply below_new)
                     · repeat (first | with_reducible exact Below.refl _ _ | with_reducible exact B_w12.out | with_reducible apply below_drew | with_reducible apply below_new)
                     rintro e w13 ⟨v_dd, rfl, hb, h_dd⟩
                     obtain ⟨A_dd, n_dd, cap_dd, rfl, -⟩ := id h_dd.form
                     replace h_dd := Lib.hid h_dd
                     replace h_t := Lib.hid (h_t.out.below (below_next (by repeat (first | with_reducible exact Below.refl _ _ | with_reducible apply below_new | with_reducible apply below_drew)) hb))
                     have B_w13 := Lib.hid (below_next (by repeat (first | with_reducible exact B_w12.out | with_reducible apply below_new | with_reducible apply below_drew)) hb)
                     have K_w13 := KK.out _ B_w13.out
                     obtain ⟨hc_w13, hf_w13⟩ := below_reads hb
                     have hz_w13 := hb.size
                     try simp at hz_w13
                     try (have z1_w13 := Nat.lt_of_succ_le hz_w13)
                     try (have z2_w13 := Nat.lt_of_succ_lt z1_w13)
                     have HB_w13 := Lib.hid hb
                     have y_w13_w12 := Nat.le_trans HB_w12.out.size (Nat.le_trans (by (try simp only [World.size_alloc]); omega) hb.size)
                     try simp at y_w13_w12
                     try (have z3_w13_w12 := Nat.lt_of_succ_le y_w13_w12)
                     try (have z4_w13_w12 := Nat.lt_of_succ_lt z3_w13_w12)
                     clear hb))
            all_goals clear KK K0 KD K_w12 K_w13
            all_goals go_wp2_with fail
            all_goals go_meet
            all_goals refine ⟨_, A_dd, n_dd, cap_dd, rfl, ⟨?_, ?_, ?_, ?_⟩⟩
            all_goals repeat' (first | with_reducible exact h_dd.out | with_reducible exact B_w12.out | with_reducible exact B_w13.out | with_reducible exact Below.refl _ _ | with_reducible apply below_new | with_reducible apply below_drew | (with_reducible refine below_set ?_ ?_ _) | (with_reducible refine AtB.set2 (a := .bool false) (b := .slice none 0 0) (T := 24) ?_ _ _) | (with_reducible refine AtB.set2 (a := .int .i64 0) (b := .int .u64 0) (T := 46) ?_ _ _) | (with_reducible refine AtB.far2 ?_ ?_ _ _) | (with_reducible refine BR.alloc ?_ _) | (with_reducible refine BR.far2 (a := .bool false) (b := .slice none 0 0) (T := 24) ?_ ?_ (by decide) _ _) | (with_reducible refine new_at_eq ?_ _ _; first | rfl | (simp; done)) | (with_reducible refine AtB.alloc ?_ _) | with_reducible apply AtB.drew | (with_reducible refine AtB.keep ?_ HB_w13.out) | (with_reducible refine AtB.keep ?_ HB_w12.out) | omega)
          obtain ⟨wc10, rfl⟩ : ∃ wo : World, wo = wc := ⟨_, rfl⟩
          obtain ⟨g_dd, A_dd, n_dd, cap_dd, rfl, hcut⟩ := hcut
          obtain ⟨r_dd, h_dd, hb, hge⟩ := hcut.out
          clear hcut
          replace r_dd := Lib.hid r_dd; replace h_dd := Lib.hid h_dd
          have d_dd := Lib.hid (And.intro (Nat.le_trans BB.out.size hge) (And.intro (Nat.lt_of_lt_of_le r_part.out.lt hge) (And.intro (Nat.lt_of_lt_of_le r_ten.out.lt hge) (True.intro))))
          replace r_part := Lib.hid (r_part.out.keep hb)
          replace r_ten := Lib.hid (r_ten.out.keep hb)
          replace h_part := Lib.hid (h_part.out.below hb)
          replace h_ten := Lib.hid (h_ten.out.below hb)
          replace BB := Lib.hid (below_next BB.out hb)
          clear hb hge
          clear C1 C2
          obtain ⟨c_dd0, c_dd1, f_dd0, f_dd1⟩ := reads2 r_dd.out
          have l_dd := r_dd.out.lt
          go_wp2_with fail
          refine (C5.out _ _ h_dd.out).mono ?_
          rintro e w14 ⟨rfl, hb⟩
          clear c_dd0 c_dd1 f_dd0 f_dd1 l_dd
          replace r_part := Lib.hid (r_part.out.keep hb)
          replace r_ten := Lib.hid (r_ten.out.keep hb)
          replace r_dd := Lib.hid (r_dd.out.keep hb)
          replace h_part := Lib.hid (h_part.out.below hb)
          replace h_ten := Lib.hid (h_ten.out.below hb)
          replace h_dd := Lib.hid (h_dd.out.below hb)
          replace BB := Lib.hid (below_next BB.out hb)
          clear hb
          go_upto_region 13 with fail
          have hLE := Lib.hid (show AtB w14 g_part #[.bool false, .slice A_part n_part cap_part] BT4 from r_part.out)
          have KK := Lib.hid (fun (w9 : World) (h : Below w14.heap.size w14 w9) => (⟨cells2 (r_part.out.keep h), cells2 (r_ten.out.keep h), cells2 (r_dd.out.keep h)⟩ : (w9.cell? ⟨g_part, 0, none⟩ = some (.bool false) ∧ w9.cell? ⟨g_part, 1, none⟩ = some (.slice A_part n_part cap_part)) ∧ (w9.cell? ⟨g_ten, 0, none⟩ = some (.bool (sgn ((z : Int)))) ∧ w9.cell? ⟨g_ten, 1, none⟩ = some (.slice A_ten n_ten cap_ten)) ∧ (w9.cell? ⟨g_dd, 0, none⟩ = some (.bool (sgn ((d : Int)))) ∧ w9.cell? ⟨g_dd, 1, none⟩ = some (.slice A_dd n_dd cap_dd))))
          have K0 := KK.out w14 (Below.refl _ _)
          have KD := KK.out w14.drew (below_drew (Below.refl _ _))
          refine AnyG.begin_ (fun w9 => (w9.cell? ⟨g_part, 0, none⟩ = some (.bool false) ∧ w9.cell? ⟨g_part, 1, none⟩ = some (.slice A_part n_part cap_part)) ∧ (w9.cell? ⟨g_ten, 0, none⟩ = some (.bool (sgn ((z : Int)))) ∧ w9.cell? ⟨g_ten, 1, none⟩ = some (.slice A_ten n_ten cap_ten)) ∧ (w9.cell? ⟨g_dd, 0, none⟩ = some (.bool (sgn ((d : Int)))) ∧ w9.cell? ⟨g_dd, 1, none⟩ = some (.slice A_dd n_dd cap_dd))) 5 (by kernel_rfl) ?_
          refine AnyG.take (i := 0) (v := ?_) rfl (by kernel_rfl) (by kernel_rfl) (by kernel_rfl) (fun _ _ _ h => h) (by kernel_rfl) (by kernel_rfl) (Or.inl ⟨by rfl, ?_⟩) (by assumption) ?_
          rotate_left
          · intro w9 hSw; (try dsimp only at hSw); go_simp <;> with_reducible rfl
          try simp only [Act.put, List.getElem_toArray, List.getElem_cons_zero, List.getElem_cons_succ, List.setIfInBounds_toArray, List.set_cons_zero, List.set_cons_succ]
          refine AnyG.take (i := 1) (v := ?_) rfl (by kernel_rfl) (by kernel_rfl) (by kernel_rfl) (fun _ _ _ h => h) (by kernel_rfl) (by kernel_rfl) (Or.inl ⟨by rfl, ?_⟩) (by assumption) ?_
          rotate_left
          · intro w9 hSw; (try dsimp only at hSw); go_simp <;> with_reducible rfl
          try simp only [Act.put, List.getElem_toArray, List.getElem_cons_zero, List.getElem_cons_succ, List.setIfInBounds_toArray, List.set_cons_zero, List.set_cons_succ]
          refine AnyG.step (i := 2) (by kernel_rfl) rfl (fun K hK => ?_)
          go_simp
          go_at_call 35
          refine (CW.out _).mono ?_
          rintro e w15 ⟨v_t, rfl, hb, h_t⟩
          obtain ⟨A_t, n_t, cap_t, rfl, -⟩ := id h_t.form
          replace h_t := Lib.hid h_t
          have B_w15 := Lib.hid (reg_next (w0 := w14) (by repeat (first | with_reducible exact Below.refl _ _ | with_reducible apply below_drew | with_reducible apply below_new)) hb)
          have K_w15 := KK.out _ B_w15.out
          clear hb
          refine hK.out _ _ (fun _ => K_w15) (fun hHeld => ?_)
          replace hHeld := hHeld (by decide)
          clear hK
          try simp only [Act.put, List.getElem_toArray, List.getElem_cons_zero, List.getElem_cons_succ, List.setIfInBounds_toArray, List.set_cons_zero, List.set_cons_succ]
          refine AnyG.step (i := 3) (by kernel_rfl) rfl (fun K hK => ?_)
          go_simp
          go_at_call 34
          refine (C3.out _ _ _ (h_dd.out.below B_w15.out) h_t.out).mono ?_
          rintro e w16 ⟨v_m, rfl, hb, h_m⟩
          obtain ⟨A_m, n_m, cap_m, rfl, -⟩ := id h_m.form
          replace h_m := Lib.hid h_m
          replace h_t := Lib.hid (h_t.out.below hb)
          have B_w16 := Lib.hid (below_next B_w15.out hb)
          have K_w16 := KK.out _ B_w16.out
          clear hb
          refine hK.out _ _ (fun _ => K_w16) (fun hHeld => ?_)
          replace hHeld := hHeld (by decide)
          clear hK
          try simp only [Act.put, List.getElem_toArray, List.getElem_cons_zero, List.getElem_cons_succ, List.setIfInBounds_toArray, List.set_cons_zero, List.set_cons_succ]
          refine AnyG.step (i := 4) (by kernel_rfl) rfl (fun K hK => ?_)
          go_simp
          go_at_call 14
          refine (C4.out _ _ _ (h_ten.out.below B_w16.out) h_m.out).mono ?_
          rintro e w17 ⟨v_nx, rfl, hb, h_nx⟩
          obtain ⟨A_nx, n_nx, cap_nx, rfl, -⟩ := id h_nx.form
          replace h_nx := Lib.hid h_nx
          replace h_t := Lib.hid (h_t.out.below hb)
          replace h_m := Lib.hid (h_m.out.below hb)
          have B_w17 := Lib.hid (below_next B_w16.out hb)
          have K_w17 := KK.out _ B_w17.out
          obtain ⟨rc_part0, rc_part1, rf_part0, rf_part1⟩ := reads2 (r_part.out.keep B_w17.out)
          have rl_part := (r_part.out.keep B_w17.out).lt
          clear hb
          refine hK.out _ _ (fun _ => K_w17) (fun hHeld => ?_)
          replace hHeld := hHeld (by decide)
          clear hK
          try simp only [Act.put, List.getElem_toArray, List.getElem_cons_zero, List.getElem_cons_succ, List.setIfInBounds_toArray, List.set_cons_zero, List.set_cons_succ]
          refine AnyG.step (i := 5) (by kernel_rfl) rfl (fun K hK => ?_)
          go_simp
          refine hK.out _ _ (fun h => absurd h (by decide)) (fun _ => ?_)
          clear hK
          try simp only [Act.put, List.getElem_toArray, List.getElem_cons_zero, List.getElem_cons_succ, List.setIfInBounds_toArray, List.set_cons_zero, List.set_cons_succ]
          refine AnyG.done (by kernel_rfl) ?_ _
          clear KK K0 KD K_w15 K_w16 K_w17
          replace r_part := Lib.hid (r_part.out.keep B_w17.out)
          replace r_ten := Lib.hid (r_ten.out.keep B_w17.out)
          replace r_dd := Lib.hid (r_dd.out.keep B_w17.out)
          replace h_part := Lib.hid (h_part.out.below B_w17.out)
          replace h_ten := Lib.hid (h_ten.out.below B_w17.out)
          replace h_dd := Lib.hid (h_dd.out.below B_w17.out)
          replace BB := Lib.hid (below_next BB.out B_w17.out)
          clear B_w15 B_w16 B_w17
          clear hLE
          have sg : sgn (q : Int) = false := sgn_f (by omega)
          rw [sg] at *
          replace h_nx := Lib.hid (h_nx.out.far2 r_part.out (by decide) (.bool false) (.slice A_nx n_nx cap_nx))
          replace r_part := Lib.hid (r_part.out.set2 (.bool false) (.slice A_nx n_nx cap_nx))
          replace r_ten := Lib.hid (r_ten.out.far2 (p := g_part) (by have dd_ten := d_ten.out; have dd_part := d_part.out; omega) (.bool false) (.slice A_nx n_nx cap_nx))
          replace r_dd := Lib.hid (r_dd.out.far2 (p := g_part) (by have dd_dd := d_dd.out; have dd_part := d_part.out; omega) (.bool false) (.slice A_nx n_nx cap_nx))
          replace BB := Lib.hid (below_far2 BB.out (p := g_part) (by have dd := d_part.out; omega) (.bool false) (.slice A_nx n_nx cap_nx))
          generalize ((w17.setCell ⟨g_part, 0, none⟩ (.bool false)).setCell ⟨g_part, 1, none⟩ (.slice A_nx n_nx cap_nx)) = w18 at *
          go_wp2_with fail
          go_roundw
          case rel => exact ⟨T ++ [dg], q, A_nx, n_nx, cap_nx, rfl, ⟨r_part.out, h_nx.out, hql, ⟨k + 1, hk16, hdv2.out, hdg2.out, by rw [List.length_append, hLt.out]; simp; omega⟩, BB.out⟩⟩
          case measure => have := hLt.out; simp [strLen, ByteArray.size]; omega
end Go.Proofs.YthdbchghhpoadaaDoor
