/- Walks of the document's fractions: Add, Cmp. -/
import Derived.Test.YthdbchghhpoadaaRat0
import Derived.Deep.DeepCutAuto
set_option linter.unusedVariables false
namespace Go.Proofs.Ythdbchghhpoadaa
open Go.RowKit

set_option maxHeartbeats 8000000 in
set_option maxRecDepth 100000 in
theorem radd (u v : Value) (p q x y : Int) {a b c d : Nat} (hp : Wd a p) (hq : Wd b q) (hx : Wd c x) (hy : Wd d y) (hm : a + d ≤ 1400 ∧ b + d ≤ 1500 ∧ c + b ≤ 1400) (w : World) (hu : RR w u p q) (hv : RR w v x y) : Calls Try.prog 47 #[u, v] w (GiveR (p * y + x * q) (q * y) w) := by
  obtain ⟨A1, n1, c1, B1, m1, d1, rfl, hp1, hq1⟩ := hu
  obtain ⟨A2, n2, c2, B2, m2, d2, rfl, hp2, hq2⟩ := hv
  have w1 := hp.mul hy
  have w2 := hx.mul hq
  have C1 := Lib.hid (fun (u v : Value) w (hu : BR w u p) (hv : BR w v y) => mul_any u v p y w hu hv (hp.mid (by omega)) (hy.mid (by omega)))
  have C2 := Lib.hid (fun (u v : Value) w (hu : BR w u x) (hv : BR w v q) => mul_any u v x q w hu hv (hx.mid (by omega)) (hq.mid (by omega)))
  have C3 := Lib.hid (fun (u v : Value) w (hu : BR w u (p * y)) (hv : BR w v (x * q)) => add_any u v _ _ w hu hv (w1.mid (by omega)) (w2.mid (by omega)))
  have C4 := Lib.hid (fun (u v : Value) w (hu : BR w u q) (hv : BR w v y) => mul_any u v q y w hu hv (hq.mid (by omega)) (hy.mid (by omega)))
  replace hp1 := Lib.hid hp1; replace hq1 := Lib.hid hq1; replace hp2 := Lib.hid hp2; replace hq2 := Lib.hid hq2
  clear hp hq hx hy hm w1 w2
  generalize p * y + x * q = N at *
  generalize q * y = D at *
  generalize p * y = E at *
  generalize x * q = F at *
  go_enter Try.func47, Try.ntmps47
  go_wp2_with fail
  have BB := start3 w #[.bool (sgn p), .slice A1 n1 c1, .bool (sgn q), .slice B1 m1 d1] RT #[.bool (sgn x), .slice A2 n2 c2, .bool (sgn y), .slice B2 m2 d2] RT #[.bool false, .slice none 0 0, .bool false, .slice none 0 0] RT
  obtain ⟨BB, hsz, r_a, r_b, r_res⟩ := BB
  generalize (((w.alloc (.cells #[.bool (sgn p), .slice A1 n1 c1, .bool (sgn q), .slice B1 m1 d1] RT)).alloc (.cells #[.bool (sgn x), .slice A2 n2 c2, .bool (sgn y), .slice B2 m2 d2] RT)).alloc (.cells #[.bool false, .slice none 0 0, .bool false, .slice none 0 0] RT)) = w0 at *
  replace BB := Lib.hid BB
  replace r_a := Lib.hid r_a
  replace r_b := Lib.hid r_b
  replace r_res := Lib.hid r_res
  clear hsz
  have h_p := Lib.hid (hp1.out.below BB.out)
  have h_q := Lib.hid (hq1.out.below BB.out)
  have h_x := Lib.hid (hp2.out.below BB.out)
  have h_y := Lib.hid (hq2.out.below BB.out)
  clear hp1 hq1 hp2 hq2
  go_cut [5] (fun s5 wc => ∃ gp A3 n3 c3, s5 = .pointer (some ⟨gp, 0, none⟩) ∧
    Hid (AtB wc gp #[.bool (sgn N), .slice A3 n3 c3] 52 ∧ BR wc (.agg #[.bool (sgn N), .slice A3 n3 c3]) N ∧ Below w0.heap.size w0 wc ∧ w0.heap.size ≤ gp))
  case first =>
    clear C4
    have KK := Lib.hid (fun (w9 : World) (h : Below w0.heap.size w0 w9) => (⟨cells4 (r_a.out.keep h), cells4 (r_b.out.keep h)⟩ : (w9.cell? ⟨w.heap.size, 0, none⟩ = some (.bool (sgn p)) ∧ w9.cell? ⟨w.heap.size, 1, none⟩ = some (.slice A1 n1 c1) ∧ w9.cell? ⟨w.heap.size, 2, none⟩ = some (.bool (sgn q)) ∧ w9.cell? ⟨w.heap.size, 3, none⟩ = some (.slice B1 m1 d1)) ∧ (w9.cell? ⟨w.heap.size + 1, 0, none⟩ = some (.bool (sgn x)) ∧ w9.cell? ⟨w.heap.size + 1, 1, none⟩ = some (.slice A2 n2 c2) ∧ w9.cell? ⟨w.heap.size + 1, 2, none⟩ = some (.bool (sgn y)) ∧ w9.cell? ⟨w.heap.size + 1, 3, none⟩ = some (.slice B2 m2 d2))))
    have K0 := KK.out w0 (Below.refl _ _)
    have KD := KK.out w0.drew (below_drew (Below.refl _ _))
    have tok0 : Hid True := trivial
    have tok1 : Hid True := trivial
    go_region_held3 (fun w9 => (w9.cell? ⟨w.heap.size, 0, none⟩ = some (.bool (sgn p)) ∧ w9.cell? ⟨w.heap.size, 1, none⟩ = some (.slice A1 n1 c1) ∧ w9.cell? ⟨w.heap.size, 2, none⟩ = some (.bool (sgn q)) ∧ w9.cell? ⟨w.heap.size, 3, none⟩ = some (.slice B1 m1 d1)) ∧ (w9.cell? ⟨w.heap.size + 1, 0, none⟩ = some (.bool (sgn x)) ∧ w9.cell? ⟨w.heap.size + 1, 1, none⟩ = some (.slice A2 n2 c2) ∧ w9.cell? ⟨w.heap.size + 1, 2, none⟩ = some (.bool (sgn y)) ∧ w9.cell? ⟨w.heap.size + 1, 3, none⟩ = some (.slice B2 m2 d2)))
        (first | with_reducible exact KD | with_reducible exact K0 | with_reducible exact K_w1 | with_reducible exact K_w2 | with_reducible exact K_w3 | (refine KK.out _ ?_; repeat' (first | with_reducible exact Below.refl _ _ | with_reducible exact B_w1.out | with_reducible exact B_w2.out | with_reducible exact B_w3.out | with_reducible apply below_new | with_reducible apply below_drew | with_reducible apply below_set | omega)))
        (first
          | (go_at_call 58
             have t_k := tok0
             refine (C1.out _ _ _ (h_p.out.below ?_) (h_y.out.below ?_)).mono ?_
             · repeat (first | with_reducible exact Below.refl _ _ | with_reducible apply below_drew | with_reducible apply below_new)
             · repeat (first | with_reducible exact Below.refl _ _ | with_reducible apply below_drew | with_reducible apply below_new)
             rintro e w1 ⟨v_e, rfl, hb, h_e⟩
             obtain ⟨A_e, n_e, cap_e, rfl, -⟩ := id h_e.form
             replace h_e := Lib.hid h_e
             have B_w1 := Lib.hid (reg_next (w0 := w0) (by repeat (first | with_reducible exact Below.refl _ _ | with_reducible apply below_drew | with_reducible apply below_new)) hb)
             have K_w1 := KK.out _ B_w1.out
             obtain ⟨hc_w1, hf_w1⟩ := below_reads hb
             have hz_w1 := hb.size
             try simp at hz_w1
             try (have z1_w1 := Nat.lt_of_succ_le hz_w1)
             try (have z2_w1 := Nat.lt_of_succ_lt z1_w1)
             have HB_w1 := Lib.hid hb
             clear hb
             clear t_k tok0)
          | (go_at_call 58
             have t_k := tok1
             refine (C2.out _ _ _ (h_x.out.below ?_) (h_q.out.below ?_)).mono ?_
             · repeat (first | with_reducible exact Below.refl _ _ | with_reducible exact B_w1.out | with_reducible apply below_drew | with_reducible apply below_new)
             · repeat (first | with_reducible exact Below.refl _ _ | with_reducible exact B_w1.out | with_reducible apply below_drew | with_reducible apply below_new)
             rintro e w2 ⟨v_f, rfl, hb, h_f⟩
             obtain ⟨A_f, n_f, cap_f, rfl, -⟩ := id h_f.form
             replace h_f := Lib.hid h_f
             replace h_e := Lib.hid (h_e.out.below (below_next (by repeat (first | with_reducible exact Below.refl _ _ | with_reducible apply below_new | with_reducible apply below_drew)) hb))
             have B_w2 := Lib.hid (below_next (by repeat (first | with_reducible exact B_w1.out | with_reducible apply below_new | with_reducible apply below_drew)) hb)
             have K_w2 := KK.out _ B_w2.out
             obtain ⟨hc_w2, hf_w2⟩ := below_reads hb
             have hz_w2 := hb.size
             try simp at hz_w2
             try (have z1_w2 := Nat.lt_of_succ_le hz_w2)
             try (have z2_w2 := Nat.lt_of_succ_lt z1_w2)
             have HB_w2 := Lib.hid hb
             have y_w2_w1 := Nat.le_trans HB_w1.out.size (Nat.le_trans (by (try simp only [World.size_alloc]); omega) hb.size)
             try simp at y_w2_w1
             try (have z3_w2_w1 := Nat.lt_of_succ_le y_w2_w1)
             try (have z4_w2_w1 := Nat.lt_of_succ_lt z3_w2_w1)
             clear hb
             clear t_k tok1)
          | (go_at_call 76
             refine (C3.out _ _ _ (h_e.out.below ?_) (h_f.out.below ?_)).mono ?_
             · repeat (first | with_reducible exact Below.refl _ _ | with_reducible exact B_w2.out | with_reducible apply below_drew | with_reducible apply below_new)
             · repeat (first | with_reducible exact Below.refl _ _ | with_reducible exact B_w2.out | with_reducible apply below_drew | with_reducible apply below_new)
             rintro e w3 ⟨v_n, rfl, hb, h_n⟩
             obtain ⟨A_n, n_n, cap_n, rfl, -⟩ := id h_n.form
             replace h_n := Lib.hid h_n
             replace h_e := Lib.hid (h_e.out.below (below_next (by repeat (first | with_reducible exact Below.refl _ _ | with_reducible apply below_new | with_reducible apply below_drew)) hb))
             replace h_f := Lib.hid (h_f.out.below (below_next (by repeat (first | with_reducible exact Below.refl _ _ | with_reducible apply below_new | with_reducible apply below_drew)) hb))
             have B_w3 := Lib.hid (below_next (by repeat (first | with_reducible exact B_w2.out | with_reducible apply below_new | with_reducible apply below_drew)) hb)
             have K_w3 := KK.out _ B_w3.out
             obtain ⟨hc_w3, hf_w3⟩ := below_reads hb
             have hz_w3 := hb.size
             try simp at hz_w3
             try (have z1_w3 := Nat.lt_of_succ_le hz_w3)
             try (have z2_w3 := Nat.lt_of_succ_lt z1_w3)
             have HB_w3 := Lib.hid hb
             have y_w3_w1 := Nat.le_trans HB_w1.out.size (Nat.le_trans (by (try simp only [World.size_alloc]); omega) hb.size)
             try simp at y_w3_w1
             try (have z3_w3_w1 := Nat.lt_of_succ_le y_w3_w1)
             try (have z4_w3_w1 := Nat.lt_of_succ_lt z3_w3_w1)
             have y_w3_w2 := Nat.le_trans HB_w2.out.size (Nat.le_trans (by (try simp only [World.size_alloc]); omega) hb.size)
             try simp at y_w3_w2
             try (have z3_w3_w2 := Nat.lt_of_succ_le y_w3_w2)
             try (have z4_w3_w2 := Nat.lt_of_succ_lt z3_w3_w2)
             clear hb))
    all_goals clear KK K0 KD K_w1 K_w2 K_w3
    all_goals go_wp2_with fail
    all_goals go_meet
    all_goals refine ⟨_, A_n, n_n, cap_n, rfl, ⟨?_, ?_, ?_, ?_⟩⟩
    all_goals repeat' (first | with_reducible exact h_n.out | with_reducible exact B_w1.out | with_reducible exact B_w2.out | with_reducible exact B_w3.out | with_reducible exact Below.refl _ _ | with_reducible apply below_new | with_reducible apply below_drew | (with_reducible refine below_set ?_ ?_ _) | (with_reducible refine AtB.set2 (a := .bool false) (b := .slice none 0 0) (T := 52) ?_ _ _) | (with_reducible refine AtB.set2 (a := .int .i64 0) (b := .int .u64 0) (T := 113) ?_ _ _) | (with_reducible refine AtB.far2 ?_ ?_ _ _) | (with_reducible refine BR.alloc ?_ _) | (with_reducible refine BR.far2 (a := .bool false) (b := .slice none 0 0) (T := 52) ?_ ?_ (by decide) _ _) | (with_reducible refine new_at_eq ?_ _ _; first | rfl | (simp; done)) | (with_reducible refine AtB.alloc ?_ _) | with_reducible apply AtB.drew | (with_reducible refine AtB.keep ?_ HB_w3.out) | (with_reducible refine AtB.keep ?_ HB_w2.out) | (with_reducible refine AtB.keep ?_ HB_w1.out) | omega)
  case rest =>
    obtain ⟨gp, A3', n3, c3, rfl, hcut⟩ := hcut
    obtain ⟨r_n, h_n, hb, hge⟩ := hcut.out
    clear hcut
    replace r_n := Lib.hid r_n; replace h_n := Lib.hid h_n
    have d_n := Lib.hid (show w.heap.size + 2 < gp from Nat.lt_of_lt_of_le r_res.out.lt hge)
    replace r_a := Lib.hid (r_a.out.keep hb); replace r_b := Lib.hid (r_b.out.keep hb); replace r_res := Lib.hid (r_res.out.keep hb); replace h_q := Lib.hid (h_q.out.below hb); replace h_y := Lib.hid (h_y.out.below hb)
    replace BB := Lib.hid (below_next BB.out hb)
    clear hb hge C1 C2 C3
    go_wp2_with fail
    have KK := Lib.hid (fun (w9 : World) (h : Below wc.heap.size wc w9) => (⟨cells4 (r_a.out.keep h), cells4 (r_b.out.keep h), cells2 (r_n.out.keep h)⟩ : (w9.cell? ⟨w.heap.size, 0, none⟩ = some (.bool (sgn p)) ∧ w9.cell? ⟨w.heap.size, 1, none⟩ = some (.slice A1 n1 c1) ∧ w9.cell? ⟨w.heap.size, 2, none⟩ = some (.bool (sgn q)) ∧ w9.cell? ⟨w.heap.size, 3, none⟩ = some (.slice B1 m1 d1)) ∧ (w9.cell? ⟨w.heap.size + 1, 0, none⟩ = some (.bool (sgn x)) ∧ w9.cell? ⟨w.heap.size + 1, 1, none⟩ = some (.slice A2 n2 c2) ∧ w9.cell? ⟨w.heap.size + 1, 2, none⟩ = some (.bool (sgn y)) ∧ w9.cell? ⟨w.heap.size + 1, 3, none⟩ = some (.slice B2 m2 d2)) ∧ (w9.cell? ⟨gp, 0, none⟩ = some (.bool (sgn N)) ∧ w9.cell? ⟨gp, 1, none⟩ = some (.slice A3' n3 c3))))
    have K0 := KK.out wc (Below.refl _ _)
    have KD := KK.out wc.drew (below_drew (Below.refl _ _))
    go_region_held3 (fun w9 => (w9.cell? ⟨w.heap.size, 0, none⟩ = some (.bool (sgn p)) ∧ w9.cell? ⟨w.heap.size, 1, none⟩ = some (.slice A1 n1 c1) ∧ w9.cell? ⟨w.heap.size, 2, none⟩ = some (.bool (sgn q)) ∧ w9.cell? ⟨w.heap.size, 3, none⟩ = some (.slice B1 m1 d1)) ∧ (w9.cell? ⟨w.heap.size + 1, 0, none⟩ = some (.bool (sgn x)) ∧ w9.cell? ⟨w.heap.size + 1, 1, none⟩ = some (.slice A2 n2 c2) ∧ w9.cell? ⟨w.heap.size + 1, 2, none⟩ = some (.bool (sgn y)) ∧ w9.cell? ⟨w.heap.size + 1, 3, none⟩ = some (.slice B2 m2 d2)) ∧ (w9.cell? ⟨gp, 0, none⟩ = some (.bool (sgn N)) ∧ w9.cell? ⟨gp, 1, none⟩ = some (.slice A3' n3 c3)))
        (first | with_reducible exact KD | with_reducible exact K0 | with_reducible exact K_w4 | with_reducible exact ⟨cells4 ((r_a.out.keep B_w4.out).far4 (by omega) _ _ _ _), cells4 ((r_b.out.keep B_w4.out).far4 (by omega) _ _ _ _), cells2 ((r_n.out.keep B_w4.out).far4 (by have dd_n := d_n.out; omega) _ _ _ _)⟩)
        (first
          | (go_at_call 58
             refine (C4.out _ _ _ (h_q.out.below ?_) (h_y.out.below ?_)).mono ?_
             · repeat (first | with_reducible exact Below.refl _ _ | with_reducible apply below_drew | with_reducible apply below_new)
             · repeat (first | with_reducible exact Below.refl _ _ | with_reducible apply below_drew | with_reducible apply below_new)
             rintro e w4 ⟨v_d, rfl, hb, h_d⟩
             obtain ⟨A_d, n_d, cap_d, rfl, -⟩ := id h_d.form
             replace h_d := Lib.hid h_d
             have B_w4 := Lib.hid (reg_next (w0 := wc) (by repeat (first | with_reducible exact Below.refl _ _ | with_reducible apply below_drew | with_reducible apply below_new)) hb)
             have K_w4 := KK.out _ B_w4.out
             obtain ⟨rc_res0, rc_res1, rc_res2, rc_res3, rf_res0, rf_res1, rf_res2, rf_res3⟩ := reads4 (r_res.out.keep B_w4.out)
             have rl_res := (r_res.out.keep B_w4.out).lt
             clear hb))
    clear KK K0 KD K_w4
    replace r_a := Lib.hid (r_a.out.keep B_w4.out)
    replace r_b := Lib.hid (r_b.out.keep B_w4.out)
    replace r_res := Lib.hid (r_res.out.keep B_w4.out)
    replace r_n := Lib.hid (r_n.out.keep B_w4.out)
    replace h_n := Lib.hid (h_n.out.below B_w4.out)
    replace h_q := Lib.hid (h_q.out.below B_w4.out)
    replace h_y := Lib.hid (h_y.out.below B_w4.out)
    replace BB := Lib.hid (below_next BB.out B_w4.out)
    clear B_w4
    go_wp2_with fail
    refine bodyPost_ret (v := .agg #[.bool (sgn N), .slice A3' n3 c3, .bool (sgn D), .slice A_d n_d cap_d]) (by unfold results; simp only [Try.results47]; go_simp) rfl ?_
    exact give_rat BB.out h_n.out h_d.out r_res.out (by omega)

set_option maxHeartbeats 4000000 in
set_option maxRecDepth 100000 in
theorem rcmp (u v : Value) (p q x y : Int) {a b c d : Nat} (hp : Wd a p) (hq : Wd b q) (hx : Wd c x) (hy : Wd d y) (hm : a + d ≤ 1400 ∧ b + d ≤ 1500 ∧ c + b ≤ 1400) (w : World) (hu : RR w u p q) (hv : RR w v x y) :
    Calls Try.prog 27 #[u, v] w fun e w' => e = .returned (.int .i64 (cmpI (p * y) (x * q))) ∧ Below w.heap.size w w' := by
  obtain ⟨A1, n1, c1, B1, m1, d1, rfl, hp1, hq1⟩ := hu
  obtain ⟨A2, n2, c2, B2, m2, d2, rfl, hp2, hq2⟩ := hv
  have w1 := hp.mul hy
  have w2 := hx.mul hq
  have C1 := Lib.hid (fun (u v : Value) w (hu : BR w u p) (hv : BR w v y) => mul_any u v p y w hu hv (hp.mid (by omega)) (hy.mid (by omega)))
  have C2 := Lib.hid (fun (u v : Value) w (hu : BR w u x) (hv : BR w v q) => mul_any u v x q w hu hv (hx.mid (by omega)) (hq.mid (by omega)))
  have C3 := Lib.hid (fun (u v : Value) w (hu : BR w u (p * y)) (hv : BR w v (x * q)) => cmp_any u v _ _ w hu hv (w1.mid (by omega)) (w2.mid (by omega)))
  replace hp1 := Lib.hid hp1; replace hq1 := Lib.hid hq1; replace hp2 := Lib.hid hp2; replace hq2 := Lib.hid hq2
  clear hp hq hx hy hm w1 w2
  generalize p * y = E at *
  generalize x * q = F at *
  go_enter Try.func27, Try.ntmps27
  go_wp2_with fail
  have BB := start2 w #[.bool (sgn p), .slice A1 n1 c1, .bool (sgn q), .slice B1 m1 d1] RT #[.bool (sgn x), .slice A2 n2 c2, .bool (sgn y), .slice B2 m2 d2] RT
  obtain ⟨BB, hsz, r_a, r_b⟩ := BB
  generalize ((w.alloc (.cells #[.bool (sgn p), .slice A1 n1 c1, .bool (sgn q), .slice B1 m1 d1] RT)).alloc (.cells #[.bool (sgn x), .slice A2 n2 c2, .bool (sgn y), .slice B2 m2 d2] RT)) = w0 at *
  replace BB := Lib.hid BB
  replace r_a := Lib.hid r_a
  replace r_b := Lib.hid r_b
  clear hsz
  have h_p := Lib.hid (hp1.out.below BB.out)
  have h_q := Lib.hid (hq1.out.below BB.out)
  have h_x := Lib.hid (hp2.out.below BB.out)
  have h_y := Lib.hid (hq2.out.below BB.out)
  clear hp1 hq1 hp2 hq2
  have KK := Lib.hid (fun (w9 : World) (h : Below w0.heap.size w0 w9) => (⟨cells4 (r_a.out.keep h), cells4 (r_b.out.keep h)⟩ : (w9.cell? ⟨w.heap.size, 0, none⟩ = some (.bool (sgn p)) ∧ w9.cell? ⟨w.heap.size, 1, none⟩ = some (.slice A1 n1 c1) ∧ w9.cell? ⟨w.heap.size, 2, none⟩ = some (.bool (sgn q)) ∧ w9.cell? ⟨w.heap.size, 3, none⟩ = some (.slice B1 m1 d1)) ∧ (w9.cell? ⟨w.heap.size + 1, 0, none⟩ = some (.bool (sgn x)) ∧ w9.cell? ⟨w.heap.size + 1, 1, none⟩ = some (.slice A2 n2 c2) ∧ w9.cell? ⟨w.heap.size + 1, 2, none⟩ = some (.bool (sgn y)) ∧ w9.cell? ⟨w.heap.size + 1, 3, none⟩ = some (.slice B2 m2 d2))))
  have K0 := KK.out w0 (Below.refl _ _)
  have KD := KK.out w0.drew (below_drew (Below.refl _ _))
  have tok0 : Hid True := trivial
  have tok1 : Hid True := trivial
  go_region_held3 (fun w9 => (w9.cell? ⟨w.heap.size, 0, none⟩ = some (.bool (sgn p)) ∧ w9.cell? ⟨w.heap.size, 1, none⟩ = some (.slice A1 n1 c1) ∧ w9.cell? ⟨w.heap.size, 2, none⟩ = some (.bool (sgn q)) ∧ w9.cell? ⟨w.heap.size, 3, none⟩ = some (.slice B1 m1 d1)) ∧ (w9.cell? ⟨w.heap.size + 1, 0, none⟩ = some (.bool (sgn x)) ∧ w9.cell? ⟨w.heap.size + 1, 1, none⟩ = some (.slice A2 n2 c2) ∧ w9.cell? ⟨w.heap.size + 1, 2, none⟩ = some (.bool (sgn y)) ∧ w9.cell? ⟨w.heap.size + 1, 3, none⟩ = some (.slice B2 m2 d2)))
      (first | with_reducible exact KD | with_reducible exact K0 | with_reducible exact K_w1 | with_reducible exact K_w2 | with_reducible exact K_w3)
      (first
        | (go_at_call 58
           have t_k := tok0
           refine (C1.out _ _ _ (h_p.out.below ?_) (h_y.out.below ?_)).mono ?_
           · repeat (first | with_reducible exact Below.refl _ _ | with_reducible apply below_drew | with_reducible apply below_new)
           · repeat (first | with_reducible exact Below.refl _ _ | with_reducible apply below_drew | with_reducible apply below_new)
           rintro e w1 ⟨v_e, rfl, hb, h_e⟩
           obtain ⟨A_e, n_e, cap_e, rfl, -⟩ := id h_e.form
           replace h_e := Lib.hid h_e
           have B_w1 := Lib.hid (reg_next (w0 := w0) (by repeat (first | with_reducible exact Below.refl _ _ | with_reducible apply below_drew | with_reducible apply below_new)) hb)
           have K_w1 := KK.out _ B_w1.out
           clear hb
           clear t_k tok0)
        | (go_at_call 58
           have t_k := tok1
           refine (C2.out _ _ _ (h_x.out.below B_w1.out) (h_q.out.below B_w1.out)).mono ?_
           rintro e w2 ⟨v_f, rfl, hb, h_f⟩
           obtain ⟨A_f, n_f, cap_f, rfl, -⟩ := id h_f.form
           replace h_f := Lib.hid h_f
           replace h_e := Lib.hid (h_e.out.below hb)
           have B_w2 := Lib.hid (below_next B_w1.out hb)
           have K_w2 := KK.out _ B_w2.out
           clear hb
           clear t_k tok1)
        | (go_at_call 57
           refine (C3.out _ _ _ h_e.out h_f.out).mono ?_
           rintro e w3 ⟨rfl, hb⟩
           replace h_e := Lib.hid (h_e.out.below hb)
           replace h_f := Lib.hid (h_f.out.below hb)
           have B_w3 := Lib.hid (below_next B_w2.out hb)
           have K_w3 := KK.out _ B_w3.out
           clear hb))
  clear KK K0 KD K_w1 K_w2 K_w3
  replace r_a := Lib.hid (r_a.out.keep B_w3.out)
  replace r_b := Lib.hid (r_b.out.keep B_w3.out)
  replace h_p := Lib.hid (h_p.out.below B_w3.out)
  replace h_q := Lib.hid (h_q.out.below B_w3.out)
  replace h_x := Lib.hid (h_x.out.below B_w3.out)
  replace h_y := Lib.hid (h_y.out.below B_w3.out)
  replace BB := Lib.hid (below_next BB.out B_w3.out)
  clear B_w1 B_w2 B_w3
  go_wp2_with fail
  go_ret
  exact ⟨rfl, BB.out⟩

end Go.Proofs.Ythdbchghhpoadaa
