/- Contracts of the document's fractions' Sub, and of the lens' Nearer; rows of fractions built by append. -/
import Derived.Test.YthdbchghhpoadaaLnX
import Derived.Test.YthdbchghhpoadaaBl
set_option linter.unusedVariables false
set_option linter.unusedSimpArgs false
namespace Go.Proofs.Ythdbchghhpoadaa
open Go.RowKit
theorem wd_lit (n : Nat) (z : Int) (h : -(2 : Int) ^ n ≤ z ∧ z ≤ (2 : Int) ^ n) : Wd n z := h
theorem RR.mk {w : World} {A B : Option Addr} {n c m d : Nat} {p q : Int} (h1 : BR w (.agg #[.bool (sgn p), .slice A n c]) p) (h2 : BR w (.agg #[.bool (sgn q), .slice B m d]) q) : RR w (.agg #[.bool (sgn p), .slice A n c, .bool (sgn q), .slice B m d]) p q := ⟨_, _, _, _, _, _, rfl, h1, h2⟩
set_option maxHeartbeats 4000000 in
set_option maxRecDepth 100000 in
theorem rsub (u v : Value) (p q x y : Int) {a b c d : Nat} (hp : Wd a p) (hq : Wd b q) (hx : Wd c x) (hy : Wd d y) (hm : a + d ≤ 1400 ∧ b + d ≤ 1500 ∧ c + b ≤ 1400) (w : World) (hu : RR w u p q) (hv : RR w v x y) : Calls Try.prog 46 #[u, v] w (GiveR (p * y + -x * q) (q * y) w) := by
  obtain ⟨A1, n1, c1, B1, m1, d1, rfl, hp1, hq1⟩ := hu
  obtain ⟨A2, n2, c2, B2, m2, d2, rfl, hp2, hq2⟩ := hv
  have CN := Lib.hid (fun (u : Value) w (hu : BR w u x) => neg_any u x w hu)
  have CA := Lib.hid (fun (u v : Value) w hu hv => radd u v p q (-x) y hp hq hx.neg hy hm w hu hv)
  have h_a := Lib.hid (RR.mk hp1 hq1)
  have h_x := Lib.hid hp2
  have h_y := Lib.hid hq2
  clear hp hq hx hy hm hp1 hq1 hp2 hq2
  generalize p * y + -x * q = P at *
  generalize q * y = Q at *
  obtain ⟨z, hz⟩ : ∃ z, z = -x := ⟨_, rfl⟩
  rw [← hz] at CN CA
  clear hz
  have ha0 := h_a; have hx0 := h_x; have hy0 := h_y
  clear h_a h_x h_y
  go_enter Try.func46, Try.ntmps46
  go_wp2_with fail
  have BB := start3 w #[.bool (sgn p), .slice A1 n1 c1, .bool (sgn q), .slice B1 m1 d1] RT #[.bool (sgn x), .slice A2 n2 c2, .bool (sgn y), .slice B2 m2 d2] RT #[.bool false, .slice none 0 0, .bool false, .slice none 0 0] RT
  obtain ⟨BB, hsz, r_a, r_b, r_res⟩ := BB
  generalize (((w.alloc (.cells #[.bool (sgn p), .slice A1 n1 c1, .bool (sgn q), .slice B1 m1 d1] RT)).alloc (.cells #[.bool (sgn x), .slice A2 n2 c2, .bool (sgn y), .slice B2 m2 d2] RT)).alloc (.cells #[.bool false, .slice none 0 0, .bool false, .slice none 0 0] RT)) = w0 at *
  replace BB := Lib.hid BB
  replace r_a := Lib.hid r_a
  replace r_b := Lib.hid r_b
  replace r_res := Lib.hid r_res
  clear hsz
  have h_u := Lib.hid (ha0.out.below BB.out)
  have h_x := Lib.hid (hx0.out.below BB.out)
  have h_y := Lib.hid (hy0.out.below BB.out)
  have KK := Lib.hid (fun (w9 : World) (h : Below w0.heap.size w0 w9) => (⟨cells4 (r_a.out.keep h), cells4 (r_b.out.keep h)⟩ : (w9.cell? ⟨w.heap.size, 0, none⟩ = some (.bool (sgn p)) ∧ w9.cell? ⟨w.heap.size, 1, none⟩ = some (.slice A1 n1 c1) ∧ w9.cell? ⟨w.heap.size, 2, none⟩ = some (.bool (sgn q)) ∧ w9.cell? ⟨w.heap.size, 3, none⟩ = some (.slice B1 m1 d1)) ∧ (w9.cell? ⟨w.heap.size + 1, 0, none⟩ = some (.bool (sgn x)) ∧ w9.cell? ⟨w.heap.size + 1, 1, none⟩ = some (.slice A2 n2 c2) ∧ w9.cell? ⟨w.heap.size + 1, 2, none⟩ = some (.bool (sgn y)) ∧ w9.cell? ⟨w.heap.size + 1, 3, none⟩ = some (.slice B2 m2 d2))))
  have K0 := KK.out w0 (Below.refl _ _)
  have KD := KK.out w0.drew (below_drew (Below.refl _ _))
  go_region_held3 (fun w9 => (w9.cell? ⟨w.heap.size, 0, none⟩ = some (.bool (sgn p)) ∧ w9.cell? ⟨w.heap.size, 1, none⟩ = some (.slice A1 n1 c1) ∧ w9.cell? ⟨w.heap.size, 2, none⟩ = some (.bool (sgn q)) ∧ w9.cell? ⟨w.heap.size, 3, none⟩ = some (.slice B1 m1 d1)) ∧ (w9.cell? ⟨w.heap.size + 1, 0, none⟩ = some (.bool (sgn x)) ∧ w9.cell? ⟨w.heap.size + 1, 1, none⟩ = some (.slice A2 n2 c2) ∧ w9.cell? ⟨w.heap.size + 1, 2, none⟩ = some (.bool (sgn y)) ∧ w9.cell? ⟨w.heap.size + 1, 3, none⟩ = some (.slice B2 m2 d2)))
      (first | with_reducible exact KD | with_reducible exact K0 | with_reducible exact K_w1 | with_reducible exact K_w2 | with_reducible exact ⟨cells4 ((r_a.out.keep B_w2.out).far4 (by omega) _ _ _ _), cells4 ((r_b.out.keep B_w2.out).far4 (by omega) _ _ _ _)⟩)
      (first
        | (go_at_call 48
           refine (CN.out _ _ (h_x.out.below ?_)).mono ?_
           · repeat (first | with_reducible exact Below.refl _ _ | with_reducible apply below_drew | with_reducible apply below_new)
           rintro e w1 ⟨v_n, rfl, hb, h_n⟩
           obtain ⟨A_n, n_n, cap_n, rfl, -⟩ := id h_n.form
           replace h_n := Lib.hid h_n
           have B_w1 := Lib.hid (reg_next (w0 := w0) (by repeat (first | with_reducible exact Below.refl _ _ | with_reducible apply below_drew | with_reducible apply below_new)) hb)
           have K_w1 := KK.out _ B_w1.out
           clear hb)
        | (go_at_call 47
           refine (CA.out _ _ _ (h_u.out.below B_w1.out) (RR.mk h_n.out (h_y.out.below B_w1.out))).mono ?_
           rintro e w2 ⟨v_s, rfl, hb, h_s⟩
           obtain ⟨A_s, n_s, cap_s, B_s, m_s, cup_s, rfl, -, -⟩ := id h_s.form
           replace h_s := Lib.hid h_s
           replace h_n := Lib.hid (h_n.out.below hb)
           have B_w2 := Lib.hid (below_next B_w1.out hb)
           have K_w2 := KK.out _ B_w2.out
           obtain ⟨rc_res0, rc_res1, rc_res2, rc_res3, rf_res0, rf_res1, rf_res2, rf_res3⟩ := reads4 (r_res.out.keep B_w2.out)
           have rl_res := (r_res.out.keep B_w2.out).lt
           clear hb))
  clear KK K0 KD K_w1 K_w2
  replace r_a := Lib.hid (r_a.out.keep B_w2.out)
  replace r_b := Lib.hid (r_b.out.keep B_w2.out)
  replace r_res := Lib.hid (r_res.out.keep B_w2.out)
  replace h_u := Lib.hid (h_u.out.below B_w2.out)
  replace h_x := Lib.hid (h_x.out.below B_w2.out)
  replace h_y := Lib.hid (h_y.out.below B_w2.out)
  replace BB := Lib.hid (below_next BB.out B_w2.out)
  clear B_w1 B_w2
  go_wp2_with fail
  refine bodyPost_ret (v := .agg #[.bool (sgn P), .slice A_s n_s cap_s, .bool (sgn Q), .slice B_s m_s cup_s]) (by unfold results; simp only [Try.results46]; go_simp) rfl ?_
  exact give_rat BB.out h_s.out.parts.1 h_s.out.parts.2 r_res.out (by omega)
theorem cmp_lt {x y : Int} (h : x < y) : cmpI x y < 0 := by unfold cmpI; split <;> (try split) <;> omega
set_option maxRecDepth 100000 in
set_option maxHeartbeats 8000000 in
theorem rnearer (z : Int) (v : Value) (p q bnd : Int) {a b : Nat} (hp : Wd a p) (hq : Wd b q) (hm : a ≤ 850 ∧ b ≤ 800) (hz : I64 z) (hb : I64 bnd) (h1 : z * q - p < bnd * q) (h2 : p - z * q < bnd * q) (w : World) (hv : RR w v p q) :
    Calls Try.prog 23 #[.int .i64 z, v, .int .i64 bnd] w fun e w' => e = .returned (.bool true) ∧ Below w.heap.size w w' := by
  obtain ⟨A1, n1, c1, B1, m1, d1, rfl, hp1, hq1⟩ := hv
  have w1 : Wd 0 1 := wd_lit 0 1 (by decide)
  have O1 := Lib.hid (fun w => rof z 1 hz ⟨by omega, by omega⟩ w)
  have O2 := Lib.hid (fun w => rof bnd 1 hb ⟨by omega, by omega⟩ w)
  have S1 := Lib.hid (fun (u v : Value) w hu hv => rsub u v z 1 p q (i64_wd hz) w1 hp hq (by omega) w hu hv)
  have wz := i64_wd hz
  have wb := i64_wd hb
  obtain ⟨D, hD⟩ : ∃ D, D = z * q + -p * 1 := ⟨_, rfl⟩
  obtain ⟨E, hE⟩ : ∃ E, E = 1 * q := ⟨_, rfl⟩
  have wD : Wd 900 D := by rw [hD]; exact ((wz.mul hq).up (n := 899) (by omega)).add ((hp.neg.mul w1).up (n := 899) (by omega))
  have wE : Wd b E := by rw [hE, Int.one_mul]; exact hq
  rw [← hD, ← hE] at S1
  have C1 := Lib.hid (fun (u v : Value) w hu hv => rcmp u v D E bnd 1 wD wE wb w1 (by omega) w hu hv)
  have C2 := Lib.hid (fun (u v : Value) w hu hv => rcmp u v (-D) E bnd 1 wD.neg wE wb w1 (by omega) w hu hv)
  have CN := Lib.hid (fun (u : Value) w (hu : BR w u D) => neg_any u D w hu)
  have t1 : cmpI (D * 1) (bnd * E) < 0 := cmp_lt (by rw [hD, hE, Int.one_mul]; omega)
  have t2 : cmpI (-D * 1) (bnd * E) < 0 := cmp_lt (by rw [hD, hE, Int.one_mul]; omega)
  have hR := Lib.hid (RR.mk hp1 hq1)
  clear hp hq hm h1 h2 hz hb w1 hp1 hq1 hD hE wz wb wD wE
  generalize cmpI (D * 1) (bnd * E) = K1 at *
  generalize cmpI (-D * 1) (bnd * E) = K2 at *
  obtain ⟨F, hF⟩ : ∃ F, F = -D := ⟨_, rfl⟩
  rw [← hF] at CN C2
  clear hF
  have u1 : decide (K1 < 0) = true := decide_eq_true t1
  have u2 : decide (K2 < 0) = true := decide_eq_true t2
  clear t1 t2
  go_enter Try.func23, Try.ntmps23
  go_wp2_with fail
  have BB := start1 w #[.bool (sgn p), .slice A1 n1 c1, .bool (sgn q), .slice B1 m1 d1] RT
  obtain ⟨BB, hsz, r_x⟩ := BB
  generalize (w.alloc (.cells #[.bool (sgn p), .slice A1 n1 c1, .bool (sgn q), .slice B1 m1 d1] RT)) = w0 at *
  replace BB := Lib.hid BB
  replace r_x := Lib.hid r_x
  clear hsz
  have h_x := Lib.hid (hR.out.below BB.out)
  clear hR
  go_cut [7] (fun s5 wc1 => ∃ gp A3 n3 c3 B3 m3 d3, s5 = .pointer (some ⟨gp, 0, none⟩) ∧ Hid (AtB wc1 gp #[.bool (sgn (D)), .slice A3 n3 c3, .bool (sgn (E)), .slice B3 m3 d3] 54 ∧ RR wc1 (.agg #[.bool (sgn (D)), .slice A3 n3 c3, .bool (sgn (E)), .slice B3 m3 d3]) (D) (E) ∧ Below w0.heap.size w0 wc1 ∧ w0.heap.size ≤ gp))
  case first =>
    clear O2 C1 C2 CN
    have KK := Lib.hid (fun (w9 : World) (h : Below w0.heap.size w0 w9) => (cells4 (r_x.out.keep h) : (w9.cell? ⟨w.heap.size, 0, none⟩ = some (.bool (sgn p)) ∧ w9.cell? ⟨w.heap.size, 1, none⟩ = some (.slice A1 n1 c1) ∧ w9.cell? ⟨w.heap.size, 2, none⟩ = some (.bool (sgn q)) ∧ w9.cell? ⟨w.heap.size, 3, none⟩ = some (.slice B1 m1 d1))))
    have K0 := KK.out w0 (Below.refl _ _)
    have KD := KK.out w0.drew (below_drew (Below.refl _ _))
    go_region_held3 (fun w9 => (w9.cell? ⟨w.heap.size, 0, none⟩ = some (.bool (sgn p)) ∧ w9.cell? ⟨w.heap.size, 1, none⟩ = some (.slice A1 n1 c1) ∧ w9.cell? ⟨w.heap.size, 2, none⟩ = some (.bool (sgn q)) ∧ w9.cell? ⟨w.heap.size, 3, none⟩ = some (.slice B1 m1 d1)))
        (first | with_reducible exact KD | with_reducible exact K0 | with_reducible exact K_w1 | with_reducible exact K_w2 | (refine KK.out _ ?_; repeat' (first | with_reducible exact Below.refl _ _ | with_reducible exact B_w1.out | with_reducible exact B_w2.out | with_reducible apply below_new | with_reducible apply below_drew | with_reducible apply below_set | omega)))
        (first
          | (go_at_call 44
             refine (O1.out _).mono ?_
             rintro e w1 ⟨v_o, rfl, hb, h_o⟩
             obtain ⟨A_o, n_o, cap_o, B_o, m_o, cup_o, rfl, -, -⟩ := id h_o.form
             replace h_o := Lib.hid h_o
             have B_w1 := Lib.hid (reg_next (w0 := w0) (by repeat (first | with_reducible exact Below.refl _ _ | with_reducible apply below_drew | with_reducible apply below_new)) hb)
             have K_w1 := KK.out _ B_w1.out
             obtain ⟨hc_w1, hf_w1⟩ := below_reads hb
             have hz_w1 := hb.size
             try simp at hz_w1
             try (have z1_w1 := Nat.lt_of_succ_le hz_w1)
             try (have z2_w1 := Nat.lt_of_succ_lt z1_w1)
             have HB_w1 := Lib.hid hb
             clear hb)
          | (go_at_call 46
             refine (S1.out _ _ _ (h_o.out.below ?_) (h_x.out.below ?_)).mono ?_
             · repeat (first | with_reducible exact Below.refl _ _ | with_reducible exact B_w1.out | with_reducible apply below_drew | with_reducible apply below_new)
             · repeat (first | with_reducible exact Below.refl _ _ | with_reducible exact B_w1.out | with_reducible apply below_drew | with_reducible apply below_new)
             rintro e w2 ⟨v_d, rfl, hb, h_d⟩
             obtain ⟨A_d, n_d, cap_d, B_d, m_d, cup_d, rfl, -, -⟩ := id h_d.form
             replace h_d := Lib.hid h_d
             replace h_o := Lib.hid (h_o.out.below (below_next (by repeat (first | with_reducible exact Below.refl _ _ | with_reducible apply below_new | with_reducible apply below_drew)) hb))
             have B_w2 := Lib.hid (below_next (by repeat (first | with_reducible exact B_w1.out | with_reducible apply below_new | with_reducible apply below_drew)) hb)
             have K_w2 := KK.out _ B_w2.out
             obtain ⟨hc_w2, hf_w2⟩ := below_reads hb
             have hz_w2 := hb.size
             try simp at hz_w2
             try (have z1_w2 := Nat.lt_of_succ_le hz_w2)
             try (have z2_w2 := Nat.lt_of_succ_lt z1_w2)
             have HB_w2 := Lib.hid hb
             have y_w2_w1 := Nat.le_trans HB_w1.out.size (Nat.le_trans (by (try simp only [World.size_alloc]); omega) hb.size)
             try simp at y_w2_w1
             try (have z3_w2_w1 := Nat.lt_of_succ_le y_w2_w1)
             try (have z4_w2_w1 := Nat.lt_of_succ_lt z3_w2_w1)
             clear hb))
    all_goals clear KK K0 KD K_w1 K_w2
    all_goals go_wp2_with fail
    all_goals go_meet
    all_goals refine ⟨_, A_d, n_d, cap_d, B_d, m_d, cup_d, rfl, ⟨?_, ?_, ?_, ?_⟩⟩
    all_goals repeat' (first | with_reducible exact h_d.out | with_reducible exact B_w1.out | with_reducible exact B_w2.out | (with_reducible refine AtB.set4 (a := .bool false) (b := .slice none 0 0) (c := .bool false) (d := .slice none 0 0) (T := 54) ?_ _ _ _ _) | (with_reducible refine RR.alloc ?_ _) | (with_reducible refine RR.far4 (cs := #[.bool false, .slice none 0 0, .bool false, .slice none 0 0]) ?_ ?_ _ _ _ _) | with_reducible exact Below.refl _ _ | with_reducible apply below_new | with_reducible apply below_drew | (with_reducible refine below_set ?_ ?_ _) | (with_reducible refine AtB.set2 (a := .bool false) (b := .slice none 0 0) (T := 52) ?_ _ _) | (with_reducible refine AtB.set2 (a := .int .i64 0) (b := .int .u64 0) (T := 113) ?_ _ _) | (with_reducible refine AtB.far2 ?_ ?_ _ _) | (with_reducible refine BR.alloc ?_ _) | (with_reducible refine BR.far2 (a := .bool false) (b := .slice none 0 0) (T := 52) ?_ ?_ (by decide) _ _) | (with_reducible refine new_at_eq ?_ _ _; first | rfl | (simp; done)) | (with_reducible refine AtB.alloc ?_ _) | with_reducible apply AtB.drew | (with_reducible refine AtB.keep ?_ HB_w2.out) | (with_reducible refine AtB.keep ?_ HB_w1.out) | omega)
  clear O1 S1
  obtain ⟨wc1, rfl⟩ : ∃ wo : World, wo = wc := ⟨_, rfl⟩
  obtain ⟨g_d, A_d, n_d, cap_d, B_d, m_d, cup_d, rfl, hcut⟩ := hcut
  obtain ⟨r_d, h_d, hb, hge⟩ := hcut.out
  clear hcut
  replace r_d := Lib.hid r_d; replace h_d := Lib.hid h_d
  have d_d := Lib.hid (And.intro (Nat.le_trans BB.out.size hge) (And.intro (Nat.lt_of_lt_of_le r_x.out.lt hge) (True.intro)))
  clear r_x
  clear h_x
  replace BB := Lib.hid (below_next BB.out hb)
  clear hb hge
  go_wp2_with fail
  have KK := Lib.hid (fun (w9 : World) (h : Below wc1.heap.size wc1 w9) => (cells4 (r_d.out.keep h) : (w9.cell? ⟨g_d, 0, none⟩ = some (.bool (sgn (D))) ∧ w9.cell? ⟨g_d, 1, none⟩ = some (.slice A_d n_d cap_d) ∧ w9.cell? ⟨g_d, 2, none⟩ = some (.bool (sgn (E))) ∧ w9.cell? ⟨g_d, 3, none⟩ = some (.slice B_d m_d cup_d))))
  have K0 := KK.out wc1 (Below.refl _ _)
  have KD := KK.out wc1.drew (below_drew (Below.refl _ _))
  have tok0 : Hid True := trivial
  have tok1 : Hid True := trivial
  have tok3 : Hid True := trivial
  have tok4 : Hid True := trivial
  go_region_held3 (fun w9 => (w9.cell? ⟨g_d, 0, none⟩ = some (.bool (sgn (D))) ∧ w9.cell? ⟨g_d, 1, none⟩ = some (.slice A_d n_d cap_d) ∧ w9.cell? ⟨g_d, 2, none⟩ = some (.bool (sgn (E))) ∧ w9.cell? ⟨g_d, 3, none⟩ = some (.slice B_d m_d cup_d)))
      (first | with_reducible exact KD | with_reducible exact K0 | with_reducible exact K_w3 | with_reducible exact K_w4 | with_reducible exact K_w5 | with_reducible exact K_w6 | with_reducible exact K_w7)
      (first
        | (go_at_call 44
           have t_k := tok0
           refine (O2.out _).mono ?_
           rintro e w3 ⟨v_o, rfl, hb, h_o⟩
           obtain ⟨A_o, n_o, cap_o, B_o, m_o, cup_o, rfl, -, -⟩ := id h_o.form
           replace h_o := Lib.hid h_o
           have B_w3 := Lib.hid (reg_next (w0 := wc1) (by repeat (first | with_reducible exact Below.refl _ _ | with_reducible apply below_drew | with_reducible apply below_new)) hb)
           have K_w3 := KK.out _ B_w3.out
           clear hb
           clear t_k tok0)
        | (go_at_call 27
           have t_k := tok1
           refine (C1.out _ _ _ (h_d.out.below B_w3.out) h_o.out).mono ?_
           rintro e w4 ⟨rfl, hb⟩
           replace h_o := Lib.hid (h_o.out.below hb)
           have B_w4 := Lib.hid (below_next B_w3.out hb)
           have K_w4 := KK.out _ B_w4.out
           clear hb
           clear t_k tok1)
        | (go_at_call 48
           refine (CN.out _ _ (h_d.out.below B_w4.out).parts.1).mono ?_
           rintro e w5 ⟨v_n, rfl, hb, h_n⟩
           obtain ⟨A_n, n_n, cap_n, rfl, -⟩ := id h_n.form
           replace h_n := Lib.hid h_n
           replace h_o := Lib.hid (h_o.out.below hb)
           have B_w5 := Lib.hid (below_next B_w4.out hb)
           have K_w5 := KK.out _ B_w5.out
           clear hb)
        | (go_at_call 44
           have t_k := tok3
           refine (O2.out _).mono ?_
           rintro e w6 ⟨v_t, rfl, hb, h_t⟩
           obtain ⟨A_t, n_t, cap_t, B_t, m_t, cup_t, rfl, -, -⟩ := id h_t.form
           replace h_t := Lib.hid h_t
           replace h_o := Lib.hid (h_o.out.below hb)
           replace h_n := Lib.hid (h_n.out.below hb)
           have B_w6 := Lib.hid (below_next B_w5.out hb)
           have K_w6 := KK.out _ B_w6.out
           clear hb
           clear t_k tok3)
        | (go_at_call 27
           have t_k := tok4
           refine (C2.out _ _ _ (RR.mk h_n.out (h_d.out.below B_w6.out).parts.2) h_t.out).mono ?_
           rintro e w7 ⟨rfl, hb⟩
           replace h_o := Lib.hid (h_o.out.below hb)
           replace h_n := Lib.hid (h_n.out.below hb)
           replace h_t := Lib.hid (h_t.out.below hb)
           have B_w7 := Lib.hid (below_next B_w6.out hb)
           have K_w7 := KK.out _ B_w7.out
           clear hb
           clear t_k tok4))
  clear KK K0 KD K_w3 K_w4 K_w5 K_w6 K_w7
  replace r_d := Lib.hid (r_d.out.keep B_w7.out)
  replace h_d := Lib.hid (h_d.out.below B_w7.out)
  replace BB := Lib.hid (below_next BB.out B_w7.out)
  clear B_w3 B_w4 B_w5 B_w6 B_w7
  go_wp2_with fail
  go_ret
  exact ⟨rfl, BB.out⟩
/-- Two fractions that were stored into two results' boxes. -/
def GiveRR (p q x y : Int) (w : World) (e : Ending) (w' : World) : Prop := ∃ r s, e = .returned (.tuple #[r, s]) ∧ Below w.heap.size w w' ∧ RR w' r p q ∧ RR w' s x y
theorem give_rats {p q x y : Int} {w w1 : World} {A B C D : Option Addr} {n c m d n' c' m' d' g h : Nat} {cs ds : Array Value} (hb : Below w.heap.size w w1)
    (h1 : BR w1 (.agg #[.bool (sgn p), .slice A n c]) p) (h2 : BR w1 (.agg #[.bool (sgn q), .slice B m d]) q) (h3 : BR w1 (.agg #[.bool (sgn x), .slice C n' c']) x) (h4 : BR w1 (.agg #[.bool (sgn y), .slice D m' d']) y)
    (hp : AtB w1 g cs RT) (hq : AtB w1 h ds RT) (hne : h ≠ g) (hpw : w.heap.size ≤ g) (hqw : w.heap.size ≤ h) :
    GiveRR p q x y w (.returned (.tuple #[.agg #[.bool (sgn p), .slice A n c, .bool (sgn q), .slice B m d], .agg #[.bool (sgn x), .slice C n' c', .bool (sgn y), .slice D m' d']]))
      ((((((((w1.setCell ⟨g, 0, none⟩ (.bool (sgn p))).setCell ⟨g, 1, none⟩ (.slice A n c)).setCell ⟨g, 2, none⟩ (.bool (sgn q))).setCell ⟨g, 3, none⟩ (.slice B m d)).setCell ⟨h, 0, none⟩ (.bool (sgn x))).setCell ⟨h, 1, none⟩ (.slice C n' c')).setCell ⟨h, 2, none⟩ (.bool (sgn y))).setCell ⟨h, 3, none⟩ (.slice D m' d')) := by
  have k := hq.far4 hne (.bool (sgn p)) (.slice A n c) (.bool (sgn q)) (.slice B m d)
  exact ⟨_, _, rfl, below_far4 (below_far4 hb hpw _ _ _ _) hqw _ _ _ _, ⟨_, _, _, _, _, _, rfl, (h1.far4 hp (by decide) _ _ _ _).far4 k (by decide) _ _ _ _, (h2.far4 hp (by decide) _ _ _ _).far4 k (by decide) _ _ _ _⟩,
    ⟨_, _, _, _, _, _, rfl, (h3.far4 hp (by decide) _ _ _ _).far4 k (by decide) _ _ _ _, (h4.far4 hp (by decide) _ _ _ _).far4 k (by decide) _ _ _ _⟩⟩
theorem RR.app {w w8 : World} {u : Value} {p q : Int} {base n : Nat} {e : TypeId} {sz : Nat} {v : Value} {xs : List Value} {o : Obj} (h : RR w u p q) (hl : w.ownsRow base e sz v n xs) (he : e ≠ 3) (hg : (w.alloc o).grownBy w8 v.ownBlock) : RR w8 u p q := by
  obtain ⟨A, n, c, B, m, d, rfl, h1, h2⟩ := h
  exact ⟨A, n, c, B, m, d, rfl, h1.app hl he hg, h2.app hl he hg⟩
theorem info_rat : (Try.prog.info? RT).map (fun i => (i.zero, i.size, i.bytes)) = some (some (.agg #[.bool false, .slice none 0 0, .bool false, .slice none 0 0]), 4, 64) := by kernel_rfl
theorem four_new_r (w : World) (a b c d : Value) (t : TypeId) : ∀ j u, [a, b, c, d][j]? = some u → (w.alloc (.cells #[a, b, c, d] t)).cell? ((⟨w.heap.size, 0, none⟩ : Addr).add j) = some u := by
  intro j u hj
  have h : AtB (w.alloc (.cells #[a, b, c, d] t)) w.heap.size #[a, b, c, d] t := new_at w _ _
  match j, hj with
  | 0, hj => simp at hj; subst hj; exact h.cell 0 rfl
  | 1, hj => simp at hj; subst hj; exact h.cell 1 rfl
  | 2, hj => simp at hj; subst hj; exact h.cell 2 rfl
  | 3, hj => simp at hj; subst hj; exact h.cell 3 rfl
  | n + 4, hj => simp at hj
theorem four_rat (b : Bool) (A : Option Addr) (n cap : Nat) (b' : Bool) (A' : Option Addr) (n' cap' : Nat) : ∀ u ∈ [Value.bool b, .slice A n cap, .bool b', .slice A' n' cap'], u.oneCell' = true := by
  intro u hu
  simp only [List.mem_cons, List.not_mem_nil, or_false] at hu
  rcases hu with rfl | rfl | rfl | rfl <;> rfl
/-- Cells that lie side by side in a block, from its head on. -/
def KC (w : World) (g : Nat) (cs : List Value) : Prop := g < w.heap.size ∧ ∀ i v, cs[i]? = some v → w.cell? ⟨g, i, none⟩ = some v
theorem KC.below {w w1 : World} {g : Nat} {cs : List Value} (h : KC w g cs) (hb : Below w.heap.size w w1) : KC w1 g cs := ⟨Nat.lt_of_lt_of_le h.1 hb.size, fun i v hv => (hb.cell (p := ⟨g, i, none⟩) h.1).trans (h.2 i v hv)⟩
theorem row_own {w : World} {base n sz : Nat} {e : TypeId} {v : Value} {cs : List Value} (h : w.ownsRow base e sz v n cs) (h0 : 0 < n) (hl : cs.length ≤ n * sz) : ∃ g cap, v = .slice (some ⟨g, 0, none⟩) n cap ∧ n ≤ cap ∧ (cap : Int) ≤ 9223372036854775807 ∧ KC w g cs := by
  rcases h.2 with ⟨-, e⟩ | ⟨g, cap, cur, e, -, hh, hc, hm, -, ht⟩
  · omega
  · refine ⟨g, cap, e, hc, by unfold maxLen at hm; omega, heap_lt hh, fun j u hu => ?_⟩
    have hA : AtB w g cur _ := hh
    refine hA.cell _ ?_
    rw [← ht] at hu
    rw [List.getElem?_take] at hu
    split at hu
    · simpa using hu
    · cases hu
end Go.Proofs.Ythdbchghhpoadaa
