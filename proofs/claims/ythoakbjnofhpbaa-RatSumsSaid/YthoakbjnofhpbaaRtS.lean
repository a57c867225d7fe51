/- The walk of RatSums. -/
import Derived.Test.YthoakbjnofhpbaaRtO
set_option linter.unusedVariables false
set_option linter.unusedSimpArgs false
namespace Go.Proofs.Ythoakbjnofhpbaa
open Go.RowKit
theorem br_abs {w : World} {z : Int} {A : Option Addr} {n cap : Nat} (h : BR w (.agg #[.bool (sgn z), .slice A n cap]) z) : BR w (.agg #[.bool (sgn (z.natAbs : Int)), .slice A n cap]) (z.natAbs : Int) := by
  obtain ⟨s, e, hn⟩ := h
  simp at e
  subst e
  exact ⟨_, rfl, by simpa using hn⟩
theorem br_len {w : World} {z : Int} {s : Bool} {A : Option Addr} {n cap : Nat} (h : BR w (.agg #[.bool s, .slice A n cap]) z) : n = 0 ↔ z = 0 := by
  obtain ⟨s', e, hn⟩ := h
  obtain ⟨A', n', cap', e', hz⟩ := hn.form
  subst e'
  simp at e
  obtain ⟨-, -, rfl, -⟩ := e
  rw [hz]; omega
theorem sgn_abs (z : Int) : sgn (z.natAbs : Int) = false := sgn_f (by omega)
theorem fdiv_rem {a b : Int} : a - a.fdiv b * b = a.fmod b := by rw [Int.fmod_def, Int.mul_comm]
set_option maxRecDepth 100000 in
set_option maxHeartbeats 8000000 in
theorem r3gcd : ∀ (N : Nat) (u v : Value) (a b : Int) (w : World), BR w u a → BR w v b → 0 ≤ a → 0 ≤ b → b < N → Wd 300 a → Wd 300 b → Calls Try.prog 149 #[u, v] w (GiveB (Int.gcd a b : Int) w)
  | 0, u, v, a, b, w, hu, hv, ha, hb, hN, wa, wb => absurd hN (by omega)
  | N + 1, u, v, a, b, w, hu, hv, ha, hb, hN, wa, wb => by
    obtain ⟨A, n, cap, rfl, -⟩ := id hu.form
    obtain ⟨A', n', cap', rfl, -⟩ := id hv.form
    have hl := br_len hv
    by_cases h0 : b = 0
    · obtain rfl : n' = 0 := hl.2 h0
      have e : (Int.gcd a b : Int) = a := by rw [h0]; simp; omega
      have es : sgn a = false := sgn_f ha
      rw [e]
      rw [es] at hu ⊢
      replace hu := Lib.hid hu
      clear hl hN wa wb hv h0 e ha hb
      generalize sgn b = sb at *
      go_enter Try.func149, Try.ntmps149
      go_wp2
      refine bodyPost_ret (v := .agg #[.bool false, .slice A n cap]) (by unfold results; simp only [Try.results149]; go_simp) rfl ?_
      exact ⟨_, rfl, by repeat (first | exact Below.refl _ _ | apply below_new), hu.out.below (by repeat (first | exact Below.refl _ _ | apply below_new))⟩
    · have hn' : ¬ n' = 0 := fun k => h0 (hl.1 k)
      have hm0 := Int.emod_nonneg a h0
      have hm1 := Int.emod_lt_of_pos a (show 0 < b by omega)
      have ef : a - a.fdiv b * b = a % b := by rw [fdiv_rem, Int.fmod_eq_emod_of_nonneg _ hb]
      have wq : Wd 301 (a.fdiv b) := wa.fdiv
      have wm := wq.mul wb
      have C1 := Lib.hid (fun (u v : Value) w (hu : BR w u a) (hv : BR w v b) => floor_any u v a b w hu hv (wa.mid (by omega)) (wb.low (by omega)) h0)
      have C2 := Lib.hid (fun (u v : Value) w (hu : BR w u (a.fdiv b)) (hv : BR w v b) => mul_any u v (a.fdiv b) b w hu hv (wq.mid (by omega)) (wb.mid (by omega)))
      have C3 := Lib.hid (fun (u v : Value) w (hu : BR w u a) (hv : BR w v (a.fdiv b * b)) => sub_any u v a (a.fdiv b * b) w hu hv (wa.mid (by omega)) (wm.mid (by omega)))
      rw [ef] at C3
      have C4 := Lib.hid (fun (u v : Value) w (hu : BR w u b) (hv : BR w v (a % b)) => r3gcd N u v b (a % b) w hu hv hb hm0 (by omega) wb (by
        have h1 : a % b ≤ b := by omega
        unfold Wd at *; omega))
      rw [gcd_step ha hb] at C4
      replace hu := Lib.hid hu; replace hv := Lib.hid hv
      have hnn : ¬ (n' : Int) = 0 := by omega
      generalize (Int.gcd a b : Int) = G at *
      generalize a.fdiv b * b = P at *
      generalize a.fdiv b = Q at *
      generalize a % b = M at *
      clear hl hN wa wb ef wq wm hm0 hm1 h0 ha hb
      go_enter Try.func149, Try.ntmps149
      go_wp2_with fail
      have BB := start3 w #[.bool (sgn a), .slice A n cap] BT #[.bool (sgn b), .slice A' n' cap'] BT #[.bool false, .slice none 0 0] BT
      obtain ⟨BB, hsz, r_a, r_b, r_res⟩ := BB
      generalize (((w.alloc (.cells #[.bool (sgn a), .slice A n cap] BT)).alloc (.cells #[.bool (sgn b), .slice A' n' cap'] BT)).alloc (.cells #[.bool false, .slice none 0 0] BT)) = w0 at *
      replace BB := Lib.hid BB
      replace r_a := Lib.hid r_a
      replace r_b := Lib.hid r_b
      replace r_res := Lib.hid r_res
      clear hsz
      have h_a := Lib.hid (hu.out.below BB.out)
      have h_b := Lib.hid (hv.out.below BB.out)
      obtain ⟨c_a0, c_a1, f_a0, f_a1⟩ := reads2 r_a.out
      have l_a := r_a.out.lt
      obtain ⟨c_b0, c_b1, f_b0, f_b1⟩ := reads2 r_b.out
      have l_b := r_b.out.lt
      go_wp2_with fail
      clear c_a0 c_a1 f_a0 f_a1 l_a c_b0 c_b1 f_b0 f_b1 l_b
      have KK := Lib.hid (fun (w9 : World) (h : Below w0.heap.size w0 w9) => (⟨cells2 (r_a.out.keep h), cells2 (r_b.out.keep h)⟩ : (w9.cell? ⟨w.heap.size, 0, none⟩ = some (.bool (sgn a)) ∧ w9.cell? ⟨w.heap.size, 1, none⟩ = some (.slice A n cap)) ∧ (w9.cell? ⟨w.heap.size + 1, 0, none⟩ = some (.bool (sgn b)) ∧ w9.cell? ⟨w.heap.size + 1, 1, none⟩ = some (.slice A' n' cap'))))
      have K0 := KK.out w0 (Below.refl _ _)
      have KD := KK.out w0.drew (below_drew (Below.refl _ _))
      go_region_held3 (fun w9 => (w9.cell? ⟨w.heap.size, 0, none⟩ = some (.bool (sgn a)) ∧ w9.cell? ⟨w.heap.size, 1, none⟩ = some (.slice A n cap)) ∧ (w9.cell? ⟨w.heap.size + 1, 0, none⟩ = some (.bool (sgn b)) ∧ w9.cell? ⟨w.heap.size + 1, 1, none⟩ = some (.slice A' n' cap')))
          (first | with_reducible exact KD | with_reducible exact K0 | with_reducible exact K_w1 | with_reducible exact K_w2 | with_reducible exact K_w3 | with_reducible exact K_w4 | with_reducible exact ⟨cells2 ((r_a.out.keep B_w4.out).far2 (by omega) _ _), cells2 ((r_b.out.keep B_w4.out).far2 (by omega) _ _)⟩)
          (first
            | (go_at_call 86
               refine (C1.out _ _ _ (h_a.out.below ?_) (h_b.out.below ?_)).mono ?_
               · repeat (first | with_reducible exact Below.refl _ _ | with_reducible apply below_drew | with_reducible apply below_new)
               · repeat (first | with_reducible exact Below.refl _ _ | with_reducible apply below_drew | with_reducible apply below_new)
               rintro e w1 ⟨v_q, rfl, hb, h_q⟩
               obtain ⟨A_q, n_q, cap_q, rfl, -⟩ := id h_q.form
               replace h_q := Lib.hid h_q
               have B_w1 := Lib.hid (reg_next (w0 := w0) (by repeat (first | with_reducible exact Below.refl _ _ | with_reducible apply below_drew | with_reducible apply below_new)) hb)
               have K_w1 := KK.out _ B_w1.out
               clear hb)
            | (go_at_call 47
               refine (C2.out _ _ _ h_q.out (h_b.out.below B_w1.out)).mono ?_
               rintro e w2 ⟨v_p, rfl, hb, h_p⟩
               obtain ⟨A_p, n_p, cap_p, rfl, -⟩ := id h_p.form
               replace h_p := Lib.hid h_p
               replace h_q := Lib.hid (h_q.out.below hb)
               have B_w2 := Lib.hid (below_next B_w1.out hb)
               have K_w2 := KK.out _ B_w2.out
               clear hb)
            | (go_at_call 106
               refine (C3.out _ _ _ (h_a.out.below B_w2.out) h_p.out).mono ?_
               rintro e w3 ⟨v_m, rfl, hb, h_m⟩
               obtain ⟨A_m, n_m, cap_m, rfl, -⟩ := id h_m.form
               replace h_m := Lib.hid h_m
               replace h_q := Lib.hid (h_q.out.below hb)
               replace h_p := Lib.hid (h_p.out.below hb)
               have B_w3 := Lib.hid (below_next B_w2.out hb)
               have K_w3 := KK.out _ B_w3.out
               clear hb)
            | (go_at_call 149
               refine (C4.out _ _ _ (h_b.out.below B_w3.out) h_m.out).mono ?_
               rintro e w4 ⟨v_g, rfl, hb, h_g⟩
               obtain ⟨A_g, n_g, cap_g, rfl, -⟩ := id h_g.form
               replace h_g := Lib.hid h_g
               replace h_q := Lib.hid (h_q.out.below hb)
               replace h_p := Lib.hid (h_p.out.below hb)
               replace h_m := Lib.hid (h_m.out.below hb)
               have B_w4 := Lib.hid (below_next B_w3.out hb)
               have K_w4 := KK.out _ B_w4.out
               obtain ⟨rc_res0, rc_res1, rf_res0, rf_res1⟩ := reads2 (r_res.out.keep B_w4.out)
               have rl_res := (r_res.out.keep B_w4.out).lt
               clear hb))
      clear KK K0 KD K_w1 K_w2 K_w3 K_w4
      replace r_a := Lib.hid (r_a.out.keep B_w4.out)
      replace r_b := Lib.hid (r_b.out.keep B_w4.out)
      replace r_res := Lib.hid (r_res.out.keep B_w4.out)
      replace h_a := Lib.hid (h_a.out.below B_w4.out)
      replace h_b := Lib.hid (h_b.out.below B_w4.out)
      replace BB := Lib.hid (below_next BB.out B_w4.out)
      clear B_w1 B_w2 B_w3 B_w4
      go_wp2_with fail
      refine bodyPost_ret (v := .agg #[.bool (sgn G), .slice A_g n_g cap_g]) (by unfold results; simp only [Try.results149]; go_simp) rfl ?_
      exact ⟨_, rfl, below_set2 BB.out (by omega) _ _, h_g.out.far2 r_res.out (by decide) _ _⟩
theorem gI_abs (n d : Int) (h : 0 ≤ d) : (Int.gcd (n.natAbs : Int) d : Int) = gI n d := by
  unfold gI
  simp [Int.gcd]
set_option maxRecDepth 100000 in
set_option maxHeartbeats 4000000 in
theorem r3least (v : Value) (n d : Int) (wn : Wd 299 n) (wd : Wd 299 d) (hd : 0 < d) (w : World) (hv : RR w v n d) : Calls Try.prog 119 #[v] w (GiveR (n / gI n d) (d / gI n d) w) := by
  obtain ⟨A, k, c, B, m, e, rfl, hn, hdd⟩ := hv
  have wa : Wd 300 (n.natAbs : Int) := by unfold Wd at *; omega
  have CG := Lib.hid (fun (u v : Value) w (hu : BR w u (n.natAbs : Int)) (hv : BR w v d) => r3gcd (d.toNat + 1) u v (n.natAbs : Int) d w hu hv (by omega) (by omega) (by omega) wa (wd.up (by omega)))
  rw [gI_abs n d (by omega)] at CG
  have g0 := gI_pos (n := n) hd
  have g1 := gI_le (n := n) hd
  have wg : Wd 299 (gI n d) := by unfold Wd at *; omega
  have F1 := Lib.hid (fun (u v : Value) w (hu : BR w u n) (hv : BR w v (gI n d)) => floor_any u v n (gI n d) w hu hv (wn.mid (by omega)) (wg.low (by omega)) (by omega))
  have F2 := Lib.hid (fun (u v : Value) w (hu : BR w u d) (hv : BR w v (gI n d)) => floor_any u v d (gI n d) w hu hv (wd.mid (by omega)) (wg.low (by omega)) (by omega))
  rw [Int.fdiv_eq_ediv_of_nonneg _ (show 0 ≤ gI n d by omega)] at F1 F2
  have ha := Lib.hid (br_abs hn)
  rw [sgn_abs] at ha
  generalize n / gI n d = N at *
  generalize d / gI n d = D at *
  generalize gI n d = G at *
  replace hn := Lib.hid hn; replace hdd := Lib.hid hdd
  clear wn wd hd wa g0 g1 wg
  go_enter Try.func119, Try.ntmps119
  go_wp2_with fail
  have BB := start2 w #[.bool (sgn n), .slice A k c, .bool (sgn d), .slice B m e] RT #[.bool false, .slice none 0 0, .bool false, .slice none 0 0] RT
  obtain ⟨BB, hsz, r_a, r_res⟩ := BB
  generalize ((w.alloc (.cells #[.bool (sgn n), .slice A k c, .bool (sgn d), .slice B m e] RT)).alloc (.cells #[.bool false, .slice none 0 0, .bool false, .slice none 0 0] RT)) = w0 at *
  replace BB := Lib.hid BB
  replace r_a := Lib.hid r_a
  replace r_res := Lib.hid r_res
  clear hsz
  have h_n := Lib.hid (hn.out.below BB.out)
  have h_d := Lib.hid (hdd.out.below BB.out)
  have h_a := Lib.hid (ha.out.below BB.out)
  obtain ⟨c_a0, c_a1, c_a2, c_a3, f_a0, f_a1, f_a2, f_a3⟩ := reads4 r_a.out
  have l_a := r_a.out.lt
  go_wp2_with fail
  refine (CG.out _ _ _ h_a.out h_d.out).mono ?_
  rintro e w1 ⟨v_g, rfl, hb, h_g⟩
  obtain ⟨A_g, n_g, cap_g, rfl, -⟩ := id h_g.form
  replace h_g := Lib.hid h_g
  clear c_a0 c_a1 c_a2 c_a3 f_a0 f_a1 f_a2 f_a3 l_a
  replace r_a := Lib.hid (r_a.out.keep hb)
  replace r_res := Lib.hid (r_res.out.keep hb)
  replace h_n := Lib.hid (h_n.out.below hb)
  replace h_d := Lib.hid (h_d.out.below hb)
  replace BB := Lib.hid (below_next BB.out hb)
  clear hb
  go_upto_region 2 with fail
  have d_g := Lib.hid (And.intro BB.out.size (And.intro r_a.out.lt (And.intro r_res.out.lt (True.intro))))
  obtain ⟨hb, r_g⟩ := laid w1 #[.bool (sgn (G)), .slice A_g n_g cap_g] 76
  replace r_a := Lib.hid (r_a.out.keep hb)
  replace r_res := Lib.hid (r_res.out.keep hb)
  replace h_n := Lib.hid (h_n.out.below hb)
  replace h_d := Lib.hid (h_d.out.below hb)
  replace h_g := Lib.hid (h_g.out.below hb)
  replace BB := Lib.hid (below_next BB.out hb)
  replace r_g := Lib.hid r_g
  clear hb
  generalize w1.alloc (.cells #[.bool (sgn (G)), .slice A_g n_g cap_g] 76) = w2 at *
  generalize w1.heap.size = g_g at *
  have KK := Lib.hid (fun (w9 : World) (h : Below w2.heap.size w2 w9) => (⟨cells4 (r_a.out.keep h), cells2 (r_g.out.keep h)⟩ : (w9.cell? ⟨w.heap.size, 0, none⟩ = some (.bool (sgn n)) ∧ w9.cell? ⟨w.heap.size, 1, none⟩ = some (.slice A k c) ∧ w9.cell? ⟨w.heap.size, 2, none⟩ = some (.bool (sgn d)) ∧ w9.cell? ⟨w.heap.size, 3, none⟩ = some (.slice B m e)) ∧ (w9.cell? ⟨g_g, 0, none⟩ = some (.bool (sgn (G))) ∧ w9.cell? ⟨g_g, 1, none⟩ = some (.slice A_g n_g cap_g))))
  have K0 := KK.out w2 (Below.refl _ _)
  have KD := KK.out w2.drew (below_drew (Below.refl _ _))
  have tok0 : Hid True := trivial
  have tok1 : Hid True := trivial
  go_region_held3 (fun w9 => (w9.cell? ⟨w.heap.size, 0, none⟩ = some (.bool (sgn n)) ∧ w9.cell? ⟨w.heap.size, 1, none⟩ = some (.slice A k c) ∧ w9.cell? ⟨w.heap.size, 2, none⟩ = some (.bool (sgn d)) ∧ w9.cell? ⟨w.heap.size, 3, none⟩ = some (.slice B m e)) ∧ (w9.cell? ⟨g_g, 0, none⟩ = some (.bool (sgn (G))) ∧ w9.cell? ⟨g_g, 1, none⟩ = some (.slice A_g n_g cap_g)))
      (first | with_reducible exact KD | with_reducible exact K0 | with_reducible exact K_w3 | with_reducible exact K_w4 | with_reducible exact ⟨cells4 ((r_a.out.keep B_w4.out).far4 (by omega) _ _ _ _), cells2 ((r_g.out.keep B_w4.out).far4 (by have dd_g := d_g.out; omega) _ _ _ _)⟩)
      (first
        | (go_at_call 86
           have t_k := tok0
           refine (F1.out _ _ _ (h_n.out.below ?_) (h_g.out.below ?_)).mono ?_
           · repeat (first | with_reducible exact Below.refl _ _ | with_reducible apply below_drew | with_reducible apply below_new)
           · repeat (first | with_reducible exact Below.refl _ _ | with_reducible apply below_drew | with_reducible apply below_new)
           rintro e w3 ⟨v_p, rfl, hb, h_p⟩
           obtain ⟨A_p, n_p, cap_p, rfl, -⟩ := id h_p.form
           replace h_p := Lib.hid h_p
           have B_w3 := Lib.hid (reg_next (w0 := w2) (by repeat (first | with_reducible exact Below.refl _ _ | with_reducible apply below_drew | with_reducible apply below_new)) hb)
           have K_w3 := KK.out _ B_w3.out
           clear hb
           clear t_k tok0)
        | (go_at_call 86
           have t_k := tok1
           refine (F2.out _ _ _ (h_d.out.below B_w3.out) (h_g.out.below B_w3.out)).mono ?_
           rintro e w4 ⟨v_q, rfl, hb, h_q⟩
           obtain ⟨A_q, n_q, cap_q, rfl, -⟩ := id h_q.form
           replace h_q := Lib.hid h_q
           replace h_p := Lib.hid (h_p.out.below hb)
           have B_w4 := Lib.hid (below_next B_w3.out hb)
           have K_w4 := KK.out _ B_w4.out
           obtain ⟨rc_res0, rc_res1, rc_res2, rc_res3, rf_res0, rf_res1, rf_res2, rf_res3⟩ := reads4 (r_res.out.keep B_w4.out)
           have rl_res := (r_res.out.keep B_w4.out).lt
           clear hb
           clear t_k tok1))
  clear KK K0 KD K_w3 K_w4
  replace r_a := Lib.hid (r_a.out.keep B_w4.out)
  replace r_res := Lib.hid (r_res.out.keep B_w4.out)
  replace r_g := Lib.hid (r_g.out.keep B_w4.out)
  replace h_n := Lib.hid (h_n.out.below B_w4.out)
  replace h_d := Lib.hid (h_d.out.below B_w4.out)
  replace h_g := Lib.hid (h_g.out.below B_w4.out)
  replace BB := Lib.hid (below_next BB.out B_w4.out)
  clear B_w3 B_w4
  go_wp2_with fail
  refine bodyPost_ret (v := .agg #[.bool (sgn N), .slice A_p n_p cap_p, .bool (sgn D), .slice A_q n_q cap_q]) (by unfold results; simp only [Try.results119]; go_simp) rfl ?_
  exact give_rat BB.out h_p.out h_q.out r_res.out (by omega)
set_option maxRecDepth 100000 in
set_option maxHeartbeats 4000000 in
theorem rtold (x y : Int) (ok : Bool) (v : Value) (p q : Int) (wp' : Wd 299 p) (wq : Wd 299 q) (hq : 0 < q) (hL : LQ p q x y ok) (w : World) (hv : RR w v p q) : Calls Try.prog 63 #[qv x y, .bool ok, v] w fun e w' => e = .returned (.bool true) ∧ Below w.heap.size w w' := by
  have CL := Lib.hid (fun w hv => r3least v p q wp' wq hq w hv)
  obtain ⟨A, k, c, B, m, e, hve, -, -⟩ := id hv.form
  have wN : Wd 1400 (p / gI p q) := by rw [← Int.fdiv_eq_ediv_of_nonneg _ (show 0 ≤ gI p q from Int.le_of_lt (gI_pos hq))]; exact wp'.fdiv.up (by omega)
  have wD : Wd 1400 (q / gI p q) := by rw [← Int.fdiv_eq_ediv_of_nonneg _ (show 0 ≤ gI p q from Int.le_of_lt (gI_pos hq))]; exact wq.fdiv.up (by omega)
  unfold LQ at hL
  subst hve
  generalize p / gI p q = N at *
  generalize q / gI p q = D at *
  have FN := Lib.hid (fun (v : Value) w (hv : BR w v N) => rfits_any v N 63 (by omega) w hv wN)
  have FD := Lib.hid (fun (v : Value) w (hv : BR w v D) => rfits_any v D 63 (by omega) w hv wD)
  replace hv := Lib.hid hv
  clear wp' wq hq wN wD
  rcases hL with ⟨i1, i2, rfl, rfl, rfl⟩ | ⟨hno, rfl, rfl, rfl⟩
  · rw [fits_t i1] at FN
    rw [fits_t i2] at FD
    have SN := Lib.hid (fun (v : Value) w (hv : BR w v x) => small_any v x w hv i1)
    have SD := Lib.hid (fun (v : Value) w (hv : BR w v y) => small_any v y w hv i2)
    clear i1 i2
    go_enter Try.func63, Try.ntmps63
    go_wp2_with fail
    have BB := start2 w #[.int .i64 x, .int .i64 y] QT #[.bool (sgn p), .slice A k c, .bool (sgn q), .slice B m e] RT
    obtain ⟨BB, hsz, r_x, r_v⟩ := BB
    generalize ((w.alloc (.cells #[.int .i64 x, .int .i64 y] QT)).alloc (.cells #[.bool (sgn p), .slice A k c, .bool (sgn q), .slice B m e] RT)) = w0 at *
    replace BB := Lib.hid BB
    replace r_x := Lib.hid r_x
    replace r_v := Lib.hid r_v
    clear hsz
    have h_v := Lib.hid (hv.out.below BB.out)
    obtain ⟨c_v0, c_v1, c_v2, c_v3, f_v0, f_v1, f_v2, f_v3⟩ := reads4 r_v.out
    have l_v := r_v.out.lt
    go_wp2_with fail
    refine (CL.out _ h_v.out).mono ?_
    rintro e w1 ⟨v_w, rfl, hb, h_w⟩
    obtain ⟨A_w, n_w, cap_w, B_w, m_w, cup_w, rfl, -, -⟩ := id h_w.form
    replace h_w := Lib.hid h_w
    clear c_v0 c_v1 c_v2 c_v3 f_v0 f_v1 f_v2 f_v3 l_v
    replace r_x := Lib.hid (r_x.out.keep hb)
    replace r_v := Lib.hid (r_v.out.keep hb)
    replace BB := Lib.hid (below_next BB.out hb)
    clear hb
    go_upto_region 2 with fail
    have d_w := Lib.hid (And.intro BB.out.size (And.intro r_x.out.lt (And.intro r_v.out.lt (True.intro))))
    obtain ⟨hb, r_w⟩ := laid w1 #[.bool (sgn x), .slice A_w n_w cap_w, .bool (sgn y), .slice B_w m_w cup_w] RT
    replace r_x := Lib.hid (r_x.out.keep hb)
    replace r_v := Lib.hid (r_v.out.keep hb)
    replace h_w := Lib.hid (h_w.out.below hb)
    replace BB := Lib.hid (below_next BB.out hb)
    replace r_w := Lib.hid r_w
    clear hb
    generalize w1.alloc (.cells #[.bool (sgn x), .slice A_w n_w cap_w, .bool (sgn y), .slice B_w m_w cup_w] RT) = w2 at *
    generalize w1.heap.size = g_w at *
    have h_wn := Lib.hid (h_w.out.parts.1.below (Below.refl _ _))
    have h_wd := Lib.hid (h_w.out.parts.2.below (Below.refl _ _))
    obtain ⟨c_w0, c_w1, c_w2, c_w3, f_w0, f_w1, f_w2, f_w3⟩ := reads4 r_w.out
    have l_w := r_w.out.lt
    go_wp2_with fail
    refine (FN.out _ _ h_wn.out).mono ?_
    rintro e w3 ⟨rfl, hb⟩
    clear c_w0 c_w1 c_w2 c_w3 f_w0 f_w1 f_w2 f_w3 l_w
    replace r_x := Lib.hid (r_x.out.keep hb)
    replace r_v := Lib.hid (r_v.out.keep hb)
    replace r_w := Lib.hid (r_w.out.keep hb)
    replace h_w := Lib.hid (h_w.out.below hb)
    replace h_wn := Lib.hid (h_wn.out.below hb)
    replace h_wd := Lib.hid (h_wd.out.below hb)
    replace BB := Lib.hid (below_next BB.out hb)
    clear hb
    obtain ⟨c_w0, c_w1, c_w2, c_w3, f_w0, f_w1, f_w2, f_w3⟩ := reads4 r_w.out
    have l_w := r_w.out.lt
    go_wp2_with fail
    refine (FD.out _ _ h_wd.out).mono ?_
    rintro e w4 ⟨rfl, hb⟩
    clear c_w0 c_w1 c_w2 c_w3 f_w0 f_w1 f_w2 f_w3 l_w
    replace r_x := Lib.hid (r_x.out.keep hb)
    replace r_v := Lib.hid (r_v.out.keep hb)
    replace r_w := Lib.hid (r_w.out.keep hb)
    replace h_w := Lib.hid (h_w.out.below hb)
    replace h_wn := Lib.hid (h_wn.out.below hb)
    replace h_wd := Lib.hid (h_wd.out.below hb)
    replace BB := Lib.hid (below_next BB.out hb)
    clear hb
    go_wp2_with fail
    have KK := Lib.hid (fun (w9 : World) (h : Below w4.heap.size w4 w9) => (⟨cells2 (r_x.out.keep h), cells4 (r_w.out.keep h)⟩ : (w9.cell? ⟨w.heap.size, 0, none⟩ = some (.int .i64 x) ∧ w9.cell? ⟨w.heap.size, 1, none⟩ = some (.int .i64 y)) ∧ (w9.cell? ⟨g_w, 0, none⟩ = some (.bool (sgn x)) ∧ w9.cell? ⟨g_w, 1, none⟩ = some (.slice A_w n_w cap_w) ∧ w9.cell? ⟨g_w, 2, none⟩ = some (.bool (sgn y)) ∧ w9.cell? ⟨g_w, 3, none⟩ = some (.slice B_w m_w cup_w))))
    have K0 := KK.out w4 (Below.refl _ _)
    have KD := KK.out w4.drew (below_drew (Below.refl _ _))
    have tok0 : Hid True := trivial
    have tok1 : Hid True := trivial
    go_region_held3 (fun w9 => (w9.cell? ⟨w.heap.size, 0, none⟩ = some (.int .i64 x) ∧ w9.cell? ⟨w.heap.size, 1, none⟩ = some (.int .i64 y)) ∧ (w9.cell? ⟨g_w, 0, none⟩ = some (.bool (sgn x)) ∧ w9.cell? ⟨g_w, 1, none⟩ = some (.slice A_w n_w cap_w) ∧ w9.cell? ⟨g_w, 2, none⟩ = some (.bool (sgn y)) ∧ w9.cell? ⟨g_w, 3, none⟩ = some (.slice B_w m_w cup_w)))
        (first | with_reducible exact KD | with_reducible exact K0 | with_reducible exact K_w5 | with_reducible exact K_w6)
        (first
          | (go_at_call 121
             have t_k := tok0
             refine (SN.out _ _ (h_wn.out.below ?_)).mono ?_
             · repeat (first | with_reducible exact Below.refl _ _ | with_reducible apply below_drew | with_reducible apply below_new)
             rintro e w5 ⟨rfl, hb⟩
             have B_w5 := Lib.hid (reg_next (w0 := w4) (by repeat (first | with_reducible exact Below.refl _ _ | with_reducible apply below_drew | with_reducible apply below_new)) hb)
             have K_w5 := KK.out _ B_w5.out
             clear hb
             clear t_k tok0)
          | (go_at_call 121
             have t_k := tok1
             refine (SD.out _ _ (h_wd.out.below B_w5.out)).mono ?_
             rintro e w6 ⟨rfl, hb⟩
             have B_w6 := Lib.hid (below_next B_w5.out hb)
             have K_w6 := KK.out _ B_w6.out
             clear hb
             clear t_k tok1))
    clear KK K0 KD K_w5 K_w6
    replace r_x := Lib.hid (r_x.out.keep B_w6.out)
    replace r_v := Lib.hid (r_v.out.keep B_w6.out)
    replace r_w := Lib.hid (r_w.out.keep B_w6.out)
    replace h_w := Lib.hid (h_w.out.below B_w6.out)
    replace h_wn := Lib.hid (h_wn.out.below B_w6.out)
    replace h_wd := Lib.hid (h_wd.out.below B_w6.out)
    replace BB := Lib.hid (below_next BB.out B_w6.out)
    clear B_w5 B_w6
    go_wp2_with fail
    go_ret
    exact ⟨rfl, BB.out⟩
  · by_cases i1 : I64 N
    · have i2 : ¬ I64 D := fun h => hno ⟨i1, h⟩
      rw [fits_t i1] at FN
      rw [fits_f i2] at FD
      clear i1 i2 hno
      go_enter Try.func63, Try.ntmps63
      go_wp2_with fail
      have BB := start2 w #[.int .i64 0, .int .i64 0] QT #[.bool (sgn p), .slice A k c, .bool (sgn q), .slice B m e] RT
      obtain ⟨BB, hsz, r_x, r_v⟩ := BB
      generalize ((w.alloc (.cells #[.int .i64 0, .int .i64 0] QT)).alloc (.cells #[.bool (sgn p), .slice A k c, .bool (sgn q), .slice B m e] RT)) = w0 at *
      replace BB := Lib.hid BB
      replace r_x := Lib.hid r_x
      replace r_v := Lib.hid r_v
      clear hsz
      have h_v := Lib.hid (hv.out.below BB.out)
      obtain ⟨c_v0, c_v1, c_v2, c_v3, f_v0, f_v1, f_v2, f_v3⟩ := reads4 r_v.out
      have l_v := r_v.out.lt
      go_wp2_with fail
      refine (CL.out _ h_v.out).mono ?_
      rintro e w1 ⟨v_w, rfl, hb, h_w⟩
      obtain ⟨A_w, n_w, cap_w, B_w, m_w, cup_w, rfl, -, -⟩ := id h_w.form
      replace h_w := Lib.hid h_w
      clear c_v0 c_v1 c_v2 c_v3 f_v0 f_v1 f_v2 f_v3 l_v
      replace r_x := Lib.hid (r_x.out.keep hb)
      replace r_v := Lib.hid (r_v.out.keep hb)
      replace BB := Lib.hid (below_next BB.out hb)
      clear hb
      go_upto_region 2 with fail
      have d_w := Lib.hid (And.intro BB.out.size (And.intro r_x.out.lt (And.intro r_v.out.lt (True.intro))))
      obtain ⟨hb, r_w⟩ := laid w1 #[.bool (sgn N), .slice A_w n_w cap_w, .bool (sgn D), .slice B_w m_w cup_w] RT
      replace r_x := Lib.hid (r_x.out.keep hb)
      replace r_v := Lib.hid (r_v.out.keep hb)
      replace h_w := Lib.hid (h_w.out.below hb)
      replace BB := Lib.hid (below_next BB.out hb)
      replace r_w := Lib.hid r_w
      clear hb
      generalize w1.alloc (.cells #[.bool (sgn N), .slice A_w n_w cap_w, .bool (sgn D), .slice B_w m_w cup_w] RT) = w2 at *
      generalize w1.heap.size = g_w at *
      have h_wn := Lib.hid (h_w.out.parts.1.below (Below.refl _ _))
      have h_wd := Lib.hid (h_w.out.parts.2.below (Below.refl _ _))
      obtain ⟨c_w0, c_w1, c_w2, c_w3, f_w0, f_w1, f_w2, f_w3⟩ := reads4 r_w.out
      have l_w := r_w.out.lt
      go_wp2_with fail
      refine (FN.out _ _ h_wn.out).mono ?_
      rintro e w3 ⟨rfl, hb⟩
      clear c_w0 c_w1 c_w2 c_w3 f_w0 f_w1 f_w2 f_w3 l_w
      replace r_x := Lib.hid (r_x.out.keep hb)
      replace r_v := Lib.hid (r_v.out.keep hb)
      replace r_w := Lib.hid (r_w.out.keep hb)
      replace h_w := Lib.hid (h_w.out.below hb)
      replace h_wn := Lib.hid (h_wn.out.below hb)
      replace h_wd := Lib.hid (h_wd.out.below hb)
      replace BB := Lib.hid (below_next BB.out hb)
      clear hb
      obtain ⟨c_w0, c_w1, c_w2, c_w3, f_w0, f_w1, f_w2, f_w3⟩ := reads4 r_w.out
      have l_w := r_w.out.lt
      go_wp2_with fail
      refine (FD.out _ _ h_wd.out).mono ?_
      rintro e w4 ⟨rfl, hb⟩
      clear c_w0 c_w1 c_w2 c_w3 f_w0 f_w1 f_w2 f_w3 l_w
      replace r_x := Lib.hid (r_x.out.keep hb)
      replace r_v := Lib.hid (r_v.out.keep hb)
      replace r_w := Lib.hid (r_w.out.keep hb)
      replace h_w := Lib.hid (h_w.out.below hb)
      replace h_wn := Lib.hid (h_wn.out.below hb)
      replace h_wd := Lib.hid (h_wd.out.below hb)
      replace BB := Lib.hid (below_next BB.out hb)
      clear hb
      obtain ⟨c_x0, c_x1, f_x0, f_x1⟩ := reads2 r_x.out
      have l_x := r_x.out.lt
      go_wp2_with fail
      go_ret
      exact ⟨rfl, BB.out⟩
    · rw [fits_f i1] at FN
      clear i1 hno
      go_enter Try.func63, Try.ntmps63
      go_wp2_with fail
      have BB := start2 w #[.int .i64 0, .int .i64 0] QT #[.bool (sgn p), .slice A k c, .bool (sgn q), .slice B m e] RT
      obtain ⟨BB, hsz, r_x, r_v⟩ := BB
      generalize ((w.alloc (.cells #[.int .i64 0, .int .i64 0] QT)).alloc (.cells #[.bool (sgn p), .slice A k c, .bool (sgn q), .slice B m e] RT)) = w0 at *
      replace BB := Lib.hid BB
      replace r_x := Lib.hid r_x
      replace r_v := Lib.hid r_v
      clear hsz
      have h_v := Lib.hid (hv.out.below BB.out)
      obtain ⟨c_v0, c_v1, c_v2, c_v3, f_v0, f_v1, f_v2, f_v3⟩ := reads4 r_v.out
      have l_v := r_v.out.lt
      go_wp2_with fail
      refine (CL.out _ h_v.out).mono ?_
      rintro e w1 ⟨v_w, rfl, hb, h_w⟩
      obtain ⟨A_w, n_w, cap_w, B_w, m_w, cup_w, rfl, -, -⟩ := id h_w.form
      replace h_w := Lib.hid h_w
      clear c_v0 c_v1 c_v2 c_v3 f_v0 f_v1 f_v2 f_v3 l_v
      replace r_x := Lib.hid (r_x.out.keep hb)
      replace r_v := Lib.hid (r_v.out.keep hb)
      replace BB := Lib.hid (below_next BB.out hb)
      clear hb
      go_upto_region 2 with fail
      have d_w := Lib.hid (And.intro BB.out.size (And.intro r_x.out.lt (And.intro r_v.out.lt (True.intro))))
      obtain ⟨hb, r_w⟩ := laid w1 #[.bool (sgn N), .slice A_w n_w cap_w, .bool (sgn D), .slice B_w m_w cup_w] RT
      replace r_x := Lib.hid (r_x.out.keep hb)
      replace r_v := Lib.hid (r_v.out.keep hb)
      replace h_w := Lib.hid (h_w.out.below hb)
      replace BB := Lib.hid (below_next BB.out hb)
      replace r_w := Lib.hid r_w
      clear hb
      generalize w1.alloc (.cells #[.bool (sgn N), .slice A_w n_w cap_w, .bool (sgn D), .slice B_w m_w cup_w] RT) = w2 at *
      generalize w1.heap.size = g_w at *
      have h_wn := Lib.hid (h_w.out.parts.1.below (Below.refl _ _))
      have h_wd := Lib.hid (h_w.out.parts.2.below (Below.refl _ _))
      obtain ⟨c_w0, c_w1, c_w2, c_w3, f_w0, f_w1, f_w2, f_w3⟩ := reads4 r_w.out
      have l_w := r_w.out.lt
      go_wp2_with fail
      refine (FN.out _ _ h_wn.out).mono ?_
      rintro e w3 ⟨rfl, hb⟩
      clear c_w0 c_w1 c_w2 c_w3 f_w0 f_w1 f_w2 f_w3 l_w
      replace r_x := Lib.hid (r_x.out.keep hb)
      replace r_v := Lib.hid (r_v.out.keep hb)
      replace r_w := Lib.hid (r_w.out.keep hb)
      replace h_w := Lib.hid (h_w.out.below hb)
      replace h_wn := Lib.hid (h_wn.out.below hb)
      replace h_wd := Lib.hid (h_wd.out.below hb)
      replace BB := Lib.hid (below_next BB.out hb)
      clear hb
      obtain ⟨c_x0, c_x1, f_x0, f_x1⟩ := reads2 r_x.out
      have l_x := r_x.out.lt
      go_wp2_with fail
      go_ret
      exact ⟨rfl, BB.out⟩
set_option maxRecDepth 100000 in
set_option maxHeartbeats 4000000 in
theorem ratSums_a (n1 d1 n2 d2 : Int) (h : ¬ 0 < d1) (w : World) : Calls Try.prog 12 #[qv n1 d1, qv n2 d2] w fun e w' => e = .returned (.bool true) ∧ Below w.heap.size w w' := by
  have C1 := Lib.hid (fun w => rLeast_no n1 d1 h w)
  have C2 := Lib.hid (fun w => qadd_no n1 d1 n2 d2 (fun k => h k.1) w)
  have C3 := Lib.hid (fun w => qmul_no n1 d1 n2 d2 (fun k => h k.1) w)
  have CR := Lib.hid (fun w => qright n1 d1 w)
  have CL := Lib.hid (fun w => alive03 w)
  have e1 : d1 < 1 := by omega
  have e2 : ¬ 0 < d1 := h
  have e3 : decide (d1 > 0) = false := decide_eq_false (by omega)
  have e4 : decide (d1 < 1) = true := decide_eq_true (by omega)
  rw [e3] at CR
  clear h
  go_enter Try.func12, Try.ntmps12
  go_wp2_with fail
  have BB := start2 w #[.int .i64 n1, .int .i64 d1] QT #[.int .i64 n2, .int .i64 d2] QT
  obtain ⟨BB, hsz, r_a, r_b⟩ := BB
  generalize ((w.alloc (.cells #[.int .i64 n1, .int .i64 d1] QT)).alloc (.cells #[.int .i64 n2, .int .i64 d2] QT)) = w0 at *
  replace BB := Lib.hid BB
  replace r_a := Lib.hid r_a
  replace r_b := Lib.hid r_b
  clear hsz
  obtain ⟨c_a0, c_a1, f_a0, f_a1⟩ := reads2 r_a.out
  have l_a := r_a.out.lt
  go_wp2_with fail
  refine (C1.out _).mono ?_
  rintro e w1 ⟨rfl, hb⟩
  clear c_a0 c_a1 f_a0 f_a1 l_a
  replace r_a := Lib.hid (r_a.out.keep hb)
  replace r_b := Lib.hid (r_b.out.keep hb)
  replace BB := Lib.hid (below_next BB.out hb)
  clear hb
  go_upto_region 2 with fail
  have d_l := Lib.hid (And.intro BB.out.size (And.intro r_a.out.lt (And.intro r_b.out.lt (True.intro))))
  obtain ⟨hb, r_l⟩ := laid w1 #[.int .i64 0, .int .i64 0] QT
  replace r_a := Lib.hid (r_a.out.keep hb)
  replace r_b := Lib.hid (r_b.out.keep hb)
  replace BB := Lib.hid (below_next BB.out hb)
  replace r_l := Lib.hid r_l
  clear hb
  generalize w1.alloc (.cells #[.int .i64 0, .int .i64 0] QT) = w2 at *
  generalize w1.heap.size = g_l at *
  obtain ⟨c_a0, c_a1, f_a0, f_a1⟩ := reads2 r_a.out
  have l_a := r_a.out.lt
  obtain ⟨c_b0, c_b1, f_b0, f_b1⟩ := reads2 r_b.out
  have l_b := r_b.out.lt
  go_wp2_with fail
  refine (C2.out _).mono ?_
  rintro e w3 ⟨rfl, hb⟩
  clear c_a0 c_a1 f_a0 f_a1 l_a c_b0 c_b1 f_b0 f_b1 l_b
  replace r_a := Lib.hid (r_a.out.keep hb)
  replace r_b := Lib.hid (r_b.out.keep hb)
  replace r_l := Lib.hid (r_l.out.keep hb)
  replace BB := Lib.hid (below_next BB.out hb)
  clear hb
  go_upto_region 3 with fail
  have d_s := Lib.hid (And.intro BB.out.size (And.intro r_a.out.lt (And.intro r_b.out.lt (And.intro r_l.out.lt (True.intro)))))
  obtain ⟨hb, r_s⟩ := laid w3 #[.int .i64 0, .int .i64 0] QT
  replace r_a := Lib.hid (r_a.out.keep hb)
  replace r_b := Lib.hid (r_b.out.keep hb)
  replace r_l := Lib.hid (r_l.out.keep hb)
  replace BB := Lib.hid (below_next BB.out hb)
  replace r_s := Lib.hid r_s
  clear hb
  generalize w3.alloc (.cells #[.int .i64 0, .int .i64 0] QT) = w4 at *
  generalize w3.heap.size = g_s at *
  obtain ⟨c_a0, c_a1, f_a0, f_a1⟩ := reads2 r_a.out
  have l_a := r_a.out.lt
  obtain ⟨c_b0, c_b1, f_b0, f_b1⟩ := reads2 r_b.out
  have l_b := r_b.out.lt
  go_wp2_with fail
  refine (C3.out _).mono ?_
  rintro e w5 ⟨rfl, hb⟩
  clear c_a0 c_a1 f_a0 f_a1 l_a c_b0 c_b1 f_b0 f_b1 l_b
  replace r_a := Lib.hid (r_a.out.keep hb)
  replace r_b := Lib.hid (r_b.out.keep hb)
  replace r_l := Lib.hid (r_l.out.keep hb)
  replace r_s := Lib.hid (r_s.out.keep hb)
  replace BB := Lib.hid (below_next BB.out hb)
  clear hb
  go_upto_region 4 with fail
  have d_p := Lib.hid (And.intro BB.out.size (And.intro r_a.out.lt (And.intro r_b.out.lt (And.intro r_l.out.lt (And.intro r_s.out.lt (True.intro))))))
  obtain ⟨hb, r_p⟩ := laid w5 #[.int .i64 0, .int .i64 0] QT
  replace r_a := Lib.hid (r_a.out.keep hb)
  replace r_b := Lib.hid (r_b.out.keep hb)
  replace r_l := Lib.hid (r_l.out.keep hb)
  replace r_s := Lib.hid (r_s.out.keep hb)
  replace BB := Lib.hid (below_next BB.out hb)
  replace r_p := Lib.hid r_p
  clear hb
  generalize w5.alloc (.cells #[.int .i64 0, .int .i64 0] QT) = w6 at *
  generalize w5.heap.size = g_p at *
  have KK := Lib.hid (fun (w9 : World) (h : Below w6.heap.size w6 w9) => (⟨cells2 (r_a.out.keep h), cells2 (r_l.out.keep h)⟩ : (w9.cell? ⟨w.heap.size, 0, none⟩ = some (.int .i64 n1) ∧ w9.cell? ⟨w.heap.size, 1, none⟩ = some (.int .i64 d1)) ∧ (w9.cell? ⟨g_l, 0, none⟩ = some (.int .i64 0) ∧ w9.cell? ⟨g_l, 1, none⟩ = some (.int .i64 0))))
  have K0 := KK.out w6 (Below.refl _ _)
  have KD := KK.out w6.drew (below_drew (Below.refl _ _))
  go_region_held3 (fun w9 => (w9.cell? ⟨w.heap.size, 0, none⟩ = some (.int .i64 n1) ∧ w9.cell? ⟨w.heap.size, 1, none⟩ = some (.int .i64 d1)) ∧ (w9.cell? ⟨g_l, 0, none⟩ = some (.int .i64 0) ∧ w9.cell? ⟨g_l, 1, none⟩ = some (.int .i64 0)))
      (first | with_reducible exact KD | with_reducible exact K0 | with_reducible exact K_w7)
      (first
        | (go_at_call 62
           refine (CR.out _).mono ?_
           rintro e w7 ⟨rfl, hb⟩
           have B_w7 := Lib.hid (reg_next (w0 := w6) (by repeat (first | with_reducible exact Below.refl _ _ | with_reducible apply below_drew | with_reducible apply below_new)) hb)
           have K_w7 := KK.out _ B_w7.out
           clear hb))
  clear KK K0 KD K_w7
  replace r_a := Lib.hid (r_a.out.keep B_w7.out)
  replace r_b := Lib.hid (r_b.out.keep B_w7.out)
  replace r_l := Lib.hid (r_l.out.keep B_w7.out)
  replace r_s := Lib.hid (r_s.out.keep B_w7.out)
  replace r_p := Lib.hid (r_p.out.keep B_w7.out)
  replace BB := Lib.hid (below_next BB.out B_w7.out)
  clear B_w7
  obtain ⟨c_a0, c_a1, f_a0, f_a1⟩ := reads2 r_a.out
  have l_a := r_a.out.lt
  obtain ⟨c_b0, c_b1, f_b0, f_b1⟩ := reads2 r_b.out
  have l_b := r_b.out.lt
  obtain ⟨c_s0, c_s1, f_s0, f_s1⟩ := reads2 r_s.out
  have l_s := r_s.out.lt
  obtain ⟨c_p0, c_p1, f_p0, f_p1⟩ := reads2 r_p.out
  have l_p := r_p.out.lt
  go_wp2_with fail
  refine (CL.out _).mono ?_
  rintro e w8 ⟨rfl, hb⟩
  clear c_a0 c_a1 f_a0 f_a1 l_a c_b0 c_b1 f_b0 f_b1 l_b c_s0 c_s1 f_s0 f_s1 l_s c_p0 c_p1 f_p0 f_p1 l_p
  replace r_a := Lib.hid (r_a.out.keep hb)
  replace r_b := Lib.hid (r_b.out.keep hb)
  replace r_l := Lib.hid (r_l.out.keep hb)
  replace r_s := Lib.hid (r_s.out.keep hb)
  replace r_p := Lib.hid (r_p.out.keep hb)
  replace BB := Lib.hid (below_next BB.out hb)
  clear hb
  go_wp2_with fail
  go_ret
  exact ⟨rfl, BB.out⟩
set_option maxRecDepth 100000 in
set_option maxHeartbeats 4000000 in
theorem ratSums_b (n1 d1 n2 d2 : Int) (h1 : I64 n1) (h2 : I64 d1) (h : 0 < d1) (hb' : ¬ 0 < d2) (w : World) : Calls Try.prog 12 #[qv n1 d1, qv n2 d2] w fun e w' => e = .returned (.bool true) ∧ Below w.heap.size w w' := by
  have C1 := Lib.hid (fun w => rLeast_ok n1 d1 h1 h2 h w)
  have CR := Lib.hid (fun w => qright n1 d1 w)
  have CL := Lib.hid (fun w => alive03 w)
  have e1 : ¬ d1 < 1 := by omega
  have e3 : decide (d1 > 0) = true := decide_eq_true (by omega)
  have e4 : decide (d1 < 1) = false := decide_eq_false (by omega)
  rw [e3] at CR
  have C2 := Lib.hid (fun w => qadd_no n1 d1 n2 d2 (fun k => hb' k.2) w)
  have C3 := Lib.hid (fun w => qmul_no n1 d1 n2 d2 (fun k => hb' k.2) w)
  have f1 : d2 < 1 := by omega
  have f4 : decide (d2 < 1) = true := decide_eq_true (by omega)
  have e5 : 0 < d1 := h
  clear h1 h2 hb' h
  go_enter Try.func12, Try.ntmps12
  go_wp2_with fail
  have BB := start2 w #[.int .i64 n1, .int .i64 d1] QT #[.int .i64 n2, .int .i64 d2] QT
  obtain ⟨BB, hsz, r_a, r_b⟩ := BB
  generalize ((w.alloc (.cells #[.int .i64 n1, .int .i64 d1] QT)).alloc (.cells #[.int .i64 n2, .int .i64 d2] QT)) = w0 at *
  replace BB := Lib.hid BB
  replace r_a := Lib.hid r_a
  replace r_b := Lib.hid r_b
  clear hsz
  obtain ⟨c_a0, c_a1, f_a0, f_a1⟩ := reads2 r_a.out
  have l_a := r_a.out.lt
  go_wp2_with fail
  refine (C1.out _).mono ?_
  rintro e w1 ⟨lx, ly, okl, rfl, hb, hl⟩
  clear c_a0 c_a1 f_a0 f_a1 l_a
  replace r_a := Lib.hid (r_a.out.keep hb)
  replace r_b := Lib.hid (r_b.out.keep hb)
  replace BB := Lib.hid (below_next BB.out hb)
  clear hb
  have hl := Lib.hid hl
  go_upto_region 2 with fail
  have d_l := Lib.hid (And.intro BB.out.size (And.intro r_a.out.lt (And.intro r_b.out.lt (True.intro))))
  obtain ⟨hb, r_l⟩ := laid w1 #[.int .i64 lx, .int .i64 ly] QT
  replace r_a := Lib.hid (r_a.out.keep hb)
  replace r_b := Lib.hid (r_b.out.keep hb)
  replace BB := Lib.hid (below_next BB.out hb)
  replace r_l := Lib.hid r_l
  clear hb
  generalize w1.alloc (.cells #[.int .i64 lx, .int .i64 ly] QT) = w2 at *
  generalize w1.heap.size = g_l at *
  obtain ⟨c_a0, c_a1, f_a0, f_a1⟩ := reads2 r_a.out
  have l_a := r_a.out.lt
  obtain ⟨c_b0, c_b1, f_b0, f_b1⟩ := reads2 r_b.out
  have l_b := r_b.out.lt
  go_wp2_with fail
  refine (C2.out _).mono ?_
  rintro e w3 ⟨rfl, hb⟩
  clear c_a0 c_a1 f_a0 f_a1 l_a c_b0 c_b1 f_b0 f_b1 l_b
  replace r_a := Lib.hid (r_a.out.keep hb)
  replace r_b := Lib.hid (r_b.out.keep hb)
  replace r_l := Lib.hid (r_l.out.keep hb)
  replace BB := Lib.hid (below_next BB.out hb)
  clear hb
  go_upto_region 3 with fail
  have d_s := Lib.hid (And.intro BB.out.size (And.intro r_a.out.lt (And.intro r_b.out.lt (And.intro r_l.out.lt (True.intro)))))
  obtain ⟨hb, r_s⟩ := laid w3 #[.int .i64 0, .int .i64 0] QT
  replace r_a := Lib.hid (r_a.out.keep hb)
  replace r_b := Lib.hid (r_b.out.keep hb)
  replace r_l := Lib.hid (r_l.out.keep hb)
  replace BB := Lib.hid (below_next BB.out hb)
  replace r_s := Lib.hid r_s
  clear hb
  generalize w3.alloc (.cells #[.int .i64 0, .int .i64 0] QT) = w4 at *
  generalize w3.heap.size = g_s at *
  obtain ⟨c_a0, c_a1, f_a0, f_a1⟩ := reads2 r_a.out
  have l_a := r_a.out.lt
  obtain ⟨c_b0, c_b1, f_b0, f_b1⟩ := reads2 r_b.out
  have l_b := r_b.out.lt
  go_wp2_with fail
  refine (C3.out _).mono ?_
  rintro e w5 ⟨rfl, hb⟩
  clear c_a0 c_a1 f_a0 f_a1 l_a c_b0 c_b1 f_b0 f_b1 l_b
  replace r_a := Lib.hid (r_a.out.keep hb)
  replace r_b := Lib.hid (r_b.out.keep hb)
  replace r_l := Lib.hid (r_l.out.keep hb)
  replace r_s := Lib.hid (r_s.out.keep hb)
  replace BB := Lib.hid (below_next BB.out hb)
  clear hb
  go_upto_region 4 with fail
  have d_p := Lib.hid (And.intro BB.out.size (And.intro r_a.out.lt (And.intro r_b.out.lt (And.intro r_l.out.lt (And.intro r_s.out.lt (True.intro))))))
  obtain ⟨hb, r_p⟩ := laid w5 #[.int .i64 0, .int .i64 0] QT
  replace r_a := Lib.hid (r_a.out.keep hb)
  replace r_b := Lib.hid (r_b.out.keep hb)
  replace r_l := Lib.hid (r_l.out.keep hb)
  replace r_s := Lib.hid (r_s.out.keep hb)
  replace BB := Lib.hid (below_next BB.out hb)
  replace r_p := Lib.hid r_p
  clear hb
  generalize w5.alloc (.cells #[.int .i64 0, .int .i64 0] QT) = w6 at *
  generalize w5.heap.size = g_p at *
  have KK := Lib.hid (fun (w9 : World) (h : Below w6.heap.size w6 w9) => (⟨cells2 (r_a.out.keep h), cells2 (r_l.out.keep h)⟩ : (w9.cell? ⟨w.heap.size, 0, none⟩ = some (.int .i64 n1) ∧ w9.cell? ⟨w.heap.size, 1, none⟩ = some (.int .i64 d1)) ∧ (w9.cell? ⟨g_l, 0, none⟩ = some (.int .i64 lx) ∧ w9.cell? ⟨g_l, 1, none⟩ = some (.int .i64 ly))))
  have K0 := KK.out w6 (Below.refl _ _)
  have KD := KK.out w6.drew (below_drew (Below.refl _ _))
  refine wp_region_held_drew (S := (fun w9 => (w9.cell? ⟨w.heap.size, 0, none⟩ = some (.int .i64 n1) ∧ w9.cell? ⟨w.heap.size, 1, none⟩ = some (.int .i64 d1)) ∧ (w9.cell? ⟨g_l, 0, none⟩ = some (.int .i64 lx) ∧ w9.cell? ⟨g_l, 1, none⟩ = some (.int .i64 ly)))) (by kernel_rfl) KD (fun hHeld => ?_)
  refine wpAnyH_take (i := 0) (v := ?_) rfl (by kernel_rfl) (by kernel_rfl) (by kernel_rfl) (fun _ _ _ h => h) (Or.inl ⟨by rfl, ?_⟩) (by assumption) ?_
  rotate_left
  · intro w9 hSw; (try dsimp only at hSw); go_simp <;> with_reducible rfl
  try simp only [Act.put, List.getElem_toArray, List.getElem_cons_zero, List.getElem_cons_succ, List.setIfInBounds_toArray, List.set_cons_zero, List.set_cons_succ]
  refine wpAnyH_take (i := 1) (v := ?_) rfl (by kernel_rfl) (by kernel_rfl) (by kernel_rfl) (fun _ _ _ h => h) (Or.inl ⟨by rfl, ?_⟩) (by assumption) ?_
  rotate_left
  · intro w9 hSw; (try dsimp only at hSw); go_simp <;> with_reducible rfl
  try simp only [Act.put, List.getElem_toArray, List.getElem_cons_zero, List.getElem_cons_succ, List.setIfInBounds_toArray, List.set_cons_zero, List.set_cons_succ]
  refine wpAnyH_take (i := 2) (v := ?_) rfl (by kernel_rfl) (by kernel_rfl) (by kernel_rfl) (fun _ _ _ h => h) (Or.inl ⟨by rfl, ?_⟩) (by assumption) ?_
  rotate_left
  · intro w9 hSw; (try dsimp only at hSw); go_simp <;> with_reducible rfl
  try simp only [Act.put, List.getElem_toArray, List.getElem_cons_zero, List.getElem_cons_succ, List.setIfInBounds_toArray, List.set_cons_zero, List.set_cons_succ]
  refine wpAnyH_take (i := 3) (v := ?_) rfl (by kernel_rfl) (by kernel_rfl) (by kernel_rfl) (fun _ _ _ h => h) (Or.inl ⟨by rfl, ?_⟩) (by assumption) ?_
  rotate_left
  · intro w9 hSw; (try dsimp only at hSw); go_simp <;> with_reducible rfl
  try simp only [Act.put, List.getElem_toArray, List.getElem_cons_zero, List.getElem_cons_succ, List.setIfInBounds_toArray, List.set_cons_zero, List.set_cons_succ]
  refine wpAnyH_take (i := 4) (v := undef) rfl (by kernel_rfl) (by kernel_rfl) (by kernel_rfl) (fun _ _ _ h => h) (Or.inr ⟨by rfl, rfl⟩) (by assumption) ?_
  try simp only [Act.put, List.getElem_toArray, List.getElem_cons_zero, List.getElem_cons_succ, List.setIfInBounds_toArray, List.set_cons_zero, List.set_cons_succ]
  refine wpAnyH_take (i := 5) (v := undef) rfl (by kernel_rfl) (by kernel_rfl) (by kernel_rfl) (fun _ _ _ h => h) (Or.inr ⟨by rfl, rfl⟩) (by assumption) ?_
  try simp only [Act.put, List.getElem_toArray, List.getElem_cons_zero, List.getElem_cons_succ, List.setIfInBounds_toArray, List.set_cons_zero, List.set_cons_succ]
  refine wpAnyH_take (i := 6) (v := undef) rfl (by kernel_rfl) (by kernel_rfl) (by kernel_rfl) (fun _ _ _ h => h) (Or.inr ⟨by rfl, rfl⟩) (by assumption) ?_
  try simp only [Act.put, List.getElem_toArray, List.getElem_cons_zero, List.getElem_cons_succ, List.setIfInBounds_toArray, List.set_cons_zero, List.set_cons_succ]
  refine wpAnyH_take (i := 7) (v := undef) rfl (by kernel_rfl) (by kernel_rfl) (by kernel_rfl) (fun _ _ _ h => h) (Or.inr ⟨by rfl, rfl⟩) (by assumption) ?_
  try simp only [Act.put, List.getElem_toArray, List.getElem_cons_zero, List.getElem_cons_succ, List.setIfInBounds_toArray, List.set_cons_zero, List.set_cons_succ]
  refine wpAnyH_take (i := 8) (v := undef) rfl (by kernel_rfl) (by kernel_rfl) (by kernel_rfl) (fun _ _ _ h => h) (Or.inr ⟨by rfl, rfl⟩) (by assumption) ?_
  try simp only [Act.put, List.getElem_toArray, List.getElem_cons_zero, List.getElem_cons_succ, List.setIfInBounds_toArray, List.set_cons_zero, List.set_cons_succ]
  refine wpAnyH_take (i := 9) (v := undef) rfl (by kernel_rfl) (by kernel_rfl) (by kernel_rfl) (fun _ _ _ h => h) (Or.inr ⟨by rfl, rfl⟩) (by assumption) ?_
  try simp only [Act.put, List.getElem_toArray, List.getElem_cons_zero, List.getElem_cons_succ, List.setIfInBounds_toArray, List.set_cons_zero, List.set_cons_succ]
  refine wpAnyH_take (i := 10) (v := ?_) rfl (by kernel_rfl) (by kernel_rfl) (by kernel_rfl) (fun _ _ _ h => h) (Or.inl ⟨by rfl, ?_⟩) (by assumption) ?_
  rotate_left
  · intro w9 hSw; (try dsimp only at hSw); go_simp <;> with_reducible rfl
  try simp only [Act.put, List.getElem_toArray, List.getElem_cons_zero, List.getElem_cons_succ, List.setIfInBounds_toArray, List.set_cons_zero, List.set_cons_succ]
  refine wpAnyH_take (i := 11) (v := ?_) rfl (by kernel_rfl) (by kernel_rfl) (by kernel_rfl) (fun _ _ _ h => h) (Or.inl ⟨by rfl, ?_⟩) (by assumption) ?_
  rotate_left
  · intro w9 hSw; (try dsimp only at hSw); go_simp <;> with_reducible rfl
  try simp only [Act.put, List.getElem_toArray, List.getElem_cons_zero, List.getElem_cons_succ, List.setIfInBounds_toArray, List.set_cons_zero, List.set_cons_succ]
  refine wpAnyH_take (i := 12) (v := ?_) rfl (by kernel_rfl) (by kernel_rfl) (by kernel_rfl) (fun _ _ _ h => h) (Or.inl ⟨by rfl, ?_⟩) (by assumption) ?_
  rotate_left
  · intro w9 hSw; (try dsimp only at hSw); go_simp <;> with_reducible rfl
  try simp only [Act.put, List.getElem_toArray, List.getElem_cons_zero, List.getElem_cons_succ, List.setIfInBounds_toArray, List.set_cons_zero, List.set_cons_succ]
  refine wpAnyH_take (i := 14) (v := ?_) rfl (by kernel_rfl) (by kernel_rfl) (by kernel_rfl) (fun _ _ _ h => h) (Or.inl ⟨by rfl, ?_⟩) (by assumption) ?_
  rotate_left
  · intro w9 hSw; (try dsimp only at hSw); go_simp <;> with_reducible rfl
  try simp only [Act.put, List.getElem_toArray, List.getElem_cons_zero, List.getElem_cons_succ, List.setIfInBounds_toArray, List.set_cons_zero, List.set_cons_succ]
  refine wpAnyH_take (i := 15) (v := ?_) rfl (by kernel_rfl) (by kernel_rfl) (by kernel_rfl) (fun _ _ _ h => h) (Or.inl ⟨by rfl, ?_⟩) (by assumption) ?_
  rotate_left
  · intro w9 hSw; (try dsimp only at hSw); go_simp <;> with_reducible rfl
  try simp only [Act.put, List.getElem_toArray, List.getElem_cons_zero, List.getElem_cons_succ, List.setIfInBounds_toArray, List.set_cons_zero, List.set_cons_succ]
  refine wpAnyH_take (i := 16) (v := ?_) rfl (by kernel_rfl) (by kernel_rfl) (by kernel_rfl) (fun _ _ _ h => h) (Or.inl ⟨by rfl, ?_⟩) (by assumption) ?_
  rotate_left
  · intro w9 hSw; (try dsimp only at hSw); go_simp <;> with_reducible rfl
  try simp only [Act.put, List.getElem_toArray, List.getElem_cons_zero, List.getElem_cons_succ, List.setIfInBounds_toArray, List.set_cons_zero, List.set_cons_succ]
  refine wpAnyH_ready (rs := [13]) (by kernel_rfl) (by simp) ?_
  refine AllReadyH.cons rfl (fun K hK => ?_) AllReadyH.nil
  go_simp
  go_at_call 62
  refine (CR.out _).mono ?_
  rintro e w7 ⟨rfl, hb⟩
  have B_w7 := Lib.hid (reg_next (w0 := w6) (by repeat (first | with_reducible exact Below.refl _ _ | with_reducible apply below_drew | with_reducible apply below_new)) hb)
  have K_w7 := KK.out _ B_w7.out
  clear hb
  refine hK.out _ _ K_w7 (fun hHeld => ?_)
  clear hK
  try simp only [Act.put, List.getElem_toArray, List.getElem_cons_zero, List.getElem_cons_succ, List.setIfInBounds_toArray, List.set_cons_zero, List.set_cons_succ]
  refine wpAnyH_take (i := 17) (v := ?_) rfl (by kernel_rfl) (by kernel_rfl) (by kernel_rfl) (fun _ _ _ h => h) (Or.inl ⟨by rfl, ?_⟩) (by assumption) ?_
  rotate_left
  · intro w9 hSw; (try dsimp only at hSw); go_simp <;> with_reducible rfl
  try simp only [Act.put, List.getElem_toArray, List.getElem_cons_zero, List.getElem_cons_succ, List.setIfInBounds_toArray, List.set_cons_zero, List.set_cons_succ]
  refine wpAnyH_take (i := 18) (v := ?_) rfl (by kernel_rfl) (by kernel_rfl) (by kernel_rfl) (fun _ _ _ h => h) (Or.inl ⟨by rfl, ?_⟩) (by assumption) ?_
  rotate_left
  · intro w9 hSw; (try dsimp only at hSw); go_simp <;> with_reducible rfl
  try simp only [Act.put, List.getElem_toArray, List.getElem_cons_zero, List.getElem_cons_succ, List.setIfInBounds_toArray, List.set_cons_zero, List.set_cons_succ]
  refine wpAnyH_done (by kernel_rfl) ?_ _
  clear KK K0 KD K_w7
  replace r_a := Lib.hid (r_a.out.keep B_w7.out)
  replace r_b := Lib.hid (r_b.out.keep B_w7.out)
  replace r_l := Lib.hid (r_l.out.keep B_w7.out)
  replace r_s := Lib.hid (r_s.out.keep B_w7.out)
  replace r_p := Lib.hid (r_p.out.keep B_w7.out)
  replace BB := Lib.hid (below_next BB.out B_w7.out)
  clear B_w7
  obtain ⟨c_a0, c_a1, f_a0, f_a1⟩ := reads2 r_a.out
  have l_a := r_a.out.lt
  obtain ⟨c_b0, c_b1, f_b0, f_b1⟩ := reads2 r_b.out
  have l_b := r_b.out.lt
  obtain ⟨c_s0, c_s1, f_s0, f_s1⟩ := reads2 r_s.out
  have l_s := r_s.out.lt
  obtain ⟨c_p0, c_p1, f_p0, f_p1⟩ := reads2 r_p.out
  have l_p := r_p.out.lt
  go_wp2_with fail
  refine (CL.out _).mono ?_
  rintro e w8 ⟨rfl, hb⟩
  clear c_a0 c_a1 f_a0 f_a1 l_a c_b0 c_b1 f_b0 f_b1 l_b c_s0 c_s1 f_s0 f_s1 l_s c_p0 c_p1 f_p0 f_p1 l_p
  replace r_a := Lib.hid (r_a.out.keep hb)
  replace r_b := Lib.hid (r_b.out.keep hb)
  replace r_l := Lib.hid (r_l.out.keep hb)
  replace r_s := Lib.hid (r_s.out.keep hb)
  replace r_p := Lib.hid (r_p.out.keep hb)
  replace BB := Lib.hid (below_next BB.out hb)
  clear hb
  go_wp2_with fail
  go_ret
  exact ⟨rfl, BB.out⟩
set_option maxRecDepth 100000 in
set_option maxHeartbeats 8000000 in
theorem ratSums_c (n1 d1 n2 d2 : Int) (h1 : I64 n1) (h2 : I64 d1) (h3 : I64 n2) (h4 : I64 d2) (h : 0 < d1) (hb' : 0 < d2) (w : World) : Calls Try.prog 12 #[qv n1 d1, qv n2 d2] w fun e w' => e = .returned (.bool true) ∧ Below w.heap.size w w' := by
  have C1 := Lib.hid (fun w => rLeast_ok n1 d1 h1 h2 h w)
  have CR := Lib.hid (fun w => qright n1 d1 w)
  have CL := Lib.hid (fun w => alive03 w)
  have e1 : ¬ d1 < 1 := by omega
  have e3 : decide (d1 > 0) = true := decide_eq_true (by omega)
  have e4 : decide (d1 < 1) = false := decide_eq_false (by omega)
  rw [e3] at CR
  have C2 := Lib.hid (fun w => qadd n1 d1 n2 d2 h1 h2 h3 h4 h hb' w)
  have C3 := Lib.hid (fun w => qmul n1 d1 n2 d2 h1 h2 h3 h4 h hb' w)
  have O1 := Lib.hid (fun w => rown n1 d1 h1 h2 w)
  have O2 := Lib.hid (fun w => rown n2 d2 h3 h4 w)
  have w1 := i64_wd h1
  have w2' := i64_wd h2
  have w3 := i64_wd h3
  have w4 := i64_wd h4
  have A1 := Lib.hid (fun (u v : Value) w (hu : RR w u n1 d1) (hv : RR w v n2 d2) => radd u v n1 d1 n2 d2 w1 w2' w3 w4 (by omega) w hu hv)
  have M1 := Lib.hid (fun (u v : Value) w (hu : RR w u n1 d1) (hv : RR w v n2 d2) => rmul u v n1 d1 n2 d2 w1 w2' w3 w4 (by omega) w hu hv)
  have T1 := Lib.hid (fun x y ok (hL : LQ n1 d1 x y ok) (v : Value) w (hv : RR w v n1 d1) => rtold x y ok v n1 d1 (w1.up (by omega)) (w2'.up (by omega)) h hL w hv)
  have T2 := Lib.hid (fun x y ok (hL : LQ (n1 * d2 + n2 * d1) (d1 * d2) x y ok) (v : Value) w (hv : RR w v (n1 * d2 + n2 * d1) (d1 * d2)) => rtold x y ok v (n1 * d2 + n2 * d1) (d1 * d2) (((w1.mul w4).add (w3.mul w2')).up (by omega)) ((w2'.mul w4).up (by omega)) (Int.mul_pos h hb') hL w hv)
  have T3 := Lib.hid (fun x y ok (hL : LQ (n1 * n2) (d1 * d2) x y ok) (v : Value) w (hv : RR w v (n1 * n2) (d1 * d2)) => rtold x y ok v (n1 * n2) (d1 * d2) ((w1.mul w3).up (by omega)) ((w2'.mul w4).up (by omega)) (Int.mul_pos h hb') hL w hv)
  have f1 : ¬ d2 < 1 := by omega
  have f4 : decide (d2 < 1) = false := decide_eq_false (by omega)
  have e5 : 0 < d1 := h
  generalize n1 * d2 + n2 * d1 = P at *
  generalize n1 * n2 = Q at *
  generalize d1 * d2 = D at *
  clear h1 h2 h3 h4 hb' h w1 w2' w3 w4
  go_enter Try.func12, Try.ntmps12
  go_wp2_with fail
  have BB := start2 w #[.int .i64 n1, .int .i64 d1] QT #[.int .i64 n2, .int .i64 d2] QT
  obtain ⟨BB, hsz, r_a, r_b⟩ := BB
  generalize ((w.alloc (.cells #[.int .i64 n1, .int .i64 d1] QT)).alloc (.cells #[.int .i64 n2, .int .i64 d2] QT)) = w0 at *
  replace BB := Lib.hid BB
  replace r_a := Lib.hid r_a
  replace r_b := Lib.hid r_b
  clear hsz
  obtain ⟨c_a0, c_a1, f_a0, f_a1⟩ := reads2 r_a.out
  have l_a := r_a.out.lt
  go_wp2_with fail
  refine (C1.out _).mono ?_
  rintro e w1 ⟨lx, ly, okl, rfl, hb, hl⟩
  clear c_a0 c_a1 f_a0 f_a1 l_a
  replace r_a := Lib.hid (r_a.out.keep hb)
  replace r_b := Lib.hid (r_b.out.keep hb)
  replace BB := Lib.hid (below_next BB.out hb)
  clear hb
  have hl := Lib.hid hl
  go_upto_region 2 with fail
  have d_l := Lib.hid (And.intro BB.out.size (And.intro r_a.out.lt (And.intro r_b.out.lt (True.intro))))
  obtain ⟨hb, r_l⟩ := laid w1 #[.int .i64 lx, .int .i64 ly] QT
  replace r_a := Lib.hid (r_a.out.keep hb)
  replace r_b := Lib.hid (r_b.out.keep hb)
  replace BB := Lib.hid (below_next BB.out hb)
  replace r_l := Lib.hid r_l
  clear hb
  generalize w1.alloc (.cells #[.int .i64 lx, .int .i64 ly] QT) = w2 at *
  generalize w1.heap.size = g_l at *
  obtain ⟨c_a0, c_a1, f_a0, f_a1⟩ := reads2 r_a.out
  have l_a := r_a.out.lt
  obtain ⟨c_b0, c_b1, f_b0, f_b1⟩ := reads2 r_b.out
  have l_b := r_b.out.lt
  go_wp2_with fail
  refine (C2.out _).mono ?_
  rintro e w3 ⟨sx, sy, oks, rfl, hb, hs⟩
  clear c_a0 c_a1 f_a0 f_a1 l_a c_b0 c_b1 f_b0 f_b1 l_b
  replace r_a := Lib.hid (r_a.out.keep hb)
  replace r_b := Lib.hid (r_b.out.keep hb)
  replace r_l := Lib.hid (r_l.out.keep hb)
  replace BB := Lib.hid (below_next BB.out hb)
  clear hb
  have hs := Lib.hid hs
  go_upto_region 3 with fail
  have d_s := Lib.hid (And.intro BB.out.size (And.intro r_a.out.lt (And.intro r_b.out.lt (And.intro r_l.out.lt (True.intro)))))
  obtain ⟨hb, r_s⟩ := laid w3 #[.int .i64 sx, .int .i64 sy] QT
  replace r_a := Lib.hid (r_a.out.keep hb)
  replace r_b := Lib.hid (r_b.out.keep hb)
  replace r_l := Lib.hid (r_l.out.keep hb)
  replace BB := Lib.hid (below_next BB.out hb)
  replace r_s := Lib.hid r_s
  clear hb
  generalize w3.alloc (.cells #[.int .i64 sx, .int .i64 sy] QT) = w4 at *
  generalize w3.heap.size = g_s at *
  obtain ⟨c_a0, c_a1, f_a0, f_a1⟩ := reads2 r_a.out
  have l_a := r_a.out.lt
  obtain ⟨c_b0, c_b1, f_b0, f_b1⟩ := reads2 r_b.out
  have l_b := r_b.out.lt
  go_wp2_with fail
  refine (C3.out _).mono ?_
  rintro e w5 ⟨px, py, okp, rfl, hb, hp⟩
  clear c_a0 c_a1 f_a0 f_a1 l_a c_b0 c_b1 f_b0 f_b1 l_b
  replace r_a := Lib.hid (r_a.out.keep hb)
  replace r_b := Lib.hid (r_b.out.keep hb)
  replace r_l := Lib.hid (r_l.out.keep hb)
  replace r_s := Lib.hid (r_s.out.keep hb)
  replace BB := Lib.hid (below_next BB.out hb)
  clear hb
  have hp := Lib.hid hp
  go_upto_region 4 with fail
  have d_p := Lib.hid (And.intro BB.out.size (And.intro r_a.out.lt (And.intro r_b.out.lt (And.intro r_l.out.lt (And.intro r_s.out.lt (True.intro))))))
  obtain ⟨hb, r_p⟩ := laid w5 #[.int .i64 px, .int .i64 py] QT
  replace r_a := Lib.hid (r_a.out.keep hb)
  replace r_b := Lib.hid (r_b.out.keep hb)
  replace r_l := Lib.hid (r_l.out.keep hb)
  replace r_s := Lib.hid (r_s.out.keep hb)
  replace BB := Lib.hid (below_next BB.out hb)
  replace r_p := Lib.hid r_p
  clear hb
  generalize w5.alloc (.cells #[.int .i64 px, .int .i64 py] QT) = w6 at *
  generalize w5.heap.size = g_p at *
  have KK := Lib.hid (fun (w9 : World) (h : Below w6.heap.size w6 w9) => (⟨cells2 (r_a.out.keep h), cells2 (r_l.out.keep h)⟩ : (w9.cell? ⟨w.heap.size, 0, none⟩ = some (.int .i64 n1) ∧ w9.cell? ⟨w.heap.size, 1, none⟩ = some (.int .i64 d1)) ∧ (w9.cell? ⟨g_l, 0, none⟩ = some (.int .i64 lx) ∧ w9.cell? ⟨g_l, 1, none⟩ = some (.int .i64 ly))))
  have K0 := KK.out w6 (Below.refl _ _)
  have KD := KK.out w6.drew (below_drew (Below.refl _ _))
  refine wp_region_held_drew (S := (fun w9 => (w9.cell? ⟨w.heap.size, 0, none⟩ = some (.int .i64 n1) ∧ w9.cell? ⟨w.heap.size, 1, none⟩ = some (.int .i64 d1)) ∧ (w9.cell? ⟨g_l, 0, none⟩ = some (.int .i64 lx) ∧ w9.cell? ⟨g_l, 1, none⟩ = some (.int .i64 ly)))) (by kernel_rfl) KD (fun hHeld => ?_)
  refine wpAnyH_take (i := 0) (v := ?_) rfl (by kernel_rfl) (by kernel_rfl) (by kernel_rfl) (fun _ _ _ h => h) (Or.inl ⟨by rfl, ?_⟩) (by assumption) ?_
  rotate_left
  · intro w9 hSw; (try dsimp only at hSw); go_simp <;> with_reducible rfl
  try simp only [Act.put, List.getElem_toArray, List.getElem_cons_zero, List.getElem_cons_succ, List.setIfInBounds_toArray, List.set_cons_zero, List.set_cons_succ]
  refine wpAnyH_take (i := 1) (v := ?_) rfl (by kernel_rfl) (by kernel_rfl) (by kernel_rfl) (fun _ _ _ h => h) (Or.inl ⟨by rfl, ?_⟩) (by assumption) ?_
  rotate_left
  · intro w9 hSw; (try dsimp only at hSw); go_simp <;> with_reducible rfl
  try simp only [Act.put, List.getElem_toArray, List.getElem_cons_zero, List.getElem_cons_succ, List.setIfInBounds_toArray, List.set_cons_zero, List.set_cons_succ]
  refine wpAnyH_take (i := 2) (v := ?_) rfl (by kernel_rfl) (by kernel_rfl) (by kernel_rfl) (fun _ _ _ h => h) (Or.inl ⟨by rfl, ?_⟩) (by assumption) ?_
  rotate_left
  · intro w9 hSw; (try dsimp only at hSw); go_simp <;> with_reducible rfl
  try simp only [Act.put, List.getElem_toArray, List.getElem_cons_zero, List.getElem_cons_succ, List.setIfInBounds_toArray, List.set_cons_zero, List.set_cons_succ]
  refine wpAnyH_take (i := 3) (v := ?_) rfl (by kernel_rfl) (by kernel_rfl) (by kernel_rfl) (fun _ _ _ h => h) (Or.inl ⟨by rfl, ?_⟩) (by assumption) ?_
  rotate_left
  · intro w9 hSw; (try dsimp only at hSw); go_simp <;> with_reducible rfl
  try simp only [Act.put, List.getElem_toArray, List.getElem_cons_zero, List.getElem_cons_succ, List.setIfInBounds_toArray, List.set_cons_zero, List.set_cons_succ]
  refine wpAnyH_take (i := 4) (v := undef) rfl (by kernel_rfl) (by kernel_rfl) (by kernel_rfl) (fun _ _ _ h => h) (Or.inr ⟨by rfl, rfl⟩) (by assumption) ?_
  try simp only [Act.put, List.getElem_toArray, List.getElem_cons_zero, List.getElem_cons_succ, List.setIfInBounds_toArray, List.set_cons_zero, List.set_cons_succ]
  refine wpAnyH_take (i := 5) (v := undef) rfl (by kernel_rfl) (by kernel_rfl) (by kernel_rfl) (fun _ _ _ h => h) (Or.inr ⟨by rfl, rfl⟩) (by assumption) ?_
  try simp only [Act.put, List.getElem_toArray, List.getElem_cons_zero, List.getElem_cons_succ, List.setIfInBounds_toArray, List.set_cons_zero, List.set_cons_succ]
  refine wpAnyH_take (i := 6) (v := undef) rfl (by kernel_rfl) (by kernel_rfl) (by kernel_rfl) (fun _ _ _ h => h) (Or.inr ⟨by rfl, rfl⟩) (by assumption) ?_
  try simp only [Act.put, List.getElem_toArray, List.getElem_cons_zero, List.getElem_cons_succ, List.setIfInBounds_toArray, List.set_cons_zero, List.set_cons_succ]
  refine wpAnyH_take (i := 7) (v := undef) rfl (by kernel_rfl) (by kernel_rfl) (by kernel_rfl) (fun _ _ _ h => h) (Or.inr ⟨by rfl, rfl⟩) (by assumption) ?_
  try simp only [Act.put, List.getElem_toArray, List.getElem_cons_zero, List.getElem_cons_succ, List.setIfInBounds_toArray, List.set_cons_zero, List.set_cons_succ]
  refine wpAnyH_take (i := 8) (v := undef) rfl (by kernel_rfl) (by kernel_rfl) (by kernel_rfl) (fun _ _ _ h => h) (Or.inr ⟨by rfl, rfl⟩) (by assumption) ?_
  try simp only [Act.put, List.getElem_toArray, List.getElem_cons_zero, List.getElem_cons_succ, List.setIfInBounds_toArray, List.set_cons_zero, List.set_cons_succ]
  refine wpAnyH_take (i := 9) (v := undef) rfl (by kernel_rfl) (by kernel_rfl) (by kernel_rfl) (fun _ _ _ h => h) (Or.inr ⟨by rfl, rfl⟩) (by assumption) ?_
  try simp only [Act.put, List.getElem_toArray, List.getElem_cons_zero, List.getElem_cons_succ, List.setIfInBounds_toArray, List.set_cons_zero, List.set_cons_succ]
  refine wpAnyH_take (i := 10) (v := ?_) rfl (by kernel_rfl) (by kernel_rfl) (by kernel_rfl) (fun _ _ _ h => h) (Or.inl ⟨by rfl, ?_⟩) (by assumption) ?_
  rotate_left
  · intro w9 hSw; (try dsimp only at hSw); go_simp <;> with_reducible rfl
  try simp only [Act.put, List.getElem_toArray, List.getElem_cons_zero, List.getElem_cons_succ, List.setIfInBounds_toArray, List.set_cons_zero, List.set_cons_succ]
  refine wpAnyH_take (i := 11) (v := ?_) rfl (by kernel_rfl) (by kernel_rfl) (by kernel_rfl) (fun _ _ _ h => h) (Or.inl ⟨by rfl, ?_⟩) (by assumption) ?_
  rotate_left
  · intro w9 hSw; (try dsimp only at hSw); go_simp <;> with_reducible rfl
  try simp only [Act.put, List.getElem_toArray, List.getElem_cons_zero, List.getElem_cons_succ, List.setIfInBounds_toArray, List.set_cons_zero, List.set_cons_succ]
  refine wpAnyH_take (i := 12) (v := ?_) rfl (by kernel_rfl) (by kernel_rfl) (by kernel_rfl) (fun _ _ _ h => h) (Or.inl ⟨by rfl, ?_⟩) (by assumption) ?_
  rotate_left
  · intro w9 hSw; (try dsimp only at hSw); go_simp <;> with_reducible rfl
  try simp only [Act.put, List.getElem_toArray, List.getElem_cons_zero, List.getElem_cons_succ, List.setIfInBounds_toArray, List.set_cons_zero, List.set_cons_succ]
  refine wpAnyH_take (i := 14) (v := ?_) rfl (by kernel_rfl) (by kernel_rfl) (by kernel_rfl) (fun _ _ _ h => h) (Or.inl ⟨by rfl, ?_⟩) (by assumption) ?_
  rotate_left
  · intro w9 hSw; (try dsimp only at hSw); go_simp <;> with_reducible rfl
  try simp only [Act.put, List.getElem_toArray, List.getElem_cons_zero, List.getElem_cons_succ, List.setIfInBounds_toArray, List.set_cons_zero, List.set_cons_succ]
  refine wpAnyH_take (i := 15) (v := ?_) rfl (by kernel_rfl) (by kernel_rfl) (by kernel_rfl) (fun _ _ _ h => h) (Or.inl ⟨by rfl, ?_⟩) (by assumption) ?_
  rotate_left
  · intro w9 hSw; (try dsimp only at hSw); go_simp <;> with_reducible rfl
  try simp only [Act.put, List.getElem_toArray, List.getElem_cons_zero, List.getElem_cons_succ, List.setIfInBounds_toArray, List.set_cons_zero, List.set_cons_succ]
  refine wpAnyH_take (i := 16) (v := ?_) rfl (by kernel_rfl) (by kernel_rfl) (by kernel_rfl) (fun _ _ _ h => h) (Or.inl ⟨by rfl, ?_⟩) (by assumption) ?_
  rotate_left
  · intro w9 hSw; (try dsimp only at hSw); go_simp <;> with_reducible rfl
  try simp only [Act.put, List.getElem_toArray, List.getElem_cons_zero, List.getElem_cons_succ, List.setIfInBounds_toArray, List.set_cons_zero, List.set_cons_succ]
  refine wpAnyH_ready (rs := [13]) (by kernel_rfl) (by simp) ?_
  refine AllReadyH.cons rfl (fun K hK => ?_) AllReadyH.nil
  go_simp
  go_at_call 62
  refine (CR.out _).mono ?_
  rintro e w7 ⟨rfl, hb⟩
  have B_w7 := Lib.hid (reg_next (w0 := w6) (by repeat (first | with_reducible exact Below.refl _ _ | with_reducible apply below_drew | with_reducible apply below_new)) hb)
  have K_w7 := KK.out _ B_w7.out
  clear hb
  refine hK.out _ _ K_w7 (fun hHeld => ?_)
  clear hK
  try simp only [Act.put, List.getElem_toArray, List.getElem_cons_zero, List.getElem_cons_succ, List.setIfInBounds_toArray, List.set_cons_zero, List.set_cons_succ]
  refine wpAnyH_take (i := 17) (v := ?_) rfl (by kernel_rfl) (by kernel_rfl) (by kernel_rfl) (fun _ _ _ h => h) (Or.inl ⟨by rfl, ?_⟩) (by assumption) ?_
  rotate_left
  · intro w9 hSw; (try dsimp only at hSw); go_simp <;> with_reducible rfl
  try simp only [Act.put, List.getElem_toArray, List.getElem_cons_zero, List.getElem_cons_succ, List.setIfInBounds_toArray, List.set_cons_zero, List.set_cons_succ]
  refine wpAnyH_take (i := 18) (v := ?_) rfl (by kernel_rfl) (by kernel_rfl) (by kernel_rfl) (fun _ _ _ h => h) (Or.inl ⟨by rfl, ?_⟩) (by assumption) ?_
  rotate_left
  · intro w9 hSw; (try dsimp only at hSw); go_simp <;> with_reducible rfl
  try simp only [Act.put, List.getElem_toArray, List.getElem_cons_zero, List.getElem_cons_succ, List.setIfInBounds_toArray, List.set_cons_zero, List.set_cons_succ]
  refine wpAnyH_done (by kernel_rfl) ?_ _
  clear KK K0 KD K_w7
  replace r_a := Lib.hid (r_a.out.keep B_w7.out)
  replace r_b := Lib.hid (r_b.out.keep B_w7.out)
  replace r_l := Lib.hid (r_l.out.keep B_w7.out)
  replace r_s := Lib.hid (r_s.out.keep B_w7.out)
  replace r_p := Lib.hid (r_p.out.keep B_w7.out)
  replace BB := Lib.hid (below_next BB.out B_w7.out)
  clear B_w7
  obtain ⟨c_a0, c_a1, f_a0, f_a1⟩ := reads2 r_a.out
  have l_a := r_a.out.lt
  obtain ⟨c_b0, c_b1, f_b0, f_b1⟩ := reads2 r_b.out
  have l_b := r_b.out.lt
  go_wp2_with fail
  clear c_a0 c_a1 f_a0 f_a1 l_a c_b0 c_b1 f_b0 f_b1 l_b
  have KK := Lib.hid (fun (w9 : World) (h : Below w7.heap.size w7 w9) => (⟨cells2 (r_l.out.keep h), cells2 (r_a.out.keep h), cells2 (r_s.out.keep h), cells2 (r_b.out.keep h), cells2 (r_p.out.keep h)⟩ : (w9.cell? ⟨g_l, 0, none⟩ = some (.int .i64 lx) ∧ w9.cell? ⟨g_l, 1, none⟩ = some (.int .i64 ly)) ∧ (w9.cell? ⟨w.heap.size, 0, none⟩ = some (.int .i64 n1) ∧ w9.cell? ⟨w.heap.size, 1, none⟩ = some (.int .i64 d1)) ∧ (w9.cell? ⟨g_s, 0, none⟩ = some (.int .i64 sx) ∧ w9.cell? ⟨g_s, 1, none⟩ = some (.int .i64 sy)) ∧ (w9.cell? ⟨w.heap.size + 1, 0, none⟩ = some (.int .i64 n2) ∧ w9.cell? ⟨w.heap.size + 1, 1, none⟩ = some (.int .i64 d2)) ∧ (w9.cell? ⟨g_p, 0, none⟩ = some (.int .i64 px) ∧ w9.cell? ⟨g_p, 1, none⟩ = some (.int .i64 py))))
  have K0 := KK.out w7 (Below.refl _ _)
  have KD := KK.out w7.drew (below_drew (Below.refl _ _))
  have tok0 : Hid True := trivial
  have tok1 : Hid True := trivial
  have tok2 : Hid True := trivial
  have tok3 : Hid True := trivial
  have tok5 : Hid True := trivial
  have tok6 : Hid True := trivial
  have tok7 : Hid True := trivial
  have tok9 : Hid True := trivial
  go_region_held3 (fun w9 => (w9.cell? ⟨g_l, 0, none⟩ = some (.int .i64 lx) ∧ w9.cell? ⟨g_l, 1, none⟩ = some (.int .i64 ly)) ∧ (w9.cell? ⟨w.heap.size, 0, none⟩ = some (.int .i64 n1) ∧ w9.cell? ⟨w.heap.size, 1, none⟩ = some (.int .i64 d1)) ∧ (w9.cell? ⟨g_s, 0, none⟩ = some (.int .i64 sx) ∧ w9.cell? ⟨g_s, 1, none⟩ = some (.int .i64 sy)) ∧ (w9.cell? ⟨w.heap.size + 1, 0, none⟩ = some (.int .i64 n2) ∧ w9.cell? ⟨w.heap.size + 1, 1, none⟩ = some (.int .i64 d2)) ∧ (w9.cell? ⟨g_p, 0, none⟩ = some (.int .i64 px) ∧ w9.cell? ⟨g_p, 1, none⟩ = some (.int .i64 py)))
      (first | with_reducible exact KD | with_reducible exact K0 | with_reducible exact K_w8 | with_reducible exact K_w10 | with_reducible exact K_w11 | with_reducible exact K_w12 | with_reducible exact K_w13 | with_reducible exact K_w14 | with_reducible exact K_w15 | with_reducible exact K_w16 | with_reducible exact K_w17 | with_reducible exact K_w18 | with_reducible exact K_w19)
      (first
        | (go_at_call 64
           have t_k := tok0
           refine (O1.out _).mono ?_
           rintro e w8 ⟨v_u1, rfl, hb, h_u1⟩
           obtain ⟨A_u1, n_u1, cap_u1, B_u1, m_u1, cup_u1, rfl, -, -⟩ := id h_u1.form
           replace h_u1 := Lib.hid h_u1
           have B_w8 := Lib.hid (reg_next (w0 := w7) (by repeat (first | with_reducible exact Below.refl _ _ | with_reducible apply below_drew | with_reducible apply below_new)) hb)
           have K_w8 := KK.out _ B_w8.out
           clear hb
           clear t_k tok0)
        | (go_at_call 63
           have t_k := tok1
           refine (T1.out _ _ _ hl.out _ _ h_u1.out).mono ?_
           rintro e w10 ⟨rfl, hb⟩
           replace h_u1 := Lib.hid (h_u1.out.below hb)
           have B_w10 := Lib.hid (below_next B_w8.out hb)
           have K_w10 := KK.out _ B_w10.out
           clear hb
           clear t_k tok1)
        | (go_at_call 64
           have t_k := tok2
           refine (O1.out _).mono ?_
           rintro e w11 ⟨v_u2, rfl, hb, h_u2⟩
           obtain ⟨A_u2, n_u2, cap_u2, B_u2, m_u2, cup_u2, rfl, -, -⟩ := id h_u2.form
           replace h_u2 := Lib.hid h_u2
           replace h_u1 := Lib.hid (h_u1.out.below hb)
           have B_w11 := Lib.hid (below_next B_w10.out hb)
           have K_w11 := KK.out _ B_w11.out
           clear hb
           clear t_k tok2)
        | (go_at_call 64
           have t_k := tok3
           refine (O2.out _).mono ?_
           rintro e w12 ⟨v_u3, rfl, hb, h_u3⟩
           obtain ⟨A_u3, n_u3, cap_u3, B_u3, m_u3, cup_u3, rfl, -, -⟩ := id h_u3.form
           replace h_u3 := Lib.hid h_u3
           replace h_u1 := Lib.hid (h_u1.out.below hb)
           replace h_u2 := Lib.hid (h_u2.out.below hb)
           have B_w12 := Lib.hid (below_next B_w11.out hb)
           have K_w12 := KK.out _ B_w12.out
           clear hb
           clear t_k tok3)
        | (go_at_call 65
           refine (A1.out _ _ _ h_u2.out h_u3.out).mono ?_
           rintro e w13 ⟨v_u4, rfl, hb, h_u4⟩
           obtain ⟨A_u4, n_u4, cap_u4, B_u4, m_u4, cup_u4, rfl, -, -⟩ := id h_u4.form
           replace h_u4 := Lib.hid h_u4
           replace h_u1 := Lib.hid (h_u1.out.below hb)
           replace h_u2 := Lib.hid (h_u2.out.below hb)
           replace h_u3 := Lib.hid (h_u3.out.below hb)
           have B_w13 := Lib.hid (below_next B_w12.out hb)
           have K_w13 := KK.out _ B_w13.out
           clear hb)
        | (go_at_call 63
           have t_k := tok5
           refine (T2.out _ _ _ hs.out _ _ h_u4.out).mono ?_
           rintro e w14 ⟨rfl, hb⟩
           replace h_u1 := Lib.hid (h_u1.out.below hb)
           replace h_u2 := Lib.hid (h_u2.out.below hb)
           replace h_u3 := Lib.hid (h_u3.out.below hb)
           replace h_u4 := Lib.hid (h_u4.out.below hb)
           have B_w14 := Lib.hid (below_next B_w13.out hb)
           have K_w14 := KK.out _ B_w14.out
           clear hb
           clear t_k tok5)
        | (go_at_call 64
           have t_k := tok6
           refine (O1.out _).mono ?_
           rintro e w15 ⟨v_u5, rfl, hb, h_u5⟩
           obtain ⟨A_u5, n_u5, cap_u5, B_u5, m_u5, cup_u5, rfl, -, -⟩ := id h_u5.form
           replace h_u5 := Lib.hid h_u5
           replace h_u1 := Lib.hid (h_u1.out.below hb)
           replace h_u2 := Lib.hid (h_u2.out.below hb)
           replace h_u3 := Lib.hid (h_u3.out.below hb)
           replace h_u4 := Lib.hid (h_u4.out.below hb)
           have B_w15 := Lib.hid (below_next B_w14.out hb)
           have K_w15 := KK.out _ B_w15.out
           clear hb
           clear t_k tok6)
        | (go_at_call 64
           have t_k := tok7
           refine (O2.out _).mono ?_
           rintro e w16 ⟨v_u6, rfl, hb, h_u6⟩
           obtain ⟨A_u6, n_u6, cap_u6, B_u6, m_u6, cup_u6, rfl, -, -⟩ := id h_u6.form
           replace h_u6 := Lib.hid h_u6
           replace h_u1 := Lib.hid (h_u1.out.below hb)
           replace h_u2 := Lib.hid (h_u2.out.below hb)
           replace h_u3 := Lib.hid (h_u3.out.below hb)
           replace h_u4 := Lib.hid (h_u4.out.below hb)
           replace h_u5 := Lib.hid (h_u5.out.below hb)
           have B_w16 := Lib.hid (below_next B_w15.out hb)
           have K_w16 := KK.out _ B_w16.out
           clear hb
           clear t_k tok7)
        | (go_at_call 66
           refine (M1.out _ _ _ h_u5.out h_u6.out).mono ?_
           rintro e w17 ⟨v_u7, rfl, hb, h_u7⟩
           obtain ⟨A_u7, n_u7, cap_u7, B_u7, m_u7, cup_u7, rfl, -, -⟩ := id h_u7.form
           replace h_u7 := Lib.hid h_u7
           replace h_u1 := Lib.hid (h_u1.out.below hb)
           replace h_u2 := Lib.hid (h_u2.out.below hb)
           replace h_u3 := Lib.hid (h_u3.out.below hb)
           replace h_u4 := Lib.hid (h_u4.out.below hb)
           replace h_u5 := Lib.hid (h_u5.out.below hb)
           replace h_u6 := Lib.hid (h_u6.out.below hb)
           have B_w17 := Lib.hid (below_next B_w16.out hb)
           have K_w17 := KK.out _ B_w17.out
           clear hb)
        | (go_at_call 63
           have t_k := tok9
           refine (T3.out _ _ _ hp.out _ _ h_u7.out).mono ?_
           rintro e w18 ⟨rfl, hb⟩
           replace h_u1 := Lib.hid (h_u1.out.below hb)
           replace h_u2 := Lib.hid (h_u2.out.below hb)
           replace h_u3 := Lib.hid (h_u3.out.below hb)
           replace h_u4 := Lib.hid (h_u4.out.below hb)
           replace h_u5 := Lib.hid (h_u5.out.below hb)
           replace h_u6 := Lib.hid (h_u6.out.below hb)
           replace h_u7 := Lib.hid (h_u7.out.below hb)
           have B_w18 := Lib.hid (below_next B_w17.out hb)
           have K_w18 := KK.out _ B_w18.out
           clear hb
           clear t_k tok9)
        | (go_at_call 58
           refine (CL.out _).mono ?_
           rintro e w19 ⟨rfl, hb⟩
           replace h_u1 := Lib.hid (h_u1.out.below hb)
           replace h_u2 := Lib.hid (h_u2.out.below hb)
           replace h_u3 := Lib.hid (h_u3.out.below hb)
           replace h_u4 := Lib.hid (h_u4.out.below hb)
           replace h_u5 := Lib.hid (h_u5.out.below hb)
           replace h_u6 := Lib.hid (h_u6.out.below hb)
           replace h_u7 := Lib.hid (h_u7.out.below hb)
           have B_w19 := Lib.hid (below_next B_w18.out hb)
           have K_w19 := KK.out _ B_w19.out
           clear hb))
  clear KK K0 KD K_w8 K_w10 K_w11 K_w12 K_w13 K_w14 K_w15 K_w16 K_w17 K_w18 K_w19
  replace r_a := Lib.hid (r_a.out.keep B_w19.out)
  replace r_b := Lib.hid (r_b.out.keep B_w19.out)
  replace r_l := Lib.hid (r_l.out.keep B_w19.out)
  replace r_s := Lib.hid (r_s.out.keep B_w19.out)
  replace r_p := Lib.hid (r_p.out.keep B_w19.out)
  replace BB := Lib.hid (below_next BB.out B_w19.out)
  clear B_w8 B_w10 B_w11 B_w12 B_w13 B_w14 B_w15 B_w16 B_w17 B_w18 B_w19
  go_wp2_with fail
  go_ret
  exact ⟨rfl, BB.out⟩
theorem ratSums_any (n1 d1 n2 d2 : Int) (h1 : I64 n1) (h2 : I64 d1) (h3 : I64 n2) (h4 : I64 d2) (w : World) : Calls Try.prog 12 #[qv n1 d1, qv n2 d2] w fun e w' => e = .returned (.bool true) ∧ Below w.heap.size w w' := by
  by_cases h : 0 < d1
  · by_cases hb' : 0 < d2
    · exact ratSums_c n1 d1 n2 d2 h1 h2 h3 h4 h hb' w
    · exact ratSums_b n1 d1 n2 d2 h1 h2 h hb' w
  · exact ratSums_a n1 d1 n2 d2 h w
end Go.Proofs.Ythoakbjnofhpbaa
