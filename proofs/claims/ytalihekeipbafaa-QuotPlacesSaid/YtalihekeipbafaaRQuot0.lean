/- Walks of the document's quotients: ref02's Floor, Left. -/
import Derived.Test.YtalihekeipbafaaTold
import Derived.Test.YtalihekeipbafaaQuotLaw
import Derived.Deep.DeepCutAuto
set_option linter.unusedVariables false
namespace Go.Proofs.Ytalihekeipbafaa
open Go.RowKit

theorem br_zero (w : World) : BR w (.agg #[.bool false, .slice none 0 0]) 0 := ⟨_, rfl, _, DR.nil w, Canon.nil, rfl⟩
theorem br_set {z : Int} {w w1 w2 : World} {A : Option Addr} {n cap p : Nat} {c : Array Value} (hb : Below w.heap.size w w1) (hn : BR w1 (.agg #[.bool (sgn z), .slice A n cap]) z) (hp : AtB w1 p c 27) (hpw : w.heap.size ≤ p)
    (e2 : w2 = (w1.setCell ⟨p, 0, none⟩ (.bool (sgn z))).setCell ⟨p, 1, none⟩ (.slice A n cap)) : Below w.heap.size w w2 ∧ BR w2 (.agg #[.bool (sgn z), .slice A n cap]) z := by
  obtain ⟨r, e, h1, h2⟩ := give_res hb hn hp hpw e2
  injection e with e; subst e
  exact ⟨h1, h2⟩
/-- A number of the document and a bool. -/
def GiveBB (z : Int) (b : Bool) (w : World) (e : Ending) (w' : World) : Prop := ∃ r, e = .returned (.tuple #[r, .bool b]) ∧ Below w.heap.size w w' ∧ BR w' r z

set_option maxHeartbeats 1000000 in
theorem r2floor_zero (u : Value) (z : Int) (w : World) (hu : BR w u z) : Calls Try.prog 43 #[u, .int .i64 0] w (GiveBB 0 false w) := by
  obtain ⟨A, n, cap, rfl, -⟩ := id hu.form
  clear hu
  go_enter Try.func43, Try.ntmps43
  go_wp2
  exact bodyPost_ret (v := .tuple #[.agg #[.bool false, .slice none 0 0], .bool false]) (by unfold results; simp only [Try.results43]; go_simp) rfl ⟨_, rfl, by repeat (first | exact Below.refl _ _ | apply below_new), br_zero _⟩

set_option maxHeartbeats 1000000 in
theorem r2floor (u : Value) (z b : Int) (w : World) (hu : BR w u z) (hz : Wd 1000 z) (hb : I64 b) (h0 : b ≠ 0) : Calls Try.prog 43 #[u, .int .i64 b] w (GiveBB (z.fdiv b) true w) := by
  obtain ⟨A, n, cap, rfl, -⟩ := id hu.form
  have CO := Lib.hid (fun w => of_any b hb w)
  have CF := Lib.hid (fun (u v : Value) w (hu : BR w u z) (hv : BR w v b) => floor_any u v z b w hu hv (hz.mid (by omega)) ((i64_wd hb).low (by omega)) h0)
  have hb1 : (b == 0) = false := by simpa using h0
  replace hu := Lib.hid hu
  clear hz hb h0
  generalize z.fdiv b = q at *
  go_enter Try.func43, Try.ntmps43
  go_wp2_with fail
  have BB := start2 w #[.bool (sgn z), .slice A n cap] 27 #[.bool false, .slice none 0 0] 27
  obtain ⟨BB, hsz, r_a, r_res⟩ := BB
  generalize ((w.alloc (.cells #[.bool (sgn z), .slice A n cap] 27)).alloc (.cells #[.bool false, .slice none 0 0] 27)) = w0 at *
  replace BB := Lib.hid BB
  replace r_a := Lib.hid r_a
  replace r_res := Lib.hid r_res
  clear hsz
  have h_a := Lib.hid (hu.out.below BB.out)
  have KK := Lib.hid (fun (w9 : World) (h : Below w0.heap.size w0 w9) => (cells2 (r_a.out.keep h) : (w9.cell? ⟨w.heap.size, 0, none⟩ = some (.bool (sgn z)) ∧ w9.cell? ⟨w.heap.size, 1, none⟩ = some (.slice A n cap))))
  have K0 := KK.out w0 (Below.refl _ _)
  have KD := KK.out w0.drew (below_drew (Below.refl _ _))
  go_region_held3 (fun w9 => (w9.cell? ⟨w.heap.size, 0, none⟩ = some (.bool (sgn z)) ∧ w9.cell? ⟨w.heap.size, 1, none⟩ = some (.slice A n cap)))
      (first | with_reducible exact KD | with_reducible exact K0 | with_reducible exact K_w1 | with_reducible exact K_w2 | with_reducible exact cells2 ((r_a.out.keep B_w2.out).far2 (by omega) _ _))
      (first
        | (go_at_call 24
           refine (CO.out _).mono ?_
           rintro e w1 ⟨v_d, rfl, hb, h_d⟩
           obtain ⟨A_d, n_d, cap_d, rfl, -⟩ := id h_d.form
           replace h_d := Lib.hid h_d
           have B_w1 := Lib.hid (reg_next (w0 := w0) (by repeat (first | with_reducible exact Below.refl _ _ | with_reducible apply below_drew | with_reducible apply below_new)) hb)
           have K_w1 := KK.out _ B_w1.out
           clear hb)
        | (go_at_call 39
           refine (CF.out _ _ _ (h_a.out.below B_w1.out) h_d.out).mono ?_
           rintro e w2 ⟨v_q, rfl, hb, h_q⟩
           obtain ⟨A_q, n_q, cap_q, rfl, -⟩ := id h_q.form
           replace h_q := Lib.hid h_q
           replace h_d := Lib.hid (h_d.out.below hb)
           have B_w2 := Lib.hid (below_next B_w1.out hb)
           have K_w2 := KK.out _ B_w2.out
           obtain ⟨rc_res0, rc_res1, rf_res0, rf_res1⟩ := reads2 (r_res.out.keep B_w2.out)
           have rl_res := (r_res.out.keep B_w2.out).lt
           clear hb))
  clear KK K0 KD K_w1 K_w2
  replace r_a := Lib.hid (r_a.out.keep B_w2.out)
  replace r_res := Lib.hid (r_res.out.keep B_w2.out)
  replace h_a := Lib.hid (h_a.out.below B_w2.out)
  replace BB := Lib.hid (below_next BB.out B_w2.out)
  clear B_w1 B_w2
  go_wp2_with fail
  have HF := br_set BB.out h_q.out r_res.out (by omega) rfl
  exact bodyPost_ret (v := .tuple #[.agg #[.bool (sgn q), .slice A_q n_q cap_q], .bool true]) (by unfold results; simp only [Try.results43]; go_simp) rfl ⟨_, rfl, HF.1, HF.2⟩

set_option maxHeartbeats 1000000 in
theorem r2left_zero (u : Value) (z : Int) (w : World) (hu : BR w u z) : Calls Try.prog 46 #[u, .int .i64 0] w (GiveB 0 w) := by
  obtain ⟨A, n, cap, rfl, -⟩ := id hu.form
  replace hu := Lib.hid hu
  have CF := Lib.hid (fun (u : Value) w (hu : BR w u z) => r2floor_zero u z w hu)
  go_enter Try.func46, Try.ntmps46
  go_wp2_with fail
  have BB := start2 w #[.bool (sgn z), .slice A n cap] 27 #[.bool false, .slice none 0 0] 27
  obtain ⟨BB, hsz, r_a, r_res⟩ := BB
  generalize ((w.alloc (.cells #[.bool (sgn z), .slice A n cap] 27)).alloc (.cells #[.bool false, .slice none 0 0] 27)) = w0 at *
  replace BB := Lib.hid BB
  replace r_a := Lib.hid r_a
  replace r_res := Lib.hid r_res
  clear hsz
  have h_a := Lib.hid (hu.out.below BB.out)
  refine (CF.out _ _ h_a.out).mono ?_
  rintro e w1 ⟨v_q, rfl, hb, h_q⟩
  replace r_a := Lib.hid (r_a.out.keep hb)
  replace r_res := Lib.hid (r_res.out.keep hb)
  replace h_a := Lib.hid (h_a.out.below hb)
  replace BB := Lib.hid (below_next BB.out hb)
  clear hb
  obtain ⟨A_q, n_q, cap_q, rfl, -⟩ := id h_q.form
  have h_q := Lib.hid h_q
  obtain ⟨c_a0, c_a1, f_a0, f_a1⟩ := reads2 r_a.out
  have l_a := r_a.out.lt
  obtain ⟨c_res0, c_res1, f_res0, f_res1⟩ := reads2 r_res.out
  have l_res := r_res.out.lt
  go_wp2_with fail
  have HF := br_set BB.out h_q.out r_res.out (by omega) rfl
  refine bodyPost_ret (v := .agg #[.bool (sgn 0), .slice A_q n_q cap_q]) (by unfold results; simp only [Try.results46]; go_simp) rfl ?_
  exact ⟨_, rfl, below_new HF.1 _, HF.2.alloc _⟩

set_option maxHeartbeats 2000000 in
theorem r2left (u : Value) (z b : Int) (w : World) (hu : BR w u z) (hz : Wd 1000 z) (hb : I64 b) (h0 : b ≠ 0) : Calls Try.prog 46 #[u, .int .i64 b] w (GiveB (z.fmod b) w) := by
  obtain ⟨A, n, cap, rfl, -⟩ := id hu.form
  have wq : Wd 1001 (z.fdiv b) := hz.fdiv
  have CF := Lib.hid (fun (u : Value) w (hu : BR w u z) => r2floor u z b w hu hz hb h0)
  have CO := Lib.hid (fun w => of_any b hb w)
  have CM := Lib.hid (fun (u v : Value) w (hu : BR w u (z.fdiv b)) (hv : BR w v b) => mul_any u v (z.fdiv b) b w hu hv (wq.mid (by omega)) ((i64_wd hb).mid (by omega)))
  have CS := Lib.hid (fun (u v : Value) w (hu : BR w u z) (hv : BR w v (z.fdiv b * b)) => sub_any u v z (z.fdiv b * b) w hu hv (hz.mid (by omega)) ((wq.mul (i64_wd hb)).mid (by omega)))
  rw [show z - z.fdiv b * b = z.fmod b by rw [Int.fmod_def, Int.mul_comm]] at CS
  replace hu := Lib.hid hu
  clear hz hb h0 wq
  generalize z.fdiv b = q at *
  generalize z.fmod b = m at *
  generalize q * b = p at *
  go_enter Try.func46, Try.ntmps46
  go_wp2_with fail
  have BB := start2 w #[.bool (sgn z), .slice A n cap] 27 #[.bool false, .slice none 0 0] 27
  obtain ⟨BB, hsz, r_a, r_res⟩ := BB
  generalize ((w.alloc (.cells #[.bool (sgn z), .slice A n cap] 27)).alloc (.cells #[.bool false, .slice none 0 0] 27)) = w0 at *
  replace BB := Lib.hid BB
  replace r_a := Lib.hid r_a
  replace r_res := Lib.hid r_res
  clear hsz
  have h_a := Lib.hid (hu.out.below BB.out)
  refine (CF.out _ _ h_a.out).mono ?_
  rintro e w1 ⟨v_q, rfl, hb, h_q⟩
  replace r_a := Lib.hid (r_a.out.keep hb)
  replace r_res := Lib.hid (r_res.out.keep hb)
  replace h_a := Lib.hid (h_a.out.below hb)
  replace BB := Lib.hid (below_next BB.out hb)
  clear hb
  obtain ⟨A_q, n_q, cap_q, rfl, -⟩ := id h_q.form
  replace h_q := Lib.hid h_q
  go_wp2_with fail
  have d_q := Lib.hid (And.intro BB.out.size (And.intro r_a.out.lt (And.intro r_res.out.lt (True.intro))))
  obtain ⟨hb, r_q⟩ := laid w1 #[.bool (sgn (q)), .slice A_q n_q cap_q] 27
  replace r_a := Lib.hid (r_a.out.keep hb)
  replace r_res := Lib.hid (r_res.out.keep hb)
  replace h_a := Lib.hid (h_a.out.below hb)
  replace h_q := Lib.hid (h_q.out.below hb)
  replace BB := Lib.hid (below_next BB.out hb)
  replace r_q := Lib.hid r_q
  clear hb
  generalize w1.alloc (.cells #[.bool (sgn (q)), .slice A_q n_q cap_q] 27) = w2 at *
  generalize w1.heap.size = g_q at *
  have KK := Lib.hid (fun (w9 : World) (h : Below w2.heap.size w2 w9) => (⟨cells2 (r_a.out.keep h), cells2 (r_q.out.keep h)⟩ : (w9.cell? ⟨w.heap.size, 0, none⟩ = some (.bool (sgn z)) ∧ w9.cell? ⟨w.heap.size, 1, none⟩ = some (.slice A n cap)) ∧ (w9.cell? ⟨g_q, 0, none⟩ = some (.bool (sgn (q))) ∧ w9.cell? ⟨g_q, 1, none⟩ = some (.slice A_q n_q cap_q))))
  have K0 := KK.out w2 (Below.refl _ _)
  have KD := KK.out w2.drew (below_drew (Below.refl _ _))
  go_region_held3 (fun w9 => (w9.cell? ⟨w.heap.size, 0, none⟩ = some (.bool (sgn z)) ∧ w9.cell? ⟨w.heap.size, 1, none⟩ = some (.slice A n cap)) ∧ (w9.cell? ⟨g_q, 0, none⟩ = some (.bool (sgn (q))) ∧ w9.cell? ⟨g_q, 1, none⟩ = some (.slice A_q n_q cap_q)))
      (first | with_reducible exact KD | with_reducible exact K0 | with_reducible exact K_w3 | with_reducible exact K_w4 | with_reducible exact K_w5 | with_reducible exact ⟨cells2 ((r_a.out.keep B_w5.out).far2 (by omega) _ _), cells2 ((r_q.out.keep B_w5.out).far2 (by have dd_q := d_q.out; omega) _ _)⟩)
      (first
        | (go_at_call 24
           refine (CO.out _).mono ?_
           rintro e w3 ⟨v_d, rfl, hb, h_d⟩
           obtain ⟨A_d, n_d, cap_d, rfl, -⟩ := id h_d.form
           replace h_d := Lib.hid h_d
           have B_w3 := Lib.hid (reg_next (w0 := w2) (by repeat (first | with_reducible exact Below.refl _ _ | with_reducible apply below_drew | with_reducible apply below_new)) hb)
           have K_w3 := KK.out _ B_w3.out
           clear hb)
        | (go_at_call 28
           refine (CM.out _ _ _ (h_q.out.below B_w3.out) h_d.out).mono ?_
           rintro e w4 ⟨v_p, rfl, hb, h_p⟩
           obtain ⟨A_p, n_p, cap_p, rfl, -⟩ := id h_p.form
           replace h_p := Lib.hid h_p
           replace h_d := Lib.hid (h_d.out.below hb)
           have B_w4 := Lib.hid (below_next B_w3.out hb)
           have K_w4 := KK.out _ B_w4.out
           clear hb)
        | (go_at_call 21
           refine (CS.out _ _ _ (h_a.out.below B_w4.out) h_p.out).mono ?_
           rintro e w5 ⟨v_s, rfl, hb, h_s⟩
           obtain ⟨A_s, n_s, cap_s, rfl, -⟩ := id h_s.form
           replace h_s := Lib.hid h_s
           replace h_d := Lib.hid (h_d.out.below hb)
           replace h_p := Lib.hid (h_p.out.below hb)
           have B_w5 := Lib.hid (below_next B_w4.out hb)
           have K_w5 := KK.out _ B_w5.out
           obtain ⟨rc_res0, rc_res1, rf_res0, rf_res1⟩ := reads2 (r_res.out.keep B_w5.out)
           have rl_res := (r_res.out.keep B_w5.out).lt
           clear hb))
  clear KK K0 KD K_w3 K_w4 K_w5
  replace r_a := Lib.hid (r_a.out.keep B_w5.out)
  replace r_res := Lib.hid (r_res.out.keep B_w5.out)
  replace r_q := Lib.hid (r_q.out.keep B_w5.out)
  replace h_a := Lib.hid (h_a.out.below B_w5.out)
  replace h_q := Lib.hid (h_q.out.below B_w5.out)
  replace BB := Lib.hid (below_next BB.out B_w5.out)
  clear B_w3 B_w4 B_w5
  go_wp2_with fail
  have HF := br_set BB.out h_s.out r_res.out (by omega) rfl
  exact bodyPost_ret (v := .agg #[.bool (sgn m), .slice A_s n_s cap_s]) (by unfold results; simp only [Try.results46]; go_simp) rfl ⟨_, rfl, HF.1, HF.2⟩

set_option maxHeartbeats 1000000 in
theorem r2near_zero (u : Value) (z : Int) (w : World) (hu : BR w u z) : Calls Try.prog 44 #[u, .int .i64 0] w (GiveBB 0 false w) := by
  obtain ⟨A, n, cap, rfl, -⟩ := id hu.form
  clear hu
  go_enter Try.func44, Try.ntmps44
  go_wp2
  exact bodyPost_ret (v := .tuple #[.agg #[.bool false, .slice none 0 0], .bool false]) (by unfold results; simp only [Try.results44]; go_simp) rfl ⟨_, rfl, by repeat (first | exact Below.refl _ _ | apply below_new), br_zero _⟩

set_option maxHeartbeats 4000000 in
set_option maxRecDepth 100000 in
theorem r2near (u : Value) (z b : Int) (w : World) (hu : BR w u z) (hz : Wd 1000 z) (hb : I64 b) (h0 : b ≠ 0) : Calls Try.prog 44 #[u, .int .i64 b] w (GiveBB ((2 * z + b).fdiv (2 * b)) true w) := by
  obtain ⟨A, n, cap, rfl, -⟩ := id hu.form
  have wb := i64_wd hb
  have CO := Lib.hid (fun w => of_any b hb w)
  have A1 := Lib.hid (fun (u v : Value) w (hu : BR w u z) (hv : BR w v z) => add_any u v z z w hu hv (hz.mid (by omega)) (hz.mid (by omega)))
  have A2 := Lib.hid (fun (u v : Value) w (hu : BR w u (z + z)) (hv : BR w v b) => add_any u v (z + z) b w hu hv ((hz.add hz).mid (by omega)) (wb.mid (by omega)))
  have A3 := Lib.hid (fun (u v : Value) w (hu : BR w u b) (hv : BR w v b) => add_any u v b b w hu hv (wb.mid (by omega)) (wb.mid (by omega)))
  have CF := Lib.hid (fun (u v : Value) w (hu : BR w u (z + z + b)) (hv : BR w v (b + b)) => floor_any u v (z + z + b) (b + b) w hu hv ((((hz.add hz).add (wb.up (by omega))).mid (by omega))) ((wb.add wb).low (by omega)) (by omega))
  rw [show (2 * z + b).fdiv (2 * b) = (z + z + b).fdiv (b + b) by rw [Int.two_mul, Int.two_mul]]
  have hb1 : (b == 0) = false := by simpa using h0
  replace hu := Lib.hid hu
  clear hz hb h0 wb
  generalize (z + z + b).fdiv (b + b) = q at *
  generalize z + z + b = y at *
  generalize b + b = t at *
  generalize z + z = s at *
  go_enter Try.func44, Try.ntmps44
  go_wp2_with fail
  have BB := start2 w #[.bool (sgn z), .slice A n cap] 27 #[.bool false, .slice none 0 0] 27
  obtain ⟨BB, hsz, r_a, r_res⟩ := BB
  generalize ((w.alloc (.cells #[.bool (sgn z), .slice A n cap] 27)).alloc (.cells #[.bool false, .slice none 0 0] 27)) = w0 at *
  replace BB := Lib.hid BB
  replace r_a := Lib.hid r_a
  replace r_res := Lib.hid r_res
  clear hsz
  have h_a := Lib.hid (hu.out.below BB.out)
  refine (CO.out _).mono ?_
  rintro e w1 ⟨v_d, rfl, hb, h_d⟩
  obtain ⟨A_d, n_d, cap_d, rfl, -⟩ := id h_d.form
  replace h_d := Lib.hid h_d
  replace r_a := Lib.hid (r_a.out.keep hb)
  replace r_res := Lib.hid (r_res.out.keep hb)
  replace h_a := Lib.hid (h_a.out.below hb)
  replace BB := Lib.hid (below_next BB.out hb)
  clear hb
  go_wp2_with fail
  have d_d := Lib.hid (And.intro BB.out.size (And.intro r_a.out.lt (And.intro r_res.out.lt (True.intro))))
  obtain ⟨hb, r_d⟩ := laid w1 #[.bool (sgn (b)), .slice A_d n_d cap_d] 27
  replace r_a := Lib.hid (r_a.out.keep hb)
  replace r_res := Lib.hid (r_res.out.keep hb)
  replace h_a := Lib.hid (h_a.out.below hb)
  replace h_d := Lib.hid (h_d.out.below hb)
  replace BB := Lib.hid (below_next BB.out hb)
  replace r_d := Lib.hid r_d
  clear hb
  generalize w1.alloc (.cells #[.bool (sgn (b)), .slice A_d n_d cap_d] 27) = w2 at *
  generalize w1.heap.size = g_d at *
  go_cut [7] (fun s7 wc => ∃ gp A1 n1 c1, s7 = .pointer (some ⟨gp, 0, none⟩) ∧
    Hid (AtB wc gp #[.bool (sgn y), .slice A1 n1 c1] 27 ∧ BR wc (.agg #[.bool (sgn y), .slice A1 n1 c1]) y ∧ Below w2.heap.size w2 wc ∧ w2.heap.size ≤ gp))
  case first =>
    clear CO A3 CF
    have KK := Lib.hid (fun (w9 : World) (h : Below w2.heap.size w2 w9) => (⟨cells2 (r_a.out.keep h), cells2 (r_d.out.keep h)⟩ : (w9.cell? ⟨w.heap.size, 0, none⟩ = some (.bool (sgn z)) ∧ w9.cell? ⟨w.heap.size, 1, none⟩ = some (.slice A n cap)) ∧ (w9.cell? ⟨g_d, 0, none⟩ = some (.bool (sgn (b))) ∧ w9.cell? ⟨g_d, 1, none⟩ = some (.slice A_d n_d cap_d))))
    have K0 := KK.out w2 (Below.refl _ _)
    have KD := KK.out w2.drew (below_drew (Below.refl _ _))
    have tok0 : Hid True := trivial
    have tok1 : Hid True := trivial
    go_region_held3 (fun w9 => (w9.cell? ⟨w.heap.size, 0, none⟩ = some (.bool (sgn z)) ∧ w9.cell? ⟨w.heap.size, 1, none⟩ = some (.slice A n cap)) ∧ (w9.cell? ⟨g_d, 0, none⟩ = some (.bool (sgn (b))) ∧ w9.cell? ⟨g_d, 1, none⟩ = some (.slice A_d n_d cap_d)))
        (first | with_reducible exact KD | with_reducible exact K0 | with_reducible exact K_w3 | with_reducible exact K_w4 | (refine KK.out _ ?_; repeat' (first | with_reducible exact Below.refl _ _ | with_reducible exact B_w3.out | with_reducible exact B_w4.out | with_reducible apply below_new | with_reducible apply below_drew | with_reducible apply below_set | omega)))
        (first
          | (go_at_call 20
             have t_k := tok0
             refine (A1.out _ _ _ (h_a.out.below ?_) (h_a.out.below ?_)).mono ?_
             · repeat (first | with_reducible exact Below.refl _ _ | with_reducible apply below_drew | with_reducible apply below_new)
             · repeat (first | with_reducible exact Below.refl _ _ | with_reducible apply below_drew | with_reducible apply below_new)
             rintro e w3 ⟨v_s, rfl, hb, h_s⟩
             obtain ⟨A_s, n_s, cap_s, rfl, -⟩ := id h_s.form
             replace h_s := Lib.hid h_s
             have B_w3 := Lib.hid (reg_next (w0 := w2) (by repeat (first | with_reducible exact Below.refl _ _ | with_reducible apply below_drew | with_reducible apply below_new)) hb)
             have K_w3 := KK.out _ B_w3.out
             obtain ⟨hc_w3, hf_w3⟩ := below_reads hb
             have hz_w3 := hb.size
             try simp at hz_w3
             try (have z1_w3 := Nat.lt_of_succ_le hz_w3)
             try (have z2_w3 := Nat.lt_of_succ_lt z1_w3)
             have HB_w3 := Lib.hid hb
             clear hb
             clear t_k tok0)
          | (go_at_call 20
             have t_k := tok1
             refine (A2.out _ _ _ (h_s.out.below ?_) (h_d.out.below ?_)).mono ?_
             · repeat (first | with_reducible exact Below.refl _ _ | with_reducible exact B_w3.out | with_reducible apply below_drew | with_reducible apply below_new)
             · repeat (first | with_reducible exact Below.refl _ _ | with_reducible exact B_w3.out | with_reducible apply below_drew | with_reducible apply below_new)
             rintro e w4 ⟨v_y, rfl, hb, h_y⟩
             obtain ⟨A_y, n_y, cap_y, rfl, -⟩ := id h_y.form
             replace h_y := Lib.hid h_y
             replace h_s := Lib.hid (h_s.out.below (below_next (by repeat (first | with_reducible exact Below.refl _ _ | with_reducible apply below_new | with_reducible apply below_drew)) hb))
             have B_w4 := Lib.hid (below_next (by repeat (first | with_reducible exact B_w3.out | with_reducible apply below_new | with_reducible apply below_drew)) hb)
             have K_w4 := KK.out _ B_w4.out
             obtain ⟨hc_w4, hf_w4⟩ := below_reads hb
             have hz_w4 := hb.size
             try simp at hz_w4
             try (have z1_w4 := Nat.lt_of_succ_le hz_w4)
             try (have z2_w4 := Nat.lt_of_succ_lt z1_w4)
             have HB_w4 := Lib.hid hb
             have y_w4_w3 := Nat.le_trans HB_w3.out.size (Nat.le_trans (by (try simp only [World.size_alloc]); omega) hb.size)
             try simp at y_w4_w3
             try (have z3_w4_w3 := Nat.lt_of_succ_le y_w4_w3)
             try (have z4_w4_w3 := Nat.lt_of_succ_lt z3_w4_w3)
             clear hb
             clear t_k tok1))
    all_goals clear KK K0 KD K_w3 K_w4
    all_goals go_wp2_with fail
    all_goals go_meet
    all_goals refine ⟨_, A_y, n_y, cap_y, rfl, ⟨?_, ?_, ?_, ?_⟩⟩
    all_goals repeat' (first | with_reducible exact h_y.out | with_reducible exact B_w3.out | with_reducible exact B_w4.out | with_reducible exact Below.refl _ _ | with_reducible apply below_new | with_reducible apply below_drew | (with_reducible refine below_set ?_ ?_ _) | (with_reducible refine AtB.set2 (a := .bool false) (b := .slice none 0 0) ?_ _ _) | (with_reducible refine AtB.far2 ?_ ?_ _ _) | (with_reducible refine BR.alloc ?_ _) | (with_reducible refine BR.far2 (a := .bool false) (b := .slice none 0 0) (T := 27) ?_ ?_ (by decide) _ _) | (with_reducible refine new_at_eq ?_ _ _; first | rfl | (simp; done)) | (with_reducible refine AtB.alloc ?_ _) | with_reducible apply AtB.drew | (with_reducible refine AtB.keep ?_ HB_w4.out) | (with_reducible refine AtB.keep ?_ HB_w3.out) | omega)
  case rest =>
    obtain ⟨gp, A1', n1, c1, rfl, hcut⟩ := hcut
    obtain ⟨r_y, h_y, hb, hge⟩ := hcut.out
    clear hcut
    replace r_y := Lib.hid r_y; replace h_y := Lib.hid h_y
    have d_y := Lib.hid (show w.heap.size + 1 < gp from Nat.lt_of_lt_of_le r_res.out.lt hge)
    replace r_d := Lib.hid (r_d.out.keep hb); replace r_a := Lib.hid (r_a.out.keep hb); replace r_res := Lib.hid (r_res.out.keep hb); replace h_d := Lib.hid (h_d.out.below hb)
    replace BB := Lib.hid (below_next BB.out hb)
    clear hb hge CO A1 A2
    go_wp2_with fail
    have KK := Lib.hid (fun (w9 : World) (h : Below wc.heap.size wc w9) => (⟨cells2 (r_y.out.keep h), cells2 (r_d.out.keep h)⟩ : (w9.cell? ⟨gp, 0, none⟩ = some (.bool (sgn y)) ∧ w9.cell? ⟨gp, 1, none⟩ = some (.slice A1' n1 c1)) ∧ (w9.cell? ⟨g_d, 0, none⟩ = some (.bool (sgn b)) ∧ w9.cell? ⟨g_d, 1, none⟩ = some (.slice A_d n_d cap_d))))
    have K0 := KK.out wc (Below.refl _ _)
    have KD := KK.out wc.drew (below_drew (Below.refl _ _))
    go_region_held3 (fun w9 => (w9.cell? ⟨gp, 0, none⟩ = some (.bool (sgn y)) ∧ w9.cell? ⟨gp, 1, none⟩ = some (.slice A1' n1 c1)) ∧ (w9.cell? ⟨g_d, 0, none⟩ = some (.bool (sgn b)) ∧ w9.cell? ⟨g_d, 1, none⟩ = some (.slice A_d n_d cap_d)))
        (first | with_reducible exact KD | with_reducible exact K0 | with_reducible exact K_w5 | with_reducible exact K_w6 | with_reducible exact ⟨cells2 ((r_y.out.keep B_w6.out).far2 (by have dd_y := d_y.out; omega) _ _), cells2 ((r_d.out.keep B_w6.out).far2 (by have dd_d := d_d.out; omega) _ _)⟩)
        (first
          | (go_at_call 20
             refine (A3.out _ _ _ (h_d.out.below ?_) (h_d.out.below ?_)).mono ?_
             · repeat (first | with_reducible exact Below.refl _ _ | with_reducible apply below_drew | with_reducible apply below_new)
             · repeat (first | with_reducible exact Below.refl _ _ | with_reducible apply below_drew | with_reducible apply below_new)
             rintro e w5 ⟨v_t, rfl, hb, h_t⟩
             obtain ⟨A_t, n_t, cap_t, rfl, -⟩ := id h_t.form
             replace h_t := Lib.hid h_t
             have B_w5 := Lib.hid (reg_next (w0 := wc) (by repeat (first | with_reducible exact Below.refl _ _ | with_reducible apply below_drew | with_reducible apply below_new)) hb)
             have K_w5 := KK.out _ B_w5.out
             clear hb)
          | (go_at_call 39
             refine (CF.out _ _ _ (h_y.out.below B_w5.out) h_t.out).mono ?_
             rintro e w6 ⟨v_q, rfl, hb, h_q⟩
             obtain ⟨A_q, n_q, cap_q, rfl, -⟩ := id h_q.form
             replace h_q := Lib.hid h_q
             replace h_t := Lib.hid (h_t.out.below hb)
             have B_w6 := Lib.hid (below_next B_w5.out hb)
             have K_w6 := KK.out _ B_w6.out
             obtain ⟨rc_res0, rc_res1, rf_res0, rf_res1⟩ := reads2 (r_res.out.keep B_w6.out)
             have rl_res := (r_res.out.keep B_w6.out).lt
             clear hb))
    clear KK K0 KD K_w5 K_w6
    replace r_res := Lib.hid (r_res.out.keep B_w6.out)
    replace r_d := Lib.hid (r_d.out.keep B_w6.out)
    replace r_y := Lib.hid (r_y.out.keep B_w6.out)
    replace h_y := Lib.hid (h_y.out.below B_w6.out)
    replace h_d := Lib.hid (h_d.out.below B_w6.out)
    replace BB := Lib.hid (below_next BB.out B_w6.out)
    clear B_w5 B_w6
    go_wp2_with fail
    have HF := br_set BB.out h_q.out r_res.out (by omega) rfl
    exact bodyPost_ret (v := .tuple #[.agg #[.bool (sgn q), .slice A_q n_q cap_q], .bool true]) (by unfold results; simp only [Try.results44]; go_simp) rfl ⟨_, rfl, HF.1, HF.2⟩

end Go.Proofs.Ytalihekeipbafaa
