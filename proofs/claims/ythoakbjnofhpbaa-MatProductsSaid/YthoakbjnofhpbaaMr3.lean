/- Contract of ref05.Det. -/
import Derived.Test.YthoakbjnofhpbaaMr2
set_option linter.unusedVariables false
set_option linter.unusedSimpArgs false
namespace Go.Proofs.Ythoakbjnofhpbaa
open Go.RowKit
def dtQ (zs : List Int) (k : Nat) : Int := if k = 1 then -(zs.getD k 0 * minI zs 0 k) else zs.getD k 0 * minI zs 0 k
def dtS (zs : List Int) : Nat → Int
  | 0 => 0
  | k + 1 => dtS zs k + dtQ zs k
theorem getD_wd {zs : List Int} {n : Nat} (h : ∀ z ∈ zs, Wd n z) (i : Nat) : Wd n (zs.getD i 0) := by
  by_cases hj : i < zs.length
  · have e : zs.getD i 0 = zs[i] := by simp [List.getD, hj]
    rw [e]; exact h _ (List.getElem_mem hj)
  · rw [List.getD_eq_getElem?_getD, List.getElem?_eq_none (by omega)]
    unfold Wd; have := two_pos n; simp; omega
theorem minI_wd {zs : List Int} (h : ∀ z ∈ zs, Wd 200 z) (r c : Nat) : Wd 401 (minI zs r c) :=
  ((pk_wd h r c 9 0).mul (pk_wd h r c 9 3)).sub ((pk_wd h r c 9 1).mul (pk_wd h r c 9 2))
theorem dtP_wd {zs : List Int} (h : ∀ z ∈ zs, Wd 200 z) (k : Nat) : Wd 601 (zs.getD k 0 * minI zs 0 k) := ((getD_wd h k).mul (minI_wd h 0 k)).up (by omega)
theorem dtQ_wd {zs : List Int} (h : ∀ z ∈ zs, Wd 200 z) (k : Nat) : Wd 601 (dtQ zs k) := by
  unfold dtQ; split
  · exact (dtP_wd h k).neg
  · exact dtP_wd h k
theorem dtS_wd {zs : List Int} (h : ∀ z ∈ zs, Wd 200 z) : ∀ k, Wd (601 + k) (dtS zs k)
  | 0 => by show Wd _ 0; unfold Wd; have := two_pos (601 + 0); omega
  | k + 1 => (dtS_wd h k).add ((dtQ_wd h k).up (by omega))
set_option maxRecDepth 100000 in
set_option maxHeartbeats 8000000 in
theorem r5det (v : Value) (zs : List Int) (base : Nat) (w : World) (hv : BL w base v zs) (hl : zs.length = 9) (hz : ∀ z ∈ zs, Wd 200 z) : Calls Try.prog 39 #[v] w (GiveB (dtS zs 3) w) := by
  obtain ⟨A, cap, rfl⟩ := hv.len
  rw [hl] at hv ⊢
  have CO := Lib.hid (fun w => of_any 0 (by unfold I64; omega) w)
  have CM : Hid (∀ (k : Nat) (hk : k < 3) w9 (hb : Below w.heap.size w w9), Calls Try.prog 94 #[.slice A 9 cap, .int .i64 0, .int .i64 k] w9 (GiveB (minI zs 0 k) w9)) := (fun (k : Nat) (hk : k < 3) w9 (hb : Below w.heap.size w w9) => r5minor _ zs base w9 (hv.below hb) hl hz 0 k (by omega) hk)
  have HA := Lib.hid (fun k (hk : k < 9) => hv.two (i := k) (by rw [hl]; exact hk))
  obtain ⟨A9, cap9, e9⟩ := hv.len
  simp only [Value.slice.injEq] at e9
  obtain ⟨rfl, -, rfl⟩ := e9
  have C1 := Lib.hid (fun (k : Nat) (u v : Value) w (hu : BR w u (zs.getD k 0)) (hv : BR w v (minI zs 0 k)) => mul_any u v _ _ w hu hv ((getD_wd hz k).mid (by omega)) ((minI_wd hz 0 k).mid (by omega)))
  have CN := Lib.hid (fun (z : Int) (v : Value) w (hu : BR w v z) => neg_any v z w hu)
  have CA := Lib.hid (fun (k : Nat) (hk : k < 3) (u v : Value) w (hu : BR w u (dtS zs k)) (hv : BR w v (dtQ zs k)) => add_any u v _ _ w hu hv ((dtS_wd hz k).mid (by omega)) ((dtQ_wd hz k).mid (by omega)))
  have HQ1 : Hid (dtQ zs 1 = -(zs.getD 1 0 * minI zs 0 1)) := rfl
  have HQ : Hid (∀ k, k ≠ 1 → dtQ zs k = zs.getD k 0 * minI zs 0 k) := fun k h => by unfold dtQ; rw [if_neg h]
  have HS0 : Hid (dtS zs 0 = 0) := rfl
  have HS : Hid (∀ k, dtS zs k + dtQ zs k = dtS zs (k + 1)) := fun k => rfl
  rw [hl] at HA
  generalize minI zs 0 = M at *
  generalize dtS zs = S at *
  generalize dtQ zs = Q at *
  clear hl hz hv
  go_enter Try.func39, Try.ntmps39
  go_wp2_with fail
  have BB := start1 w #[.bool false, .slice none 0 0] BT
  obtain ⟨BB, hsz, r_res⟩ := BB
  generalize (w.alloc (.cells #[.bool false, .slice none 0 0] BT)) = w0 at *
  replace BB := Lib.hid BB
  replace r_res := Lib.hid r_res
  clear hsz
  refine (CO.out _).mono ?_
  rintro e w1 ⟨v_s, rfl, hb, h_s⟩
  obtain ⟨A_s, n_s, cap_s, rfl, -⟩ := id h_s.form
  replace h_s := Lib.hid h_s
  replace r_res := Lib.hid (r_res.out.keep hb)
  replace BB := Lib.hid (below_next BB.out hb)
  clear hb
  go_upto_region 2 with fail
  have d_s := Lib.hid (And.intro BB.out.size (And.intro r_res.out.lt (True.intro)))
  obtain ⟨hb, r_s⟩ := laid w1 #[.bool (sgn 0), .slice A_s n_s cap_s] BT
  replace r_res := Lib.hid (r_res.out.keep hb)
  replace h_s := Lib.hid (h_s.out.below hb)
  replace BB := Lib.hid (below_next BB.out hb)
  replace r_s := Lib.hid r_s
  clear hb
  generalize w1.alloc (.cells #[.bool (sgn 0), .slice A_s n_s cap_s] BT) = w2 at *
  generalize w1.heap.size = g_s at *
  go_wp2_with fail
  go_loopw [4] (fun i wr => ∃ k A n c, k ≤ 3 ∧ i = .int .i64 ((k : Nat) : Int) ∧ Hid (AtB wr g_s #[.bool (sgn (S k)), .slice A n c] BT ∧ BR wr (.agg #[.bool (sgn (S k)), .slice A n c]) (S k) ∧ AtB wr w.heap.size #[.bool false, .slice none 0 0] BT ∧ Below w.heap.size w wr)) (fun i _ => 3 - (intOf i).toNat)
  case atStart => exact ⟨0, A_s, n_s, cap_s, by omega, rfl, by rw [HS0.out]; exact ⟨r_s.out, h_s.out, r_res.out, BB.out⟩⟩
  case round =>
    clear BB h_s r_s r_res
    obtain ⟨k, A_s, n_s, cap_s, hk, rfl, hinv⟩ := hrel
    obtain ⟨r_s, h_s, r_res, BB⟩ := hinv.out
    replace r_s := Lib.hid r_s; replace h_s := Lib.hid h_s; replace BB := Lib.hid BB; replace r_res := Lib.hid r_res
    clear hinv
    by_cases hlt : k < 3
    · have k0 : (0 : Int) ≤ (k : Int) := by omega
      have k1 : (k : Int) < 9 := by omega
      have k2 : (k : Int) < 3 := by omega
      obtain ⟨g, cap', A_e, n_e, cap_e, e, hg1, hg2, CT, hb0⟩ := HA.out k (by omega)
      simp only [Value.slice.injEq] at e
      obtain ⟨rfl, -, rfl⟩ := e
      have h_e := Lib.hid (hb0.below BB.out)
      have CT := Lib.hid (fun w9 (h9 : Below wr.heap.size wr w9) => CT w9 (below_next BB.out h9))
      have CJ := Lib.hid (fun w9 (h9 : Below wr.heap.size wr w9) => CM.out k hlt w9 (below_next BB.out h9))
      have D1 := Lib.hid (C1.out k)
      have D2 := Lib.hid (CA.out k hlt)
      have HSk : Hid (S (k + 1) = S k + Q k) := (HS.out k).symm
      have HQ' : Hid (k ≠ 1 → Q k = zs.getD k 0 * M k) := HQ.out k
      have HQ1' : Hid (k = 1 → Q k = -(zs.getD k 0 * M k)) := by rintro rfl; exact HQ1.out
      clear HA CM C1 CA HS HQ HQ1 hb0
      generalize S k + Q k = b at *
      generalize S k = a at *
      generalize Q k = q at *
      generalize zs.getD k 0 * M k = p at *
      generalize zs.getD k 0 = e at *
      generalize M k = m at *
      have d_s' := d_s
      go_wp2_with fail
      go_cut [5] (fun s5 wc1 => ∃ gp A3 n3 c3, s5 = .pointer (some ⟨gp, 0, none⟩) ∧ Hid (AtB wc1 gp #[.bool (sgn (p)), .slice A3 n3 c3] 76 ∧ BR wc1 (.agg #[.bool (sgn (p)), .slice A3 n3 c3]) (p) ∧ Below wr.heap.size wr wc1 ∧ wr.heap.size ≤ gp))
      case first =>
        have KK := Lib.hid (fun (w9 : World) (h : Below wr.heap.size wr w9) => (CT.out _ h : (w9.cell? ⟨g, k * 2, none⟩ = some (.bool (sgn e)) ∧ w9.cell? ⟨g, k * 2 + 1, none⟩ = some (.slice A_e n_e cap_e))))
        have K0 := KK.out wr (Below.refl _ _)
        have KD := KK.out wr.drew (below_drew (Below.refl _ _))
        go_region_held3 (fun w9 => (w9.cell? ⟨g, k * 2, none⟩ = some (.bool (sgn e)) ∧ w9.cell? ⟨g, k * 2 + 1, none⟩ = some (.slice A_e n_e cap_e)))
            (first | with_reducible exact KD | with_reducible exact K0 | with_reducible exact K_w3 | with_reducible exact K_w4 | (refine KK.out _ ?_; repeat' (first | with_reducible exact Below.refl _ _ | with_reducible exact B_w3.out | with_reducible exact B_w4.out | with_reducible apply below_new | with_reducible apply below_drew | with_reducible apply below_set | omega)))
            (first
              | (go_at_call 94
                 refine (CJ.out _ ?_).mono ?_
                 · repeat (first | with_reducible exact Below.refl _ _ | with_reducible apply below_drew | with_reducible apply below_new)
                 rintro e w3 ⟨v_m, rfl, hb, h_m⟩
                 obtain ⟨A_m, n_m, cap_m, rfl, -⟩ := id h_m.form
                 replace h_m := Lib.hid h_m
                 have B_w3 := Lib.hid (reg_next (w0 := wr) (by repeat (first | with_reducible exact Below.refl _ _ | with_reducible apply below_drew | with_reducible apply below_new)) hb)
                 have K_w3 := KK.out _ B_w3.out
                 obtain ⟨hc_w3, hf_w3⟩ := below_reads hb
                 have hz_w3 := hb.size
                 try simp at hz_w3
                 try (have z1_w3 := Nat.lt_of_succ_le hz_w3)
                 try (have z2_w3 := Nat.lt_of_succ_lt z1_w3)
                 have HB_w3 := Lib.hid hb
                 clear hb)
              | (go_at_call 47
                 refine (D1.out _ _ _ (h_e.out.below ?_) (h_m.out.below ?_)).mono ?_
                 · repeat (first | with_reducible exact Below.refl _ _ | with_reducible exact B_w3.out | with_reducible apply below_drew | with_reducible apply below_new)
                 · repeat (first | with_reducible exact Below.refl _ _ | with_reducible exact B_w3.out | with_reducible apply below_drew | with_reducible apply below_new)
                 rintro e w4 ⟨v_x, rfl, hb, h_x⟩
                 obtain ⟨A_x, n_x, cap_x, rfl, -⟩ := id h_x.form
                 replace h_x := Lib.hid h_x
                 replace h_m := Lib.hid (h_m.out.below (below_next (by repeat (first | with_reducible exact Below.refl _ _ | with_reducible apply below_new | with_reducible apply below_drew)) hb))
                 have B_w4 := Lib.hid (below_next (by repeat (first | with_reducible exact B_w3.out | with_reducible apply below_new | with_reducible apply below_drew)) hb)
                 have K_w4 := KK.out _ B_w4.out
                 obtain ⟨hc_w4, hf_w4⟩ := below_reads hb
                 have hz_w4 := hb.size
                 try simp at hz_w4
                 try (have z1_w4 := Nat.lt_of_succ_le hz_w4)
                 try (have z2_w4 := Nat.lt_of_succ_lt z1_w4)
                 have HB_w4 := Lib.hid hb
                 have y_w4_w3 := Nat.le_trans HB_w3.out.size (Nat.le_trans (by (try simp only [World.size_alloc]); omega) hb.size)
                 try simp at y_w4_w3
                 try (have z3_w4_w3 := Nat.lt_of_succ_le y_w4_w3)
                 try (have z4_w4_w3 := Nat.lt_of_succ_lt z3_w4_w3)
                 clear hb))
        all_goals clear KK K0 KD K_w3 K_w4
        all_goals go_wp2_with fail
        all_goals go_meet
        all_goals refine ⟨_, A_x, n_x, cap_x, rfl, ⟨?_, ?_, ?_, ?_⟩⟩
        all_goals repeat' (first | with_reducible exact h_x.out | with_reducible exact B_w3.out | with_reducible exact B_w4.out | with_reducible exact Below.refl _ _ | with_reducible apply below_new | with_reducible apply below_drew | (with_reducible refine below_set ?_ ?_ _) | (with_reducible refine AtB.set2 (a := .bool false) (b := .slice none 0 0) (T := 76) ?_ _ _) | (with_reducible refine AtB.set2 (a := .int .i64 0) (b := .int .u64 0) (T := 59) ?_ _ _) | (with_reducible refine AtB.far2 ?_ ?_ _ _) | (with_reducible refine BR.alloc ?_ _) | (with_reducible refine BR.far2 (a := .bool false) (b := .slice none 0 0) (T := 76) ?_ ?_ (by decide) _ _) | (with_reducible refine new_at_eq ?_ _ _; first | rfl | (simp; done)) | (with_reducible refine AtB.alloc ?_ _) | with_reducible apply AtB.drew | (with_reducible refine AtB.keep ?_ HB_w4.out) | (with_reducible refine AtB.keep ?_ HB_w3.out) | omega)
      obtain ⟨wc1, rfl⟩ : ∃ wo : World, wo = wc := ⟨_, rfl⟩
      obtain ⟨g_x, A_x, n_x, cap_x, rfl, hcut⟩ := hcut
      obtain ⟨r_x, h_x, hb, hge⟩ := hcut.out
      clear hcut
      replace r_x := Lib.hid r_x; replace h_x := Lib.hid h_x
      have d_x := Lib.hid (And.intro (Nat.le_trans BB.out.size hge) (And.intro (Nat.lt_of_lt_of_le r_res.out.lt hge) (And.intro (Nat.lt_of_lt_of_le r_s.out.lt hge) (True.intro))))
      replace r_res := Lib.hid (r_res.out.keep hb)
      replace r_s := Lib.hid (r_s.out.keep hb)
      replace h_s := Lib.hid (h_s.out.below hb)
      replace h_e := Lib.hid (h_e.out.below hb)
      replace BB := Lib.hid (below_next BB.out hb)
      clear hb hge
      clear CJ D1 CT
      have hc3 : True := trivial
      by_cases hk1 : k = 1
      · have e1 : (k : Int) = 1 := by omega
        have HE : Hid (q = -p) := HQ1'.out hk1
        clear HQ1' HQ'
        obtain ⟨c_x0, c_x1, f_x0, f_x1⟩ := reads2 r_x.out
        have l_x := r_x.out.lt
        go_wp2_with fail
        refine (CN.out _ _ _ h_x.out).mono ?_
        rintro e w5 ⟨v_y, rfl, hb, h_y⟩
        obtain ⟨A_y, n_y, cap_y, rfl, -⟩ := id h_y.form
        replace h_y := Lib.hid h_y
        clear c_x0 c_x1 f_x0 f_x1 l_x
        replace r_res := Lib.hid (r_res.out.keep hb)
        replace r_s := Lib.hid (r_s.out.keep hb)
        replace r_x := Lib.hid (r_x.out.keep hb)
        replace h_s := Lib.hid (h_s.out.below hb)
        replace h_e := Lib.hid (h_e.out.below hb)
        replace h_x := Lib.hid (h_x.out.below hb)
        replace BB := Lib.hid (below_next BB.out hb)
        clear hb
        rw [HE.out] at D2
        replace h_y := Lib.hid (h_y.out.far2 r_x.out (by decide) (.bool (sgn (-p))) (.slice A_y n_y cap_y))
        replace h_s := Lib.hid (h_s.out.far2 r_x.out (by decide) (.bool (sgn (-p))) (.slice A_y n_y cap_y))
        replace h_e := Lib.hid (h_e.out.far2 r_x.out (by decide) (.bool (sgn (-p))) (.slice A_y n_y cap_y))
        replace h_x := Lib.hid (h_x.out.far2 r_x.out (by decide) (.bool (sgn (-p))) (.slice A_y n_y cap_y))
        obtain ⟨c_x0, c_x1, f_x0, f_x1⟩ := reads2 r_x.out
        have l_x := r_x.out.lt
        go_upto_region 8 with fail
        clear c_x0 c_x1 f_x0 f_x1 l_x
        replace r_res := Lib.hid (r_res.out.far2 (p := g_x) (by have dd_x := d_x.out; omega) (.bool (sgn (-p))) (.slice A_y n_y cap_y))
        replace r_s := Lib.hid (r_s.out.far2 (p := g_x) (by have dd_s := d_s.out; have dd_x := d_x.out; omega) (.bool (sgn (-p))) (.slice A_y n_y cap_y))
        replace r_x := Lib.hid (r_x.out.set2 (.bool (sgn (-p))) (.slice A_y n_y cap_y))
        replace BB := Lib.hid (below_far2 BB.out (p := g_x) (by have dd := d_x.out; omega) (.bool (sgn (-p))) (.slice A_y n_y cap_y))
        generalize ((w5.setCell ⟨g_x, 0, none⟩ (.bool (sgn (-p)))).setCell ⟨g_x, 1, none⟩ (.slice A_y n_y cap_y)) = w6 at *
        obtain ⟨c_s0, c_s1, f_s0, f_s1⟩ := reads2 r_s.out
        have l_s := r_s.out.lt
        obtain ⟨c_x0, c_x1, f_x0, f_x1⟩ := reads2 r_x.out
        have l_x := r_x.out.lt
        go_wp2_with fail
        refine (D2.out _ _ _ h_s.out h_y.out).mono ?_
        rintro e w7 ⟨v_t, rfl, hb, h_t⟩
        obtain ⟨A_t, n_t, cap_t, rfl, -⟩ := id h_t.form
        replace h_t := Lib.hid h_t
        clear c_s0 c_s1 f_s0 f_s1 l_s c_x0 c_x1 f_x0 f_x1 l_x
        replace r_res := Lib.hid (r_res.out.keep hb)
        replace r_s := Lib.hid (r_s.out.keep hb)
        replace r_x := Lib.hid (r_x.out.keep hb)
        replace h_s := Lib.hid (h_s.out.below hb)
        replace h_e := Lib.hid (h_e.out.below hb)
        replace h_x := Lib.hid (h_x.out.below hb)
        replace h_y := Lib.hid (h_y.out.below hb)
        replace BB := Lib.hid (below_next BB.out hb)
        clear hb
        obtain ⟨c_s0, c_s1, f_s0, f_s1⟩ := reads2 r_s.out
        have l_s := r_s.out.lt
        replace h_t := Lib.hid (h_t.out.far2 r_s.out (by decide) (.bool (sgn b)) (.slice A_t n_t cap_t))
        go_upto_region 4 with fail
        clear c_s0 c_s1 f_s0 f_s1 l_s
        replace r_res := Lib.hid (r_res.out.far2 (p := g_s) (by have dd_s := d_s.out; omega) (.bool (sgn b)) (.slice A_t n_t cap_t))
        replace r_s := Lib.hid (r_s.out.set2 (.bool (sgn b)) (.slice A_t n_t cap_t))
        replace r_x := Lib.hid (r_x.out.far2 (p := g_s) (by have dd_x := d_x.out; have dd_s := d_s.out; omega) (.bool (sgn b)) (.slice A_t n_t cap_t))
        replace BB := Lib.hid (below_far2 BB.out (p := g_s) (by have dd := d_s.out; omega) (.bool (sgn b)) (.slice A_t n_t cap_t))
        generalize ((w7.setCell ⟨g_s, 0, none⟩ (.bool (sgn b))).setCell ⟨g_s, 1, none⟩ (.slice A_t n_t cap_t)) = w8 at *
        go_wp2_with fail
        go_roundw
        case rel => exact ⟨k + 1, A_t, n_t, cap_t, by omega, by go_num, by rw [HSk.out]; exact ⟨r_s.out, h_t.out, r_res.out, BB.out⟩⟩
        case measure => simp [intOf]; omega
      · skip
        have e1 : ¬ (k : Int) = 1 := by omega
        have f1 : ((k : Int) == 1) = false := by simp [e1]
        have HE : Hid (q = p) := HQ'.out hk1
        clear HQ1' HQ'
        rw [HE.out] at D2
        obtain ⟨c_s0, c_s1, f_s0, f_s1⟩ := reads2 r_s.out
        have l_s := r_s.out.lt
        obtain ⟨c_x0, c_x1, f_x0, f_x1⟩ := reads2 r_x.out
        have l_x := r_x.out.lt
        go_wp2_with fail
        refine (D2.out _ _ _ h_s.out h_x.out).mono ?_
        rintro e w5 ⟨v_t, rfl, hb, h_t⟩
        obtain ⟨A_t, n_t, cap_t, rfl, -⟩ := id h_t.form
        replace h_t := Lib.hid h_t
        clear c_s0 c_s1 f_s0 f_s1 l_s c_x0 c_x1 f_x0 f_x1 l_x
        replace r_res := Lib.hid (r_res.out.keep hb)
        replace r_s := Lib.hid (r_s.out.keep hb)
        replace r_x := Lib.hid (r_x.out.keep hb)
        replace h_s := Lib.hid (h_s.out.below hb)
        replace h_e := Lib.hid (h_e.out.below hb)
        replace h_x := Lib.hid (h_x.out.below hb)
        replace BB := Lib.hid (below_next BB.out hb)
        clear hb
        obtain ⟨c_s0, c_s1, f_s0, f_s1⟩ := reads2 r_s.out
        have l_s := r_s.out.lt
        replace h_t := Lib.hid (h_t.out.far2 r_s.out (by decide) (.bool (sgn b)) (.slice A_t n_t cap_t))
        go_upto_region 4 with fail
        clear c_s0 c_s1 f_s0 f_s1 l_s
        replace r_res := Lib.hid (r_res.out.far2 (p := g_s) (by have dd_s := d_s.out; omega) (.bool (sgn b)) (.slice A_t n_t cap_t))
        replace r_s := Lib.hid (r_s.out.set2 (.bool (sgn b)) (.slice A_t n_t cap_t))
        replace r_x := Lib.hid (r_x.out.far2 (p := g_s) (by have dd_x := d_x.out; have dd_s := d_s.out; omega) (.bool (sgn b)) (.slice A_t n_t cap_t))
        replace BB := Lib.hid (below_far2 BB.out (p := g_s) (by have dd := d_s.out; omega) (.bool (sgn b)) (.slice A_t n_t cap_t))
        generalize ((w5.setCell ⟨g_s, 0, none⟩ (.bool (sgn b))).setCell ⟨g_s, 1, none⟩ (.slice A_t n_t cap_t)) = w6 at *
        go_wp2_with fail
        go_roundw
        case rel => exact ⟨k + 1, A_t, n_t, cap_t, by omega, by go_num, by rw [HSk.out]; exact ⟨r_s.out, h_t.out, r_res.out, BB.out⟩⟩
        case measure => simp [intOf]; omega
    · obtain rfl : k = 3 := by omega
      obtain ⟨c_s0, c_s1, f_s0, f_s1⟩ := reads2 r_s.out
      have l_s := r_s.out.lt
      obtain ⟨c_res0, c_res1, f_res0, f_res1⟩ := reads2 r_res.out
      have l_res := r_res.out.lt
      go_wp2_with fail
      replace h_s := Lib.hid (h_s.out.far2 r_res.out (by decide) (.bool (sgn (S 3))) (.slice A_s n_s cap_s))
      clear c_s0 c_s1 f_s0 f_s1 l_s c_res0 c_res1 f_res0 f_res1 l_res
      replace r_res := Lib.hid (r_res.out.set2 (.bool (sgn (S 3))) (.slice A_s n_s cap_s))
      replace r_s := Lib.hid (r_s.out.far2 (p := w.heap.size) (by have dd_s := d_s.out; omega) (.bool (sgn (S 3))) (.slice A_s n_s cap_s))
      replace BB := Lib.hid (below_far2 BB.out (p := w.heap.size) (by omega) (.bool (sgn (S 3))) (.slice A_s n_s cap_s))
      generalize ((wr.setCell ⟨w.heap.size, 0, none⟩ (.bool (sgn (S 3)))).setCell ⟨w.heap.size, 1, none⟩ (.slice A_s n_s cap_s)) = w7 at *
      obtain ⟨c_res0, c_res1, f_res0, f_res1⟩ := reads2 r_res.out
      have l_res := r_res.out.lt
      refine bodyPost_ret (v := .agg #[.bool (sgn (S 3)), .slice A_s n_s cap_s]) (by unfold results; simp only [Try.results39]; go_simp) rfl ?_
      exact ⟨_, rfl, BB.out, h_s.out⟩
end Go.Proofs.Ythoakbjnofhpbaa
