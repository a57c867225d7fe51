/- Contract of ref04's Horner. -/
import Derived.Test.YthdbchghhpoadaaDoorFxH
set_option linter.unusedVariables false
set_option linter.unusedSimpArgs false
namespace Go.Proofs.YthdbchghhpoadaaDoor
open Go.RowKit
theorem ret_oz {R : Option Int} {X : Int} (h : R = some X) : Ending.returned (.tuple #[.int .i64 X, .bool true]) = .returned (.tuple #[.int .i64 (R.getD 0), .bool R.isSome]) := by rw [h]; rfl
theorem ret_on {R : Option Int} (h : R = none) : Ending.returned (.tuple #[.int .i64 0, .bool false]) = .returned (.tuple #[.int .i64 (R.getD 0), .bool R.isSome]) := by rw [h]; rfl
set_option maxRecDepth 100000 in
set_option maxHeartbeats 4000000 in
theorem r4horner (v : Value) (zs : List Int) (x : Int) (w : World) (hv : IS w v zs) (hx : I64 x) (hl : zs.length ≤ 64) : Calls Tryd.prog 20 #[v, .int .i64 x] w fun e w' => e = .returned (.tuple #[.int .i64 ((hornI x 0 zs).getD 0), .bool (hornI x 0 zs).isSome]) ∧ Below w.heap.size w w' := by
  have HA := Lib.hid (fun (hz : zs ≠ []) => hv.some hz)
  have HZ := Lib.hid hv.i64
  have HF := Lib.hid (fun k (hk : k < zs.length) (o : Int) => horn_drop (x := x) (o := o) hk)
  have HE := Lib.hid (fun (o : Int) => horn_end (x := x) (o := o) (zs := zs))
  obtain ⟨R, hR⟩ : ∃ R, R = hornI x 0 zs := ⟨_, rfl⟩
  have H0 : Hid (hornI x 0 (zs.drop 0) = R) := by rw [hR]; rfl
  rw [← hR]
  have CM : Hid (∀ (o : Int), I64 o → ∀ w, Calls Tryd.prog 15 #[.int .i64 o, .int .i64 x] w (GiveB (o * x / 65536) w)) := by
    intro o ho w
    have := r4mul o x ho hx w
    rw [Int.fdiv_eq_ediv_of_nonneg _ (by omega)] at this
    exact this
  have CW : Hid (∀ (o : Int), I64 o → Wd 127 (o * x / 65536)) := by
    intro o ho
    rw [← Int.fdiv_eq_ediv_of_nonneg _ (show (0 : Int) ≤ 65536 by omega)]
    exact ((i64_wd ho).mul (i64_wd hx)).fdiv
  obtain ⟨A, cap, rfl⟩ := hv.form
  obtain ⟨F, hF⟩ : ∃ F : Int → Nat → Option Int, F = fun o k => hornI x o (zs.drop k) := ⟨_, rfl⟩
  have HF : Hid (∀ k, k < zs.length → ∀ o, F o k = if fitsB (o * x / 65536) 63 = true ∧ fitsB (o * x / 65536 + zs.getD k 0) 63 = true then F (o * x / 65536 + zs.getD k 0) (k + 1) else none) := by rw [hF]; exact HF.out
  have HE : Hid (∀ o, F o zs.length = some o) := by rw [hF]; exact HE.out
  have H0 : Hid (F 0 0 = R) := by rw [hF]; exact H0.out
  have HC : Hid (∀ k, k < zs.length → ∃ b off cap', (.slice A zs.length cap : Value) = .slice (some ⟨b, off, none⟩) zs.length cap' ∧ b < w.heap.size ∧ w.cell? ⟨b, off + k, none⟩ = some (.int .i64 (zs.getD k 0))) := by
    intro k hk
    obtain ⟨b, off, cap', e, -, -, hb, hc⟩ := HA.out (by rintro rfl; simp at hk)
    exact ⟨b, off, cap', e, hb, hc k hk⟩
  have hnl : Hid (zs.length < 100) := by show _ < _; omega
  clear hR hF hv hl hx HA
  generalize zs.length = n at *
  generalize hzz : (fun k => zs.getD k 0) = Z at *
  have HZ : Hid (∀ k, I64 (Z k)) := by rw [← hzz]; exact HZ.out
  have HF : Hid (∀ k, k < n → ∀ o, F o k = if fitsB (o * x / 65536) 63 = true ∧ fitsB (o * x / 65536 + Z k) 63 = true then F (o * x / 65536 + Z k) (k + 1) else none) := by rw [← hzz]; exact HF.out
  have HC : Hid (∀ k, k < n → ∃ b off cap', (.slice A n cap : Value) = .slice (some ⟨b, off, none⟩) n cap' ∧ b < w.heap.size ∧ w.cell? ⟨b, off + k, none⟩ = some (.int .i64 (Z k))) := by rw [← hzz]; exact HC.out
  clear hzz
  go_enter Tryd.func20, Tryd.ntmps20
  go_wp2_with fail
  have BB : Hid (Below w.heap.size w w) := Below.refl _ _
  go_loopw [6, 7, 8, 9] (fun o i _ _ wr => ∃ (k : Nat) (X : Int), o = .int .i64 X ∧ i = .int .i64 k ∧ k ≤ n ∧ Hid (I64 X ∧ F X k = R ∧ Below w.heap.size w wr)) (fun _ i _ _ _ => n - (intOf i).toNat)
  case atStart => exact ⟨0, 0, rfl, rfl, by omega, ⟨by unfold I64; omega, H0.out, BB.out⟩⟩
  case round =>
    clear BB H0
    obtain ⟨k, X, rfl, rfl, hk, hinv⟩ := hrel
    obtain ⟨hX, hFk, BB⟩ := hinv.out
    replace BB := Lib.hid BB; replace hX := Lib.hid hX
    clear hinv
    by_cases hlt : k < n
    · have k0 : (0 : Int) ≤ (k : Int) := by omega
      have k1 : (k : Int) < (n : Int) := by omega
      obtain ⟨b, off, cap', e, hb0, hcz⟩ := HC.out k hlt
      simp only [Value.slice.injEq] at e
      obtain ⟨rfl, -, rfl⟩ := e
      have hFs := HF.out k hlt X
      have hc := HZ.out k
      have CT := Lib.hid (fun w9 (h9 : Below w.heap.size w w9) => (h9.cell (p := ⟨b, off + k, none⟩) hb0).trans hcz)
      have ew : IntKind.i64.wrap ((k : Int) + 1) = ((k + 1 : Nat) : Int) := by have := hnl.out; rw [show (k : Int) + 1 = ((k + 1 : Nat) : Int) by omega]; exact iw ⟨by omega, by omega⟩
      generalize Z k = c at *
      have D1 := CM.out X hX.out
      have wp := CW.out X hX.out
      generalize X * x / 65536 = P at *
      obtain ⟨S, hS⟩ : ∃ S, S = P + c := ⟨_, rfl⟩
      have ws : Wd 1400 S := by rw [hS]; exact (Wd.add wp ((i64_wd hc).up (by omega))).up (by omega)
      have DO := Lib.hid (fun w => of_any c hc w)
      have DA : Hid (∀ (u v : Value) w, BR w u P → BR w v c → Calls Tryd.prog 13 #[u, v] w (GiveB S w)) := by rw [hS]; exact fun u v w hu hv => add_any u v P c w hu hv (wp.mid (by omega)) ((i64_wd hc).mid (by omega))
      have F1 := Lib.hid (fun (v : Value) w (h : BR w v P) => rfits_any v P 63 (by omega) w h (wp.up (by omega)))
      have F2 := Lib.hid (fun (v : Value) w (h : BR w v S) => rfits_any v S 63 (by omega) w h ws)
      have DS := Lib.hid (fun (hs : fitsB S 63 = true) (v : Value) w (h : BR w v S) => small_any v S w h (fits_63.1 hs))
      rw [← hS] at hFs
      rw [hFk] at hFs
      have hFs := Lib.hid hFs
      have hI := Lib.hid (fun (hs : fitsB S 63 = true) => fits_63.1 hs)
      replace D1 := Lib.hid D1
      generalize fitsB P 63 = B1 at *
      generalize fitsB S 63 = B2 at *
      clear HC hcz hFk HF HE CM CW wp ws hc hS
      go_wp2_with fail
      refine (D1.out _).mono ?_
      rintro e w1 ⟨v_p, rfl, hb, h_p⟩
      obtain ⟨A_p, n_p, cap_p, rfl, -⟩ := id h_p.form
      replace h_p := Lib.hid h_p
      replace BB := Lib.hid (below_next BB.out hb)
      clear hb
      go_upto_region 6 with fail
      have d_p := Lib.hid (And.intro BB.out.size (True.intro))
      obtain ⟨hb, r_p⟩ := laid w1 #[.bool (sgn (P)), .slice A_p n_p cap_p] 24
      replace h_p := Lib.hid (h_p.out.below hb)
      replace BB := Lib.hid (below_next BB.out hb)
      replace r_p := Lib.hid r_p
      clear hb
      generalize w1.alloc (.cells #[.bool (sgn (P)), .slice A_p n_p cap_p] 24) = w2 at *
      generalize w1.heap.size = g_p at *
      go_cut [9] (fun s5 wc1 => ∃ gp A3 n3 c3, s5 = .pointer (some ⟨gp, 0, none⟩) ∧ Hid (AtB wc1 gp #[.bool (sgn (S)), .slice A3 n3 c3] 24 ∧ BR wc1 (.agg #[.bool (sgn (S)), .slice A3 n3 c3]) (S) ∧ Below w2.heap.size w2 wc1 ∧ w2.heap.size ≤ gp))
      case first =>
        have KK := Lib.hid (fun (w9 : World) (h : Below w2.heap.size w2 w9) => (⟨cells2 (r_p.out.keep h), CT.out _ (below_next BB.out h)⟩ : (w9.cell? ⟨g_p, 0, none⟩ = some (.bool (sgn (P))) ∧ w9.cell? ⟨g_p, 1, none⟩ = some (.slice A_p n_p cap_p)) ∧ (w9.cell? ⟨b, off + k, none⟩ = some (.int .i64 c))))
        have K0 := KK.out w2 (Below.refl _ _)
        have KD := KK.out w2.drew (below_drew (Below.refl _ _))
        go_region_held3 (fun w9 => (w9.cell? ⟨g_p, 0, none⟩ = some (.bool (sgn (P))) ∧ w9.cell? ⟨g_p, 1, none⟩ = some (.slice A_p n_p cap_p)) ∧ (w9.cell? ⟨b, off + k, none⟩ = some (.int .i64 c)))
            (first | with_reducible exact KD | with_reducible exact K0 | with_reducible exact K_w3 | with_reducible exact K_w4 | (refine KK.out _ ?_; repeat' (first | with_reducible exact Below.refl _ _ | with_reducible exact B_w3.out | with_reducible exact B_w4.out | with_reducible apply below_new | with_reducible apply below_drew | with_reducible apply below_set | omega)))
            (first
              | (go_at_call 6
                 refine (DO.out _).mono ?_
                 rintro e w3 ⟨v_m, rfl, hb, h_m⟩
                 obtain ⟨A_m, n_m, cap_m, rfl, -⟩ := id h_m.form
                 replace h_m := Lib.hid h_m
                 have B_w3 := Lib.hid (reg_next (w0 := w2) (by repeat (first | with_reducible exact Below.refl _ _ | with_reducible apply below_drew | with_reducible apply below_new)) hb)
                 have K_w3 := KK.out _ B_w3.out
                 obtain ⟨hc_w3, hf_w3⟩ := below_reads hb
                 have hz_w3 := hb.size
                 try simp at hz_w3
                 try (have z1_w3 := Nat.lt_of_succ_le hz_w3)
                 try (have z2_w3 := Nat.lt_of_succ_lt z1_w3)
                 have HB_w3 := Lib.hid hb
                 clear hb)
              | (go_at_call 13
                 refine (DA.out _ _ _ (h_p.out.below ?_) (h_m.out.below ?_)).mono ?_
                 · repeat (first | with_reducible exact Below.refl _ _ | with_reducible exact B_w3.out | with_reducible apply below_drew | with_reducible apply below_new)
                 · repeat (first | with_reducible exact Below.refl _ _ | with_reducible exact B_w3.out | with_reducible apply below_drew | with_reducible apply below_new)
                 rintro e w4 ⟨v_s, rfl, hb, h_s⟩
                 obtain ⟨A_s, n_s, cap_s, rfl, -⟩ := id h_s.form
                 replace h_s := Lib.hid h_s
                 replace h_m := Lib.hid (h_m.out.below (below_next (by repeat (first | with_reducible exact Below.refl _ _ | with_reducible apply below_new | with_reducible apply below_drew)) hb))
                 have B_w4 := Lib.hid (below_next (by repeat (first | with_reducible exact B_w3.out | with_reducible apply below_new | with_reducible apply below_drew)) hb)
                 have K_w4 := KK.out _ B_w4.out
                 obtain ⟨hc_w4, hf_w4⟩ := below_reads hb
                 have hz_w4 := hb.size
                 try simp at hz_w4
                 try (have z1_w4 := Nat.lt_of_succ_le hz_w4)
                 try (have z2_w4 := Nat.lt_of_succ_lt z1_w4)
                 have HB_w4 := Lib.hid hb
                 have y_w4_w3 := Nat.le_trans HB_w3.out.size (Nat.le_trans (by (try simp only [World.size_alloc]); omega) hb.size)
                 try simp at y_w4_w3
                 try (have z3_w4_w3 := Nat.lt_of_succ_le y_w4_w3)
                 try (have z4_w4_w3 := Nat.lt_of_succ_lt z3_w4_w3)
                 clear hb))
        all_goals clear KK K0 KD K_w3 K_w4
        all_goals go_wp2_with fail
        all_goals go_meet
        all_goals refine ⟨_, A_s, n_s, cap_s, rfl, ⟨?_, ?_, ?_, ?_⟩⟩
        all_goals repeat' (first | with_reducible exact h_s.out | with_reducible exact B_w3.out | with_reducible exact B_w4.out | with_reducible exact Below.refl _ _ | with_reducible apply below_new | with_reducible apply below_drew | (with_reducible refine below_set ?_ ?_ _) | (with_reducible refine AtB.set2 (a := .bool false) (b := .slice none 0 0) (T := 24) ?_ _ _) | (with_reducible refine AtB.set2 (a := .int .i64 0) (b := .int .u64 0) (T := 46) ?_ _ _) | (with_reducible refine AtB.far2 ?_ ?_ _ _) | (with_reducible refine BR.alloc ?_ _) | (with_reducible refine BR.far2 (a := .bool false) (b := .slice none 0 0) (T := 24) ?_ ?_ (by decide) _ _) | (with_reducible refine new_at_eq ?_ _ _; first | rfl | (simp; done)) | (with_reducible refine AtB.alloc ?_ _) | with_reducible apply AtB.drew | (with_reducible refine AtB.keep ?_ HB_w4.out) | (with_reducible refine AtB.keep ?_ HB_w3.out) | omega)
      obtain ⟨wc1, rfl⟩ : ∃ wo : World, wo = wc := ⟨_, rfl⟩
      obtain ⟨g_s, A_s, n_s, cap_s, rfl, hcut⟩ := hcut
      obtain ⟨r_s, h_s, hb, hge⟩ := hcut.out
      clear hcut
      replace r_s := Lib.hid r_s; replace h_s := Lib.hid h_s
      have d_s := Lib.hid (And.intro (Nat.le_trans BB.out.size hge) (And.intro (Nat.lt_of_lt_of_le r_p.out.lt hge) (True.intro)))
      replace r_p := Lib.hid (r_p.out.keep hb)
      replace h_p := Lib.hid (h_p.out.below hb)
      replace BB := Lib.hid (below_next BB.out hb)
      clear hb hge
      clear DO DA CT
      obtain ⟨c_p0, c_p1, f_p0, f_p1⟩ := reads2 r_p.out
      have l_p := r_p.out.lt
      go_wp2_with fail
      refine (F1.out _ _ h_p.out).mono ?_
      rintro e w5 ⟨rfl, hb⟩
      clear c_p0 c_p1 f_p0 f_p1 l_p
      replace r_p := Lib.hid (r_p.out.keep hb)
      replace r_s := Lib.hid (r_s.out.keep hb)
      replace h_p := Lib.hid (h_p.out.below hb)
      replace h_s := Lib.hid (h_s.out.below hb)
      replace BB := Lib.hid (below_next BB.out hb)
      clear hb
      cases B1 with
      | false =>
        have hRn := Lib.hid (hFs.out.trans (if_neg (by simp)))
        go_wp2_with fail
        refine bodyPost_ret (v := .tuple #[.int .i64 0, .bool false]) (by unfold results; simp only [Tryd.results20]; go_simp) rfl ?_
        exact ⟨ret_on hRn.out, BB.out⟩
      | true =>
        obtain ⟨c_s0, c_s1, f_s0, f_s1⟩ := reads2 r_s.out
        have l_s := r_s.out.lt
        go_wp2_with fail
        refine (F2.out _ _ h_s.out).mono ?_
        rintro e w6 ⟨rfl, hb⟩
        clear c_s0 c_s1 f_s0 f_s1 l_s
        replace r_p := Lib.hid (r_p.out.keep hb)
        replace r_s := Lib.hid (r_s.out.keep hb)
        replace h_p := Lib.hid (h_p.out.below hb)
        replace h_s := Lib.hid (h_s.out.below hb)
        replace BB := Lib.hid (below_next BB.out hb)
        clear hb
        cases B2 with
        | false =>
          have hRn := Lib.hid (hFs.out.trans (if_neg (by simp)))
          go_wp2_with fail
          refine bodyPost_ret (v := .tuple #[.int .i64 0, .bool false]) (by unfold results; simp only [Tryd.results20]; go_simp) rfl ?_
          exact ⟨ret_on hRn.out, BB.out⟩
        | true =>
          have hFn := Lib.hid (hFs.out.trans (if_pos (by simp))).symm
          have hIS := Lib.hid (hI.out rfl)
          have DT := Lib.hid (fun v w (h : BR w v S) => DS.out (by first | exact rfl | trivial) v w h)
          clear DS
          clear hFs hI F1 F2
          obtain ⟨c_s0, c_s1, f_s0, f_s1⟩ := reads2 r_s.out
          have l_s := r_s.out.lt
          go_wp2_with fail
          refine (DT.out _ _ h_s.out).mono ?_
          rintro e w7 ⟨rfl, hb⟩
          clear c_s0 c_s1 f_s0 f_s1 l_s
          replace r_p := Lib.hid (r_p.out.keep hb)
          replace r_s := Lib.hid (r_s.out.keep hb)
          replace h_p := Lib.hid (h_p.out.below hb)
          replace h_s := Lib.hid (h_s.out.below hb)
          replace BB := Lib.hid (below_next BB.out hb)
          clear hb
          go_wp2_with fail
          go_roundw
          case rel => exact ⟨k + 1, S, rfl, by go_num, by omega, ⟨hIS.out, hFn.out, BB.out⟩⟩
          case measure => simp [intOf, ew]; omega
    · obtain rfl : k = n := by omega
      have hRs := Lib.hid (hFk.symm.trans (HE.out X))
      clear hFk HE HF HC
      go_wp2_with fail
      refine bodyPost_ret (v := .tuple #[.int .i64 X, .bool true]) (by unfold results; simp only [Tryd.results20]; go_simp) rfl ?_
      exact ⟨ret_oz hRs.out, BB.out⟩
end Go.Proofs.YthdbchghhpoadaaDoor
