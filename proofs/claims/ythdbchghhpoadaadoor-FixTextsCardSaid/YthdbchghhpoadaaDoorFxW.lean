/- ref04.Read of a text that has a point. -/
import Derived.Test.YthdbchghhpoadaaDoorFxV
set_option linter.unusedVariables false
set_option linter.unusedSimpArgs false
namespace Go.Proofs.YthdbchghhpoadaaDoor
open Go.RowKit
set_option maxRecDepth 100000 in
set_option maxHeartbeats 16000000 in
theorem rread_pt_pos (l t h r : List UInt8) (hl : t = l) (hhd : t.head? ≠ some 45) (hne : 0 < t.length) (htn : t.length ≤ 1000) (C : Option Int) (hC0 : ¬ (0 < h.length ∧ isD h) ∨ ¬ (0 < r.length ∧ isD r) → C = none) (hC1 : 0 < h.length ∧ isD h → 0 < r.length ∧ isD r → C = some (((decL h : Int) * 65536 + ((decL r * 65536 / 10 ^ r.length : Nat) : Int)))) (hlong : t.length ≤ 60) (hno : 46 ∉ h) (htr : t = h ++ 46 :: r) (w : World) : Calls Tryd.prog 23 #[.string ⟨l.toArray⟩] w (GiveFin C l w) := by
  obtain ⟨n, hn⟩ : ∃ n, n = t.length := ⟨_, rfl⟩
  obtain ⟨P, hP⟩ : ∃ P : Nat → Nat, P = ptI t := ⟨_, rfl⟩
  have HPn : Hid (P n = n) := by rw [hP, hn]; exact ptI_n t
  have HX : Hid (∀ k, k < n → ∃ c : Nat, (∀ w, (Instr.index 9 (.string ⟨t.toArray⟩) (.int .i64 (k : Int))).run Tryd.prog w = .ok (.int .u8 (c : Int)) w) ∧ (c = 46 → P k = k) ∧ (c ≠ 46 → P k = P (k + 1))) := by
    intro k hk
    rw [hn] at hk
    refine ⟨t[k].toNat, fun w => str_index t k hk w, fun h => ?_, fun h => ?_⟩
    · rw [hP, ptI_step hk, if_pos (byte46.1 h)]
    · rw [hP, ptI_step hk, if_neg (fun e => h (byte46.2 e))]
  obtain ⟨ts, hts⟩ : ∃ s : ByteArray, s = ⟨t.toArray⟩ := ⟨_, rfl⟩
  have hsz : ts.size = n := by rw [hts, str_len, hn]
  have hn300 : Hid (n ≤ 1000) := by show _ ≤ _; rw [hn]; exact htn
  rw [← hts] at HX
  obtain ⟨z0, hz0⟩ : ∃ z : Int, z = (n : Int) - 1 := ⟨_, rfl⟩
  have eN : wrap64 ((n : Int) - 1) = z0 := by rw [← hz0]; have := hn300.out; exact ww ⟨by omega, by omega⟩
  have hz0 : Hid (z0 = (n : Int) - 1) := hz0
  subst hl
  obtain ⟨c0, hc0, hx0⟩ : ∃ c : Nat, c ≠ 45 ∧ ∀ w, (Instr.index 9 (.string ts) (.int .i64 0)).run Tryd.prog w = .ok (.int .u8 (c : Int)) w := by
    cases hlt : t with
    | nil => rw [hlt] at hne; simp at hne
    | cons c t' =>
      refine ⟨c.toNat, fun h => hhd ?_, fun w => ?_⟩
      · rw [hlt]; exact congrArg some (UInt8.toNat_inj.1 (by rw [h]; rfl))
      · rw [hts, hlt]; exact str_index (c :: t') 0 (by simp) w
  have f0 : ((c0 : Int) == 45) = false := by simp; omega
  have j2 : 0 < n := by omega
  have j4 : (0 : Int) < (n : Int) := by omega
  clear hc0
  rw [← hts]
  have hs := Lib.hid hts
  have y1 : ¬ (60 : Int) < (n : Int) := by omega
  have y2 : ¬ 60 < n := by omega
  have htl : n = h.length + 1 + r.length := by rw [hn, htr]; simp; omega
  have HP0 : Hid (P 0 = h.length) := by show _ = _; rw [hP, ptI_0, htr, cutD_app r hno]
  obtain ⟨hst, hhst⟩ : ∃ s : ByteArray, s = ⟨h.toArray⟩ := ⟨_, rfl⟩
  obtain ⟨rst, hrst⟩ : ∃ s : ByteArray, s = ⟨r.toArray⟩ := ⟨_, rfl⟩
  obtain ⟨q0, hq0⟩ : ∃ q, q = h.length + 1 := ⟨_, rfl⟩
  have he1 : ts.extract 0 h.length = hst := by rw [hts, str_extract _ _ _ (by omega), hhst, htr]; simp
  have he2 : ts.extract q0 n = rst := by
    rw [hts, str_extract _ _ _ (by omega), hrst, htr, hq0, show n - (h.length + 1) = r.length by omega]
    simp
  obtain ⟨b1, hb1⟩ : ∃ b, b = decide (0 < h.length ∧ isD h) := ⟨_, rfl⟩
  obtain ⟨b2, hb2⟩ : ∃ b, b = decide (0 < r.length ∧ isD r) := ⟨_, rfl⟩
  have CD := Lib.hid (fun w => dg_dd h (by omega) w)
  have CE := Lib.hid (fun w => dg_dd r (by omega) w)
  rw [← hb1, ← hhst] at CD
  rw [← hb2, ← hrst] at CE
  obtain ⟨v1, hv1⟩ : ∃ v, v = decL h := ⟨_, rfl⟩
  obtain ⟨v2, hv2⟩ : ∃ v, v = decL r := ⟨_, rfl⟩
  rw [← hv1] at CD hC1
  rw [← hv2] at CE hC1
  obtain ⟨rl, hrl⟩ : ∃ v, v = r.length := ⟨_, rfl⟩
  have hCn1 : Hid (b1 = false → C = none) := fun h => hC0 (.inl (of_decide_eq_false (hb1.symm.trans h)))
  have hCn2 : Hid (b2 = false → C = none) := fun h => hC0 (.inr (of_decide_eq_false (hb2.symm.trans h)))
  have hCy : Hid (b1 = true → b2 = true → C = some (((v1 : Int) * 65536 + ((v2 * 65536 / 10 ^ rl : Nat) : Int)))) := fun h h' => by rw [hrl]; exact hC1 (of_decide_eq_true (hb1.symm.trans h)) (of_decide_eq_true (hb2.symm.trans h'))
  have CW := Lib.hid (fun w => pow_any 16 (by omega) w)
  rw [two16] at CW
  have CO1 := Lib.hid (fun w => of_any 1 (by unfold I64; omega) w)
  have CO10 := Lib.hid (fun w => of_any 10 (by unfold I64; omega) w)
  obtain ⟨hl0, hhl0⟩ : ∃ v, v = h.length := ⟨_, rfl⟩
  rw [← hhl0] at HP0 he1 hq0 htl
  rw [← hrl] at htl
  have i1 : hl0 ≤ n := by omega
  have i2 : (hl0 : Int) ≤ (n : Int) := by omega
  have i3 : hl0 < n := by omega
  have i4 : (hl0 : Int) < (n : Int) := by omega
  have i5 : q0 ≤ n := by omega
  have i6 : (q0 : Int) ≤ (n : Int) := by omega
  have i7 : (0 : Int) ≤ (q0 : Int) := by omega
  have hqq : (hl0 : Int) + 1 = (q0 : Int) := by omega
  have ew2 : IntKind.i64.wrap ((hl0 : Int) + 1) = (q0 : Int) := by rw [hqq]; exact iw ⟨by omega, by omega⟩
  have htq := Lib.hid (show n = q0 + rl by omega)
  have hrl60 : Hid (rl ≤ 60) := by show _ ≤ _; omega
  have hn60 : Hid (n ≤ 60) := by show _ ≤ _; omega
  clear htl hP hn htn hlong hno hC0 hC1 hb1 hv1 hb2 hv2 htr hrl hhl0 hq0 hhst hrst hqq hts hhd hne
  go_enter Tryd.func23, Tryd.ntmps23
  go_wp2_with fail
  have BB : Hid (Below w.heap.size w w) := Below.refl _ _
  go_loopw [6, 7] (fun p i wr => ∃ (j : Nat) (z : Int), p = .int .i64 ((P j : Nat) : Int) ∧ i = .int .i64 z ∧ j ≤ n ∧ Hid (z = (j : Int) - 1 ∧ Below w.heap.size w wr)) (fun _ i _ => (intOf i + 1).toNat)
  case atStart => exact ⟨n, z0, by rw [HPn.out], by first | rfl | rw [eN] | rw [hz0.out], Nat.le_refl _, ⟨hz0.out, BB.out⟩⟩
  case round =>
    clear BB HPn hz0 eN
    obtain ⟨j, z, rfl, rfl, hj, hI⟩ := hrel
    obtain ⟨hz, BB⟩ := hI.out
    clear hI
    replace BB := Lib.hid BB
    by_cases hj0 : 0 < j
    · obtain ⟨k, rfl⟩ : ∃ k, j = k + 1 := ⟨j - 1, by omega⟩
      obtain rfl : z = (k : Int) := by omega
      obtain ⟨c, hx, hP1, hP2⟩ := HX.out k (by omega)
      have k0 : (0 : Int) ≤ (k : Int) := by omega
      have k1 : (k : Int) < (n : Int) := by omega
      obtain ⟨z', hz'⟩ : ∃ z' : Int, z' = (k : Int) - 1 := ⟨_, rfl⟩
      have ew : wrap64 ((k : Int) - 1) = z' := by rw [← hz']; have := hn300.out; exact ww ⟨by omega, by omega⟩
      replace hz' := Lib.hid hz'
      by_cases hc : c = 46
      · have hPk : Hid (P k = k) := hP1 hc
        have f1 : ((c : Int) == 46) = true := by simp; omega
        clear hP1 hP2 hc HX hz
        go_wp2_with fail
        go_roundw
        case rel => exact ⟨k, z', by rw [hPk.out], by first | rfl | rw [ew] | rw [hz'.out], by omega, ⟨hz'.out, BB.out⟩⟩
        case measure => have := hz'.out; simp [intOf] <;> omega
      · have hPk : Hid (P k = P (k + 1)) := hP2 hc
        have f1 : ((c : Int) == 46) = false := by simp; omega
        clear hP1 hP2 hc HX hz
        go_wp2_with fail
        go_roundw
        case rel => exact ⟨k, z', by rw [hPk.out], by first | rfl | rw [ew] | rw [hz'.out], by omega, ⟨hz'.out, BB.out⟩⟩
        case measure => have := hz'.out; simp [intOf] <;> omega
    · obtain rfl : j = 0 := by omega
      obtain rfl : z = -1 := by omega
      clear HX hj hj0 hz
      generalize P 0 = pp at *
      obtain rfl : pp = hl0 := HP0.out
      clear HP0
      go_wp2_with fail
      refine (CD.out _).mono ?_
      rintro e w1 ⟨v_a, z_a, rfl, hb, h_a, hzb, hzv⟩
      replace BB := Lib.hid (below_next BB.out hb)
      clear hb
      obtain ⟨A_a, n_a, cap_a, rfl, -⟩ := id h_a.form
      have h_a := Lib.hid h_a
      go_upto_region 14 with fail
      have d_a := Lib.hid (And.intro BB.out.size (True.intro))
      obtain ⟨hb, r_a⟩ := laid w1 #[.bool (sgn (↑z_a)), .slice A_a n_a cap_a] BT4
      replace h_a := Lib.hid (h_a.out.below hb)
      replace BB := Lib.hid (below_next BB.out hb)
      replace r_a := Lib.hid r_a
      clear hb
      generalize w1.alloc (.cells #[.bool (sgn (↑z_a)), .slice A_a n_a cap_a] BT4) = w2 at *
      generalize w1.heap.size = g_a at *
      have CM := Lib.hid (fun u v w hu hv => mul60 z_a hzb u v w hu hv)
      obtain ⟨M, hM⟩ : ∃ M : Int, M = ((z_a * 65536 : Nat) : Int) := ⟨_, rfl⟩
      have hMw := Lib.hid (show Wd 217 M by rw [hM]; exact wd60m hzb)
      rw [← hM] at CM
      have hMv : Hid (b1 = true → M = (v1 : Int) * 65536) := fun h => by rw [hM, hzv h]; omega
      clear hM hzv hzb
      have KK := Lib.hid (fun (w9 : World) (h : Below w2.heap.size w2 w9) => (cells2 (r_a.out.keep h) : (w9.cell? ⟨g_a, 0, none⟩ = some (.bool (sgn (↑z_a))) ∧ w9.cell? ⟨g_a, 1, none⟩ = some (.slice A_a n_a cap_a))))
      have K0 := KK.out w2 (Below.refl _ _)
      have KD := KK.out w2.drew (below_drew (Below.refl _ _))
      refine AnyG.begin_ (fun w9 => (w9.cell? ⟨g_a, 0, none⟩ = some (.bool (sgn (↑z_a))) ∧ w9.cell? ⟨g_a, 1, none⟩ = some (.slice A_a n_a cap_a))) 3 (by kernel_rfl) ?_
      refine AnyG.take (i := 0) (v := ?_) rfl (by kernel_rfl) (by kernel_rfl) (by kernel_rfl) (fun _ _ _ h => h) (by kernel_rfl) (by kernel_rfl) (Or.inl ⟨by rfl, ?_⟩) (by assumption) ?_
      rotate_left
      · intro w9 hSw; (try dsimp only at hSw); go_simp <;> with_reducible rfl
      try simp only [Act.put, List.getElem_toArray, List.getElem_cons_zero, List.getElem_cons_succ, List.setIfInBounds_toArray, List.set_cons_zero, List.set_cons_succ]
      refine AnyG.step (i := 1) (by kernel_rfl) rfl (fun K hK => ?_)
      go_simp
      go_at_call 35
      refine (CW.out _).mono ?_
      rintro e w3 ⟨v_p, rfl, hb, h_p⟩
      obtain ⟨A_p, n_p, cap_p, rfl, -⟩ := id h_p.form
      replace h_p := Lib.hid h_p
      have B_w3 := Lib.hid (reg_next (w0 := w2) (by repeat (first | with_reducible exact Below.refl _ _ | with_reducible apply below_drew | with_reducible apply below_new)) hb)
      have K_w3 := KK.out _ B_w3.out
      clear hb
      refine hK.out _ _ (fun _ => K_w3) (fun hHeld => ?_)
      replace hHeld := hHeld (by decide)
      clear hK
      try simp only [Act.put, List.getElem_toArray, List.getElem_cons_zero, List.getElem_cons_succ, List.setIfInBounds_toArray, List.set_cons_zero, List.set_cons_succ]
      refine AnyG.step (i := 2) (by kernel_rfl) rfl (fun K hK => ?_)
      go_simp
      go_at_call 34
      refine (CM.out _ _ _ (h_a.out.below B_w3.out) h_p.out).mono ?_
      rintro e w4 ⟨v_m, rfl, hb, h_m⟩
      obtain ⟨A_m, n_m, cap_m, rfl, -⟩ := id h_m.form
      replace h_m := Lib.hid h_m
      replace h_p := Lib.hid (h_p.out.below hb)
      have B_w4 := Lib.hid (below_next B_w3.out hb)
      have K_w4 := KK.out _ B_w4.out
      obtain ⟨rc_a0, rc_a1, rf_a0, rf_a1⟩ := reads2 (r_a.out.keep B_w4.out)
      have rl_a := (r_a.out.keep B_w4.out).lt
      clear hb
      refine hK.out _ _ (fun _ => K_w4) (fun hHeld => ?_)
      replace hHeld := hHeld (by decide)
      clear hK
      try simp only [Act.put, List.getElem_toArray, List.getElem_cons_zero, List.getElem_cons_succ, List.setIfInBounds_toArray, List.set_cons_zero, List.set_cons_succ]
      refine AnyG.step (i := 3) (by kernel_rfl) rfl (fun K hK => ?_)
      go_simp
      refine hK.out _ _ (fun h => absurd h (by decide)) (fun _ => ?_)
      clear hK
      try simp only [Act.put, List.getElem_toArray, List.getElem_cons_zero, List.getElem_cons_succ, List.setIfInBounds_toArray, List.set_cons_zero, List.set_cons_succ]
      refine AnyG.done (by kernel_rfl) ?_ _
      clear KK K0 KD K_w3 K_w4
      replace r_a := Lib.hid (r_a.out.keep B_w4.out)
      replace h_a := Lib.hid (h_a.out.below B_w4.out)
      replace BB := Lib.hid (below_next BB.out B_w4.out)
      clear B_w3 B_w4
      clear h_a
      clear h_p
      replace h_m := Lib.hid (h_m.out.far2 r_a.out (by decide) (.bool (sgn M)) (.slice A_m n_m cap_m))
      replace r_a := Lib.hid (r_a.out.set2 (.bool (sgn M)) (.slice A_m n_m cap_m))
      replace BB := Lib.hid (below_far2 BB.out (p := g_a) (by have dd := d_a.out; omega) (.bool (sgn M)) (.slice A_m n_m cap_m))
      generalize ((w4.setCell ⟨g_a, 0, none⟩ (.bool (sgn M))).setCell ⟨g_a, 1, none⟩ (.slice A_m n_m cap_m)) = w5 at *
      clear CM CD
      go_wp2_with fail
      refine (CE.out _).mono ?_
      rintro e w6 ⟨v_b, z_b, rfl, hb, h_b, hzb, hzv⟩
      replace r_a := Lib.hid (r_a.out.keep hb)
      replace h_m := Lib.hid (h_m.out.below hb)
      replace BB := Lib.hid (below_next BB.out hb)
      clear hb
      obtain ⟨A_b, n_b, cap_b, rfl, -⟩ := id h_b.form
      have h_b := Lib.hid h_b
      go_upto_region 17 with fail
      have d_b := Lib.hid (And.intro BB.out.size (And.intro r_a.out.lt (True.intro)))
      obtain ⟨hb, r_b⟩ := laid w6 #[.bool (sgn (↑z_b)), .slice A_b n_b cap_b] BT4
      replace r_a := Lib.hid (r_a.out.keep hb)
      replace h_m := Lib.hid (h_m.out.below hb)
      replace h_b := Lib.hid (h_b.out.below hb)
      replace BB := Lib.hid (below_next BB.out hb)
      replace r_b := Lib.hid r_b
      clear hb
      generalize w6.alloc (.cells #[.bool (sgn (↑z_b)), .slice A_b n_b cap_b] BT4) = w7 at *
      generalize w6.heap.size = g_b at *
      go_wp2_with fail
      refine (CO1.out _).mono ?_
      rintro e w8 ⟨v_ten, rfl, hb, h_ten⟩
      obtain ⟨A_ten, n_ten, cap_ten, rfl, -⟩ := id h_ten.form
      replace h_ten := Lib.hid h_ten
      replace r_a := Lib.hid (r_a.out.keep hb)
      replace r_b := Lib.hid (r_b.out.keep hb)
      replace h_m := Lib.hid (h_m.out.below hb)
      replace h_b := Lib.hid (h_b.out.below hb)
      replace BB := Lib.hid (below_next BB.out hb)
      clear hb
      go_upto_region 18 with fail
      have d_ten := Lib.hid (And.intro BB.out.size (And.intro r_a.out.lt (And.intro r_b.out.lt (True.intro))))
      obtain ⟨hb, r_ten⟩ := laid w8 #[.bool (sgn 1), .slice A_ten n_ten cap_ten] BT4
      replace r_a := Lib.hid (r_a.out.keep hb)
      replace r_b := Lib.hid (r_b.out.keep hb)
      replace h_m := Lib.hid (h_m.out.below hb)
      replace h_b := Lib.hid (h_b.out.below hb)
      replace h_ten := Lib.hid (h_ten.out.below hb)
      replace BB := Lib.hid (below_next BB.out hb)
      replace r_ten := Lib.hid r_ten
      clear hb
      generalize w8.alloc (.cells #[.bool (sgn 1), .slice A_ten n_ten cap_ten] BT4) = w10 at *
      generalize w8.heap.size = g_ten at *
      have CM := Lib.hid (fun u v w hu hv => mul60 z_b hzb u v w hu hv)
      obtain ⟨B, hB⟩ : ∃ B : Int, B = ((z_b * 65536 : Nat) : Int) := ⟨_, rfl⟩
      have hBw : Wd 217 B := by rw [hB]; exact wd60m hzb
      rw [← hB] at CM
      obtain ⟨T, hT⟩ : ∃ T : Nat → Int, T = fun k => ((10 ^ k : Nat) : Int) := ⟨_, rfl⟩
      have hT0 : Hid (T 0 = 1) := by rw [hT]; rfl
      have hTs : Hid (∀ k, T k * 10 = T (k + 1)) := by rw [hT]; intro k; show ((10 ^ k : Nat) : Int) * 10 = ((10 ^ (k + 1) : Nat) : Int); rw [Nat.pow_succ]; omega
      have hTw : Hid (∀ k, k ≤ 61 → Wd 220 (T k)) := by
        intro k hk
        have e1 : 10 ^ k ≤ 10 ^ 61 := Nat.pow_le_pow_right (by omega) hk
        have e2 : (10 : Nat) ^ 61 ≤ 2 ^ 220 := by decide
        have e3 : (2 : Int) ^ 220 = ((2 ^ 220 : Nat) : Int) := by rw [Int.natCast_pow]; rfl
        rw [hT]
        show Wd 220 ((10 ^ k : Nat) : Int)
        unfold Wd
        rw [e3]
        generalize 10 ^ k = q at *
        generalize 2 ^ 220 = q2 at *
        generalize 10 ^ 61 = q3 at *
        omega
      have CT10 : Hid (∀ k, k ≤ 60 → ∀ u v w, BR w u (T k) → BR w v 10 → Calls Tryd.prog 34 #[u, v] w (GiveB (T (k + 1)) w)) := fun k hk u v w hu hv => by
        rw [← hTs.out k]
        exact mul_any u v _ 10 w hu hv ((hTw.out k (by omega)).mid (by omega)) ((show Wd 4 10 by unfold Wd; decide).mid (by omega))
      have hT1 : T rl ≠ 0 := by
        rw [hT]
        have := Nat.pow_pos (n := rl) (show 0 < 10 by omega)
        show ((10 ^ rl : Nat) : Int) ≠ 0
        generalize 10 ^ rl = q at *
        omega
      obtain ⟨E, hE⟩ : ∃ E : Int, E = B.fdiv (T rl) := ⟨_, rfl⟩
      have hEw : Wd 218 E := by rw [hE]; exact hBw.fdiv
      have CFl : Hid (∀ u v w, BR w u B → BR w v (T rl) → Calls Tryd.prog 43 #[u, v] w (GiveB E w)) := fun u v w hu hv => by
        rw [hE]
        exact floor_any u v B (T rl) w hu hv (hBw.mid (by omega)) ((hTw.out rl (by have := hrl60.out; omega)).low (by omega)) hT1
      obtain ⟨N, hN⟩ : ∃ N : Int, N = M + E := ⟨_, rfl⟩
      have CA : Hid (∀ u v w, BR w u M → BR w v E → Calls Tryd.prog 13 #[u, v] w (GiveB N w)) := fun u v w hu hv => by
        rw [hN]
        exact add_any u v M E w hu hv (hMw.out.mid (by omega)) (hEw.mid (by omega))
      have hNv : b1 = true → b2 = true → N = (v1 : Int) * 65536 + ((v2 * 65536 / 10 ^ rl : Nat) : Int) := fun h h' => by
        rw [hN, hMv.out h, hE, hB, hzv h', hT]
        show _ + Int.fdiv _ ((10 ^ rl : Nat) : Int) = _
        rw [Int.fdiv_eq_ediv_of_nonneg _ (Int.natCast_nonneg _)]
        rfl
      obtain ⟨Z, hZ⟩ : ∃ Z : Int, Z = N := ⟨_, rfl⟩
      have hCs1 : Hid (b1 = true → b2 = true → C = some Z) := fun h h' => by rw [hCy.out h h', hZ, hNv h h']
      have hNw : Wd 219 N := by rw [hN]; exact Wd.add (n := 218) (Wd.up (n := 218) hMw.out (by omega)) hEw
      have hZw : Wd 1400 Z := by rw [hZ]; exact hNw.up (by omega)
      rw [← hZ] at CA
      replace hZw := Lib.hid hZw
      clear hB hBw hzv hT hT1 hE hEw hN hNv hZ hNw hCy hMv hMw hzb
      go_wp2_with fail
      have d_ten' := d_ten
      go_loopw [13] (fun i wr => ∃ (k : Nat) (z : Int) (A : Option Addr) (n' c : Nat), i = .int .i64 z ∧ k ≤ rl ∧ Hid (z = (q0 : Int) + (k : Int) ∧ AtB wr g_ten #[.bool (sgn (T k)), .slice A n' c] BT4 ∧ BR wr (.agg #[.bool (sgn (T k)), .slice A n' c]) (T k) ∧ AtB wr g_a #[.bool (sgn M), .slice A_m n_m cap_m] BT4 ∧ BR wr (.agg #[.bool (sgn M), .slice A_m n_m cap_m]) M ∧ AtB wr g_b #[.bool (sgn (↑z_b)), .slice A_b n_b cap_b] BT4 ∧ BR wr (.agg #[.bool (sgn (↑z_b)), .slice A_b n_b cap_b]) (z_b : Int) ∧ Below w.heap.size w wr)) (fun i _ => n - (intOf i).toNat)
      case atStart => exact ⟨0, q0, A_ten, n_ten, cap_ten, rfl, by omega, ⟨by omega, by rw [hT0.out]; exact r_ten.out, by rw [hT0.out]; exact h_ten.out, r_a.out, h_m.out, r_b.out, h_b.out, BB.out⟩⟩
      case round =>
        clear BB r_ten h_ten r_a h_m r_b h_b hT0 CO1
        obtain ⟨k, z, A_ten, n_ten, cap_ten, rfl, hk, hI⟩ := hrel
        obtain ⟨hz, r_ten, h_ten, r_a, h_m, r_b, h_b, BB⟩ := hI.out
        clear hI
        replace BB := Lib.hid BB; replace r_ten := Lib.hid r_ten; replace h_ten := Lib.hid h_ten; replace r_a := Lib.hid r_a; replace h_m := Lib.hid h_m; replace r_b := Lib.hid r_b; replace h_b := Lib.hid h_b
        have hrl61 := hrl60.out
        have hnq := htq.out
        have hn61 := hn60.out
        by_cases hlt : k < rl
        · have k1 : z < (n : Int) := by omega
          obtain ⟨z2, hz2⟩ : ∃ z2 : Int, z2 = z + 1 := ⟨_, rfl⟩
          have ew : IntKind.i64.wrap (z + 1) = z2 := by rw [← hz2]; exact iw ⟨by omega, by omega⟩
          have hz2' := Lib.hid (show z2 = (q0 : Int) + ((k + 1 : Nat) : Int) by omega)
          have hzm := Lib.hid (And.intro hz (And.intro hz2 hnq))
          have C1 := Lib.hid (CT10.out k (by omega))
          have hTk : Hid (∃ u, u = T k) := ⟨_, rfl⟩
          obtain ⟨u, hu⟩ := hTk.out
          obtain ⟨u2, hu2⟩ : ∃ u, u = T (k + 1) := ⟨_, rfl⟩
          rw [← hu] at r_ten h_ten C1
          rw [← hu2] at C1
          replace hu2 := Lib.hid hu2
          clear hz hz2 hu hTk hTs hTw CT10 CFl CA hrl61 hnq hn61
          obtain ⟨c_ten0, c_ten1, f_ten0, f_ten1⟩ := reads2 r_ten.out
          have l_ten := r_ten.out.lt
          go_wp2_with fail
          clear c_ten0 c_ten1 f_ten0 f_ten1 l_ten
          have KK := Lib.hid (fun (w9 : World) (h : Below wr.heap.size wr w9) => (cells2 (r_ten.out.keep h) : (w9.cell? ⟨g_ten, 0, none⟩ = some (.bool (sgn u)) ∧ w9.cell? ⟨g_ten, 1, none⟩ = some (.slice A_ten n_ten cap_ten))))
          have K0 := KK.out wr (Below.refl _ _)
          have KD := KK.out wr.drew (below_drew (Below.refl _ _))
          refine AnyG.begin_ (fun w9 => (w9.cell? ⟨g_ten, 0, none⟩ = some (.bool (sgn u)) ∧ w9.cell? ⟨g_ten, 1, none⟩ = some (.slice A_ten n_ten cap_ten))) 3 (by kernel_rfl) ?_
          refine AnyG.take (i := 0) (v := ?_) rfl (by kernel_rfl) (by kernel_rfl) (by kernel_rfl) (fun _ _ _ h => h) (by kernel_rfl) (by kernel_rfl) (Or.inl ⟨by rfl, ?_⟩) (by assumption) ?_
          rotate_left
          · intro w9 hSw; (try dsimp only at hSw); go_simp <;> with_reducible rfl
          try simp only [Act.put, List.getElem_toArray, List.getElem_cons_zero, List.getElem_cons_succ, List.setIfInBounds_toArray, List.set_cons_zero, List.set_cons_succ]
          refine AnyG.step (i := 1) (by kernel_rfl) rfl (fun K hK => ?_)
          go_simp
          go_at_call 6
          refine (CO10.out _).mono ?_
          rintro e w11 ⟨v_p, rfl, hb, h_p⟩
          obtain ⟨A_p, n_p, cap_p, rfl, -⟩ := id h_p.form
          replace h_p := Lib.hid h_p
          have B_w11 := Lib.hid (reg_next (w0 := wr) (by repeat (first | with_reducible exact Below.refl _ _ | with_reducible apply below_drew | with_reducible apply below_new)) hb)
          have K_w11 := KK.out _ B_w11.out
          clear hb
          refine hK.out _ _ (fun _ => K_w11) (fun hHeld => ?_)
          replace hHeld := hHeld (by decide)
          clear hK
          try simp only [Act.put, List.getElem_toArray, List.getElem_cons_zero, List.getElem_cons_succ, List.setIfInBounds_toArray, List.set_cons_zero, List.set_cons_succ]
          refine AnyG.step (i := 2) (by kernel_rfl) rfl (fun K hK => ?_)
          go_simp
          go_at_call 34
          refine (C1.out _ _ _ (h_ten.out.below B_w11.out) h_p.out).mono ?_
          rintro e w12 ⟨v_nx, rfl, hb, h_nx⟩
          obtain ⟨A_nx, n_nx, cap_nx, rfl, -⟩ := id h_nx.form
          replace h_nx := Lib.hid h_nx
          replace h_p := Lib.hid (h_p.out.below hb)
          have B_w12 := Lib.hid (below_next B_w11.out hb)
          have K_w12 := KK.out _ B_w12.out
          obtain ⟨rc_ten0, rc_ten1, rf_ten0, rf_ten1⟩ := reads2 (r_ten.out.keep B_w12.out)
          have rl_ten := (r_ten.out.keep B_w12.out).lt
          clear hb
          refine hK.out _ _ (fun _ => K_w12) (fun hHeld => ?_)
          replace hHeld := hHeld (by decide)
          clear hK
          try simp only [Act.put, List.getElem_toArray, List.getElem_cons_zero, List.getElem_cons_succ, List.setIfInBounds_toArray, List.set_cons_zero, List.set_cons_succ]
          refine AnyG.step (i := 3) (by kernel_rfl) rfl (fun K hK => ?_)
          go_simp
          refine hK.out _ _ (fun h => absurd h (by decide)) (fun _ => ?_)
          clear hK
          try simp only [Act.put, List.getElem_toArray, List.getElem_cons_zero, List.getElem_cons_succ, List.setIfInBounds_toArray, List.set_cons_zero, List.set_cons_succ]
          refine AnyG.done (by kernel_rfl) ?_ _
          clear KK K0 KD K_w11 K_w12
          replace r_a := Lib.hid (r_a.out.keep B_w12.out)
          replace r_b := Lib.hid (r_b.out.keep B_w12.out)
          replace r_ten := Lib.hid (r_ten.out.keep B_w12.out)
          replace h_m := Lib.hid (h_m.out.below B_w12.out)
          replace h_b := Lib.hid (h_b.out.below B_w12.out)
          replace h_ten := Lib.hid (h_ten.out.below B_w12.out)
          replace BB := Lib.hid (below_next BB.out B_w12.out)
          clear B_w11 B_w12
          clear h_ten
          clear h_p
          replace h_nx := Lib.hid (h_nx.out.far2 r_ten.out (by decide) (.bool (sgn u2)) (.slice A_nx n_nx cap_nx))
          replace h_m := Lib.hid (h_m.out.far2 r_ten.out (by decide) (.bool (sgn u2)) (.slice A_nx n_nx cap_nx))
          replace h_b := Lib.hid (h_b.out.far2 r_ten.out (by decide) (.bool (sgn u2)) (.slice A_nx n_nx cap_nx))
          replace r_a := Lib.hid (r_a.out.far2 (p := g_ten) (by have dd_a := d_a.out; have dd_ten := d_ten.out; omega) (.bool (sgn u2)) (.slice A_nx n_nx cap_nx))
          replace r_b := Lib.hid (r_b.out.far2 (p := g_ten) (by have dd_b := d_b.out; have dd_ten := d_ten.out; omega) (.bool (sgn u2)) (.slice A_nx n_nx cap_nx))
          replace r_ten := Lib.hid (r_ten.out.set2 (.bool (sgn u2)) (.slice A_nx n_nx cap_nx))
          replace BB := Lib.hid (below_far2 BB.out (p := g_ten) (by have dd := d_ten.out; omega) (.bool (sgn u2)) (.slice A_nx n_nx cap_nx))
          generalize ((w12.setCell ⟨g_ten, 0, none⟩ (.bool (sgn u2))).setCell ⟨g_ten, 1, none⟩ (.slice A_nx n_nx cap_nx)) = w13 at *
          go_wp2_with fail
          go_roundw
          case rel => exact ⟨k + 1, z2, A_nx, n_nx, cap_nx, rfl, by omega, ⟨hz2'.out, by rw [← hu2.out]; exact r_ten.out, by rw [← hu2.out]; exact h_nx.out, r_a.out, h_m.out, r_b.out, h_b.out, BB.out⟩⟩
          case measure => obtain ⟨e1, e2, e3⟩ := hzm.out; simp [intOf] <;> omega
        · obtain rfl : k = rl := by omega
          have k1 : ¬ z < (n : Int) := by omega
          obtain ⟨u, hu⟩ : ∃ u, u = T k := ⟨_, rfl⟩
          rw [← hu] at r_ten h_ten CFl
          clear hz hu hTs hTw CT10 hrl61 hnq hn61
          obtain ⟨c_ten0, c_ten1, f_ten0, f_ten1⟩ := reads2 r_ten.out
          have l_ten := r_ten.out.lt
          go_wp2_with fail
          clear c_ten0 c_ten1 f_ten0 f_ten1 l_ten
          have KK := Lib.hid (fun (w9 : World) (h : Below wr.heap.size wr w9) => (⟨cells2 (r_a.out.keep h), cells2 (r_b.out.keep h), cells2 (r_ten.out.keep h)⟩ : (w9.cell? ⟨g_a, 0, none⟩ = some (.bool (sgn M)) ∧ w9.cell? ⟨g_a, 1, none⟩ = some (.slice A_m n_m cap_m)) ∧ (w9.cell? ⟨g_b, 0, none⟩ = some (.bool (sgn (↑z_b))) ∧ w9.cell? ⟨g_b, 1, none⟩ = some (.slice A_b n_b cap_b)) ∧ (w9.cell? ⟨g_ten, 0, none⟩ = some (.bool (sgn u)) ∧ w9.cell? ⟨g_ten, 1, none⟩ = some (.slice A_ten n_ten cap_ten))))
          have K0 := KK.out wr (Below.refl _ _)
          have KD := KK.out wr.drew (below_drew (Below.refl _ _))
          refine AnyG.begin_ (fun w9 => (w9.cell? ⟨g_a, 0, none⟩ = some (.bool (sgn M)) ∧ w9.cell? ⟨g_a, 1, none⟩ = some (.slice A_m n_m cap_m)) ∧ (w9.cell? ⟨g_b, 0, none⟩ = some (.bool (sgn (↑z_b))) ∧ w9.cell? ⟨g_b, 1, none⟩ = some (.slice A_b n_b cap_b)) ∧ (w9.cell? ⟨g_ten, 0, none⟩ = some (.bool (sgn u)) ∧ w9.cell? ⟨g_ten, 1, none⟩ = some (.slice A_ten n_ten cap_ten))) 7 (by kernel_rfl) ?_
          refine AnyG.take (i := 0) (v := ?_) rfl (by kernel_rfl) (by kernel_rfl) (by kernel_rfl) (fun _ _ _ h => h) (by kernel_rfl) (by kernel_rfl) (Or.inl ⟨by rfl, ?_⟩) (by assumption) ?_
          rotate_left
          · intro w9 hSw; (try dsimp only at hSw); go_simp <;> with_reducible rfl
          try simp only [Act.put, List.getElem_toArray, List.getElem_cons_zero, List.getElem_cons_succ, List.setIfInBounds_toArray, List.set_cons_zero, List.set_cons_succ]
          refine AnyG.take (i := 1) (v := ?_) rfl (by kernel_rfl) (by kernel_rfl) (by kernel_rfl) (fun _ _ _ h => h) (by kernel_rfl) (by kernel_rfl) (Or.inl ⟨by rfl, ?_⟩) (by assumption) ?_
          rotate_left
          · intro w9 hSw; (try dsimp only at hSw); go_simp <;> with_reducible rfl
          try simp only [Act.put, List.getElem_toArray, List.getElem_cons_zero, List.getElem_cons_succ, List.setIfInBounds_toArray, List.set_cons_zero, List.set_cons_succ]
          refine AnyG.take (i := 4) (v := ?_) rfl (by kernel_rfl) (by kernel_rfl) (by kernel_rfl) (fun _ _ _ h => h) (by kernel_rfl) (by kernel_rfl) (Or.inl ⟨by rfl, ?_⟩) (by assumption) ?_
          rotate_left
          · intro w9 hSw; (try dsimp only at hSw); go_simp <;> with_reducible rfl
          try simp only [Act.put, List.getElem_toArray, List.getElem_cons_zero, List.getElem_cons_succ, List.setIfInBounds_toArray, List.set_cons_zero, List.set_cons_succ]
          refine AnyG.step (i := 2) (by kernel_rfl) rfl (fun K hK => ?_)
          go_simp
          go_at_call 35
          refine (CW.out _).mono ?_
          rintro e w14 ⟨v_p, rfl, hb, h_p⟩
          obtain ⟨A_p, n_p, cap_p, rfl, -⟩ := id h_p.form
          replace h_p := Lib.hid h_p
          have B_w14 := Lib.hid (reg_next (w0 := wr) (by repeat (first | with_reducible exact Below.refl _ _ | with_reducible apply below_drew | with_reducible apply below_new)) hb)
          have K_w14 := KK.out _ B_w14.out
          clear hb
          refine hK.out _ _ (fun _ => K_w14) (fun hHeld => ?_)
          replace hHeld := hHeld (by decide)
          clear hK
          try simp only [Act.put, List.getElem_toArray, List.getElem_cons_zero, List.getElem_cons_succ, List.setIfInBounds_toArray, List.set_cons_zero, List.set_cons_succ]
          refine AnyG.step (i := 3) (by kernel_rfl) rfl (fun K hK => ?_)
          go_simp
          go_at_call 34
          refine (CM.out _ _ _ (h_b.out.below B_w14.out) h_p.out).mono ?_
          rintro e w15 ⟨v_q, rfl, hb, h_q⟩
          obtain ⟨A_q, n_q, cap_q, rfl, -⟩ := id h_q.form
          replace h_q := Lib.hid h_q
          replace h_p := Lib.hid (h_p.out.below hb)
          have B_w15 := Lib.hid (below_next B_w14.out hb)
          have K_w15 := KK.out _ B_w15.out
          clear hb
          refine hK.out _ _ (fun _ => K_w15) (fun hHeld => ?_)
          replace hHeld := hHeld (by decide)
          clear hK
          try simp only [Act.put, List.getElem_toArray, List.getElem_cons_zero, List.getElem_cons_succ, List.setIfInBounds_toArray, List.set_cons_zero, List.set_cons_succ]
          refine AnyG.step (i := 5) (by kernel_rfl) rfl (fun K hK => ?_)
          go_simp
          go_at_call 43
          refine (CFl.out _ _ _ h_q.out (h_ten.out.below B_w15.out)).mono ?_
          rintro e w16 ⟨v_f, rfl, hb, h_f⟩
          obtain ⟨A_f, n_f, cap_f, rfl, -⟩ := id h_f.form
          replace h_f := Lib.hid h_f
          replace h_p := Lib.hid (h_p.out.below hb)
          replace h_q := Lib.hid (h_q.out.below hb)
          have B_w16 := Lib.hid (below_next B_w15.out hb)
          have K_w16 := KK.out _ B_w16.out
          clear hb
          refine hK.out _ _ (fun _ => K_w16) (fun hHeld => ?_)
          replace hHeld := hHeld (by decide)
          clear hK
          try simp only [Act.put, List.getElem_toArray, List.getElem_cons_zero, List.getElem_cons_succ, List.setIfInBounds_toArray, List.set_cons_zero, List.set_cons_succ]
          refine AnyG.step (i := 6) (by kernel_rfl) rfl (fun K hK => ?_)
          go_simp
          go_at_call 13
          refine (CA.out _ _ _ (h_m.out.below B_w16.out) h_f.out).mono ?_
          rintro e w17 ⟨v_x, rfl, hb, h_x⟩
          obtain ⟨A_x, n_x, cap_x, rfl, -⟩ := id h_x.form
          replace h_x := Lib.hid h_x
          replace h_p := Lib.hid (h_p.out.below hb)
          replace h_q := Lib.hid (h_q.out.below hb)
          replace h_f := Lib.hid (h_f.out.below hb)
          have B_w17 := Lib.hid (below_next B_w16.out hb)
          have K_w17 := KK.out _ B_w17.out
          obtain ⟨rc_a0, rc_a1, rf_a0, rf_a1⟩ := reads2 (r_a.out.keep B_w17.out)
          have rl_a := (r_a.out.keep B_w17.out).lt
          clear hb
          refine hK.out _ _ (fun _ => K_w17) (fun hHeld => ?_)
          replace hHeld := hHeld (by decide)
          clear hK
          try simp only [Act.put, List.getElem_toArray, List.getElem_cons_zero, List.getElem_cons_succ, List.setIfInBounds_toArray, List.set_cons_zero, List.set_cons_succ]
          refine AnyG.step (i := 7) (by kernel_rfl) rfl (fun K hK => ?_)
          go_simp
          refine hK.out _ _ (fun h => absurd h (by decide)) (fun _ => ?_)
          clear hK
          try simp only [Act.put, List.getElem_toArray, List.getElem_cons_zero, List.getElem_cons_succ, List.setIfInBounds_toArray, List.set_cons_zero, List.set_cons_succ]
          refine AnyG.done (by kernel_rfl) ?_ _
          clear KK K0 KD K_w14 K_w15 K_w16 K_w17
          replace r_a := Lib.hid (r_a.out.keep B_w17.out)
          replace r_b := Lib.hid (r_b.out.keep B_w17.out)
          replace r_ten := Lib.hid (r_ten.out.keep B_w17.out)
          replace h_m := Lib.hid (h_m.out.below B_w17.out)
          replace h_b := Lib.hid (h_b.out.below B_w17.out)
          replace h_ten := Lib.hid (h_ten.out.below B_w17.out)
          replace BB := Lib.hid (below_next BB.out B_w17.out)
          clear B_w14 B_w15 B_w16 B_w17
          clear h_m
          clear h_b
          clear h_ten
          clear h_p
          clear h_q
          clear h_f
          replace h_x := Lib.hid (h_x.out.far2 r_a.out (by decide) (.bool (sgn Z)) (.slice A_x n_x cap_x))
          replace r_a := Lib.hid (r_a.out.set2 (.bool (sgn Z)) (.slice A_x n_x cap_x))
          replace r_b := Lib.hid (r_b.out.far2 (p := g_a) (by have dd_b := d_b.out; have dd_a := d_a.out; omega) (.bool (sgn Z)) (.slice A_x n_x cap_x))
          replace r_ten := Lib.hid (r_ten.out.far2 (p := g_a) (by have dd_ten := d_ten.out; have dd_a := d_a.out; omega) (.bool (sgn Z)) (.slice A_x n_x cap_x))
          replace BB := Lib.hid (below_far2 BB.out (p := g_a) (by have dd := d_a.out; omega) (.bool (sgn Z)) (.slice A_x n_x cap_x))
          generalize ((w17.setCell ⟨g_a, 0, none⟩ (.bool (sgn Z))).setCell ⟨g_a, 1, none⟩ (.slice A_x n_x cap_x)) = w18 at *
          clear CM CFl CA
          cases b1 with
          | false =>
            have hCq := Lib.hid (hCn1.out rfl)
            go_wp2_with fail
            refine bodyPost_ret (v := .tuple #[.int .i64 0, .bool false]) (by unfold results; simp only [Tryd.results23]; go_simp) rfl ?_
            exact cast_fin hCq.out (give_none BB.out)
          | true =>
            cases b2 with
            | false =>
              have hCq := Lib.hid (hCn2.out rfl)
              go_wp2_with fail
              refine bodyPost_ret (v := .tuple #[.int .i64 0, .bool false]) (by unfold results; simp only [Tryd.results23]; go_simp) rfl ?_
              exact cast_fin hCq.out (give_none BB.out)
            | true =>
              have hCs := Lib.hid (hCs1.out rfl rfl)
              clear hCs1 hCn1 hCn2
              skip
              obtain ⟨Q, hQ⟩ : ∃ Q : ByteArray, Q = ⟨(sT Z).toArray⟩ := ⟨_, rfl⟩
              have hq1 := str_eq (sT Z) t
              rw [← hQ, ← hs.out] at hq1
              obtain ⟨same, hsame⟩ : ∃ b : Bool, b = decide (sT Z = t) := ⟨_, rfl⟩
              rw [← hsame] at hq1
              have hq2 : (Q.toList != ts.toList) = !same := by rw [bne, hq1]
              have CF := Lib.hid (fun (v : Value) w (h : BR w v Z) => rfits_any v Z 63 (by omega) w h hZw.out)
              have CSm := Lib.hid (fun (h : fitsB Z 63 = true) (v : Value) w (hv : BR w v Z) => small_any v Z w hv (fits_63.1 h))
              have CSh : Hid (fitsB Z 63 = true → ∀ w, Calls Tryd.prog 24 #[.int .i64 Z] w fun e w' => e = .returned (.string Q) ∧ Below w.heap.size w w') := fun h w => by rw [hQ]; exact r4show Z (fits_63.1 h) w
              replace hsame := Lib.hid hsame
              obtain ⟨fb, hfb⟩ : ∃ x, x = fitsB Z 63 := ⟨_, rfl⟩
              rw [← hfb] at CF CSm CSh
              replace hfb := Lib.hid hfb
              clear hQ
              obtain ⟨c_a0, c_a1, f_a0, f_a1⟩ := reads2 r_a.out
              have l_a := r_a.out.lt
              go_wp2_with fail
              refine (CF.out _ _ h_x.out).mono ?_
              rintro e w19 ⟨rfl, hb⟩
              clear c_a0 c_a1 f_a0 f_a1 l_a
              replace r_a := Lib.hid (r_a.out.keep hb)
              replace r_b := Lib.hid (r_b.out.keep hb)
              replace r_ten := Lib.hid (r_ten.out.keep hb)
              replace h_x := Lib.hid (h_x.out.below hb)
              replace BB := Lib.hid (below_next BB.out hb)
              clear hb
              cases fb with
              | false =>
                go_wp2_with fail
                refine bodyPost_ret (v := .tuple #[.int .i64 0, .bool false]) (by unfold results; simp only [Tryd.results23]; go_simp) rfl ?_
                exact cast_fin hCs.out (give_far hfb.out.symm BB.out)
              | true =>
                have DSm := Lib.hid (fun (v : Value) w (hv : BR w v Z) => CSm.out rfl v w hv)
                have DSh := Lib.hid (fun w => CSh.out rfl w)
                clear CSm CSh
                obtain ⟨c_a0, c_a1, f_a0, f_a1⟩ := reads2 r_a.out
                have l_a := r_a.out.lt
                go_wp2_with fail
                refine (DSm.out _ _ h_x.out).mono ?_
                rintro e w20 ⟨rfl, hb⟩
                clear c_a0 c_a1 f_a0 f_a1 l_a
                replace r_a := Lib.hid (r_a.out.keep hb)
                replace r_b := Lib.hid (r_b.out.keep hb)
                replace r_ten := Lib.hid (r_ten.out.keep hb)
                replace h_x := Lib.hid (h_x.out.below hb)
                replace BB := Lib.hid (below_next BB.out hb)
                clear hb
                go_wp2_with fail
                refine (DSh.out _).mono ?_
                rintro e w21 ⟨rfl, hb⟩
                replace r_a := Lib.hid (r_a.out.keep hb)
                replace r_b := Lib.hid (r_b.out.keep hb)
                replace r_ten := Lib.hid (r_ten.out.keep hb)
                replace h_x := Lib.hid (h_x.out.below hb)
                replace BB := Lib.hid (below_next BB.out hb)
                clear hb
                cases same with
                | false =>
                  go_wp2_with fail
                  refine bodyPost_ret (v := .tuple #[.int .i64 0, .bool false]) (by unfold results; simp only [Tryd.results23]; go_simp) rfl ?_
                  exact cast_fin hCs.out (give_ne (of_decide_eq_false hsame.out.symm) BB.out)
                | true =>
                  obtain ⟨c_a0, c_a1, f_a0, f_a1⟩ := reads2 r_a.out
                  have l_a := r_a.out.lt
                  go_wp2_with fail
                  refine (DSm.out _ _ h_x.out).mono ?_
                  rintro e w22 ⟨rfl, hb⟩
                  clear c_a0 c_a1 f_a0 f_a1 l_a
                  replace r_a := Lib.hid (r_a.out.keep hb)
                  replace r_b := Lib.hid (r_b.out.keep hb)
                  replace r_ten := Lib.hid (r_ten.out.keep hb)
                  replace h_x := Lib.hid (h_x.out.below hb)
                  replace BB := Lib.hid (below_next BB.out hb)
                  clear hb
                  go_wp2_with fail
                  refine bodyPost_ret (v := .tuple #[.int .i64 Z, .bool true]) (by unfold results; simp only [Tryd.results23]; go_simp) rfl ?_
                  exact cast_fin hCs.out (give_eq hfb.out.symm (of_decide_eq_true hsame.out.symm) BB.out)


set_option maxRecDepth 100000 in
set_option maxHeartbeats 16000000 in
theorem rread_pt_neg (l t h r : List UInt8) (hl : l = 45 :: t) (htn : t.length ≤ 1000) (C : Option Int) (hC0 : ¬ (0 < h.length ∧ isD h) ∨ ¬ (0 < r.length ∧ isD r) → C = none) (hC1 : 0 < h.length ∧ isD h → 0 < r.length ∧ isD r → C = some (-((decL h : Int) * 65536 + ((decL r * 65536 / 10 ^ r.length : Nat) : Int)))) (hlong : t.length ≤ 60) (hno : 46 ∉ h) (htr : t = h ++ 46 :: r) (w : World) : Calls Tryd.prog 23 #[.string ⟨l.toArray⟩] w (GiveFin C l w) := by
  obtain ⟨n, hn⟩ : ∃ n, n = t.length := ⟨_, rfl⟩
  obtain ⟨P, hP⟩ : ∃ P : Nat → Nat, P = ptI t := ⟨_, rfl⟩
  have HPn : Hid (P n = n) := by rw [hP, hn]; exact ptI_n t
  have HX : Hid (∀ k, k < n → ∃ c : Nat, (∀ w, (Instr.index 9 (.string ⟨t.toArray⟩) (.int .i64 (k : Int))).run Tryd.prog w = .ok (.int .u8 (c : Int)) w) ∧ (c = 46 → P k = k) ∧ (c ≠ 46 → P k = P (k + 1))) := by
    intro k hk
    rw [hn] at hk
    refine ⟨t[k].toNat, fun w => str_index t k hk w, fun h => ?_, fun h => ?_⟩
    · rw [hP, ptI_step hk, if_pos (byte46.1 h)]
    · rw [hP, ptI_step hk, if_neg (fun e => h (byte46.2 e))]
  obtain ⟨ts, hts⟩ : ∃ s : ByteArray, s = ⟨t.toArray⟩ := ⟨_, rfl⟩
  have hsz : ts.size = n := by rw [hts, str_len, hn]
  have hn300 : Hid (n ≤ 1000) := by show _ ≤ _; rw [hn]; exact htn
  rw [← hts] at HX
  obtain ⟨z0, hz0⟩ : ∃ z : Int, z = (n : Int) - 1 := ⟨_, rfl⟩
  have eN : wrap64 ((n : Int) - 1) = z0 := by rw [← hz0]; have := hn300.out; exact ww ⟨by omega, by omega⟩
  have hz0 : Hid (z0 = (n : Int) - 1) := hz0
  subst hl
  obtain ⟨s, hs⟩ : ∃ s : ByteArray, s = ⟨(45 :: t).toArray⟩ := ⟨_, rfl⟩
  obtain ⟨n1, hn1⟩ : ∃ m, m = n + 1 := ⟨_, rfl⟩
  have hss : s.size = n1 := by rw [hs, str_len, hn1, hn]; rfl
  have hx0 : ∀ w, (Instr.index 9 (.string s) (.int .i64 0)).run Tryd.prog w = .ok (.int .u8 45) w := fun w => by rw [hs]; exact str_index (45 :: t) 0 (by simp) w
  have he : s.extract 1 n1 = ts := by
    rw [hs, str_extract _ _ _ (by rw [hn1, hn]; simp), hts, hn1, hn]
    simp
  have j1 : 1 ≤ n1 := by omega
  have j2 : 0 < n1 := by omega
  have j3 : (1 : Int) ≤ (n1 : Int) := by omega
  have j4 : (0 : Int) < (n1 : Int) := by omega
  rw [← hs]
  replace hs := Lib.hid hs
  have hss0 := hs
  have y1 : ¬ (60 : Int) < (n : Int) := by omega
  have y2 : ¬ 60 < n := by omega
  have htl : n = h.length + 1 + r.length := by rw [hn, htr]; simp; omega
  have HP0 : Hid (P 0 = h.length) := by show _ = _; rw [hP, ptI_0, htr, cutD_app r hno]
  obtain ⟨hst, hhst⟩ : ∃ s : ByteArray, s = ⟨h.toArray⟩ := ⟨_, rfl⟩
  obtain ⟨rst, hrst⟩ : ∃ s : ByteArray, s = ⟨r.toArray⟩ := ⟨_, rfl⟩
  obtain ⟨q0, hq0⟩ : ∃ q, q = h.length + 1 := ⟨_, rfl⟩
  have he1 : ts.extract 0 h.length = hst := by rw [hts, str_extract _ _ _ (by omega), hhst, htr]; simp
  have he2 : ts.extract q0 n = rst := by
    rw [hts, str_extract _ _ _ (by omega), hrst, htr, hq0, show n - (h.length + 1) = r.length by omega]
    simp
  obtain ⟨b1, hb1⟩ : ∃ b, b = decide (0 < h.length ∧ isD h) := ⟨_, rfl⟩
  obtain ⟨b2, hb2⟩ : ∃ b, b = decide (0 < r.length ∧ isD r) := ⟨_, rfl⟩
  have CD := Lib.hid (fun w => dg_dd h (by omega) w)
  have CE := Lib.hid (fun w => dg_dd r (by omega) w)
  rw [← hb1, ← hhst] at CD
  rw [← hb2, ← hrst] at CE
  obtain ⟨v1, hv1⟩ : ∃ v, v = decL h := ⟨_, rfl⟩
  obtain ⟨v2, hv2⟩ : ∃ v, v = decL r := ⟨_, rfl⟩
  rw [← hv1] at CD hC1
  rw [← hv2] at CE hC1
  obtain ⟨rl, hrl⟩ : ∃ v, v = r.length := ⟨_, rfl⟩
  have hCn1 : Hid (b1 = false → C = none) := fun h => hC0 (.inl (of_decide_eq_false (hb1.symm.trans h)))
  have hCn2 : Hid (b2 = false → C = none) := fun h => hC0 (.inr (of_decide_eq_false (hb2.symm.trans h)))
  have hCy : Hid (b1 = true → b2 = true → C = some (-((v1 : Int) * 65536 + ((v2 * 65536 / 10 ^ rl : Nat) : Int)))) := fun h h' => by rw [hrl]; exact hC1 (of_decide_eq_true (hb1.symm.trans h)) (of_decide_eq_true (hb2.symm.trans h'))
  have CW := Lib.hid (fun w => pow_any 16 (by omega) w)
  rw [two16] at CW
  have CO1 := Lib.hid (fun w => of_any 1 (by unfold I64; omega) w)
  have CO10 := Lib.hid (fun w => of_any 10 (by unfold I64; omega) w)
  obtain ⟨hl0, hhl0⟩ : ∃ v, v = h.length := ⟨_, rfl⟩
  rw [← hhl0] at HP0 he1 hq0 htl
  rw [← hrl] at htl
  have i1 : hl0 ≤ n := by omega
  have i2 : (hl0 : Int) ≤ (n : Int) := by omega
  have i3 : hl0 < n := by omega
  have i4 : (hl0 : Int) < (n : Int) := by omega
  have i5 : q0 ≤ n := by omega
  have i6 : (q0 : Int) ≤ (n : Int) := by omega
  have i7 : (0 : Int) ≤ (q0 : Int) := by omega
  have hqq : (hl0 : Int) + 1 = (q0 : Int) := by omega
  have ew2 : IntKind.i64.wrap ((hl0 : Int) + 1) = (q0 : Int) := by rw [hqq]; exact iw ⟨by omega, by omega⟩
  have htq := Lib.hid (show n = q0 + rl by omega)
  have hrl60 : Hid (rl ≤ 60) := by show _ ≤ _; omega
  have hn60 : Hid (n ≤ 60) := by show _ ≤ _; omega
  clear htl hP hn htn hlong hno hC0 hC1 hb1 hv1 hb2 hv2 htr hrl hhl0 hq0 hhst hrst hqq hn1 hss0 hts
  go_enter Tryd.func23, Tryd.ntmps23
  go_wp2_with fail
  have BB : Hid (Below w.heap.size w w) := Below.refl _ _
  go_loopw [6, 7] (fun p i wr => ∃ (j : Nat) (z : Int), p = .int .i64 ((P j : Nat) : Int) ∧ i = .int .i64 z ∧ j ≤ n ∧ Hid (z = (j : Int) - 1 ∧ Below w.heap.size w wr)) (fun _ i _ => (intOf i + 1).toNat)
  case atStart => exact ⟨n, z0, by rw [HPn.out], by first | rfl | rw [eN] | rw [hz0.out], Nat.le_refl _, ⟨hz0.out, BB.out⟩⟩
  case round =>
    clear BB HPn hz0 eN
    obtain ⟨j, z, rfl, rfl, hj, hI⟩ := hrel
    obtain ⟨hz, BB⟩ := hI.out
    clear hI
    replace BB := Lib.hid BB
    by_cases hj0 : 0 < j
    · obtain ⟨k, rfl⟩ : ∃ k, j = k + 1 := ⟨j - 1, by omega⟩
      obtain rfl : z = (k : Int) := by omega
      obtain ⟨c, hx, hP1, hP2⟩ := HX.out k (by omega)
      have k0 : (0 : Int) ≤ (k : Int) := by omega
      have k1 : (k : Int) < (n : Int) := by omega
      obtain ⟨z', hz'⟩ : ∃ z' : Int, z' = (k : Int) - 1 := ⟨_, rfl⟩
      have ew : wrap64 ((k : Int) - 1) = z' := by rw [← hz']; have := hn300.out; exact ww ⟨by omega, by omega⟩
      replace hz' := Lib.hid hz'
      by_cases hc : c = 46
      · have hPk : Hid (P k = k) := hP1 hc
        have f1 : ((c : Int) == 46) = true := by simp; omega
        clear hP1 hP2 hc HX hz
        go_wp2_with fail
        go_roundw
        case rel => exact ⟨k, z', by rw [hPk.out], by first | rfl | rw [ew] | rw [hz'.out], by omega, ⟨hz'.out, BB.out⟩⟩
        case measure => have := hz'.out; simp [intOf] <;> omega
      · have hPk : Hid (P k = P (k + 1)) := hP2 hc
        have f1 : ((c : Int) == 46) = false := by simp; omega
        clear hP1 hP2 hc HX hz
        go_wp2_with fail
        go_roundw
        case rel => exact ⟨k, z', by rw [hPk.out], by first | rfl | rw [ew] | rw [hz'.out], by omega, ⟨hz'.out, BB.out⟩⟩
        case measure => have := hz'.out; simp [intOf] <;> omega
    · obtain rfl : j = 0 := by omega
      obtain rfl : z = -1 := by omega
      clear HX hj hj0 hz
      generalize P 0 = pp at *
      obtain rfl : pp = hl0 := HP0.out
      clear HP0
      go_wp2_with fail
      refine (CD.out _).mono ?_
      rintro e w1 ⟨v_a, z_a, rfl, hb, h_a, hzb, hzv⟩
      replace BB := Lib.hid (below_next BB.out hb)
      clear hb
      obtain ⟨A_a, n_a, cap_a, rfl, -⟩ := id h_a.form
      have h_a := Lib.hid h_a
      go_upto_region 14 with fail
      have d_a := Lib.hid (And.intro BB.out.size (True.intro))
      obtain ⟨hb, r_a⟩ := laid w1 #[.bool (sgn (↑z_a)), .slice A_a n_a cap_a] BT4
      replace h_a := Lib.hid (h_a.out.below hb)
      replace BB := Lib.hid (below_next BB.out hb)
      replace r_a := Lib.hid r_a
      clear hb
      generalize w1.alloc (.cells #[.bool (sgn (↑z_a)), .slice A_a n_a cap_a] BT4) = w2 at *
      generalize w1.heap.size = g_a at *
      have CM := Lib.hid (fun u v w hu hv => mul60 z_a hzb u v w hu hv)
      obtain ⟨M, hM⟩ : ∃ M : Int, M = ((z_a * 65536 : Nat) : Int) := ⟨_, rfl⟩
      have hMw := Lib.hid (show Wd 217 M by rw [hM]; exact wd60m hzb)
      rw [← hM] at CM
      have hMv : Hid (b1 = true → M = (v1 : Int) * 65536) := fun h => by rw [hM, hzv h]; omega
      clear hM hzv hzb
      have KK := Lib.hid (fun (w9 : World) (h : Below w2.heap.size w2 w9) => (cells2 (r_a.out.keep h) : (w9.cell? ⟨g_a, 0, none⟩ = some (.bool (sgn (↑z_a))) ∧ w9.cell? ⟨g_a, 1, none⟩ = some (.slice A_a n_a cap_a))))
      have K0 := KK.out w2 (Below.refl _ _)
      have KD := KK.out w2.drew (below_drew (Below.refl _ _))
      refine AnyG.begin_ (fun w9 => (w9.cell? ⟨g_a, 0, none⟩ = some (.bool (sgn (↑z_a))) ∧ w9.cell? ⟨g_a, 1, none⟩ = some (.slice A_a n_a cap_a))) 3 (by kernel_rfl) ?_
      refine AnyG.take (i := 0) (v := ?_) rfl (by kernel_rfl) (by kernel_rfl) (by kernel_rfl) (fun _ _ _ h => h) (by kernel_rfl) (by kernel_rfl) (Or.inl ⟨by rfl, ?_⟩) (by assumption) ?_
      rotate_left
      · intro w9 hSw; (try dsimp only at hSw); go_simp <;> with_reducible rfl
      try simp only [Act.put, List.getElem_toArray, List.getElem_cons_zero, List.getElem_cons_succ, List.setIfInBounds_toArray, List.set_cons_zero, List.set_cons_succ]
      refine AnyG.step (i := 1) (by kernel_rfl) rfl (fun K hK => ?_)
      go_simp
      go_at_call 35
      refine (CW.out _).mono ?_
      rintro e w3 ⟨v_p, rfl, hb, h_p⟩
      obtain ⟨A_p, n_p, cap_p, rfl, -⟩ := id h_p.form
      replace h_p := Lib.hid h_p
      have B_w3 := Lib.hid (reg_next (w0 := w2) (by repeat (first | with_reducible exact Below.refl _ _ | with_reducible apply below_drew | with_reducible apply below_new)) hb)
      have K_w3 := KK.out _ B_w3.out
      clear hb
      refine hK.out _ _ (fun _ => K_w3) (fun hHeld => ?_)
      replace hHeld := hHeld (by decide)
      clear hK
      try simp only [Act.put, List.getElem_toArray, List.getElem_cons_zero, List.getElem_cons_succ, List.setIfInBounds_toArray, List.set_cons_zero, List.set_cons_succ]
      refine AnyG.step (i := 2) (by kernel_rfl) rfl (fun K hK => ?_)
      go_simp
      go_at_call 34
      refine (CM.out _ _ _ (h_a.out.below B_w3.out) h_p.out).mono ?_
      rintro e w4 ⟨v_m, rfl, hb, h_m⟩
      obtain ⟨A_m, n_m, cap_m, rfl, -⟩ := id h_m.form
      replace h_m := Lib.hid h_m
      replace h_p := Lib.hid (h_p.out.below hb)
      have B_w4 := Lib.hid (below_next B_w3.out hb)
      have K_w4 := KK.out _ B_w4.out
      obtain ⟨rc_a0, rc_a1, rf_a0, rf_a1⟩ := reads2 (r_a.out.keep B_w4.out)
      have rl_a := (r_a.out.keep B_w4.out).lt
      clear hb
      refine hK.out _ _ (fun _ => K_w4) (fun hHeld => ?_)
      replace hHeld := hHeld (by decide)
      clear hK
      try simp only [Act.put, List.getElem_toArray, List.getElem_cons_zero, List.getElem_cons_succ, List.setIfInBounds_toArray, List.set_cons_zero, List.set_cons_succ]
      refine AnyG.step (i := 3) (by kernel_rfl) rfl (fun K hK => ?_)
      go_simp
      refine hK.out _ _ (fun h => absurd h (by decide)) (fun _ => ?_)
      clear hK
      try simp only [Act.put, List.getElem_toArray, List.getElem_cons_zero, List.getElem_cons_succ, List.setIfInBounds_toArray, List.set_cons_zero, List.set_cons_succ]
      refine AnyG.done (by kernel_rfl) ?_ _
      clear KK K0 KD K_w3 K_w4
      replace r_a := Lib.hid (r_a.out.keep B_w4.out)
      replace h_a := Lib.hid (h_a.out.below B_w4.out)
      replace BB := Lib.hid (below_next BB.out B_w4.out)
      clear B_w3 B_w4
      clear h_a
      clear h_p
      replace h_m := Lib.hid (h_m.out.far2 r_a.out (by decide) (.bool (sgn M)) (.slice A_m n_m cap_m))
      replace r_a := Lib.hid (r_a.out.set2 (.bool (sgn M)) (.slice A_m n_m cap_m))
      replace BB := Lib.hid (below_far2 BB.out (p := g_a) (by have dd := d_a.out; omega) (.bool (sgn M)) (.slice A_m n_m cap_m))
      generalize ((w4.setCell ⟨g_a, 0, none⟩ (.bool (sgn M))).setCell ⟨g_a, 1, none⟩ (.slice A_m n_m cap_m)) = w5 at *
      clear CM CD
      go_wp2_with fail
      refine (CE.out _).mono ?_
      rintro e w6 ⟨v_b, z_b, rfl, hb, h_b, hzb, hzv⟩
      replace r_a := Lib.hid (r_a.out.keep hb)
      replace h_m := Lib.hid (h_m.out.below hb)
      replace BB := Lib.hid (below_next BB.out hb)
      clear hb
      obtain ⟨A_b, n_b, cap_b, rfl, -⟩ := id h_b.form
      have h_b := Lib.hid h_b
      go_upto_region 17 with fail
      have d_b := Lib.hid (And.intro BB.out.size (And.intro r_a.out.lt (True.intro)))
      obtain ⟨hb, r_b⟩ := laid w6 #[.bool (sgn (↑z_b)), .slice A_b n_b cap_b] BT4
      replace r_a := Lib.hid (r_a.out.keep hb)
      replace h_m := Lib.hid (h_m.out.below hb)
      replace h_b := Lib.hid (h_b.out.below hb)
      replace BB := Lib.hid (below_next BB.out hb)
      replace r_b := Lib.hid r_b
      clear hb
      generalize w6.alloc (.cells #[.bool (sgn (↑z_b)), .slice A_b n_b cap_b] BT4) = w7 at *
      generalize w6.heap.size = g_b at *
      go_wp2_with fail
      refine (CO1.out _).mono ?_
      rintro e w8 ⟨v_ten, rfl, hb, h_ten⟩
      obtain ⟨A_ten, n_ten, cap_ten, rfl, -⟩ := id h_ten.form
      replace h_ten := Lib.hid h_ten
      replace r_a := Lib.hid (r_a.out.keep hb)
      replace r_b := Lib.hid (r_b.out.keep hb)
      replace h_m := Lib.hid (h_m.out.below hb)
      replace h_b := Lib.hid (h_b.out.below hb)
      replace BB := Lib.hid (below_next BB.out hb)
      clear hb
      go_upto_region 18 with fail
      have d_ten := Lib.hid (And.intro BB.out.size (And.intro r_a.out.lt (And.intro r_b.out.lt (True.intro))))
      obtain ⟨hb, r_ten⟩ := laid w8 #[.bool (sgn 1), .slice A_ten n_ten cap_ten] BT4
      replace r_a := Lib.hid (r_a.out.keep hb)
      replace r_b := Lib.hid (r_b.out.keep hb)
      replace h_m := Lib.hid (h_m.out.below hb)
      replace h_b := Lib.hid (h_b.out.below hb)
      replace h_ten := Lib.hid (h_ten.out.below hb)
      replace BB := Lib.hid (below_next BB.out hb)
      replace r_ten := Lib.hid r_ten
      clear hb
      generalize w8.alloc (.cells #[.bool (sgn 1), .slice A_ten n_ten cap_ten] BT4) = w10 at *
      generalize w8.heap.size = g_ten at *
      have CM := Lib.hid (fun u v w hu hv => mul60 z_b hzb u v w hu hv)
      obtain ⟨B, hB⟩ : ∃ B : Int, B = ((z_b * 65536 : Nat) : Int) := ⟨_, rfl⟩
      have hBw : Wd 217 B := by rw [hB]; exact wd60m hzb
      rw [← hB] at CM
      obtain ⟨T, hT⟩ : ∃ T : Nat → Int, T = fun k => ((10 ^ k : Nat) : Int) := ⟨_, rfl⟩
      have hT0 : Hid (T 0 = 1) := by rw [hT]; rfl
      have hTs : Hid (∀ k, T k * 10 = T (k + 1)) := by rw [hT]; intro k; show ((10 ^ k : Nat) : Int) * 10 = ((10 ^ (k + 1) : Nat) : Int); rw [Nat.pow_succ]; omega
      have hTw : Hid (∀ k, k ≤ 61 → Wd 220 (T k)) := by
        intro k hk
        have e1 : 10 ^ k ≤ 10 ^ 61 := Nat.pow_le_pow_right (by omega) hk
        have e2 : (10 : Nat) ^ 61 ≤ 2 ^ 220 := by decide
        have e3 : (2 : Int) ^ 220 = ((2 ^ 220 : Nat) : Int) := by rw [Int.natCast_pow]; rfl
        rw [hT]
        show Wd 220 ((10 ^ k : Nat) : Int)
        unfold Wd
        rw [e3]
        generalize 10 ^ k = q at *
        generalize 2 ^ 220 = q2 at *
        generalize 10 ^ 61 = q3 at *
        omega
      have CT10 : Hid (∀ k, k ≤ 60 → ∀ u v w, BR w u (T k) → BR w v 10 → Calls Tryd.prog 34 #[u, v] w (GiveB (T (k + 1)) w)) := fun k hk u v w hu hv => by
        rw [← hTs.out k]
        exact mul_any u v _ 10 w hu hv ((hTw.out k (by omega)).mid (by omega)) ((show Wd 4 10 by unfold Wd; decide).mid (by omega))
      have hT1 : T rl ≠ 0 := by
        rw [hT]
        have := Nat.pow_pos (n := rl) (show 0 < 10 by omega)
        show ((10 ^ rl : Nat) : Int) ≠ 0
        generalize 10 ^ rl = q at *
        omega
      obtain ⟨E, hE⟩ : ∃ E : Int, E = B.fdiv (T rl) := ⟨_, rfl⟩
      have hEw : Wd 218 E := by rw [hE]; exact hBw.fdiv
      have CFl : Hid (∀ u v w, BR w u B → BR w v (T rl) → Calls Tryd.prog 43 #[u, v] w (GiveB E w)) := fun u v w hu hv => by
        rw [hE]
        exact floor_any u v B (T rl) w hu hv (hBw.mid (by omega)) ((hTw.out rl (by have := hrl60.out; omega)).low (by omega)) hT1
      obtain ⟨N, hN⟩ : ∃ N : Int, N = M + E := ⟨_, rfl⟩
      have CA : Hid (∀ u v w, BR w u M → BR w v E → Calls Tryd.prog 13 #[u, v] w (GiveB N w)) := fun u v w hu hv => by
        rw [hN]
        exact add_any u v M E w hu hv (hMw.out.mid (by omega)) (hEw.mid (by omega))
      have hNv : b1 = true → b2 = true → N = (v1 : Int) * 65536 + ((v2 * 65536 / 10 ^ rl : Nat) : Int) := fun h h' => by
        rw [hN, hMv.out h, hE, hB, hzv h', hT]
        show _ + Int.fdiv _ ((10 ^ rl : Nat) : Int) = _
        rw [Int.fdiv_eq_ediv_of_nonneg _ (Int.natCast_nonneg _)]
        rfl
      obtain ⟨Z, hZ⟩ : ∃ Z : Int, Z = -N := ⟨_, rfl⟩
      have hCs1 : Hid (b1 = true → b2 = true → C = some Z) := fun h h' => by rw [hCy.out h h', hZ, hNv h h']
      have hNw : Wd 219 N := by rw [hN]; exact Wd.add (n := 218) (Wd.up (n := 218) hMw.out (by omega)) hEw
      have hZw : Wd 1400 Z := by rw [hZ]; exact (hNw.neg).up (by omega)
      have CNg : Hid (∀ v w, BR w v N → Calls Tryd.prog 42 #[v] w (GiveB Z w)) := fun v w hv => by rw [hZ]; exact neg_any v N w hv
      replace hZw := Lib.hid hZw
      clear hB hBw hzv hT hT1 hE hEw hN hNv hZ hNw hCy hMv hMw hzb
      go_wp2_with fail
      have d_ten' := d_ten
      go_loopw [13] (fun i wr => ∃ (k : Nat) (z : Int) (A : Option Addr) (n' c : Nat), i = .int .i64 z ∧ k ≤ rl ∧ Hid (z = (q0 : Int) + (k : Int) ∧ AtB wr g_ten #[.bool (sgn (T k)), .slice A n' c] BT4 ∧ BR wr (.agg #[.bool (sgn (T k)), .slice A n' c]) (T k) ∧ AtB wr g_a #[.bool (sgn M), .slice A_m n_m cap_m] BT4 ∧ BR wr (.agg #[.bool (sgn M), .slice A_m n_m cap_m]) M ∧ AtB wr g_b #[.bool (sgn (↑z_b)), .slice A_b n_b cap_b] BT4 ∧ BR wr (.agg #[.bool (sgn (↑z_b)), .slice A_b n_b cap_b]) (z_b : Int) ∧ Below w.heap.size w wr)) (fun i _ => n - (intOf i).toNat)
      case atStart => exact ⟨0, q0, A_ten, n_ten, cap_ten, rfl, by omega, ⟨by omega, by rw [hT0.out]; exact r_ten.out, by rw [hT0.out]; exact h_ten.out, r_a.out, h_m.out, r_b.out, h_b.out, BB.out⟩⟩
      case round =>
        clear BB r_ten h_ten r_a h_m r_b h_b hT0 CO1
        obtain ⟨k, z, A_ten, n_ten, cap_ten, rfl, hk, hI⟩ := hrel
        obtain ⟨hz, r_ten, h_ten, r_a, h_m, r_b, h_b, BB⟩ := hI.out
        clear hI
        replace BB := Lib.hid BB; replace r_ten := Lib.hid r_ten; replace h_ten := Lib.hid h_ten; replace r_a := Lib.hid r_a; replace h_m := Lib.hid h_m; replace r_b := Lib.hid r_b; replace h_b := Lib.hid h_b
        have hrl61 := hrl60.out
        have hnq := htq.out
        have hn61 := hn60.out
        by_cases hlt : k < rl
        · have k1 : z < (n : Int) := by omega
          obtain ⟨z2, hz2⟩ : ∃ z2 : Int, z2 = z + 1 := ⟨_, rfl⟩
          have ew : IntKind.i64.wrap (z + 1) = z2 := by rw [← hz2]; exact iw ⟨by omega, by omega⟩
          have hz2' := Lib.hid (show z2 = (q0 : Int) + ((k + 1 : Nat) : Int) by omega)
          have hzm := Lib.hid (And.intro hz (And.intro hz2 hnq))
          have C1 := Lib.hid (CT10.out k (by omega))
          have hTk : Hid (∃ u, u = T k) := ⟨_, rfl⟩
          obtain ⟨u, hu⟩ := hTk.out
          obtain ⟨u2, hu2⟩ : ∃ u, u = T (k + 1) := ⟨_, rfl⟩
          rw [← hu] at r_ten h_ten C1
          rw [← hu2] at C1
          replace hu2 := Lib.hid hu2
          clear hz hz2 hu hTk hTs hTw CT10 CFl CA hrl61 hnq hn61
          obtain ⟨c_ten0, c_ten1, f_ten0, f_ten1⟩ := reads2 r_ten.out
          have l_ten := r_ten.out.lt
          go_wp2_with fail
          clear c_ten0 c_ten1 f_ten0 f_ten1 l_ten
          have KK := Lib.hid (fun (w9 : World) (h : Below wr.heap.size wr w9) => (cells2 (r_ten.out.keep h) : (w9.cell? ⟨g_ten, 0, none⟩ = some (.bool (sgn u)) ∧ w9.cell? ⟨g_ten, 1, none⟩ = some (.slice A_ten n_ten cap_ten))))
          have K0 := KK.out wr (Below.refl _ _)
          have KD := KK.out wr.drew (below_drew (Below.refl _ _))
          refine AnyG.begin_ (fun w9 => (w9.cell? ⟨g_ten, 0, none⟩ = some (.bool (sgn u)) ∧ w9.cell? ⟨g_ten, 1, none⟩ = some (.slice A_ten n_ten cap_ten))) 3 (by kernel_rfl) ?_
          refine AnyG.take (i := 0) (v := ?_) rfl (by kernel_rfl) (by kernel_rfl) (by kernel_rfl) (fun _ _ _ h => h) (by kernel_rfl) (by kernel_rfl) (Or.inl ⟨by rfl, ?_⟩) (by assumption) ?_
          rotate_left
          · intro w9 hSw; (try dsimp only at hSw); go_simp <;> with_reducible rfl
          try simp only [Act.put, List.getElem_toArray, List.getElem_cons_zero, List.getElem_cons_succ, List.setIfInBounds_toArray, List.set_cons_zero, List.set_cons_succ]
          refine AnyG.step (i := 1) (by kernel_rfl) rfl (fun K hK => ?_)
          go_simp
          go_at_call 6
          refine (CO10.out _).mono ?_
          rintro e w11 ⟨v_p, rfl, hb, h_p⟩
          obtain ⟨A_p, n_p, cap_p, rfl, -⟩ := id h_p.form
          replace h_p := Lib.hid h_p
          have B_w11 := Lib.hid (reg_next (w0 := wr) (by repeat (first | with_reducible exact Below.refl _ _ | with_reducible apply below_drew | with_reducible apply below_new)) hb)
          have K_w11 := KK.out _ B_w11.out
          clear hb
          refine hK.out _ _ (fun _ => K_w11) (fun hHeld => ?_)
          replace hHeld := hHeld (by decide)
          clear hK
          try simp only [Act.put, List.getElem_toArray, List.getElem_cons_zero, List.getElem_cons_succ, List.setIfInBounds_toArray, List.set_cons_zero, List.set_cons_succ]
          refine AnyG.step (i := 2) (by kernel_rfl) rfl (fun K hK => ?_)
          go_simp
          go_at_call 34
          refine (C1.out _ _ _ (h_ten.out.below B_w11.out) h_p.out).mono ?_
          rintro e w12 ⟨v_nx, rfl, hb, h_nx⟩
          obtain ⟨A_nx, n_nx, cap_nx, rfl, -⟩ := id h_nx.form
          replace h_nx := Lib.hid h_nx
          replace h_p := Lib.hid (h_p.out.below hb)
          have B_w12 := Lib.hid (below_next B_w11.out hb)
          have K_w12 := KK.out _ B_w12.out
          obtain ⟨rc_ten0, rc_ten1, rf_ten0, rf_ten1⟩ := reads2 (r_ten.out.keep B_w12.out)
          have rl_ten := (r_ten.out.keep B_w12.out).lt
          clear hb
          refine hK.out _ _ (fun _ => K_w12) (fun hHeld => ?_)
          replace hHeld := hHeld (by decide)
          clear hK
          try simp only [Act.put, List.getElem_toArray, List.getElem_cons_zero, List.getElem_cons_succ, List.setIfInBounds_toArray, List.set_cons_zero, List.set_cons_succ]
          refine AnyG.step (i := 3) (by kernel_rfl) rfl (fun K hK => ?_)
          go_simp
          refine hK.out _ _ (fun h => absurd h (by decide)) (fun _ => ?_)
          clear hK
          try simp only [Act.put, List.getElem_toArray, List.getElem_cons_zero, List.getElem_cons_succ, List.setIfInBounds_toArray, List.set_cons_zero, List.set_cons_succ]
          refine AnyG.done (by kernel_rfl) ?_ _
          clear KK K0 KD K_w11 K_w12
          replace r_a := Lib.hid (r_a.out.keep B_w12.out)
          replace r_b := Lib.hid (r_b.out.keep B_w12.out)
          replace r_ten := Lib.hid (r_ten.out.keep B_w12.out)
          replace h_m := Lib.hid (h_m.out.below B_w12.out)
          replace h_b := Lib.hid (h_b.out.below B_w12.out)
          replace h_ten := Lib.hid (h_ten.out.below B_w12.out)
          replace BB := Lib.hid (below_next BB.out B_w12.out)
          clear B_w11 B_w12
          clear h_ten
          clear h_p
          replace h_nx := Lib.hid (h_nx.out.far2 r_ten.out (by decide) (.bool (sgn u2)) (.slice A_nx n_nx cap_nx))
          replace h_m := Lib.hid (h_m.out.far2 r_ten.out (by decide) (.bool (sgn u2)) (.slice A_nx n_nx cap_nx))
          replace h_b := Lib.hid (h_b.out.far2 r_ten.out (by decide) (.bool (sgn u2)) (.slice A_nx n_nx cap_nx))
          replace r_a := Lib.hid (r_a.out.far2 (p := g_ten) (by have dd_a := d_a.out; have dd_ten := d_ten.out; omega) (.bool (sgn u2)) (.slice A_nx n_nx cap_nx))
          replace r_b := Lib.hid (r_b.out.far2 (p := g_ten) (by have dd_b := d_b.out; have dd_ten := d_ten.out; omega) (.bool (sgn u2)) (.slice A_nx n_nx cap_nx))
          replace r_ten := Lib.hid (r_ten.out.set2 (.bool (sgn u2)) (.slice A_nx n_nx cap_nx))
          replace BB := Lib.hid (below_far2 BB.out (p := g_ten) (by have dd := d_ten.out; omega) (.bool (sgn u2)) (.slice A_nx n_nx cap_nx))
          generalize ((w12.setCell ⟨g_ten, 0, none⟩ (.bool (sgn u2))).setCell ⟨g_ten, 1, none⟩ (.slice A_nx n_nx cap_nx)) = w13 at *
          go_wp2_with fail
          go_roundw
          case rel => exact ⟨k + 1, z2, A_nx, n_nx, cap_nx, rfl, by omega, ⟨hz2'.out, by rw [← hu2.out]; exact r_ten.out, by rw [← hu2.out]; exact h_nx.out, r_a.out, h_m.out, r_b.out, h_b.out, BB.out⟩⟩
          case measure => obtain ⟨e1, e2, e3⟩ := hzm.out; simp [intOf] <;> omega
        · obtain rfl : k = rl := by omega
          have k1 : ¬ z < (n : Int) := by omega
          obtain ⟨u, hu⟩ : ∃ u, u = T k := ⟨_, rfl⟩
          rw [← hu] at r_ten h_ten CFl
          clear hz hu hTs hTw CT10 hrl61 hnq hn61
          obtain ⟨c_ten0, c_ten1, f_ten0, f_ten1⟩ := reads2 r_ten.out
          have l_ten := r_ten.out.lt
          go_wp2_with fail
          clear c_ten0 c_ten1 f_ten0 f_ten1 l_ten
          have KK := Lib.hid (fun (w9 : World) (h : Below wr.heap.size wr w9) => (⟨cells2 (r_a.out.keep h), cells2 (r_b.out.keep h), cells2 (r_ten.out.keep h)⟩ : (w9.cell? ⟨g_a, 0, none⟩ = some (.bool (sgn M)) ∧ w9.cell? ⟨g_a, 1, none⟩ = some (.slice A_m n_m cap_m)) ∧ (w9.cell? ⟨g_b, 0, none⟩ = some (.bool (sgn (↑z_b))) ∧ w9.cell? ⟨g_b, 1, none⟩ = some (.slice A_b n_b cap_b)) ∧ (w9.cell? ⟨g_ten, 0, none⟩ = some (.bool (sgn u)) ∧ w9.cell? ⟨g_ten, 1, none⟩ = some (.slice A_ten n_ten cap_ten))))
          have K0 := KK.out wr (Below.refl _ _)
          have KD := KK.out wr.drew (below_drew (Below.refl _ _))
          refine AnyG.begin_ (fun w9 => (w9.cell? ⟨g_a, 0, none⟩ = some (.bool (sgn M)) ∧ w9.cell? ⟨g_a, 1, none⟩ = some (.slice A_m n_m cap_m)) ∧ (w9.cell? ⟨g_b, 0, none⟩ = some (.bool (sgn (↑z_b))) ∧ w9.cell? ⟨g_b, 1, none⟩ = some (.slice A_b n_b cap_b)) ∧ (w9.cell? ⟨g_ten, 0, none⟩ = some (.bool (sgn u)) ∧ w9.cell? ⟨g_ten, 1, none⟩ = some (.slice A_ten n_ten cap_ten))) 7 (by kernel_rfl) ?_
          refine AnyG.take (i := 0) (v := ?_) rfl (by kernel_rfl) (by kernel_rfl) (by kernel_rfl) (fun _ _ _ h => h) (by kernel_rfl) (by kernel_rfl) (Or.inl ⟨by rfl, ?_⟩) (by assumption) ?_
          rotate_left
          · intro w9 hSw; (try dsimp only at hSw); go_simp <;> with_reducible rfl
          try simp only [Act.put, List.getElem_toArray, List.getElem_cons_zero, List.getElem_cons_succ, List.setIfInBounds_toArray, List.set_cons_zero, List.set_cons_succ]
          refine AnyG.take (i := 1) (v := ?_) rfl (by kernel_rfl) (by kernel_rfl) (by kernel_rfl) (fun _ _ _ h => h) (by kernel_rfl) (by kernel_rfl) (Or.inl ⟨by rfl, ?_⟩) (by assumption) ?_
          rotate_left
          · intro w9 hSw; (try dsimp only at hSw); go_simp <;> with_reducible rfl
          try simp only [Act.put, List.getElem_toArray, List.getElem_cons_zero, List.getElem_cons_succ, List.setIfInBounds_toArray, List.set_cons_zero, List.set_cons_succ]
          refine AnyG.take (i := 4) (v := ?_) rfl (by kernel_rfl) (by kernel_rfl) (by kernel_rfl) (fun _ _ _ h => h) (by kernel_rfl) (by kernel_rfl) (Or.inl ⟨by rfl, ?_⟩) (by assumption) ?_
          rotate_left
          · intro w9 hSw; (try dsimp only at hSw); go_simp <;> with_reducible rfl
          try simp only [Act.put, List.getElem_toArray, List.getElem_cons_zero, List.getElem_cons_succ, List.setIfInBounds_toArray, List.set_cons_zero, List.set_cons_succ]
          refine AnyG.step (i := 2) (by kernel_rfl) rfl (fun K hK => ?_)
          go_simp
          go_at_call 35
          refine (CW.out _).mono ?_
          rintro e w14 ⟨v_p, rfl, hb, h_p⟩
          obtain ⟨A_p, n_p, cap_p, rfl, -⟩ := id h_p.form
          replace h_p := Lib.hid h_p
          have B_w14 := Lib.hid (reg_next (w0 := wr) (by repeat (first | with_reducible exact Below.refl _ _ | with_reducible apply below_drew | with_reducible apply below_new)) hb)
          have K_w14 := KK.out _ B_w14.out
          clear hb
          refine hK.out _ _ (fun _ => K_w14) (fun hHeld => ?_)
          replace hHeld := hHeld (by decide)
          clear hK
          try simp only [Act.put, List.getElem_toArray, List.getElem_cons_zero, List.getElem_cons_succ, List.setIfInBounds_toArray, List.set_cons_zero, List.set_cons_succ]
          refine AnyG.step (i := 3) (by kernel_rfl) rfl (fun K hK => ?_)
          go_simp
          go_at_call 34
          refine (CM.out _ _ _ (h_b.out.below B_w14.out) h_p.out).mono ?_
          rintro e w15 ⟨v_q, rfl, hb, h_q⟩
          obtain ⟨A_q, n_q, cap_q, rfl, -⟩ := id h_q.form
          replace h_q := Lib.hid h_q
          replace h_p := Lib.hid (h_p.out.below hb)
          have B_w15 := Lib.hid (below_next B_w14.out hb)
          have K_w15 := KK.out _ B_w15.out
          clear hb
          refine hK.out _ _ (fun _ => K_w15) (fun hHeld => ?_)
          replace hHeld := hHeld (by decide)
          clear hK
          try simp only [Act.put, List.getElem_toArray, List.getElem_cons_zero, List.getElem_cons_succ, List.setIfInBounds_toArray, List.set_cons_zero, List.set_cons_succ]
          refine AnyG.step (i := 5) (by kernel_rfl) rfl (fun K hK => ?_)
          go_simp
          go_at_call 43
          refine (CFl.out _ _ _ h_q.out (h_ten.out.below B_w15.out)).mono ?_
          rintro e w16 ⟨v_f, rfl, hb, h_f⟩
          obtain ⟨A_f, n_f, cap_f, rfl, -⟩ := id h_f.form
          replace h_f := Lib.hid h_f
          replace h_p := Lib.hid (h_p.out.below hb)
          replace h_q := Lib.hid (h_q.out.below hb)
          have B_w16 := Lib.hid (below_next B_w15.out hb)
          have K_w16 := KK.out _ B_w16.out
          clear hb
          refine hK.out _ _ (fun _ => K_w16) (fun hHeld => ?_)
          replace hHeld := hHeld (by decide)
          clear hK
          try simp only [Act.put, List.getElem_toArray, List.getElem_cons_zero, List.getElem_cons_succ, List.setIfInBounds_toArray, List.set_cons_zero, List.set_cons_succ]
          refine AnyG.step (i := 6) (by kernel_rfl) rfl (fun K hK => ?_)
          go_simp
          go_at_call 13
          refine (CA.out _ _ _ (h_m.out.below B_w16.out) h_f.out).mono ?_
          rintro e w17 ⟨v_x, rfl, hb, h_x⟩
          obtain ⟨A_x, n_x, cap_x, rfl, -⟩ := id h_x.form
          replace h_x := Lib.hid h_x
          replace h_p := Lib.hid (h_p.out.below hb)
          replace h_q := Lib.hid (h_q.out.below hb)
          replace h_f := Lib.hid (h_f.out.below hb)
          have B_w17 := Lib.hid (below_next B_w16.out hb)
          have K_w17 := KK.out _ B_w17.out
          obtain ⟨rc_a0, rc_a1, rf_a0, rf_a1⟩ := reads2 (r_a.out.keep B_w17.out)
          have rl_a := (r_a.out.keep B_w17.out).lt
          clear hb
          refine hK.out _ _ (fun _ => K_w17) (fun hHeld => ?_)
          replace hHeld := hHeld (by decide)
          clear hK
          try simp only [Act.put, List.getElem_toArray, List.getElem_cons_zero, List.getElem_cons_succ, List.setIfInBounds_toArray, List.set_cons_zero, List.set_cons_succ]
          refine AnyG.step (i := 7) (by kernel_rfl) rfl (fun K hK => ?_)
          go_simp
          refine hK.out _ _ (fun h => absurd h (by decide)) (fun _ => ?_)
          clear hK
          try simp only [Act.put, List.getElem_toArray, List.getElem_cons_zero, List.getElem_cons_succ, List.setIfInBounds_toArray, List.set_cons_zero, List.set_cons_succ]
          refine AnyG.done (by kernel_rfl) ?_ _
          clear KK K0 KD K_w14 K_w15 K_w16 K_w17
          replace r_a := Lib.hid (r_a.out.keep B_w17.out)
          replace r_b := Lib.hid (r_b.out.keep B_w17.out)
          replace r_ten := Lib.hid (r_ten.out.keep B_w17.out)
          replace h_m := Lib.hid (h_m.out.below B_w17.out)
          replace h_b := Lib.hid (h_b.out.below B_w17.out)
          replace h_ten := Lib.hid (h_ten.out.below B_w17.out)
          replace BB := Lib.hid (below_next BB.out B_w17.out)
          clear B_w14 B_w15 B_w16 B_w17
          clear h_m
          clear h_b
          clear h_ten
          clear h_p
          clear h_q
          clear h_f
          replace h_x := Lib.hid (h_x.out.far2 r_a.out (by decide) (.bool (sgn N)) (.slice A_x n_x cap_x))
          replace r_a := Lib.hid (r_a.out.set2 (.bool (sgn N)) (.slice A_x n_x cap_x))
          replace r_b := Lib.hid (r_b.out.far2 (p := g_a) (by have dd_b := d_b.out; have dd_a := d_a.out; omega) (.bool (sgn N)) (.slice A_x n_x cap_x))
          replace r_ten := Lib.hid (r_ten.out.far2 (p := g_a) (by have dd_ten := d_ten.out; have dd_a := d_a.out; omega) (.bool (sgn N)) (.slice A_x n_x cap_x))
          replace BB := Lib.hid (below_far2 BB.out (p := g_a) (by have dd := d_a.out; omega) (.bool (sgn N)) (.slice A_x n_x cap_x))
          generalize ((w17.setCell ⟨g_a, 0, none⟩ (.bool (sgn N))).setCell ⟨g_a, 1, none⟩ (.slice A_x n_x cap_x)) = w18 at *
          clear CM CFl CA
          cases b1 with
          | false =>
            have hCq := Lib.hid (hCn1.out rfl)
            obtain ⟨c_a0, c_a1, f_a0, f_a1⟩ := reads2 r_a.out
            have l_a := r_a.out.lt
            go_wp2_with fail
            refine (CNg.out _ _ h_x.out).mono ?_
            rintro e w19 ⟨v_y, rfl, hb, h_y⟩
            obtain ⟨A_y, n_y, cap_y, rfl, -⟩ := id h_y.form
            replace h_y := Lib.hid h_y
            clear c_a0 c_a1 f_a0 f_a1 l_a
            replace r_a := Lib.hid (r_a.out.keep hb)
            replace r_b := Lib.hid (r_b.out.keep hb)
            replace r_ten := Lib.hid (r_ten.out.keep hb)
            replace h_x := Lib.hid (h_x.out.below hb)
            replace BB := Lib.hid (below_next BB.out hb)
            clear hb
            obtain ⟨c_a0, c_a1, f_a0, f_a1⟩ := reads2 r_a.out
            have l_a := r_a.out.lt
            go_upto_region 26 with fail
            replace h_y := Lib.hid (h_y.out.far2 r_a.out (by decide) (.bool (sgn Z)) (.slice A_y n_y cap_y))
            clear h_x
            clear c_a0 c_a1 f_a0 f_a1 l_a
            replace r_a := Lib.hid (r_a.out.set2 (.bool (sgn Z)) (.slice A_y n_y cap_y))
            replace r_b := Lib.hid (r_b.out.far2 (p := g_a) (by have dd_b := d_b.out; have dd_a := d_a.out; omega) (.bool (sgn Z)) (.slice A_y n_y cap_y))
            replace r_ten := Lib.hid (r_ten.out.far2 (p := g_a) (by have dd_ten := d_ten.out; have dd_a := d_a.out; omega) (.bool (sgn Z)) (.slice A_y n_y cap_y))
            replace BB := Lib.hid (below_far2 BB.out (p := g_a) (by have dd := d_a.out; omega) (.bool (sgn Z)) (.slice A_y n_y cap_y))
            generalize ((w19.setCell ⟨g_a, 0, none⟩ (.bool (sgn Z))).setCell ⟨g_a, 1, none⟩ (.slice A_y n_y cap_y)) = w20 at *
            go_wp2_with fail
            refine bodyPost_ret (v := .tuple #[.int .i64 0, .bool false]) (by unfold results; simp only [Tryd.results23]; go_simp) rfl ?_
            exact cast_fin hCq.out (give_none BB.out)
          | true =>
            cases b2 with
            | false =>
              have hCq := Lib.hid (hCn2.out rfl)
              obtain ⟨c_a0, c_a1, f_a0, f_a1⟩ := reads2 r_a.out
              have l_a := r_a.out.lt
              go_wp2_with fail
              refine (CNg.out _ _ h_x.out).mono ?_
              rintro e w19 ⟨v_y, rfl, hb, h_y⟩
              obtain ⟨A_y, n_y, cap_y, rfl, -⟩ := id h_y.form
              replace h_y := Lib.hid h_y
              clear c_a0 c_a1 f_a0 f_a1 l_a
              replace r_a := Lib.hid (r_a.out.keep hb)
              replace r_b := Lib.hid (r_b.out.keep hb)
              replace r_ten := Lib.hid (r_ten.out.keep hb)
              replace h_x := Lib.hid (h_x.out.below hb)
              replace BB := Lib.hid (below_next BB.out hb)
              clear hb
              obtain ⟨c_a0, c_a1, f_a0, f_a1⟩ := reads2 r_a.out
              have l_a := r_a.out.lt
              go_upto_region 26 with fail
              replace h_y := Lib.hid (h_y.out.far2 r_a.out (by decide) (.bool (sgn Z)) (.slice A_y n_y cap_y))
              clear h_x
              clear c_a0 c_a1 f_a0 f_a1 l_a
              replace r_a := Lib.hid (r_a.out.set2 (.bool (sgn Z)) (.slice A_y n_y cap_y))
              replace r_b := Lib.hid (r_b.out.far2 (p := g_a) (by have dd_b := d_b.out; have dd_a := d_a.out; omega) (.bool (sgn Z)) (.slice A_y n_y cap_y))
              replace r_ten := Lib.hid (r_ten.out.far2 (p := g_a) (by have dd_ten := d_ten.out; have dd_a := d_a.out; omega) (.bool (sgn Z)) (.slice A_y n_y cap_y))
              replace BB := Lib.hid (below_far2 BB.out (p := g_a) (by have dd := d_a.out; omega) (.bool (sgn Z)) (.slice A_y n_y cap_y))
              generalize ((w19.setCell ⟨g_a, 0, none⟩ (.bool (sgn Z))).setCell ⟨g_a, 1, none⟩ (.slice A_y n_y cap_y)) = w20 at *
              go_wp2_with fail
              refine bodyPost_ret (v := .tuple #[.int .i64 0, .bool false]) (by unfold results; simp only [Tryd.results23]; go_simp) rfl ?_
              exact cast_fin hCq.out (give_none BB.out)
            | true =>
              have hCs := Lib.hid (hCs1.out rfl rfl)
              clear hCs1 hCn1 hCn2
              obtain ⟨c_a0, c_a1, f_a0, f_a1⟩ := reads2 r_a.out
              have l_a := r_a.out.lt
              go_wp2_with fail
              refine (CNg.out _ _ h_x.out).mono ?_
              rintro e w19 ⟨v_y, rfl, hb, h_y⟩
              obtain ⟨A_y, n_y, cap_y, rfl, -⟩ := id h_y.form
              replace h_y := Lib.hid h_y
              clear c_a0 c_a1 f_a0 f_a1 l_a
              replace r_a := Lib.hid (r_a.out.keep hb)
              replace r_b := Lib.hid (r_b.out.keep hb)
              replace r_ten := Lib.hid (r_ten.out.keep hb)
              replace h_x := Lib.hid (h_x.out.below hb)
              replace BB := Lib.hid (below_next BB.out hb)
              clear hb
              obtain ⟨c_a0, c_a1, f_a0, f_a1⟩ := reads2 r_a.out
              have l_a := r_a.out.lt
              go_upto_region 26 with fail
              replace h_y := Lib.hid (h_y.out.far2 r_a.out (by decide) (.bool (sgn Z)) (.slice A_y n_y cap_y))
              clear h_x
              clear c_a0 c_a1 f_a0 f_a1 l_a
              replace r_a := Lib.hid (r_a.out.set2 (.bool (sgn Z)) (.slice A_y n_y cap_y))
              replace r_b := Lib.hid (r_b.out.far2 (p := g_a) (by have dd_b := d_b.out; have dd_a := d_a.out; omega) (.bool (sgn Z)) (.slice A_y n_y cap_y))
              replace r_ten := Lib.hid (r_ten.out.far2 (p := g_a) (by have dd_ten := d_ten.out; have dd_a := d_a.out; omega) (.bool (sgn Z)) (.slice A_y n_y cap_y))
              replace BB := Lib.hid (below_far2 BB.out (p := g_a) (by have dd := d_a.out; omega) (.bool (sgn Z)) (.slice A_y n_y cap_y))
              generalize ((w19.setCell ⟨g_a, 0, none⟩ (.bool (sgn Z))).setCell ⟨g_a, 1, none⟩ (.slice A_y n_y cap_y)) = w20 at *

              obtain ⟨Q, hQ⟩ : ∃ Q : ByteArray, Q = ⟨(sT Z).toArray⟩ := ⟨_, rfl⟩
              have hq1 := str_eq (sT Z) (45 :: t)
              rw [← hQ, ← hs.out] at hq1
              obtain ⟨same, hsame⟩ : ∃ b : Bool, b = decide (sT Z = (45 :: t)) := ⟨_, rfl⟩
              rw [← hsame] at hq1
              have hq2 : (Q.toList != s.toList) = !same := by rw [bne, hq1]
              have CF := Lib.hid (fun (v : Value) w (h : BR w v Z) => rfits_any v Z 63 (by omega) w h hZw.out)
              have CSm := Lib.hid (fun (h : fitsB Z 63 = true) (v : Value) w (hv : BR w v Z) => small_any v Z w hv (fits_63.1 h))
              have CSh : Hid (fitsB Z 63 = true → ∀ w, Calls Tryd.prog 24 #[.int .i64 Z] w fun e w' => e = .returned (.string Q) ∧ Below w.heap.size w w') := fun h w => by rw [hQ]; exact r4show Z (fits_63.1 h) w
              replace hsame := Lib.hid hsame
              obtain ⟨fb, hfb⟩ : ∃ x, x = fitsB Z 63 := ⟨_, rfl⟩
              rw [← hfb] at CF CSm CSh
              replace hfb := Lib.hid hfb
              clear hQ
              obtain ⟨c_a0, c_a1, f_a0, f_a1⟩ := reads2 r_a.out
              have l_a := r_a.out.lt
              go_wp2_with fail
              refine (CF.out _ _ h_y.out).mono ?_
              rintro e w21 ⟨rfl, hb⟩
              clear c_a0 c_a1 f_a0 f_a1 l_a
              replace r_a := Lib.hid (r_a.out.keep hb)
              replace r_b := Lib.hid (r_b.out.keep hb)
              replace r_ten := Lib.hid (r_ten.out.keep hb)
              replace h_y := Lib.hid (h_y.out.below hb)
              replace BB := Lib.hid (below_next BB.out hb)
              clear hb
              cases fb with
              | false =>
                go_wp2_with fail
                refine bodyPost_ret (v := .tuple #[.int .i64 0, .bool false]) (by unfold results; simp only [Tryd.results23]; go_simp) rfl ?_
                exact cast_fin hCs.out (give_far hfb.out.symm BB.out)
              | true =>
                have DSm := Lib.hid (fun (v : Value) w (hv : BR w v Z) => CSm.out rfl v w hv)
                have DSh := Lib.hid (fun w => CSh.out rfl w)
                clear CSm CSh
                obtain ⟨c_a0, c_a1, f_a0, f_a1⟩ := reads2 r_a.out
                have l_a := r_a.out.lt
                go_wp2_with fail
                refine (DSm.out _ _ h_y.out).mono ?_
                rintro e w22 ⟨rfl, hb⟩
                clear c_a0 c_a1 f_a0 f_a1 l_a
                replace r_a := Lib.hid (r_a.out.keep hb)
                replace r_b := Lib.hid (r_b.out.keep hb)
                replace r_ten := Lib.hid (r_ten.out.keep hb)
                replace h_y := Lib.hid (h_y.out.below hb)
                replace BB := Lib.hid (below_next BB.out hb)
                clear hb
                go_wp2_with fail
                refine (DSh.out _).mono ?_
                rintro e w23 ⟨rfl, hb⟩
                replace r_a := Lib.hid (r_a.out.keep hb)
                replace r_b := Lib.hid (r_b.out.keep hb)
                replace r_ten := Lib.hid (r_ten.out.keep hb)
                replace h_y := Lib.hid (h_y.out.below hb)
                replace BB := Lib.hid (below_next BB.out hb)
                clear hb
                cases same with
                | false =>
                  go_wp2_with fail
                  refine bodyPost_ret (v := .tuple #[.int .i64 0, .bool false]) (by unfold results; simp only [Tryd.results23]; go_simp) rfl ?_
                  exact cast_fin hCs.out (give_ne (of_decide_eq_false hsame.out.symm) BB.out)
                | true =>
                  obtain ⟨c_a0, c_a1, f_a0, f_a1⟩ := reads2 r_a.out
                  have l_a := r_a.out.lt
                  go_wp2_with fail
                  refine (DSm.out _ _ h_y.out).mono ?_
                  rintro e w24 ⟨rfl, hb⟩
                  clear c_a0 c_a1 f_a0 f_a1 l_a
                  replace r_a := Lib.hid (r_a.out.keep hb)
                  replace r_b := Lib.hid (r_b.out.keep hb)
                  replace r_ten := Lib.hid (r_ten.out.keep hb)
                  replace h_y := Lib.hid (h_y.out.below hb)
                  replace BB := Lib.hid (below_next BB.out hb)
                  clear hb
                  go_wp2_with fail
                  refine bodyPost_ret (v := .tuple #[.int .i64 Z, .bool true]) (by unfold results; simp only [Tryd.results23]; go_simp) rfl ?_
                  exact cast_fin hCs.out (give_eq hfb.out.symm (of_decide_eq_true hsame.out.symm) BB.out)


end Go.Proofs.YthdbchghhpoadaaDoor
