/- Contract of mat.Det. -/
import Derived.Test.YthoakbjnofhpbaaMtT
import Derived.Deep.MidRow
set_option linter.unusedVariables false
set_option linter.unusedSimpArgs false
namespace Go.Proofs.Ythoakbjnofhpbaa
open Go.RowKit
set_option maxRecDepth 100000 in
set_option maxHeartbeats 8000000 in
theorem mdet_no (m0 m1 m2 m3 m4 m5 m6 m7 m8 : Int) (hz : ∀ z ∈ [m0, m1, m2, m3, m4, m5, m6, m7, m8], I64 z) (hf : [m0, m1, m2, m3, m4, m5, m6, m7, m8].any farM = true) (w : World) : Calls Try.prog 30 #[.agg #[.int .i64 m0, .int .i64 m1, .int .i64 m2, .int .i64 m3, .int .i64 m4, .int .i64 m5, .int .i64 m6, .int .i64 m7, .int .i64 m8]] w fun e w' => e = .returned (.tuple #[wv 0 0, .int .i64 11]) ∧ Below w.heap.size w w' := by
  have CR := Lib.hid (fun w => mright m0 m1 m2 m3 m4 m5 m6 m7 m8 hz w)
  rw [hf] at CR
  clear hz hf
  go_enter Try.func30, Try.ntmps30
  go_wp2_with fail
  have BB := start2 w #[.int .i64 m0, .int .i64 m1, .int .i64 m2, .int .i64 m3, .int .i64 m4, .int .i64 m5, .int .i64 m6, .int .i64 m7, .int .i64 m8] M9T #[.int .i64 0, .int .u64 0] WT5
  obtain ⟨BB, hsz, r_m, r_res⟩ := BB
  generalize ((w.alloc (.cells #[.int .i64 m0, .int .i64 m1, .int .i64 m2, .int .i64 m3, .int .i64 m4, .int .i64 m5, .int .i64 m6, .int .i64 m7, .int .i64 m8] M9T)).alloc (.cells #[.int .i64 0, .int .u64 0] WT5)) = w0 at *
  replace BB := Lib.hid BB
  replace r_m := Lib.hid r_m
  replace r_res := Lib.hid r_res
  clear hsz
  obtain ⟨c_m0, c_m1, c_m2, c_m3, c_m4, c_m5, c_m6, c_m7, c_m8, f_m0, f_m1, f_m2, f_m3, f_m4, f_m5, f_m6, f_m7, f_m8⟩ := reads9 r_m.out
  have l_m := r_m.out.lt
  go_wp2_with fail
  refine (CR.out _).mono ?_
  rintro e w1 ⟨rfl, hb⟩
  clear c_m0 c_m1 c_m2 c_m3 c_m4 c_m5 c_m6 c_m7 c_m8 f_m0 f_m1 f_m2 f_m3 f_m4 f_m5 f_m6 f_m7 f_m8 l_m
  replace r_m := Lib.hid (r_m.out.keep hb)
  replace r_res := Lib.hid (r_res.out.keep hb)
  replace BB := Lib.hid (below_next BB.out hb)
  clear hb
  obtain ⟨c_res0, c_res1, f_res0, f_res1⟩ := reads2 r_res.out
  have l_res := r_res.out.lt
  go_wp2_with fail
  refine bodyPost_ret (v := .tuple #[wv 0 0, .int .i64 11]) (by unfold results; simp only [Try.results30]; go_simp) rfl ⟨rfl, ?_⟩
  exact below_set2 BB.out (by omega) _ _
def detM (zs : List Int) : Int := cofI zs 0 0 * zs.getD 0 0 + cofI zs 0 1 * zs.getD 1 0 + cofI zs 0 2 * zs.getD 2 0
def GiveDet (z : Int) (w : World) (e : Ending) (w' : World) : Prop := ∃ h l, e = .returned (.tuple #[wv h l, .int .i64 0]) ∧ Below w.heap.size w w' ∧ W128 z h l
theorem cof_in {zs : List Int} (h : ∀ z ∈ zs, I32s z) (r c : Nat) : -9223372036854775808 ≤ cofI zs r c ∧ cofI zs r c ≤ 9223372036854775808 := by
  unfold cofI
  have h1 := i32_mul (mAt_in h (r + 1) (c + 1)) (mAt_in h (r + 2) (c + 2))
  have h2 := i32_mul (mAt_in h (r + 1) (c + 2)) (mAt_in h (r + 2) (c + 1))
  omega
theorem cof_mul {a b : Int} (ha : -9223372036854775808 ≤ a ∧ a ≤ 9223372036854775808) (hb : I32s b) : -19807040628566084398385987584 ≤ a * b ∧ a * b ≤ 19807040628566084398385987584 := by
  have h1 : a.natAbs ≤ 9223372036854775808 := by omega
  have h2 : b.natAbs ≤ 2147483648 := by unfold I32s at hb; omega
  have h3 := Nat.mul_le_mul h1 h2
  rw [← Int.natAbs_mul] at h3
  omega
theorem AtB.range {w : World} {g : Nat} {cs : List Value} {T : TypeId} (h : AtB w g cs.toArray T) : w.rangeAt g 0 cs := fun j v hv => by
  rw [Nat.zero_add]; exact h.cell j (by simpa using hv)
theorem m9_size : (Try.prog.info? 56).map (·.size) = some 9 := by kernel_rfl
set_option maxRecDepth 100000 in
set_option maxHeartbeats 16000000 in
theorem mdet_ok (m0 m1 m2 m3 m4 m5 m6 m7 m8 : Int) (hz : ∀ z ∈ [m0, m1, m2, m3, m4, m5, m6, m7, m8], I32s z) (w : World) : Calls Try.prog 30 #[.agg #[.int .i64 m0, .int .i64 m1, .int .i64 m2, .int .i64 m3, .int .i64 m4, .int .i64 m5, .int .i64 m6, .int .i64 m7, .int .i64 m8]] w (GiveDet (detM [m0, m1, m2, m3, m4, m5, m6, m7, m8]) w) := by
  have CR := Lib.hid (fun w => mright m0 m1 m2 m3 m4 m5 m6 m7 m8 (fun z h => by have := hz z h; unfold I32s at this; unfold I64; omega) w)
  have hf : [m0, m1, m2, m3, m4, m5, m6, m7, m8].any farM = false := by
    rw [List.any_eq_false]
    intro z h
    rw [farM_iff.2 (hz z h)]; simp
  rw [hf] at CR
  have C0 : Hid (∀ w, Calls Try.prog 90 #[.agg #[.int .i64 m0, .int .i64 m1, .int .i64 m2, .int .i64 m3, .int .i64 m4, .int .i64 m5, .int .i64 m6, .int .i64 m7, .int .i64 m8], .int .i64 0, .int .i64 0] w (GiveW (cofI [m0, m1, m2, m3, m4, m5, m6, m7, m8] 0 0) w)) := fun w => mcof m0 m1 m2 m3 m4 m5 m6 m7 m8 hz 0 0 (by omega) (by omega) w
  have i0 := hz m0 (by simp)
  have b0 := cof_mul (cof_in hz 0 0) i0
  have S0 := Lib.hid (fun w h l hc => wscale (cofI [m0, m1, m2, m3, m4, m5, m6, m7, m8] 0 0) m0 h l hc (by unfold I32s at i0; unfold I64; omega) w)
  have C1 : Hid (∀ w, Calls Try.prog 90 #[.agg #[.int .i64 m0, .int .i64 m1, .int .i64 m2, .int .i64 m3, .int .i64 m4, .int .i64 m5, .int .i64 m6, .int .i64 m7, .int .i64 m8], .int .i64 0, .int .i64 1] w (GiveW (cofI [m0, m1, m2, m3, m4, m5, m6, m7, m8] 0 1) w)) := fun w => mcof m0 m1 m2 m3 m4 m5 m6 m7 m8 hz 0 1 (by omega) (by omega) w
  have i1 := hz m1 (by simp)
  have b1 := cof_mul (cof_in hz 0 1) i1
  have S1 := Lib.hid (fun w h l hc => wscale (cofI [m0, m1, m2, m3, m4, m5, m6, m7, m8] 0 1) m1 h l hc (by unfold I32s at i1; unfold I64; omega) w)
  have C2 : Hid (∀ w, Calls Try.prog 90 #[.agg #[.int .i64 m0, .int .i64 m1, .int .i64 m2, .int .i64 m3, .int .i64 m4, .int .i64 m5, .int .i64 m6, .int .i64 m7, .int .i64 m8], .int .i64 0, .int .i64 2] w (GiveW (cofI [m0, m1, m2, m3, m4, m5, m6, m7, m8] 0 2) w)) := fun w => mcof m0 m1 m2 m3 m4 m5 m6 m7 m8 hz 0 2 (by omega) (by omega) w
  have i2 := hz m2 (by simp)
  have b2 := cof_mul (cof_in hz 0 2) i2
  have S2 := Lib.hid (fun w h l hc => wscale (cofI [m0, m1, m2, m3, m4, m5, m6, m7, m8] 0 2) m2 h l hc (by unfold I32s at i2; unfold I64; omega) w)
  change Calls _ _ _ _ (GiveDet (cofI [m0, m1, m2, m3, m4, m5, m6, m7, m8] 0 0 * m0 + cofI [m0, m1, m2, m3, m4, m5, m6, m7, m8] 0 1 * m1 + cofI [m0, m1, m2, m3, m4, m5, m6, m7, m8] 0 2 * m2) w)
  obtain ⟨P0, hP0⟩ : ∃ P, P = cofI [m0, m1, m2, m3, m4, m5, m6, m7, m8] 0 0 * m0 := ⟨_, rfl⟩
  rw [← hP0] at b0 S0 ⊢
  clear hP0
  generalize cofI [m0, m1, m2, m3, m4, m5, m6, m7, m8] 0 0 = D0 at *
  obtain ⟨P1, hP1⟩ : ∃ P, P = cofI [m0, m1, m2, m3, m4, m5, m6, m7, m8] 0 1 * m1 := ⟨_, rfl⟩
  rw [← hP1] at b1 S1 ⊢
  clear hP1
  generalize cofI [m0, m1, m2, m3, m4, m5, m6, m7, m8] 0 1 = D1 at *
  obtain ⟨P2, hP2⟩ : ∃ P, P = cofI [m0, m1, m2, m3, m4, m5, m6, m7, m8] 0 2 * m2 := ⟨_, rfl⟩
  rw [← hP2] at b2 S2 ⊢
  clear hP2
  generalize cofI [m0, m1, m2, m3, m4, m5, m6, m7, m8] 0 2 = D2 at *
  have U9 := Try.underlying56
  have Z9 : (Try.prog.info? 56).map (·.size) = some ([.int .i64 m0, .int .i64 m1, .int .i64 m2, .int .i64 m3, .int .i64 m4, .int .i64 m5, .int .i64 m6, .int .i64 m7, .int .i64 m8] : List Value).length := m9_size
  have R := Lib.hid (show (I128 P0 ∧ I128 P1 ∧ I128 P2) ∧ I128 (0 + P0) ∧ I128 (0 + P0 + P1) ∧ I128 (0 + P0 + P1 + P2) by unfold I128; refine ⟨⟨?_, ?_, ?_⟩, ?_, ?_, ?_⟩ <;> omega)
  have A0 := Lib.hid (fun w xh xl yh yl hx hy => wadd 0 P0 xh xl yh yl hx hy w)
  have A1 := Lib.hid (fun w xh xl yh yl hx hy => wadd (0 + P0) P1 xh xl yh yl hx hy w)
  have A2 := Lib.hid (fun w xh xl yh yl hx hy => wadd (0 + P0 + P1) P2 xh xl yh yl hx hy w)
  rw [show P0 + P1 + P2 = 0 + P0 + P1 + P2 by omega]
  clear hz hf b0 b1 b2 i0 i1 i2
  go_enter Try.func30, Try.ntmps30
  go_wp2_with fail
  have BB := start2 w #[.int .i64 m0, .int .i64 m1, .int .i64 m2, .int .i64 m3, .int .i64 m4, .int .i64 m5, .int .i64 m6, .int .i64 m7, .int .i64 m8] M9T #[.int .i64 0, .int .u64 0] WT5
  obtain ⟨BB, hsz, r_m, r_res⟩ := BB
  generalize ((w.alloc (.cells #[.int .i64 m0, .int .i64 m1, .int .i64 m2, .int .i64 m3, .int .i64 m4, .int .i64 m5, .int .i64 m6, .int .i64 m7, .int .i64 m8] M9T)).alloc (.cells #[.int .i64 0, .int .u64 0] WT5)) = w0 at *
  replace BB := Lib.hid BB
  replace r_m := Lib.hid r_m
  replace r_res := Lib.hid r_res
  clear hsz
  obtain ⟨c_m0, c_m1, c_m2, c_m3, c_m4, c_m5, c_m6, c_m7, c_m8, f_m0, f_m1, f_m2, f_m3, f_m4, f_m5, f_m6, f_m7, f_m8⟩ := reads9 r_m.out
  have l_m := r_m.out.lt
  go_wp2_with fail
  refine (CR.out _).mono ?_
  rintro e w1 ⟨rfl, hb⟩
  clear c_m0 c_m1 c_m2 c_m3 c_m4 c_m5 c_m6 c_m7 c_m8 f_m0 f_m1 f_m2 f_m3 f_m4 f_m5 f_m6 f_m7 f_m8 l_m
  replace r_m := Lib.hid (r_m.out.keep hb)
  replace r_res := Lib.hid (r_res.out.keep hb)
  replace BB := Lib.hid (below_next BB.out hb)
  clear hb
  go_wp2_with fail
  have d_sum := Lib.hid (And.intro BB.out.size (And.intro r_m.out.lt (And.intro r_res.out.lt (True.intro))))
  obtain ⟨hb, r_sum⟩ := laid w1 #[.int .i64 0, .int .u64 0] WT5
  replace r_m := Lib.hid (r_m.out.keep hb)
  replace r_res := Lib.hid (r_res.out.keep hb)
  replace BB := Lib.hid (below_next BB.out hb)
  replace r_sum := Lib.hid r_sum
  clear hb
  generalize w1.alloc (.cells #[.int .i64 0, .int .u64 0] WT5) = w2 at *
  generalize w1.heap.size = g_sum at *
  refine wp_loop_rounds 4 ?_
  rw [rounds_succ]
  go_wp2_with fail
  go_cut [6] (fun s5 wc1 => ∃ gp ph pl, s5 = .pointer (some ⟨gp, 0, none⟩) ∧ Hid (AtB wc1 gp #[.int .i64 ph, .int .u64 pl] WT5 ∧ (W128 P0 ph pl) ∧ Below w2.heap.size w2 wc1 ∧ w2.heap.size ≤ gp))
  case first =>
    have KM := Lib.hid (fun (w9 : World) (h9 : Below w2.heap.size w2 w9) => AtB.range (r_m.out.keep h9))
    have KK := Lib.hid (fun (w9 : World) (h : Below w2.heap.size w2 w9) => (⟨KM.out _ h, cells9 (r_m.out.keep h)⟩ : (w9.rangeAt w.heap.size 0 [.int .i64 m0, .int .i64 m1, .int .i64 m2, .int .i64 m3, .int .i64 m4, .int .i64 m5, .int .i64 m6, .int .i64 m7, .int .i64 m8]) ∧ (w9.cell? ⟨w.heap.size, 0, none⟩ = some (.int .i64 m0) ∧ w9.cell? ⟨w.heap.size, 1, none⟩ = some (.int .i64 m1) ∧ w9.cell? ⟨w.heap.size, 2, none⟩ = some (.int .i64 m2) ∧ w9.cell? ⟨w.heap.size, 3, none⟩ = some (.int .i64 m3) ∧ w9.cell? ⟨w.heap.size, 4, none⟩ = some (.int .i64 m4) ∧ w9.cell? ⟨w.heap.size, 5, none⟩ = some (.int .i64 m5) ∧ w9.cell? ⟨w.heap.size, 6, none⟩ = some (.int .i64 m6) ∧ w9.cell? ⟨w.heap.size, 7, none⟩ = some (.int .i64 m7) ∧ w9.cell? ⟨w.heap.size, 8, none⟩ = some (.int .i64 m8))))
    have K0 := KK.out w2 (Below.refl _ _)
    have KD := KK.out w2.drew (below_drew (Below.refl _ _))
    go_region_held3 (fun w9 => (w9.rangeAt w.heap.size 0 [.int .i64 m0, .int .i64 m1, .int .i64 m2, .int .i64 m3, .int .i64 m4, .int .i64 m5, .int .i64 m6, .int .i64 m7, .int .i64 m8]) ∧ (w9.cell? ⟨w.heap.size, 0, none⟩ = some (.int .i64 m0) ∧ w9.cell? ⟨w.heap.size, 1, none⟩ = some (.int .i64 m1) ∧ w9.cell? ⟨w.heap.size, 2, none⟩ = some (.int .i64 m2) ∧ w9.cell? ⟨w.heap.size, 3, none⟩ = some (.int .i64 m3) ∧ w9.cell? ⟨w.heap.size, 4, none⟩ = some (.int .i64 m4) ∧ w9.cell? ⟨w.heap.size, 5, none⟩ = some (.int .i64 m5) ∧ w9.cell? ⟨w.heap.size, 6, none⟩ = some (.int .i64 m6) ∧ w9.cell? ⟨w.heap.size, 7, none⟩ = some (.int .i64 m7) ∧ w9.cell? ⟨w.heap.size, 8, none⟩ = some (.int .i64 m8)))
        (first | with_reducible exact KD | with_reducible exact K0 | with_reducible exact K_w3 | with_reducible exact K_w4 | (refine KK.out _ ?_; repeat' (first | with_reducible exact Below.refl _ _ | with_reducible exact B_w3.out | with_reducible exact B_w4.out | with_reducible apply below_new | with_reducible apply below_drew | with_reducible apply below_set | omega)))
        (first
          | (go_at_call 90
             refine (C0.out _).mono ?_
             rintro e w3 ⟨ch, cl, rfl, hb, hc⟩
             have B_w3 := Lib.hid (reg_next (w0 := w2) (by repeat (first | with_reducible exact Below.refl _ _ | with_reducible apply below_drew | with_reducible apply below_new)) hb)
             have K_w3 := KK.out _ B_w3.out
             obtain ⟨hc_w3, hf_w3⟩ := below_reads hb
             have hz_w3 := hb.size
             try simp at hz_w3
             try (have z1_w3 := Nat.lt_of_succ_le hz_w3)
             try (have z2_w3 := Nat.lt_of_succ_lt z1_w3)
             have HB_w3 := Lib.hid hb
             clear hb)
          | (go_at_call 89
             refine (S0.out _ _ _ hc).mono ?_
             rintro e w4 ⟨ph, pl, ok, rfl, hb, hp⟩
             have B_w4 := Lib.hid (below_next (by repeat (first | with_reducible exact B_w3.out | with_reducible apply below_new | with_reducible apply below_drew)) hb)
             have K_w4 := KK.out _ B_w4.out
             obtain ⟨hc_w4, hf_w4⟩ := below_reads hb
             have hz_w4 := hb.size
             try simp at hz_w4
             try (have z1_w4 := Nat.lt_of_succ_le hz_w4)
             try (have z2_w4 := Nat.lt_of_succ_lt z1_w4)
             have HB_w4 := Lib.hid hb
             have y_w4_w3 := Nat.le_trans HB_w3.out.size (Nat.le_trans (by (try simp only [World.size_alloc]); omega) hb.size)
             try simp at y_w4_w3
             try (have z3_w4_w3 := Nat.lt_of_succ_le y_w4_w3)
             try (have z4_w4_w3 := Nat.lt_of_succ_lt z3_w4_w3)
             clear hb))
    all_goals clear KK K0 KD K_w3 K_w4
    all_goals replace hp := Lib.hid (hp.of_room (R.out.1.1))
    all_goals go_wp2_with fail
    all_goals go_meet
    all_goals refine ⟨_, _, _, rfl, ⟨?_, hp.out, ?_, ?_⟩⟩
    all_goals repeat' (first | with_reducible exact B_w3.out | with_reducible exact B_w4.out | with_reducible exact Below.refl _ _ | with_reducible apply below_new | with_reducible apply below_drew | (with_reducible refine below_set ?_ ?_ _) | (with_reducible refine AtB.set2 (a := .bool false) (b := .slice none 0 0) (T := 76) ?_ _ _) | (with_reducible refine AtB.set2 (a := .int .i64 0) (b := .int .u64 0) (T := 59) ?_ _ _) | (with_reducible refine AtB.far2 ?_ ?_ _ _) | (with_reducible refine BR.alloc ?_ _) | (with_reducible refine BR.far2 (a := .bool false) (b := .slice none 0 0) (T := 76) ?_ ?_ (by decide) _ _) | (with_reducible refine new_at_eq ?_ _ _; first | rfl | (simp; done)) | (with_reducible refine AtB.alloc ?_ _) | with_reducible apply AtB.drew | (with_reducible refine AtB.keep ?_ HB_w4.out) | (with_reducible refine AtB.keep ?_ HB_w3.out) | omega)
  obtain ⟨wc1, rfl⟩ : ∃ wo : World, wo = wc := ⟨_, rfl⟩
  obtain ⟨g_p0, ph, pl, rfl, hcut⟩ := hcut
  obtain ⟨r_p0, h_p0, hb, hge⟩ := hcut.out
  clear hcut
  replace r_p0 := Lib.hid r_p0; replace h_p0 := Lib.hid h_p0
  have d_p0 := Lib.hid (And.intro (Nat.le_trans BB.out.size hge) (And.intro (Nat.lt_of_lt_of_le r_m.out.lt hge) (And.intro (Nat.lt_of_lt_of_le r_res.out.lt hge) (And.intro (Nat.lt_of_lt_of_le r_sum.out.lt hge) (True.intro)))))
  replace r_m := Lib.hid (r_m.out.keep hb)
  replace r_res := Lib.hid (r_res.out.keep hb)
  replace r_sum := Lib.hid (r_sum.out.keep hb)
  replace BB := Lib.hid (below_next BB.out hb)
  clear hb hge
  obtain ⟨c_sum0, c_sum1, f_sum0, f_sum1⟩ := reads2 r_sum.out
  have l_sum := r_sum.out.lt
  obtain ⟨c_p00, c_p01, f_p00, f_p01⟩ := reads2 r_p0.out
  have l_p0 := r_p0.out.lt
  go_wp2_with fail
  refine (A0.out _ _ _ _ _ W128.zero h_p0.out).mono ?_
  rintro e w5 ⟨sh0, sl0, ok, rfl, hb, hs0⟩
  clear c_sum0 c_sum1 f_sum0 f_sum1 l_sum c_p00 c_p01 f_p00 f_p01 l_p0
  replace r_m := Lib.hid (r_m.out.keep hb)
  replace r_res := Lib.hid (r_res.out.keep hb)
  replace r_sum := Lib.hid (r_sum.out.keep hb)
  replace r_p0 := Lib.hid (r_p0.out.keep hb)
  replace BB := Lib.hid (below_next BB.out hb)
  clear hb
  have hs0 := Lib.hid (hs0.of_room (R.out.2.1))
  obtain ⟨c_sum0, c_sum1, f_sum0, f_sum1⟩ := reads2 r_sum.out
  have l_sum := r_sum.out.lt
  go_wp2_with fail
  clear c_sum0 c_sum1 f_sum0 f_sum1 l_sum
  replace r_m := Lib.hid (r_m.out.far2 (p := g_sum) (by have dd_sum := d_sum.out; omega) (.int .i64 sh0) (.int .u64 sl0))
  replace r_res := Lib.hid (r_res.out.far2 (p := g_sum) (by have dd_sum := d_sum.out; omega) (.int .i64 sh0) (.int .u64 sl0))
  replace r_sum := Lib.hid (r_sum.out.set2 (.int .i64 sh0) (.int .u64 sl0))
  replace r_p0 := Lib.hid (r_p0.out.far2 (p := g_sum) (by have dd_p0 := d_p0.out; have dd_sum := d_sum.out; omega) (.int .i64 sh0) (.int .u64 sl0))
  replace BB := Lib.hid (below_far2 BB.out (p := g_sum) (by have dd := d_sum.out; omega) (.int .i64 sh0) (.int .u64 sl0))
  generalize ((w5.setCell ⟨g_sum, 0, none⟩ (.int .i64 sh0)).setCell ⟨g_sum, 1, none⟩ (.int .u64 sl0)) = w6 at *
  clear r_p0
  rw [rounds_succ]
  go_wp2_with fail
  go_cut [6] (fun s5 wc2 => ∃ gp ph pl, s5 = .pointer (some ⟨gp, 0, none⟩) ∧ Hid (AtB wc2 gp #[.int .i64 ph, .int .u64 pl] WT5 ∧ (W128 P1 ph pl) ∧ Below w6.heap.size w6 wc2 ∧ w6.heap.size ≤ gp))
  case first =>
    have KM := Lib.hid (fun (w9 : World) (h9 : Below w6.heap.size w6 w9) => AtB.range (r_m.out.keep h9))
    have KK := Lib.hid (fun (w9 : World) (h : Below w6.heap.size w6 w9) => (⟨KM.out _ h, cells9 (r_m.out.keep h)⟩ : (w9.rangeAt w.heap.size 0 [.int .i64 m0, .int .i64 m1, .int .i64 m2, .int .i64 m3, .int .i64 m4, .int .i64 m5, .int .i64 m6, .int .i64 m7, .int .i64 m8]) ∧ (w9.cell? ⟨w.heap.size, 0, none⟩ = some (.int .i64 m0) ∧ w9.cell? ⟨w.heap.size, 1, none⟩ = some (.int .i64 m1) ∧ w9.cell? ⟨w.heap.size, 2, none⟩ = some (.int .i64 m2) ∧ w9.cell? ⟨w.heap.size, 3, none⟩ = some (.int .i64 m3) ∧ w9.cell? ⟨w.heap.size, 4, none⟩ = some (.int .i64 m4) ∧ w9.cell? ⟨w.heap.size, 5, none⟩ = some (.int .i64 m5) ∧ w9.cell? ⟨w.heap.size, 6, none⟩ = some (.int .i64 m6) ∧ w9.cell? ⟨w.heap.size, 7, none⟩ = some (.int .i64 m7) ∧ w9.cell? ⟨w.heap.size, 8, none⟩ = some (.int .i64 m8))))
    have K0 := KK.out w6 (Below.refl _ _)
    have KD := KK.out w6.drew (below_drew (Below.refl _ _))
    go_region_held3 (fun w9 => (w9.rangeAt w.heap.size 0 [.int .i64 m0, .int .i64 m1, .int .i64 m2, .int .i64 m3, .int .i64 m4, .int .i64 m5, .int .i64 m6, .int .i64 m7, .int .i64 m8]) ∧ (w9.cell? ⟨w.heap.size, 0, none⟩ = some (.int .i64 m0) ∧ w9.cell? ⟨w.heap.size, 1, none⟩ = some (.int .i64 m1) ∧ w9.cell? ⟨w.heap.size, 2, none⟩ = some (.int .i64 m2) ∧ w9.cell? ⟨w.heap.size, 3, none⟩ = some (.int .i64 m3) ∧ w9.cell? ⟨w.heap.size, 4, none⟩ = some (.int .i64 m4) ∧ w9.cell? ⟨w.heap.size, 5, none⟩ = some (.int .i64 m5) ∧ w9.cell? ⟨w.heap.size, 6, none⟩ = some (.int .i64 m6) ∧ w9.cell? ⟨w.heap.size, 7, none⟩ = some (.int .i64 m7) ∧ w9.cell? ⟨w.heap.size, 8, none⟩ = some (.int .i64 m8)))
        (first | with_reducible exact KD | with_reducible exact K0 | with_reducible exact K_w7 | with_reducible exact K_w8 | (refine KK.out _ ?_; repeat' (first | with_reducible exact Below.refl _ _ | with_reducible exact B_w7.out | with_reducible exact B_w8.out | with_reducible apply below_new | with_reducible apply below_drew | with_reducible apply below_set | omega)))
        (first
          | (go_at_call 90
             refine (C1.out _).mono ?_
             rintro e w7 ⟨ch, cl, rfl, hb, hc⟩
             have B_w7 := Lib.hid (reg_next (w0 := w6) (by repeat (first | with_reducible exact Below.refl _ _ | with_reducible apply below_drew | with_reducible apply below_new)) hb)
             have K_w7 := KK.out _ B_w7.out
             obtain ⟨hc_w7, hf_w7⟩ := below_reads hb
             have hz_w7 := hb.size
             try simp at hz_w7
             try (have z1_w7 := Nat.lt_of_succ_le hz_w7)
             try (have z2_w7 := Nat.lt_of_succ_lt z1_w7)
             have HB_w7 := Lib.hid hb
             clear hb)
          | (go_at_call 89
             refine (S1.out _ _ _ hc).mono ?_
             rintro e w8 ⟨ph, pl, ok, rfl, hb, hp⟩
             have B_w8 := Lib.hid (below_next (by repeat (first | with_reducible exact B_w7.out | with_reducible apply below_new | with_reducible apply below_drew)) hb)
             have K_w8 := KK.out _ B_w8.out
             obtain ⟨hc_w8, hf_w8⟩ := below_reads hb
             have hz_w8 := hb.size
             try simp at hz_w8
             try (have z1_w8 := Nat.lt_of_succ_le hz_w8)
             try (have z2_w8 := Nat.lt_of_succ_lt z1_w8)
             have HB_w8 := Lib.hid hb
             have y_w8_w7 := Nat.le_trans HB_w7.out.size (Nat.le_trans (by (try simp only [World.size_alloc]); omega) hb.size)
             try simp at y_w8_w7
             try (have z3_w8_w7 := Nat.lt_of_succ_le y_w8_w7)
             try (have z4_w8_w7 := Nat.lt_of_succ_lt z3_w8_w7)
             clear hb))
    all_goals clear KK K0 KD K_w7 K_w8
    all_goals replace hp := Lib.hid (hp.of_room (R.out.1.2.1))
    all_goals go_wp2_with fail
    all_goals go_meet
    all_goals refine ⟨_, _, _, rfl, ⟨?_, hp.out, ?_, ?_⟩⟩
    all_goals repeat' (first | with_reducible exact B_w7.out | with_reducible exact B_w8.out | with_reducible exact Below.refl _ _ | with_reducible apply below_new | with_reducible apply below_drew | (with_reducible refine below_set ?_ ?_ _) | (with_reducible refine AtB.set2 (a := .bool false) (b := .slice none 0 0) (T := 76) ?_ _ _) | (with_reducible refine AtB.set2 (a := .int .i64 0) (b := .int .u64 0) (T := 59) ?_ _ _) | (with_reducible refine AtB.far2 ?_ ?_ _ _) | (with_reducible refine BR.alloc ?_ _) | (with_reducible refine BR.far2 (a := .bool false) (b := .slice none 0 0) (T := 76) ?_ ?_ (by decide) _ _) | (with_reducible refine new_at_eq ?_ _ _; first | rfl | (simp; done)) | (with_reducible refine AtB.alloc ?_ _) | with_reducible apply AtB.drew | (with_reducible refine AtB.keep ?_ HB_w8.out) | (with_reducible refine AtB.keep ?_ HB_w7.out) | omega)
  obtain ⟨wc2, rfl⟩ : ∃ wo : World, wo = wc := ⟨_, rfl⟩
  obtain ⟨g_p1, ph, pl, rfl, hcut⟩ := hcut
  obtain ⟨r_p1, h_p1, hb, hge⟩ := hcut.out
  clear hcut
  replace r_p1 := Lib.hid r_p1; replace h_p1 := Lib.hid h_p1
  have d_p1 := Lib.hid (And.intro (Nat.le_trans BB.out.size hge) (And.intro (Nat.lt_of_lt_of_le r_m.out.lt hge) (And.intro (Nat.lt_of_lt_of_le r_res.out.lt hge) (And.intro (Nat.lt_of_lt_of_le r_sum.out.lt hge) (True.intro)))))
  replace r_m := Lib.hid (r_m.out.keep hb)
  replace r_res := Lib.hid (r_res.out.keep hb)
  replace r_sum := Lib.hid (r_sum.out.keep hb)
  replace BB := Lib.hid (below_next BB.out hb)
  clear hb hge
  obtain ⟨c_sum0, c_sum1, f_sum0, f_sum1⟩ := reads2 r_sum.out
  have l_sum := r_sum.out.lt
  obtain ⟨c_p10, c_p11, f_p10, f_p11⟩ := reads2 r_p1.out
  have l_p1 := r_p1.out.lt
  go_wp2_with fail
  refine (A1.out _ _ _ _ _ hs0.out h_p1.out).mono ?_
  rintro e w10 ⟨sh1, sl1, ok, rfl, hb, hs1⟩
  clear c_sum0 c_sum1 f_sum0 f_sum1 l_sum c_p10 c_p11 f_p10 f_p11 l_p1
  replace r_m := Lib.hid (r_m.out.keep hb)
  replace r_res := Lib.hid (r_res.out.keep hb)
  replace r_sum := Lib.hid (r_sum.out.keep hb)
  replace r_p1 := Lib.hid (r_p1.out.keep hb)
  replace BB := Lib.hid (below_next BB.out hb)
  clear hb
  have hs1 := Lib.hid (hs1.of_room (R.out.2.2.1))
  obtain ⟨c_sum0, c_sum1, f_sum0, f_sum1⟩ := reads2 r_sum.out
  have l_sum := r_sum.out.lt
  go_wp2_with fail
  clear c_sum0 c_sum1 f_sum0 f_sum1 l_sum
  replace r_m := Lib.hid (r_m.out.far2 (p := g_sum) (by have dd_sum := d_sum.out; omega) (.int .i64 sh1) (.int .u64 sl1))
  replace r_res := Lib.hid (r_res.out.far2 (p := g_sum) (by have dd_sum := d_sum.out; omega) (.int .i64 sh1) (.int .u64 sl1))
  replace r_sum := Lib.hid (r_sum.out.set2 (.int .i64 sh1) (.int .u64 sl1))
  replace r_p1 := Lib.hid (r_p1.out.far2 (p := g_sum) (by have dd_p1 := d_p1.out; have dd_sum := d_sum.out; omega) (.int .i64 sh1) (.int .u64 sl1))
  replace BB := Lib.hid (below_far2 BB.out (p := g_sum) (by have dd := d_sum.out; omega) (.int .i64 sh1) (.int .u64 sl1))
  generalize ((w10.setCell ⟨g_sum, 0, none⟩ (.int .i64 sh1)).setCell ⟨g_sum, 1, none⟩ (.int .u64 sl1)) = w11 at *
  clear r_p1
  rw [rounds_succ]
  go_wp2_with fail
  go_cut [6] (fun s5 wc3 => ∃ gp ph pl, s5 = .pointer (some ⟨gp, 0, none⟩) ∧ Hid (AtB wc3 gp #[.int .i64 ph, .int .u64 pl] WT5 ∧ (W128 P2 ph pl) ∧ Below w11.heap.size w11 wc3 ∧ w11.heap.size ≤ gp))
  case first =>
    have KM := Lib.hid (fun (w9 : World) (h9 : Below w11.heap.size w11 w9) => AtB.range (r_m.out.keep h9))
    have KK := Lib.hid (fun (w9 : World) (h : Below w11.heap.size w11 w9) => (⟨KM.out _ h, cells9 (r_m.out.keep h)⟩ : (w9.rangeAt w.heap.size 0 [.int .i64 m0, .int .i64 m1, .int .i64 m2, .int .i64 m3, .int .i64 m4, .int .i64 m5, .int .i64 m6, .int .i64 m7, .int .i64 m8]) ∧ (w9.cell? ⟨w.heap.size, 0, none⟩ = some (.int .i64 m0) ∧ w9.cell? ⟨w.heap.size, 1, none⟩ = some (.int .i64 m1) ∧ w9.cell? ⟨w.heap.size, 2, none⟩ = some (.int .i64 m2) ∧ w9.cell? ⟨w.heap.size, 3, none⟩ = some (.int .i64 m3) ∧ w9.cell? ⟨w.heap.size, 4, none⟩ = some (.int .i64 m4) ∧ w9.cell? ⟨w.heap.size, 5, none⟩ = some (.int .i64 m5) ∧ w9.cell? ⟨w.heap.size, 6, none⟩ = some (.int .i64 m6) ∧ w9.cell? ⟨w.heap.size, 7, none⟩ = some (.int .i64 m7) ∧ w9.cell? ⟨w.heap.size, 8, none⟩ = some (.int .i64 m8))))
    have K0 := KK.out w11 (Below.refl _ _)
    have KD := KK.out w11.drew (below_drew (Below.refl _ _))
    go_region_held3 (fun w9 => (w9.rangeAt w.heap.size 0 [.int .i64 m0, .int .i64 m1, .int .i64 m2, .int .i64 m3, .int .i64 m4, .int .i64 m5, .int .i64 m6, .int .i64 m7, .int .i64 m8]) ∧ (w9.cell? ⟨w.heap.size, 0, none⟩ = some (.int .i64 m0) ∧ w9.cell? ⟨w.heap.size, 1, none⟩ = some (.int .i64 m1) ∧ w9.cell? ⟨w.heap.size, 2, none⟩ = some (.int .i64 m2) ∧ w9.cell? ⟨w.heap.size, 3, none⟩ = some (.int .i64 m3) ∧ w9.cell? ⟨w.heap.size, 4, none⟩ = some (.int .i64 m4) ∧ w9.cell? ⟨w.heap.size, 5, none⟩ = some (.int .i64 m5) ∧ w9.cell? ⟨w.heap.size, 6, none⟩ = some (.int .i64 m6) ∧ w9.cell? ⟨w.heap.size, 7, none⟩ = some (.int .i64 m7) ∧ w9.cell? ⟨w.heap.size, 8, none⟩ = some (.int .i64 m8)))
        (first | with_reducible exact KD | with_reducible exact K0 | with_reducible exact K_w12 | with_reducible exact K_w13 | (refine KK.out _ ?_; repeat' (first | with_reducible exact Below.refl _ _ | with_reducible exact B_w12.out | with_reducible exact B_w13.out | with_reducible apply below_new | with_reducible apply below_drew | with_reducible apply below_set | omega)))
        (first
          | (go_at_call 90
             refine (C2.out _).mono ?_
             rintro e w12 ⟨ch, cl, rfl, hb, hc⟩
             have B_w12 := Lib.hid (reg_next (w0 := w11) (by repeat (first | with_reducible exact Below.refl _ _ | with_reducible apply below_drew | with_reducible apply below_new)) hb)
             have K_w12 := KK.out _ B_w12.out
             obtain ⟨hc_w12, hf_w12⟩ := below_reads hb
             have hz_w12 := hb.size
             try simp at hz_w12
             try (have z1_w12 := Nat.lt_of_succ_le hz_w12)
             try (have z2_w12 := Nat.lt_of_succ_lt z1_w12)
             have HB_w12 := Lib.hid hb
             clear hb)
          | (go_at_call 89
             refine (S2.out _ _ _ hc).mono ?_
             rintro e w13 ⟨ph, pl, ok, rfl, hb, hp⟩
             have B_w13 := Lib.hid (below_next (by repeat (first | with_reducible exact B_w12.out | with_reducible apply below_new | with_reducible apply below_drew)) hb)
             have K_w13 := KK.out _ B_w13.out
             obtain ⟨hc_w13, hf_w13⟩ := below_reads hb
             have hz_w13 := hb.size
             try simp at hz_w13
             try (have z1_w13 := Nat.lt_of_succ_le hz_w13)
             try (have z2_w13 := Nat.lt_of_succ_lt z1_w13)
             have HB_w13 := Lib.hid hb
             have y_w13_w12 := Nat.le_trans HB_w12.out.size (Nat.le_trans (by (try simp only [World.size_alloc]); omega) hb.size)
             try simp at y_w13_w12
             try (have z3_w13_w12 := Nat.lt_of_succ_le y_w13_w12)
             try (have z4_w13_w12 := Nat.lt_of_succ_lt z3_w13_w12)
             clear hb))
    all_goals clear KK K0 KD K_w12 K_w13
    all_goals replace hp := Lib.hid (hp.of_room (R.out.1.2.2))
    all_goals go_wp2_with fail
    all_goals go_meet
    all_goals refine ⟨_, _, _, rfl, ⟨?_, hp.out, ?_, ?_⟩⟩
    all_goals repeat' (first | with_reducible exact B_w12.out | with_reducible exact B_w13.out | with_reducible exact Below.refl _ _ | with_reducible apply below_new | with_reducible apply below_drew | (with_reducible refine below_set ?_ ?_ _) | (with_reducible refine AtB.set2 (a := .bool false) (b := .slice none 0 0) (T := 76) ?_ _ _) | (with_reducible refine AtB.set2 (a := .int .i64 0) (b := .int .u64 0) (T := 59) ?_ _ _) | (with_reducible refine AtB.far2 ?_ ?_ _ _) | (with_reducible refine BR.alloc ?_ _) | (with_reducible refine BR.far2 (a := .bool false) (b := .slice none 0 0) (T := 76) ?_ ?_ (by decide) _ _) | (with_reducible refine new_at_eq ?_ _ _; first | rfl | (simp; done)) | (with_reducible refine AtB.alloc ?_ _) | with_reducible apply AtB.drew | (with_reducible refine AtB.keep ?_ HB_w13.out) | (with_reducible refine AtB.keep ?_ HB_w12.out) | omega)
  obtain ⟨wc3, rfl⟩ : ∃ wo : World, wo = wc := ⟨_, rfl⟩
  obtain ⟨g_p2, ph, pl, rfl, hcut⟩ := hcut
  obtain ⟨r_p2, h_p2, hb, hge⟩ := hcut.out
  clear hcut
  replace r_p2 := Lib.hid r_p2; replace h_p2 := Lib.hid h_p2
  have d_p2 := Lib.hid (And.intro (Nat.le_trans BB.out.size hge) (And.intro (Nat.lt_of_lt_of_le r_m.out.lt hge) (And.intro (Nat.lt_of_lt_of_le r_res.out.lt hge) (And.intro (Nat.lt_of_lt_of_le r_sum.out.lt hge) (True.intro)))))
  replace r_m := Lib.hid (r_m.out.keep hb)
  replace r_res := Lib.hid (r_res.out.keep hb)
  replace r_sum := Lib.hid (r_sum.out.keep hb)
  replace BB := Lib.hid (below_next BB.out hb)
  clear hb hge
  obtain ⟨c_sum0, c_sum1, f_sum0, f_sum1⟩ := reads2 r_sum.out
  have l_sum := r_sum.out.lt
  obtain ⟨c_p20, c_p21, f_p20, f_p21⟩ := reads2 r_p2.out
  have l_p2 := r_p2.out.lt
  go_wp2_with fail
  refine (A2.out _ _ _ _ _ hs1.out h_p2.out).mono ?_
  rintro e w14 ⟨sh2, sl2, ok, rfl, hb, hs2⟩
  clear c_sum0 c_sum1 f_sum0 f_sum1 l_sum c_p20 c_p21 f_p20 f_p21 l_p2
  replace r_m := Lib.hid (r_m.out.keep hb)
  replace r_res := Lib.hid (r_res.out.keep hb)
  replace r_sum := Lib.hid (r_sum.out.keep hb)
  replace r_p2 := Lib.hid (r_p2.out.keep hb)
  replace BB := Lib.hid (below_next BB.out hb)
  clear hb
  have hs2 := Lib.hid (hs2.of_room (R.out.2.2.2))
  obtain ⟨c_sum0, c_sum1, f_sum0, f_sum1⟩ := reads2 r_sum.out
  have l_sum := r_sum.out.lt
  go_wp2_with fail
  clear c_sum0 c_sum1 f_sum0 f_sum1 l_sum
  replace r_m := Lib.hid (r_m.out.far2 (p := g_sum) (by have dd_sum := d_sum.out; omega) (.int .i64 sh2) (.int .u64 sl2))
  replace r_res := Lib.hid (r_res.out.far2 (p := g_sum) (by have dd_sum := d_sum.out; omega) (.int .i64 sh2) (.int .u64 sl2))
  replace r_sum := Lib.hid (r_sum.out.set2 (.int .i64 sh2) (.int .u64 sl2))
  replace r_p2 := Lib.hid (r_p2.out.far2 (p := g_sum) (by have dd_p2 := d_p2.out; have dd_sum := d_sum.out; omega) (.int .i64 sh2) (.int .u64 sl2))
  replace BB := Lib.hid (below_far2 BB.out (p := g_sum) (by have dd := d_sum.out; omega) (.int .i64 sh2) (.int .u64 sl2))
  generalize ((w14.setCell ⟨g_sum, 0, none⟩ (.int .i64 sh2)).setCell ⟨g_sum, 1, none⟩ (.int .u64 sl2)) = w15 at *
  clear r_p2
  rw [rounds_succ]
  obtain ⟨c_sum0, c_sum1, f_sum0, f_sum1⟩ := reads2 r_sum.out
  have l_sum := r_sum.out.lt
  obtain ⟨c_res0, c_res1, f_res0, f_res1⟩ := reads2 r_res.out
  have l_res := r_res.out.lt
  go_wp2_with fail
  refine bodyPost_ret (v := .tuple #[wv sh2 sl2, .int .i64 0]) (by unfold results; simp only [Try.results30]; go_simp) rfl ?_
  exact ⟨_, _, rfl, below_set2 BB.out (by omega) _ _, hs2.out⟩
end Go.Proofs.Ythoakbjnofhpbaa
