/- Walk of the law WideTells. -/
import Derived.Test.YtalihekeipbafaaAlive1
import Derived.Test.YtalihekeipbafaaTold
import Derived.Test.YtalihekeipbafaaWFits
import Derived.Test.YtalihekeipbafaaRText
import Derived.Test.YtalihekeipbafaaWText
import Derived.Deep.DeepCutAuto
set_option linter.unusedVariables false
set_option linter.unusedSimpArgs false
namespace Go.Proofs.Ytalihekeipbafaa
open Go.RowKit

set_option maxHeartbeats 20000000 in
set_option maxRecDepth 100000 in
theorem wideTells_any (ah al bh bl : Int) (a1 : I64 ah) (a2 : U64 al) (b1 : I64 bh) (b2 : U64 bl) (w : World) :
    Calls Try.prog 5 #[wv ah al, wv bh bl] w fun e w' => e = .returned (.bool true) ∧ Below w.heap.size w w' := by
  obtain ⟨a, ha⟩ : ∃ a, W128 a ah al := ⟨_, a1, a2, rfl⟩
  obtain ⟨b, hb⟩ : ∃ b, W128 b bh bl := ⟨_, b1, b2, rfl⟩
  have wa := i128_wd ha.room
  have wb := i128_wd hb.room
  have z0 : I64 0 := ⟨by omega, by omega⟩
  have CA := Lib.hid (fun w => lbig_any a ah al ha w)
  have CB := Lib.hid (fun w => lbig_any b bh bl hb w)
  have CF := Lib.hid (fun w => wfits a ah al ha w)
  have CG := Lib.hid (fun (u : Value) w1 (hu : BR w1 u a) => rfits_any u a 63 (by omega) w1 hu (wa.up (by omega)))
  have CZ := Lib.hid (fun w => of_any 0 z0 w)
  have CC := Lib.hid (fun (u v : Value) w1 (hu : BR w1 u a) (hv : BR w1 v b) => cmp_any u v a b w1 hu hv (wa.mid (by omega)) (wb.mid (by omega)))
  have CN := Lib.hid (fun (u v : Value) w1 (hu : BR w1 u a) (hv : BR w1 v 0) => cmp_any u v a 0 w1 hu hv (wa.mid (by omega)) (i64_mid' z0))
  have CW := Lib.hid (fun w => wcmp a b ah al bh bl ha hb w)
  have CS := Lib.hid (fun w => wsign a ah al ha w)
  have CT := Lib.hid (fun w => wtext_any a ah al ha w)
  have CU := Lib.hid (fun (u : Value) w1 (hu : BR w1 u a) => rtext_any u a w1 hu wa)
  have CL := Lib.hid (fun w => alive1_any w)
  have CO := Lib.hid (fun (h : fitsB a 63 = true) w => of_any a (fits_63.1 h) w)
  have CK := Lib.hid (fun (u v : Value) w1 (hu : BR w1 u a) (hv : BR w1 v a) => (cmpI_zero.2 rfl ▸ cmp_any u v a a w1 hu hv (wa.mid (by omega)) (wa.mid (by omega)) : Calls _ _ _ _ fun e w' => e = .returned (.int .i64 0) ∧ Below w1.heap.size w1 w'))
  clear wa wb ha hb a1 a2 b1 b2 z0
  have HX : Hid (fitX a = if fitsB a 63 then a else 0) := rfl
  generalize fitX a = xf at *
  generalize fitsB a 63 = is at *
  generalize cmpI a b = c1 at *
  generalize cmpI a 0 = c2 at *
  generalize txt a = ta at *
  go_enter Try.func5, Try.ntmps5
  go_upto_region 1 with fail
  have BB := start2 w #[.int .i64 ah, .int .u64 al] 24 #[.int .i64 bh, .int .u64 bl] 24
  obtain ⟨BB, hsz, r_a, r_b⟩ := BB
  generalize ((w.alloc (.cells #[.int .i64 ah, .int .u64 al] 24)).alloc (.cells #[.int .i64 bh, .int .u64 bl] 24)) = w0 at *
  replace BB := Lib.hid BB
  replace r_a := Lib.hid r_a
  replace r_b := Lib.hid r_b
  clear hsz
  go_cut [5, 6] (fun s7 s8 wc => ∃ gp gq A1 n1 c1 A2 n2 c2, s7 = .pointer (some ⟨gp, 0, none⟩) ∧ s8 = .pointer (some ⟨gq, 0, none⟩) ∧
    Hid (AtB wc gp #[.bool (sgn a), .slice A1 n1 c1] 27 ∧ AtB wc gq #[.bool (sgn b), .slice A2 n2 c2] 27 ∧ BR wc (.agg #[.bool (sgn a), .slice A1 n1 c1]) a ∧ BR wc (.agg #[.bool (sgn b), .slice A2 n2 c2]) b ∧ Below w0.heap.size w0 wc))
  case first =>
    clear CF CG CO CC CN CS CZ CT CU CL CK
    have KK := Lib.hid (fun (w9 : World) (h : Below w0.heap.size w0 w9) => (⟨cells2 (r_a.out.keep h), cells2 (r_b.out.keep h)⟩ : (w9.cell? ⟨w.heap.size, 0, none⟩ = some (.int .i64 ah) ∧ w9.cell? ⟨w.heap.size, 1, none⟩ = some (.int .u64 al)) ∧ (w9.cell? ⟨w.heap.size + 1, 0, none⟩ = some (.int .i64 bh) ∧ w9.cell? ⟨w.heap.size + 1, 1, none⟩ = some (.int .u64 bl))))
    have K0 := KK.out w0 (Below.refl _ _)
    have KD := KK.out w0.drew (below_drew (Below.refl _ _))
    have tok0 : Hid True := trivial
    have tok1 : Hid True := trivial
    go_region_held3 (fun w9 => (w9.cell? ⟨w.heap.size, 0, none⟩ = some (.int .i64 ah) ∧ w9.cell? ⟨w.heap.size, 1, none⟩ = some (.int .u64 al)) ∧ (w9.cell? ⟨w.heap.size + 1, 0, none⟩ = some (.int .i64 bh) ∧ w9.cell? ⟨w.heap.size + 1, 1, none⟩ = some (.int .u64 bl)))
        (first | with_reducible exact KD | with_reducible exact K0 | with_reducible exact K_w1 | with_reducible exact K_w2 | (refine KK.out _ ?_; repeat' (first | with_reducible exact Below.refl _ _ | with_reducible exact B_w1.out | with_reducible exact B_w2.out | with_reducible apply below_new | with_reducible apply below_drew | with_reducible apply below_set | omega)))
        (first
          | (go_at_call 15
             have t_k := tok0
             refine (CA.out _).mono ?_
             rintro e w1 ⟨v_p, rfl, hb, h_p⟩
             obtain ⟨A_p, n_p, cap_p, rfl, -⟩ := id h_p.form
             replace h_p := Lib.hid h_p
             have B_w1 := Lib.hid (reg_next (w0 := w0) (by repeat (first | with_reducible exact Below.refl _ _ | with_reducible apply below_drew | with_reducible apply below_new)) hb)
             have K_w1 := KK.out _ B_w1.out
             obtain ⟨hc_w1, hf_w1⟩ := below_reads hb
             have hz_w1 := hb.size
             try simp at hz_w1
             try (have z1_w1 := Nat.lt_of_succ_le hz_w1)
             try (have z2_w1 := Nat.lt_of_succ_lt z1_w1)
             have HB_w1 := Lib.hid hb
             clear hb
             clear t_k tok0)
          | (go_at_call 15
             have t_k := tok1
             refine (CB.out _).mono ?_
             rintro e w2 ⟨v_q, rfl, hb, h_q⟩
             obtain ⟨A_q, n_q, cap_q, rfl, -⟩ := id h_q.form
             replace h_q := Lib.hid h_q
             replace h_p := Lib.hid (h_p.out.below (below_next (by repeat (first | with_reducible exact Below.refl _ _ | with_reducible apply below_new | with_reducible apply below_drew)) hb))
             have B_w2 := Lib.hid (below_next (by repeat (first | with_reducible exact B_w1.out | with_reducible apply below_new | with_reducible apply below_drew)) hb)
             have K_w2 := KK.out _ B_w2.out
             obtain ⟨hc_w2, hf_w2⟩ := below_reads hb
             have hz_w2 := hb.size
             try simp at hz_w2
             try (have z1_w2 := Nat.lt_of_succ_le hz_w2)
             try (have z2_w2 := Nat.lt_of_succ_lt z1_w2)
             have HB_w2 := Lib.hid hb
             have y_w2_w1 := Nat.le_trans HB_w1.out.size (Nat.le_trans (by (try simp only [World.size_alloc]); omega) hb.size)
             try simp at y_w2_w1
             try (have z3_w2_w1 := Nat.lt_of_succ_le y_w2_w1)
             try (have z4_w2_w1 := Nat.lt_of_succ_lt z3_w2_w1)
             clear hb
             clear t_k tok1))
    all_goals clear KK K0 KD K_w1 K_w2
    all_goals go_wp2_with fail
    all_goals go_meet
    all_goals refine ⟨_, _, A_p, n_p, cap_p, A_q, n_q, cap_q, rfl, rfl, ⟨?_, ?_, ?_, ?_, ?_⟩⟩
    all_goals repeat' (first | with_reducible exact h_p.out | with_reducible exact h_q.out | with_reducible exact B_w2.out | with_reducible exact B_w1.out | with_reducible exact Below.refl _ _ | with_reducible apply below_new | with_reducible apply below_drew | (with_reducible refine below_set ?_ ?_ _) | (with_reducible refine AtB.set2 (a := .bool false) (b := .slice none 0 0) ?_ _ _) | (with_reducible refine AtB.far2 ?_ ?_ _ _) | (with_reducible refine BR.alloc ?_ _) | (with_reducible refine BR.far2 (a := .bool false) (b := .slice none 0 0) (T := 27) ?_ ?_ (by decide) _ _) | (with_reducible refine new_at_eq ?_ _ _; first | rfl | (simp; done)) | (with_reducible refine AtB.alloc ?_ _) | with_reducible apply AtB.drew | (with_reducible refine AtB.keep ?_ HB_w2.out) | (with_reducible refine AtB.keep ?_ HB_w1.out) | omega)
  case rest =>
    obtain ⟨gp, gq, A1, n1, c1, A2, n2, c2, rfl, rfl, hcut⟩ := hcut
    obtain ⟨r_p, r_q, h_p, h_q, hb⟩ := hcut.out
    clear hcut
    replace r_p := Lib.hid r_p; replace r_q := Lib.hid r_q; replace h_p := Lib.hid h_p; replace h_q := Lib.hid h_q
    replace r_a := Lib.hid (r_a.out.keep hb); replace r_b := Lib.hid (r_b.out.keep hb); replace BB := Lib.hid (below_next BB.out hb)
    clear hb CA CB
    obtain ⟨c_a0, c_a1, f_a0, f_a1⟩ := reads2 r_a.out
    have l_a := r_a.out.lt
    go_wp2_with fail
    refine (CF.out _).mono ?_
    rintro e w3 ⟨rfl, hb⟩
    clear c_a0 c_a1 f_a0 f_a1 l_a
    replace r_a := Lib.hid (r_a.out.keep hb)
    replace r_b := Lib.hid (r_b.out.keep hb)
    replace r_p := Lib.hid (r_p.out.keep hb)
    replace r_q := Lib.hid (r_q.out.keep hb)
    replace h_p := Lib.hid (h_p.out.below hb)
    replace h_q := Lib.hid (h_q.out.below hb)
    replace BB := Lib.hid (below_next BB.out hb)
    clear hb
    go_wp2_with fail
    have hX := HX.out
    cases is
    · skip
      obtain rfl : xf = 0 := hX
      clear HX
      have KK := Lib.hid (fun (w9 : World) (h : Below w3.heap.size w3 w9) => (cells2 (r_p.out.keep h) : (w9.cell? ⟨gp, 0, none⟩ = some (.bool (sgn a)) ∧ w9.cell? ⟨gp, 1, none⟩ = some (.slice A1 n1 c1))))
      have K0 := KK.out w3 (Below.refl _ _)
      have KD := KK.out w3.drew (below_drew (Below.refl _ _))
      refine wp_region_held_drew (S := (fun w9 => (w9.cell? ⟨gp, 0, none⟩ = some (.bool (sgn a)) ∧ w9.cell? ⟨gp, 1, none⟩ = some (.slice A1 n1 c1)))) (by kernel_rfl) KD (fun hHeld => ?_)
      refine wpAnyH_take (i := 0) (v := ?_) rfl (by kernel_rfl) (by kernel_rfl) (by kernel_rfl) (fun _ _ _ h => h) (Or.inl ⟨by rfl, ?_⟩) (by assumption) ?_
      rotate_left
      · intro w9 hSw; (try dsimp only at hSw); go_simp <;> with_reducible rfl
      try simp only [Act.put, List.getElem_toArray, List.getElem_cons_zero, List.getElem_cons_succ, List.setIfInBounds_toArray, List.set_cons_zero, List.set_cons_succ]
      refine wpAnyH_take (i := 1) (v := ?_) rfl (by kernel_rfl) (by kernel_rfl) (by kernel_rfl) (fun _ _ _ h => h) (Or.inl ⟨by rfl, ?_⟩) (by assumption) ?_
      rotate_left
      · intro w9 hSw; (try dsimp only at hSw); go_simp <;> with_reducible rfl
      try simp only [Act.put, List.getElem_toArray, List.getElem_cons_zero, List.getElem_cons_succ, List.setIfInBounds_toArray, List.set_cons_zero, List.set_cons_succ]
      refine wpAnyH_ready (rs := [2]) (by kernel_rfl) (by simp) ?_
      refine AllReadyH.cons rfl (fun K hK => ?_) AllReadyH.nil
      go_simp
      go_at_call 30
      refine (CG.out _ _ (h_p.out.below ?_)).mono ?_
      · repeat (first | with_reducible exact Below.refl _ _ | with_reducible apply below_drew | with_reducible apply below_new)
      rintro e w4 ⟨rfl, hb⟩
      have B_w4 := Lib.hid (reg_next (w0 := w3) (by repeat (first | with_reducible exact Below.refl _ _ | with_reducible apply below_drew | with_reducible apply below_new)) hb)
      have K_w4 := KK.out _ B_w4.out
      clear hb
      refine hK.out _ _ K_w4 (fun hHeld => ?_)
      clear hK
      try simp only [Act.put, List.getElem_toArray, List.getElem_cons_zero, List.getElem_cons_succ, List.setIfInBounds_toArray, List.set_cons_zero, List.set_cons_succ]
      refine wpAnyH_take (i := 3) (v := ?_) rfl (by kernel_rfl) (by kernel_rfl) (by kernel_rfl) (fun _ _ _ h => h) (Or.inl ⟨by rfl, ?_⟩) (by assumption) ?_
      rotate_left
      · intro w9 hSw; (try dsimp only at hSw); go_simp <;> with_reducible rfl
      try simp only [Act.put, List.getElem_toArray, List.getElem_cons_zero, List.getElem_cons_succ, List.setIfInBounds_toArray, List.set_cons_zero, List.set_cons_succ]
      refine wpAnyH_take (i := 4) (v := ?_) rfl (by kernel_rfl) (by kernel_rfl) (by kernel_rfl) (fun _ _ _ h => h) (Or.inl ⟨by rfl, ?_⟩) (by assumption) ?_
      rotate_left
      · intro w9 hSw; (try dsimp only at hSw); go_simp <;> with_reducible rfl
      try simp only [Act.put, List.getElem_toArray, List.getElem_cons_zero, List.getElem_cons_succ, List.setIfInBounds_toArray, List.set_cons_zero, List.set_cons_succ]
      refine wpAnyH_take (i := 5) (v := ?_) rfl (by kernel_rfl) (by kernel_rfl) (by kernel_rfl) (fun _ _ _ h => h) (Or.inl ⟨by rfl, ?_⟩) (by assumption) ?_
      rotate_left
      · intro w9 hSw; (try dsimp only at hSw); go_simp <;> with_reducible rfl
      try simp only [Act.put, List.getElem_toArray, List.getElem_cons_zero, List.getElem_cons_succ, List.setIfInBounds_toArray, List.set_cons_zero, List.set_cons_succ]
      refine wpAnyH_take (i := 6) (v := ?_) rfl (by kernel_rfl) (by kernel_rfl) (by kernel_rfl) (fun _ _ _ h => h) (Or.inl ⟨by rfl, ?_⟩) (by assumption) ?_
      rotate_left
      · intro w9 hSw; (try dsimp only at hSw); go_simp <;> with_reducible rfl
      try simp only [Act.put, List.getElem_toArray, List.getElem_cons_zero, List.getElem_cons_succ, List.setIfInBounds_toArray, List.set_cons_zero, List.set_cons_succ]
      refine wpAnyH_take (i := 7) (v := ?_) rfl (by kernel_rfl) (by kernel_rfl) (by kernel_rfl) (fun _ _ _ h => h) (Or.inl ⟨by rfl, ?_⟩) (by assumption) ?_
      rotate_left
      · intro w9 hSw; (try dsimp only at hSw); go_simp <;> with_reducible rfl
      try simp only [Act.put, List.getElem_toArray, List.getElem_cons_zero, List.getElem_cons_succ, List.setIfInBounds_toArray, List.set_cons_zero, List.set_cons_succ]
      refine wpAnyH_take (i := 8) (v := ?_) rfl (by kernel_rfl) (by kernel_rfl) (by kernel_rfl) (fun _ _ _ h => h) (Or.inl ⟨by rfl, ?_⟩) (by assumption) ?_
      rotate_left
      · intro w9 hSw; (try dsimp only at hSw); go_simp <;> with_reducible rfl
      try simp only [Act.put, List.getElem_toArray, List.getElem_cons_zero, List.getElem_cons_succ, List.setIfInBounds_toArray, List.set_cons_zero, List.set_cons_succ]
      refine wpAnyH_take (i := 9) (v := ?_) rfl (by kernel_rfl) (by kernel_rfl) (by kernel_rfl) (fun _ _ _ h => h) (Or.inl ⟨by rfl, ?_⟩) (by assumption) ?_
      rotate_left
      · intro w9 hSw; (try dsimp only at hSw); go_simp <;> with_reducible rfl
      try simp only [Act.put, List.getElem_toArray, List.getElem_cons_zero, List.getElem_cons_succ, List.setIfInBounds_toArray, List.set_cons_zero, List.set_cons_succ]
      refine wpAnyH_take (i := 10) (v := ?_) rfl (by kernel_rfl) (by kernel_rfl) (by kernel_rfl) (fun _ _ _ h => h) (Or.inl ⟨by rfl, ?_⟩) (by assumption) ?_
      rotate_left
      · intro w9 hSw; (try dsimp only at hSw); go_simp <;> with_reducible rfl
      try simp only [Act.put, List.getElem_toArray, List.getElem_cons_zero, List.getElem_cons_succ, List.setIfInBounds_toArray, List.set_cons_zero, List.set_cons_succ]
      refine wpAnyH_take (i := 11) (v := ?_) rfl (by kernel_rfl) (by kernel_rfl) (by kernel_rfl) (fun _ _ _ h => h) (Or.inl ⟨by rfl, ?_⟩) (by assumption) ?_
      rotate_left
      · intro w9 hSw; (try dsimp only at hSw); go_simp <;> with_reducible rfl
      try simp only [Act.put, List.getElem_toArray, List.getElem_cons_zero, List.getElem_cons_succ, List.setIfInBounds_toArray, List.set_cons_zero, List.set_cons_succ]
      refine wpAnyH_take (i := 12) (v := ?_) rfl (by kernel_rfl) (by kernel_rfl) (by kernel_rfl) (fun _ _ _ h => h) (Or.inl ⟨by rfl, ?_⟩) (by assumption) ?_
      rotate_left
      · intro w9 hSw; (try dsimp only at hSw); go_simp <;> with_reducible rfl
      try simp only [Act.put, List.getElem_toArray, List.getElem_cons_zero, List.getElem_cons_succ, List.setIfInBounds_toArray, List.set_cons_zero, List.set_cons_succ]
      refine wpAnyH_take (i := 13) (v := ?_) rfl (by kernel_rfl) (by kernel_rfl) (by kernel_rfl) (fun _ _ _ h => h) (Or.inl ⟨by rfl, ?_⟩) (by assumption) ?_
      rotate_left
      · intro w9 hSw; (try dsimp only at hSw); go_simp <;> with_reducible rfl
      try simp only [Act.put, List.getElem_toArray, List.getElem_cons_zero, List.getElem_cons_succ, List.setIfInBounds_toArray, List.set_cons_zero, List.set_cons_succ]
      refine wpAnyH_take (i := 14) (v := ?_) rfl (by kernel_rfl) (by kernel_rfl) (by kernel_rfl) (fun _ _ _ h => h) (Or.inl ⟨by rfl, ?_⟩) (by assumption) ?_
      rotate_left
      · intro w9 hSw; (try dsimp only at hSw); go_simp <;> with_reducible rfl
      try simp only [Act.put, List.getElem_toArray, List.getElem_cons_zero, List.getElem_cons_succ, List.setIfInBounds_toArray, List.set_cons_zero, List.set_cons_succ]
      refine wpAnyH_take (i := 15) (v := undef) rfl (by kernel_rfl) (by kernel_rfl) (by kernel_rfl) (fun _ _ _ h => h) (Or.inr ⟨by rfl, rfl⟩) (by assumption) ?_
      try simp only [Act.put, List.getElem_toArray, List.getElem_cons_zero, List.getElem_cons_succ, List.setIfInBounds_toArray, List.set_cons_zero, List.set_cons_succ]
      refine wpAnyH_take (i := 16) (v := undef) rfl (by kernel_rfl) (by kernel_rfl) (by kernel_rfl) (fun _ _ _ h => h) (Or.inr ⟨by rfl, rfl⟩) (by assumption) ?_
      try simp only [Act.put, List.getElem_toArray, List.getElem_cons_zero, List.getElem_cons_succ, List.setIfInBounds_toArray, List.set_cons_zero, List.set_cons_succ]
      refine wpAnyH_take (i := 17) (v := undef) rfl (by kernel_rfl) (by kernel_rfl) (by kernel_rfl) (fun _ _ _ h => h) (Or.inr ⟨by rfl, rfl⟩) (by assumption) ?_
      try simp only [Act.put, List.getElem_toArray, List.getElem_cons_zero, List.getElem_cons_succ, List.setIfInBounds_toArray, List.set_cons_zero, List.set_cons_succ]
      refine wpAnyH_take (i := 18) (v := undef) rfl (by kernel_rfl) (by kernel_rfl) (by kernel_rfl) (fun _ _ _ h => h) (Or.inr ⟨by rfl, rfl⟩) (by assumption) ?_
      try simp only [Act.put, List.getElem_toArray, List.getElem_cons_zero, List.getElem_cons_succ, List.setIfInBounds_toArray, List.set_cons_zero, List.set_cons_succ]
      refine wpAnyH_take (i := 19) (v := undef) rfl (by kernel_rfl) (by kernel_rfl) (by kernel_rfl) (fun _ _ _ h => h) (Or.inr ⟨by rfl, rfl⟩) (by assumption) ?_
      try simp only [Act.put, List.getElem_toArray, List.getElem_cons_zero, List.getElem_cons_succ, List.setIfInBounds_toArray, List.set_cons_zero, List.set_cons_succ]
      refine wpAnyH_take (i := 20) (v := ?_) rfl (by kernel_rfl) (by kernel_rfl) (by kernel_rfl) (fun _ _ _ h => h) (Or.inl ⟨by rfl, ?_⟩) (by assumption) ?_
      rotate_left
      · intro w9 hSw; (try dsimp only at hSw); go_simp <;> with_reducible rfl
      try simp only [Act.put, List.getElem_toArray, List.getElem_cons_zero, List.getElem_cons_succ, List.setIfInBounds_toArray, List.set_cons_zero, List.set_cons_succ]
      refine wpAnyH_take (i := 21) (v := ?_) rfl (by kernel_rfl) (by kernel_rfl) (by kernel_rfl) (fun _ _ _ h => h) (Or.inl ⟨by rfl, ?_⟩) (by assumption) ?_
      rotate_left
      · intro w9 hSw; (try dsimp only at hSw); go_simp <;> with_reducible rfl
      try simp only [Act.put, List.getElem_toArray, List.getElem_cons_zero, List.getElem_cons_succ, List.setIfInBounds_toArray, List.set_cons_zero, List.set_cons_succ]
      refine wpAnyH_done (by kernel_rfl) ?_ _
      clear KK K0 KD K_w4
      replace r_a := Lib.hid (r_a.out.keep B_w4.out)
      replace r_b := Lib.hid (r_b.out.keep B_w4.out)
      replace r_p := Lib.hid (r_p.out.keep B_w4.out)
      replace r_q := Lib.hid (r_q.out.keep B_w4.out)
      replace h_p := Lib.hid (h_p.out.below B_w4.out)
      replace h_q := Lib.hid (h_q.out.below B_w4.out)
      replace BB := Lib.hid (below_next BB.out B_w4.out)
      clear B_w4
      go_wp2_with fail
      have KK := Lib.hid (fun (w9 : World) (h : Below w4.heap.size w4 w9) => (⟨cells2 (r_a.out.keep h), cells2 (r_b.out.keep h), cells2 (r_p.out.keep h), cells2 (r_q.out.keep h)⟩ : (w9.cell? ⟨w.heap.size, 0, none⟩ = some (.int .i64 ah) ∧ w9.cell? ⟨w.heap.size, 1, none⟩ = some (.int .u64 al)) ∧ (w9.cell? ⟨w.heap.size + 1, 0, none⟩ = some (.int .i64 bh) ∧ w9.cell? ⟨w.heap.size + 1, 1, none⟩ = some (.int .u64 bl)) ∧ (w9.cell? ⟨gp, 0, none⟩ = some (.bool (sgn a)) ∧ w9.cell? ⟨gp, 1, none⟩ = some (.slice A1 n1 c1)) ∧ (w9.cell? ⟨gq, 0, none⟩ = some (.bool (sgn b)) ∧ w9.cell? ⟨gq, 1, none⟩ = some (.slice A2 n2 c2))))
      have K0 := KK.out w4 (Below.refl _ _)
      have KD := KK.out w4.drew (below_drew (Below.refl _ _))
      have tok1 : Hid True := trivial
      have tok4 : Hid True := trivial
      go_region_held3 (fun w9 => (w9.cell? ⟨w.heap.size, 0, none⟩ = some (.int .i64 ah) ∧ w9.cell? ⟨w.heap.size, 1, none⟩ = some (.int .u64 al)) ∧ (w9.cell? ⟨w.heap.size + 1, 0, none⟩ = some (.int .i64 bh) ∧ w9.cell? ⟨w.heap.size + 1, 1, none⟩ = some (.int .u64 bl)) ∧ (w9.cell? ⟨gp, 0, none⟩ = some (.bool (sgn a)) ∧ w9.cell? ⟨gp, 1, none⟩ = some (.slice A1 n1 c1)) ∧ (w9.cell? ⟨gq, 0, none⟩ = some (.bool (sgn b)) ∧ w9.cell? ⟨gq, 1, none⟩ = some (.slice A2 n2 c2)))
          (first | with_reducible exact KD | with_reducible exact K0 | with_reducible exact K_w5 | with_reducible exact K_w6 | with_reducible exact K_w7 | with_reducible exact K_w8 | with_reducible exact K_w9 | with_reducible exact K_w10 | with_reducible exact K_w11 | with_reducible exact K_w12)
          (first
            | (go_at_call 32
               refine (CW.out _).mono ?_
               rintro e w5 ⟨rfl, hb⟩
               have B_w5 := Lib.hid (reg_next (w0 := w4) (by repeat (first | with_reducible exact Below.refl _ _ | with_reducible apply below_drew | with_reducible apply below_new)) hb)
               have K_w5 := KK.out _ B_w5.out
               clear hb)
            | (go_at_call 31
               have t_k := tok1
               refine (CC.out _ _ _ (h_p.out.below B_w5.out) (h_q.out.below B_w5.out)).mono ?_
               rintro e w6 ⟨rfl, hb⟩
               have B_w6 := Lib.hid (below_next B_w5.out hb)
               have K_w6 := KK.out _ B_w6.out
               clear hb
               clear t_k tok1)
            | (go_at_call 33
               refine (CS.out _).mono ?_
               rintro e w7 ⟨rfl, hb⟩
               have B_w7 := Lib.hid (below_next B_w6.out hb)
               have K_w7 := KK.out _ B_w7.out
               clear hb)
            | (go_at_call 24
               refine (CZ.out _).mono ?_
               rintro e w8 ⟨v_z, rfl, hb, h_z⟩
               obtain ⟨A_z, n_z, cap_z, rfl, -⟩ := id h_z.form
               replace h_z := Lib.hid h_z
               have B_w8 := Lib.hid (below_next B_w7.out hb)
               have K_w8 := KK.out _ B_w8.out
               clear hb)
            | (go_at_call 31
               have t_k := tok4
               refine (CN.out _ _ _ (h_p.out.below B_w8.out) h_z.out).mono ?_
               rintro e w9 ⟨rfl, hb⟩
               replace h_z := Lib.hid (h_z.out.below hb)
               have B_w9 := Lib.hid (below_next B_w8.out hb)
               have K_w9 := KK.out _ B_w9.out
               clear hb
               clear t_k tok4)
            | (go_at_call 34
               refine (CT.out _).mono ?_
               rintro e w10 ⟨rfl, hb⟩
               replace h_z := Lib.hid (h_z.out.below hb)
               have B_w10 := Lib.hid (below_next B_w9.out hb)
               have K_w10 := KK.out _ B_w10.out
               clear hb)
            | (go_at_call 35
               refine (CU.out _ _ (h_p.out.below B_w10.out)).mono ?_
               rintro e w11 ⟨rfl, hb⟩
               replace h_z := Lib.hid (h_z.out.below hb)
               have B_w11 := Lib.hid (below_next B_w10.out hb)
               have K_w11 := KK.out _ B_w11.out
               clear hb)
            | (go_at_call 25
               refine (CL.out _).mono ?_
               rintro e w12 ⟨rfl, hb⟩
               replace h_z := Lib.hid (h_z.out.below hb)
               have B_w12 := Lib.hid (below_next B_w11.out hb)
               have K_w12 := KK.out _ B_w12.out
               clear hb))
      clear KK K0 KD K_w5 K_w6 K_w7 K_w8 K_w9 K_w10 K_w11 K_w12
      replace r_a := Lib.hid (r_a.out.keep B_w12.out)
      replace r_b := Lib.hid (r_b.out.keep B_w12.out)
      replace r_p := Lib.hid (r_p.out.keep B_w12.out)
      replace r_q := Lib.hid (r_q.out.keep B_w12.out)
      replace h_p := Lib.hid (h_p.out.below B_w12.out)
      replace h_q := Lib.hid (h_q.out.below B_w12.out)
      replace BB := Lib.hid (below_next BB.out B_w12.out)
      clear B_w5 B_w6 B_w7 B_w8 B_w9 B_w10 B_w11 B_w12
      go_wp2_with fail
      go_ret
      exact ⟨rfl, BB.out⟩
    · skip
      obtain rfl : a = xf := hX.symm
      clear hX HX
      have CO' := Lib.hid (CO.out rfl)
      clear CO
      have KK := Lib.hid (fun (w9 : World) (h : Below w3.heap.size w3 w9) => (cells2 (r_p.out.keep h) : (w9.cell? ⟨gp, 0, none⟩ = some (.bool (sgn a)) ∧ w9.cell? ⟨gp, 1, none⟩ = some (.slice A1 n1 c1))))
      have K0 := KK.out w3 (Below.refl _ _)
      have KD := KK.out w3.drew (below_drew (Below.refl _ _))
      refine wp_region_held_drew (S := (fun w9 => (w9.cell? ⟨gp, 0, none⟩ = some (.bool (sgn a)) ∧ w9.cell? ⟨gp, 1, none⟩ = some (.slice A1 n1 c1)))) (by kernel_rfl) KD (fun hHeld => ?_)
      refine wpAnyH_take (i := 0) (v := ?_) rfl (by kernel_rfl) (by kernel_rfl) (by kernel_rfl) (fun _ _ _ h => h) (Or.inl ⟨by rfl, ?_⟩) (by assumption) ?_
      rotate_left
      · intro w9 hSw; (try dsimp only at hSw); go_simp <;> with_reducible rfl
      try simp only [Act.put, List.getElem_toArray, List.getElem_cons_zero, List.getElem_cons_succ, List.setIfInBounds_toArray, List.set_cons_zero, List.set_cons_succ]
      refine wpAnyH_take (i := 1) (v := ?_) rfl (by kernel_rfl) (by kernel_rfl) (by kernel_rfl) (fun _ _ _ h => h) (Or.inl ⟨by rfl, ?_⟩) (by assumption) ?_
      rotate_left
      · intro w9 hSw; (try dsimp only at hSw); go_simp <;> with_reducible rfl
      try simp only [Act.put, List.getElem_toArray, List.getElem_cons_zero, List.getElem_cons_succ, List.setIfInBounds_toArray, List.set_cons_zero, List.set_cons_succ]
      refine wpAnyH_ready (rs := [2]) (by kernel_rfl) (by simp) ?_
      refine AllReadyH.cons rfl (fun K hK => ?_) AllReadyH.nil
      go_simp
      go_at_call 30
      refine (CG.out _ _ (h_p.out.below ?_)).mono ?_
      · repeat (first | with_reducible exact Below.refl _ _ | with_reducible apply below_drew | with_reducible apply below_new)
      rintro e w4 ⟨rfl, hb⟩
      have B_w4 := Lib.hid (reg_next (w0 := w3) (by repeat (first | with_reducible exact Below.refl _ _ | with_reducible apply below_drew | with_reducible apply below_new)) hb)
      have K_w4 := KK.out _ B_w4.out
      clear hb
      refine hK.out _ _ K_w4 (fun hHeld => ?_)
      clear hK
      try simp only [Act.put, List.getElem_toArray, List.getElem_cons_zero, List.getElem_cons_succ, List.setIfInBounds_toArray, List.set_cons_zero, List.set_cons_succ]
      refine wpAnyH_take (i := 3) (v := ?_) rfl (by kernel_rfl) (by kernel_rfl) (by kernel_rfl) (fun _ _ _ h => h) (Or.inl ⟨by rfl, ?_⟩) (by assumption) ?_
      rotate_left
      · intro w9 hSw; (try dsimp only at hSw); go_simp <;> with_reducible rfl
      try simp only [Act.put, List.getElem_toArray, List.getElem_cons_zero, List.getElem_cons_succ, List.setIfInBounds_toArray, List.set_cons_zero, List.set_cons_succ]
      refine wpAnyH_take (i := 4) (v := ?_) rfl (by kernel_rfl) (by kernel_rfl) (by kernel_rfl) (fun _ _ _ h => h) (Or.inl ⟨by rfl, ?_⟩) (by assumption) ?_
      rotate_left
      · intro w9 hSw; (try dsimp only at hSw); go_simp <;> with_reducible rfl
      try simp only [Act.put, List.getElem_toArray, List.getElem_cons_zero, List.getElem_cons_succ, List.setIfInBounds_toArray, List.set_cons_zero, List.set_cons_succ]
      refine wpAnyH_take (i := 5) (v := ?_) rfl (by kernel_rfl) (by kernel_rfl) (by kernel_rfl) (fun _ _ _ h => h) (Or.inl ⟨by rfl, ?_⟩) (by assumption) ?_
      rotate_left
      · intro w9 hSw; (try dsimp only at hSw); go_simp <;> with_reducible rfl
      try simp only [Act.put, List.getElem_toArray, List.getElem_cons_zero, List.getElem_cons_succ, List.setIfInBounds_toArray, List.set_cons_zero, List.set_cons_succ]
      refine wpAnyH_take (i := 6) (v := ?_) rfl (by kernel_rfl) (by kernel_rfl) (by kernel_rfl) (fun _ _ _ h => h) (Or.inl ⟨by rfl, ?_⟩) (by assumption) ?_
      rotate_left
      · intro w9 hSw; (try dsimp only at hSw); go_simp <;> with_reducible rfl
      try simp only [Act.put, List.getElem_toArray, List.getElem_cons_zero, List.getElem_cons_succ, List.setIfInBounds_toArray, List.set_cons_zero, List.set_cons_succ]
      refine wpAnyH_take (i := 7) (v := ?_) rfl (by kernel_rfl) (by kernel_rfl) (by kernel_rfl) (fun _ _ _ h => h) (Or.inl ⟨by rfl, ?_⟩) (by assumption) ?_
      rotate_left
      · intro w9 hSw; (try dsimp only at hSw); go_simp <;> with_reducible rfl
      try simp only [Act.put, List.getElem_toArray, List.getElem_cons_zero, List.getElem_cons_succ, List.setIfInBounds_toArray, List.set_cons_zero, List.set_cons_succ]
      refine wpAnyH_take (i := 8) (v := undef) rfl (by kernel_rfl) (by kernel_rfl) (by kernel_rfl) (fun _ _ _ h => h) (Or.inr ⟨by rfl, rfl⟩) (by assumption) ?_
      try simp only [Act.put, List.getElem_toArray, List.getElem_cons_zero, List.getElem_cons_succ, List.setIfInBounds_toArray, List.set_cons_zero, List.set_cons_succ]
      refine wpAnyH_take (i := 9) (v := undef) rfl (by kernel_rfl) (by kernel_rfl) (by kernel_rfl) (fun _ _ _ h => h) (Or.inr ⟨by rfl, rfl⟩) (by assumption) ?_
      try simp only [Act.put, List.getElem_toArray, List.getElem_cons_zero, List.getElem_cons_succ, List.setIfInBounds_toArray, List.set_cons_zero, List.set_cons_succ]
      refine wpAnyH_take (i := 10) (v := ?_) rfl (by kernel_rfl) (by kernel_rfl) (by kernel_rfl) (fun _ _ _ h => h) (Or.inl ⟨by rfl, ?_⟩) (by assumption) ?_
      rotate_left
      · intro w9 hSw; (try dsimp only at hSw); go_simp <;> with_reducible rfl
      try simp only [Act.put, List.getElem_toArray, List.getElem_cons_zero, List.getElem_cons_succ, List.setIfInBounds_toArray, List.set_cons_zero, List.set_cons_succ]
      refine wpAnyH_take (i := 11) (v := ?_) rfl (by kernel_rfl) (by kernel_rfl) (by kernel_rfl) (fun _ _ _ h => h) (Or.inl ⟨by rfl, ?_⟩) (by assumption) ?_
      rotate_left
      · intro w9 hSw; (try dsimp only at hSw); go_simp <;> with_reducible rfl
      try simp only [Act.put, List.getElem_toArray, List.getElem_cons_zero, List.getElem_cons_succ, List.setIfInBounds_toArray, List.set_cons_zero, List.set_cons_succ]
      refine wpAnyH_take (i := 12) (v := ?_) rfl (by kernel_rfl) (by kernel_rfl) (by kernel_rfl) (fun _ _ _ h => h) (Or.inl ⟨by rfl, ?_⟩) (by assumption) ?_
      rotate_left
      · intro w9 hSw; (try dsimp only at hSw); go_simp <;> with_reducible rfl
      try simp only [Act.put, List.getElem_toArray, List.getElem_cons_zero, List.getElem_cons_succ, List.setIfInBounds_toArray, List.set_cons_zero, List.set_cons_succ]
      refine wpAnyH_take (i := 13) (v := ?_) rfl (by kernel_rfl) (by kernel_rfl) (by kernel_rfl) (fun _ _ _ h => h) (Or.inl ⟨by rfl, ?_⟩) (by assumption) ?_
      rotate_left
      · intro w9 hSw; (try dsimp only at hSw); go_simp <;> with_reducible rfl
      try simp only [Act.put, List.getElem_toArray, List.getElem_cons_zero, List.getElem_cons_succ, List.setIfInBounds_toArray, List.set_cons_zero, List.set_cons_succ]
      refine wpAnyH_take (i := 14) (v := ?_) rfl (by kernel_rfl) (by kernel_rfl) (by kernel_rfl) (fun _ _ _ h => h) (Or.inl ⟨by rfl, ?_⟩) (by assumption) ?_
      rotate_left
      · intro w9 hSw; (try dsimp only at hSw); go_simp <;> with_reducible rfl
      try simp only [Act.put, List.getElem_toArray, List.getElem_cons_zero, List.getElem_cons_succ, List.setIfInBounds_toArray, List.set_cons_zero, List.set_cons_succ]
      refine wpAnyH_take (i := 15) (v := ?_) rfl (by kernel_rfl) (by kernel_rfl) (by kernel_rfl) (fun _ _ _ h => h) (Or.inl ⟨by rfl, ?_⟩) (by assumption) ?_
      rotate_left
      · intro w9 hSw; (try dsimp only at hSw); go_simp <;> with_reducible rfl
      try simp only [Act.put, List.getElem_toArray, List.getElem_cons_zero, List.getElem_cons_succ, List.setIfInBounds_toArray, List.set_cons_zero, List.set_cons_succ]
      refine wpAnyH_take (i := 17) (v := ?_) rfl (by kernel_rfl) (by kernel_rfl) (by kernel_rfl) (fun _ _ _ h => h) (Or.inl ⟨by rfl, ?_⟩) (by assumption) ?_
      rotate_left
      · intro w9 hSw; (try dsimp only at hSw); go_simp <;> with_reducible rfl
      try simp only [Act.put, List.getElem_toArray, List.getElem_cons_zero, List.getElem_cons_succ, List.setIfInBounds_toArray, List.set_cons_zero, List.set_cons_succ]
      refine wpAnyH_ready (rs := [16]) (by kernel_rfl) (by simp) ?_
      refine AllReadyH.cons rfl (fun K hK => ?_) AllReadyH.nil
      go_simp
      go_at_call 24
      refine (CO'.out _).mono ?_
      rintro e w5 ⟨v_o, rfl, hb, h_o⟩
      obtain ⟨A_o, n_o, cap_o, rfl, -⟩ := id h_o.form
      replace h_o := Lib.hid h_o
      have B_w5 := Lib.hid (below_next B_w4.out hb)
      have K_w5 := KK.out _ B_w5.out
      clear hb
      refine hK.out _ _ K_w5 (fun hHeld => ?_)
      clear hK
      try simp only [Act.put, List.getElem_toArray, List.getElem_cons_zero, List.getElem_cons_succ, List.setIfInBounds_toArray, List.set_cons_zero, List.set_cons_succ]
      refine wpAnyH_ready (rs := [18]) (by kernel_rfl) (by simp) ?_
      refine AllReadyH.cons rfl (fun K hK => ?_) AllReadyH.nil
      go_simp
      go_at_call 31
      refine (CK.out _ _ _ h_o.out (h_p.out.below B_w5.out)).mono ?_
      rintro e w6 ⟨rfl, hb⟩
      replace h_o := Lib.hid (h_o.out.below hb)
      have B_w6 := Lib.hid (below_next B_w5.out hb)
      have K_w6 := KK.out _ B_w6.out
      clear hb
      refine hK.out _ _ K_w6 (fun hHeld => ?_)
      clear hK
      try simp only [Act.put, List.getElem_toArray, List.getElem_cons_zero, List.getElem_cons_succ, List.setIfInBounds_toArray, List.set_cons_zero, List.set_cons_succ]
      refine wpAnyH_take (i := 19) (v := ?_) rfl (by kernel_rfl) (by kernel_rfl) (by kernel_rfl) (fun _ _ _ h => h) (Or.inl ⟨by rfl, ?_⟩) (by assumption) ?_
      rotate_left
      · intro w9 hSw; (try dsimp only at hSw); go_simp <;> with_reducible rfl
      try simp only [Act.put, List.getElem_toArray, List.getElem_cons_zero, List.getElem_cons_succ, List.setIfInBounds_toArray, List.set_cons_zero, List.set_cons_succ]
      refine wpAnyH_take (i := 20) (v := ?_) rfl (by kernel_rfl) (by kernel_rfl) (by kernel_rfl) (fun _ _ _ h => h) (Or.inl ⟨by rfl, ?_⟩) (by assumption) ?_
      rotate_left
      · intro w9 hSw; (try dsimp only at hSw); go_simp <;> with_reducible rfl
      try simp only [Act.put, List.getElem_toArray, List.getElem_cons_zero, List.getElem_cons_succ, List.setIfInBounds_toArray, List.set_cons_zero, List.set_cons_succ]
      refine wpAnyH_take (i := 21) (v := ?_) rfl (by kernel_rfl) (by kernel_rfl) (by kernel_rfl) (fun _ _ _ h => h) (Or.inl ⟨by rfl, ?_⟩) (by assumption) ?_
      rotate_left
      · intro w9 hSw; (try dsimp only at hSw); go_simp <;> with_reducible rfl
      try simp only [Act.put, List.getElem_toArray, List.getElem_cons_zero, List.getElem_cons_succ, List.setIfInBounds_toArray, List.set_cons_zero, List.set_cons_succ]
      refine wpAnyH_done (by kernel_rfl) ?_ _
      clear KK K0 KD K_w4 K_w5 K_w6
      replace r_a := Lib.hid (r_a.out.keep B_w6.out)
      replace r_b := Lib.hid (r_b.out.keep B_w6.out)
      replace r_p := Lib.hid (r_p.out.keep B_w6.out)
      replace r_q := Lib.hid (r_q.out.keep B_w6.out)
      replace h_p := Lib.hid (h_p.out.below B_w6.out)
      replace h_q := Lib.hid (h_q.out.below B_w6.out)
      replace BB := Lib.hid (below_next BB.out B_w6.out)
      clear B_w4 B_w5 B_w6
      go_wp2_with fail
      have KK := Lib.hid (fun (w9 : World) (h : Below w6.heap.size w6 w9) => (⟨cells2 (r_a.out.keep h), cells2 (r_b.out.keep h), cells2 (r_p.out.keep h), cells2 (r_q.out.keep h)⟩ : (w9.cell? ⟨w.heap.size, 0, none⟩ = some (.int .i64 ah) ∧ w9.cell? ⟨w.heap.size, 1, none⟩ = some (.int .u64 al)) ∧ (w9.cell? ⟨w.heap.size + 1, 0, none⟩ = some (.int .i64 bh) ∧ w9.cell? ⟨w.heap.size + 1, 1, none⟩ = some (.int .u64 bl)) ∧ (w9.cell? ⟨gp, 0, none⟩ = some (.bool (sgn a)) ∧ w9.cell? ⟨gp, 1, none⟩ = some (.slice A1 n1 c1)) ∧ (w9.cell? ⟨gq, 0, none⟩ = some (.bool (sgn b)) ∧ w9.cell? ⟨gq, 1, none⟩ = some (.slice A2 n2 c2))))
      have K0 := KK.out w6 (Below.refl _ _)
      have KD := KK.out w6.drew (below_drew (Below.refl _ _))
      have tok1 : Hid True := trivial
      have tok4 : Hid True := trivial
      go_region_held3 (fun w9 => (w9.cell? ⟨w.heap.size, 0, none⟩ = some (.int .i64 ah) ∧ w9.cell? ⟨w.heap.size, 1, none⟩ = some (.int .u64 al)) ∧ (w9.cell? ⟨w.heap.size + 1, 0, none⟩ = some (.int .i64 bh) ∧ w9.cell? ⟨w.heap.size + 1, 1, none⟩ = some (.int .u64 bl)) ∧ (w9.cell? ⟨gp, 0, none⟩ = some (.bool (sgn a)) ∧ w9.cell? ⟨gp, 1, none⟩ = some (.slice A1 n1 c1)) ∧ (w9.cell? ⟨gq, 0, none⟩ = some (.bool (sgn b)) ∧ w9.cell? ⟨gq, 1, none⟩ = some (.slice A2 n2 c2)))
          (first | with_reducible exact KD | with_reducible exact K0 | with_reducible exact K_w7 | with_reducible exact K_w8 | with_reducible exact K_w9 | with_reducible exact K_w10 | with_reducible exact K_w11 | with_reducible exact K_w12 | with_reducible exact K_w13 | with_reducible exact K_w14)
          (first
            | (go_at_call 32
               refine (CW.out _).mono ?_
               rintro e w7 ⟨rfl, hb⟩
               have B_w7 := Lib.hid (reg_next (w0 := w6) (by repeat (first | with_reducible exact Below.refl _ _ | with_reducible apply below_drew | with_reducible apply below_new)) hb)
               have K_w7 := KK.out _ B_w7.out
               clear hb)
            | (go_at_call 31
               have t_k := tok1
               refine (CC.out _ _ _ (h_p.out.below B_w7.out) (h_q.out.below B_w7.out)).mono ?_
               rintro e w8 ⟨rfl, hb⟩
               have B_w8 := Lib.hid (below_next B_w7.out hb)
               have K_w8 := KK.out _ B_w8.out
               clear hb
               clear t_k tok1)
            | (go_at_call 33
               refine (CS.out _).mono ?_
               rintro e w9 ⟨rfl, hb⟩
               have B_w9 := Lib.hid (below_next B_w8.out hb)
               have K_w9 := KK.out _ B_w9.out
               clear hb)
            | (go_at_call 24
               refine (CZ.out _).mono ?_
               rintro e w10 ⟨v_z, rfl, hb, h_z⟩
               obtain ⟨A_z, n_z, cap_z, rfl, -⟩ := id h_z.form
               replace h_z := Lib.hid h_z
               have B_w10 := Lib.hid (below_next B_w9.out hb)
               have K_w10 := KK.out _ B_w10.out
               clear hb)
            | (go_at_call 31
               have t_k := tok4
               refine (CN.out _ _ _ (h_p.out.below B_w10.out) h_z.out).mono ?_
               rintro e w11 ⟨rfl, hb⟩
               replace h_z := Lib.hid (h_z.out.below hb)
               have B_w11 := Lib.hid (below_next B_w10.out hb)
               have K_w11 := KK.out _ B_w11.out
               clear hb
               clear t_k tok4)
            | (go_at_call 34
               refine (CT.out _).mono ?_
               rintro e w12 ⟨rfl, hb⟩
               replace h_z := Lib.hid (h_z.out.below hb)
               have B_w12 := Lib.hid (below_next B_w11.out hb)
               have K_w12 := KK.out _ B_w12.out
               clear hb)
            | (go_at_call 35
               refine (CU.out _ _ (h_p.out.below B_w12.out)).mono ?_
               rintro e w13 ⟨rfl, hb⟩
               replace h_z := Lib.hid (h_z.out.below hb)
               have B_w13 := Lib.hid (below_next B_w12.out hb)
               have K_w13 := KK.out _ B_w13.out
               clear hb)
            | (go_at_call 25
               refine (CL.out _).mono ?_
               rintro e w14 ⟨rfl, hb⟩
               replace h_z := Lib.hid (h_z.out.below hb)
               have B_w14 := Lib.hid (below_next B_w13.out hb)
               have K_w14 := KK.out _ B_w14.out
               clear hb))
      clear KK K0 KD K_w7 K_w8 K_w9 K_w10 K_w11 K_w12 K_w13 K_w14
      replace r_a := Lib.hid (r_a.out.keep B_w14.out)
      replace r_b := Lib.hid (r_b.out.keep B_w14.out)
      replace r_p := Lib.hid (r_p.out.keep B_w14.out)
      replace r_q := Lib.hid (r_q.out.keep B_w14.out)
      replace h_p := Lib.hid (h_p.out.below B_w14.out)
      replace h_q := Lib.hid (h_q.out.below B_w14.out)
      replace h_o := Lib.hid (h_o.out.below B_w14.out)
      replace BB := Lib.hid (below_next BB.out B_w14.out)
      clear B_w7 B_w8 B_w9 B_w10 B_w11 B_w12 B_w13 B_w14
      go_wp2_with fail
      go_ret
      exact ⟨rfl, BB.out⟩

end Go.Proofs.Ytalihekeipbafaa
