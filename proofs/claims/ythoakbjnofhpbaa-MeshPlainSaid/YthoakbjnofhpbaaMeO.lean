/- Contract of mesh.New: numbers that are wrong. -/
import Derived.Test.YthoakbjnofhpbaaMeN
set_option linter.unusedVariables false
set_option linter.unusedSimpArgs false
namespace Go.Proofs.Ythoakbjnofhpbaa
open Go.RowKit
theorem mnew_a (v : Value) (zs : List Int) (W0 H0 : Int) (hl : zs.length < 4) (w : World) (hv : IS w v zs) :
    Calls Try.prog 17 #[v, .int .i64 W0, .int .i64 H0] w fun e w' => e = .returned (.tuple #[.pointer none, .int .i64 12]) ∧ Below w.heap.size w w' := by
  obtain ⟨A, cap, rfl⟩ := hv.form
  have k1 : (zs.length : Int) < 4 := by omega
  clear hv hl
  go_enter Try.func17, Try.ntmps17
  go_wp2_with fail
  have BB : Hid (Below w.heap.size w w) := Below.refl _ _
  refine bodyPost_ret (v := .tuple #[.pointer none, .int .i64 12]) (by unfold results; simp only [Try.results17]; go_simp) rfl ?_
  exact ⟨rfl, BB.out⟩
set_option maxRecDepth 100000 in
set_option maxHeartbeats 8000000 in
theorem mnew_b (v : Value) (gx gy nx ny W0 H0 : Int) (rest : List Int) (hf : fitsM gx gy nx ny = false) (w : World) (hv : IS w v (gx :: gy :: nx :: ny :: rest)) :
    Calls Try.prog 17 #[v, .int .i64 W0, .int .i64 H0] w fun e w' => e = .returned (.tuple #[.pointer none, .int .i64 11]) ∧ Below w.heap.size w w' := by
  obtain ⟨b, off, cap, rfl, h1, h2, h3, h4⟩ := hv.some (by simp)
  simp only [List.length_cons] at hv h1 h4 ⊢
  have hv4 := Lib.hid (is_drop4 hv)
  have CF := Lib.hid (fun w => mfits gx nx gy ny w)
  rw [hf] at CF
  have c0 := h4 0 (by omega)
  have c1 := h4 1 (by omega)
  have c2 := h4 2 (by omega)
  have c3 := h4 3 (by omega)
  have CT := Lib.hid (fun w9 (h9 : Below w.heap.size w w9) => And.intro ((h9.cell h3).trans c0) (And.intro ((h9.cell h3).trans c1) (And.intro ((h9.cell h3).trans c2) ((h9.cell h3).trans c3))))
  obtain ⟨n, hn⟩ : ∃ v, v = rest.length + 4 := ⟨_, rfl⟩
  have k1 : ¬ (n : Int) < 4 := by omega
  have k2 : (4 : Int) ≤ (n : Int) := by omega
  have k3 : n ≤ cap := by omega
  have k4 : (4 : Int) ≤ (cap : Int) := by omega
  have k7 : (0 : Int) < (n : Int) := by omega
  have k7n : 0 < n := by omega
  have k8 : (1 : Int) < (n : Int) := by omega
  have k9 : (2 : Int) < (n : Int) := by omega
  have k10 : (3 : Int) < (n : Int) := by omega
  rw [← hn] at hv h1 h4 ⊢
  clear hv h4 h3 h1 hn c0 c1 c2 c3 hf
  go_enter Try.func17, Try.ntmps17
  go_wp2_with fail
  have BB : Hid (Below w.heap.size w w) := Below.refl _ _
  go_cut [8] (fun s8 wc => ∃ gp g, s8 = .pointer (some ⟨gp, 0, none⟩) ∧ Hid (AtB wc gp #[.pointer (some ⟨g, 0, none⟩)] PMT ∧ AtB wc g #[.int .i64 gx, .int .i64 nx, .int .i64 gy, .int .i64 ny, .slice none 0 0] MXT ∧ gp ≠ g ∧ Below w.heap.size w wc ∧ w.heap.size ≤ gp ∧ w.heap.size ≤ g))
  case first =>
    have KK := Lib.hid (fun (w9 : World) (h : Below w.heap.size w w9) => (CT.out _ (below_next BB.out h) : (w9.cell? ⟨b, off, none⟩ = some (.int .i64 gx) ∧ w9.cell? ⟨b, off + 1, none⟩ = some (.int .i64 gy) ∧ w9.cell? ⟨b, off + 2, none⟩ = some (.int .i64 nx) ∧ w9.cell? ⟨b, off + 3, none⟩ = some (.int .i64 ny))))
    have K0 := KK.out w (Below.refl _ _)
    have KD := KK.out w.drew (below_drew (Below.refl _ _))
    go_region_held3 (fun w9 => (w9.cell? ⟨b, off, none⟩ = some (.int .i64 gx) ∧ w9.cell? ⟨b, off + 1, none⟩ = some (.int .i64 gy) ∧ w9.cell? ⟨b, off + 2, none⟩ = some (.int .i64 nx) ∧ w9.cell? ⟨b, off + 3, none⟩ = some (.int .i64 ny)))
        (first | with_reducible exact KD | with_reducible exact K0 | (refine KK.out _ ?_; repeat' (first | with_reducible exact Below.refl _ _ | with_reducible apply below_new | with_reducible apply below_drew | with_reducible apply below_set | omega)))
        (fail)
    all_goals clear KK K0 KD
    all_goals go_wp2_with fail
    all_goals go_meet
    all_goals first
      | (refine ⟨_, w.heap.size, rfl, ⟨?_, ?_, by omega, ?_, by omega, by omega⟩⟩ <;> ((repeat (first | with_reducible exact Below.refl _ _ | with_reducible apply below_new | with_reducible apply below_drew | (refine new_at_eq (by simp; done) _ _) | (refine AtB.alloc ?_ _))); done))
      | (refine ⟨_, w.heap.size + 1, rfl, ⟨?_, ?_, by omega, ?_, by omega, by omega⟩⟩ <;> ((repeat (first | with_reducible exact Below.refl _ _ | with_reducible apply below_new | with_reducible apply below_drew | (refine new_at_eq (by simp; done) _ _) | (refine AtB.alloc ?_ _))); done))
  obtain ⟨wc1, rfl⟩ : ∃ wo : World, wo = wc := ⟨_, rfl⟩
  obtain ⟨g_p, g_m, rfl, hcut⟩ := hcut
  obtain ⟨r_p, r_m, hne, BB, hgp, hgm⟩ := hcut.out
  clear hcut
  replace r_p := Lib.hid r_p; replace r_m := Lib.hid r_m; replace BB := Lib.hid BB
  have d_p := Lib.hid (And.intro hgp (And.intro hne True.intro))
  have d_m := Lib.hid (And.intro hgm (And.intro hne True.intro))
  clear hgp hgm hne
  go_wp2_with fail
  have KK := Lib.hid (fun (w9 : World) (h : Below wc1.heap.size wc1 w9) => (⟨cells1 (r_p.out.keep h), cells5 (r_m.out.keep h)⟩ : (w9.cell? ⟨g_p, 0, none⟩ = some (.pointer (some ⟨g_m, 0, none⟩))) ∧ (w9.cell? ⟨g_m, 0, none⟩ = some (.int .i64 gx) ∧ w9.cell? ⟨g_m, 1, none⟩ = some (.int .i64 nx) ∧ w9.cell? ⟨g_m, 2, none⟩ = some (.int .i64 gy) ∧ w9.cell? ⟨g_m, 3, none⟩ = some (.int .i64 ny) ∧ w9.cell? ⟨g_m, 4, none⟩ = some (.slice none 0 0))))
  have K0 := KK.out wc1 (Below.refl _ _)
  have KD := KK.out wc1.drew (below_drew (Below.refl _ _))
  go_region_held3 (fun w9 => (w9.cell? ⟨g_p, 0, none⟩ = some (.pointer (some ⟨g_m, 0, none⟩))) ∧ (w9.cell? ⟨g_m, 0, none⟩ = some (.int .i64 gx) ∧ w9.cell? ⟨g_m, 1, none⟩ = some (.int .i64 nx) ∧ w9.cell? ⟨g_m, 2, none⟩ = some (.int .i64 gy) ∧ w9.cell? ⟨g_m, 3, none⟩ = some (.int .i64 ny) ∧ w9.cell? ⟨g_m, 4, none⟩ = some (.slice none 0 0)))
      (first | with_reducible exact KD | with_reducible exact K0 | with_reducible exact K_w1)
      (first
        | (go_at_call 74
           refine (CF.out _).mono ?_
           rintro e w1 ⟨rfl, hb⟩
           have B_w1 := Lib.hid (reg_next (w0 := wc1) (by repeat (first | with_reducible exact Below.refl _ _ | with_reducible apply below_drew | with_reducible apply below_new)) hb)
           have K_w1 := KK.out _ B_w1.out
           clear hb))
  clear KK K0 KD K_w1
  replace r_p := Lib.hid (r_p.out.keep B_w1.out)
  replace r_m := Lib.hid (r_m.out.keep B_w1.out)
  replace BB := Lib.hid (below_next BB.out B_w1.out)
  clear B_w1
  go_wp2_with fail
  refine bodyPost_ret (v := .tuple #[.pointer none, .int .i64 11]) (by unfold results; simp only [Try.results17]; go_simp) rfl ?_
  exact ⟨rfl, BB.out⟩
set_option maxRecDepth 100000 in
set_option maxHeartbeats 8000000 in
theorem mnew_c (v : Value) (gx gy nx ny W0 H0 : Int) (rest : List Int) (hf : fitsM gx gy nx ny = true) (hL : ((rest.length + 4 : Nat) : Int) ≠ 4 + 2 * (nx + 1) * (ny + 1)) (w : World) (hv : IS w v (gx :: gy :: nx :: ny :: rest)) :
    Calls Try.prog 17 #[v, .int .i64 W0, .int .i64 H0] w fun e w' => e = .returned (.tuple #[.pointer none, .int .i64 12]) ∧ Below w.heap.size w w' := by
  obtain ⟨b, off, cap, rfl, h1, h2, h3, h4⟩ := hv.some (by simp)
  simp only [List.length_cons] at hv h1 h4 ⊢
  have hv4 := Lib.hid (is_drop4 hv)
  have CF := Lib.hid (fun w => mfits gx nx gy ny w)
  rw [hf] at CF
  obtain ⟨g1, g2, g3, g4⟩ := fitsM_iff.1 hf
  have m1 := mul_rng g1 g3
  have m2 := mul_rng g2 g4
  have m3 : (nx + 1) * (ny + 1) ≤ 65 * 65 := Int.mul_le_mul (by omega) (by omega) (by omega) (by omega)
  have m5 : 2 * 2 ≤ (nx + 1) * (ny + 1) := Int.mul_le_mul (by omega) (by omega) (by omega) (by omega)
  have m4 : 2 * (nx + 1) * (ny + 1) = 2 * ((nx + 1) * (ny + 1)) := Int.mul_assoc _ _ _
  obtain ⟨n1, hn1⟩ : ∃ v, v = nx + 1 := ⟨_, rfl⟩
  obtain ⟨n2, hn2⟩ : ∃ v, v = 2 * n1 := ⟨_, rfl⟩
  obtain ⟨n3, hn3⟩ : ∃ v, v = ny + 1 := ⟨_, rfl⟩
  obtain ⟨n5, hn5⟩ : ∃ v, v = n2 * n3 := ⟨_, rfl⟩
  have e5' : n5 = 2 * (nx + 1) * (ny + 1) := by rw [hn5, hn2, hn1, hn3]
  obtain ⟨a1, ha1⟩ : ∃ v, v = gx * nx := ⟨_, rfl⟩
  obtain ⟨a2, ha2⟩ : ∃ v, v = gy * ny := ⟨_, rfl⟩
  have c0 := h4 0 (by omega)
  have c1 := h4 1 (by omega)
  have c2 := h4 2 (by omega)
  have c3 := h4 3 (by omega)
  have CT := Lib.hid (fun w9 (h9 : Below w.heap.size w w9) => And.intro ((h9.cell h3).trans c0) (And.intro ((h9.cell h3).trans c1) (And.intro ((h9.cell h3).trans c2) ((h9.cell h3).trans c3))))
  obtain ⟨n, hn⟩ : ∃ v, v = rest.length + 4 := ⟨_, rfl⟩
  have e1 : IntKind.i64.wrap (nx + 1) = n1 := by rw [hn1]; exact iw ⟨by omega, by omega⟩
  have e2 : IntKind.i64.wrap (2 * n1) = n2 := by rw [hn2]; exact iw ⟨by omega, by omega⟩
  have e3 : IntKind.i64.wrap (ny + 1) = n3 := by rw [hn3]; exact iw ⟨by omega, by omega⟩
  have e4 : IntKind.i64.wrap (n2 * n3) = n5 := by rw [← hn5]; exact iw ⟨by omega, by omega⟩
  have e6 : IntKind.i64.wrap (gx * nx) = a1 := by rw [ha1]; exact iw ⟨by omega, by omega⟩
  have e7 : IntKind.i64.wrap (gy * ny) = a2 := by rw [ha2]; exact iw ⟨by omega, by omega⟩
  obtain ⟨t5, ht5⟩ : ∃ v, v = 4 + n5 := ⟨_, rfl⟩
  have e5 : IntKind.i64.wrap (4 + n5) = t5 := by rw [ht5]; exact iw ⟨by omega, by omega⟩
  have q1 : ((n : Int) == t5) = false := by simp; omega
  have q2 : ¬ (n : Int) = t5 := by omega
  clear ht5
  have k1 : ¬ (n : Int) < 4 := by omega
  have k2 : (4 : Int) ≤ (n : Int) := by omega
  have k3 : n ≤ cap := by omega
  have k4 : (4 : Int) ≤ (cap : Int) := by omega
  have k7 : (0 : Int) < (n : Int) := by omega
  have k7n : 0 < n := by omega
  have k8 : (1 : Int) < (n : Int) := by omega
  have k9 : (2 : Int) < (n : Int) := by omega
  have k10 : (3 : Int) < (n : Int) := by omega
  rw [← hn] at hv h1 h4 ⊢
  clear hv h4 h3 h1 hn c0 c1 c2 c3 m1 m2 m3 m4 m5 hn1 hn2 hn3 hn5 e5' ha1 ha2 g1 g2 g3 g4 hf hL
  go_enter Try.func17, Try.ntmps17
  go_wp2_with fail
  have BB : Hid (Below w.heap.size w w) := Below.refl _ _
  go_cut [8] (fun s8 wc => ∃ gp g, s8 = .pointer (some ⟨gp, 0, none⟩) ∧ Hid (AtB wc gp #[.pointer (some ⟨g, 0, none⟩)] PMT ∧ AtB wc g #[.int .i64 gx, .int .i64 nx, .int .i64 gy, .int .i64 ny, .slice none 0 0] MXT ∧ gp ≠ g ∧ Below w.heap.size w wc ∧ w.heap.size ≤ gp ∧ w.heap.size ≤ g))
  case first =>
    have KK := Lib.hid (fun (w9 : World) (h : Below w.heap.size w w9) => (CT.out _ (below_next BB.out h) : (w9.cell? ⟨b, off, none⟩ = some (.int .i64 gx) ∧ w9.cell? ⟨b, off + 1, none⟩ = some (.int .i64 gy) ∧ w9.cell? ⟨b, off + 2, none⟩ = some (.int .i64 nx) ∧ w9.cell? ⟨b, off + 3, none⟩ = some (.int .i64 ny))))
    have K0 := KK.out w (Below.refl _ _)
    have KD := KK.out w.drew (below_drew (Below.refl _ _))
    go_region_held3 (fun w9 => (w9.cell? ⟨b, off, none⟩ = some (.int .i64 gx) ∧ w9.cell? ⟨b, off + 1, none⟩ = some (.int .i64 gy) ∧ w9.cell? ⟨b, off + 2, none⟩ = some (.int .i64 nx) ∧ w9.cell? ⟨b, off + 3, none⟩ = some (.int .i64 ny)))
        (first | with_reducible exact KD | with_reducible exact K0 | (refine KK.out _ ?_; repeat' (first | with_reducible exact Below.refl _ _ | with_reducible apply below_new | with_reducible apply below_drew | with_reducible apply below_set | omega)))
        (fail)
    all_goals clear KK K0 KD
    all_goals go_wp2_with fail
    all_goals go_meet
    all_goals first
      | (refine ⟨_, w.heap.size, rfl, ⟨?_, ?_, by omega, ?_, by omega, by omega⟩⟩ <;> ((repeat (first | with_reducible exact Below.refl _ _ | with_reducible apply below_new | with_reducible apply below_drew | (refine new_at_eq (by simp; done) _ _) | (refine AtB.alloc ?_ _))); done))
      | (refine ⟨_, w.heap.size + 1, rfl, ⟨?_, ?_, by omega, ?_, by omega, by omega⟩⟩ <;> ((repeat (first | with_reducible exact Below.refl _ _ | with_reducible apply below_new | with_reducible apply below_drew | (refine new_at_eq (by simp; done) _ _) | (refine AtB.alloc ?_ _))); done))
  obtain ⟨wc1, rfl⟩ : ∃ wo : World, wo = wc := ⟨_, rfl⟩
  obtain ⟨g_p, g_m, rfl, hcut⟩ := hcut
  obtain ⟨r_p, r_m, hne, BB, hgp, hgm⟩ := hcut.out
  clear hcut
  replace r_p := Lib.hid r_p; replace r_m := Lib.hid r_m; replace BB := Lib.hid BB
  have d_p := Lib.hid (And.intro hgp (And.intro hne True.intro))
  have d_m := Lib.hid (And.intro hgm (And.intro hne True.intro))
  clear hgp hgm hne
  go_wp2_with fail
  have KK := Lib.hid (fun (w9 : World) (h : Below wc1.heap.size wc1 w9) => (⟨cells1 (r_p.out.keep h), cells5 (r_m.out.keep h)⟩ : (w9.cell? ⟨g_p, 0, none⟩ = some (.pointer (some ⟨g_m, 0, none⟩))) ∧ (w9.cell? ⟨g_m, 0, none⟩ = some (.int .i64 gx) ∧ w9.cell? ⟨g_m, 1, none⟩ = some (.int .i64 nx) ∧ w9.cell? ⟨g_m, 2, none⟩ = some (.int .i64 gy) ∧ w9.cell? ⟨g_m, 3, none⟩ = some (.int .i64 ny) ∧ w9.cell? ⟨g_m, 4, none⟩ = some (.slice none 0 0))))
  have K0 := KK.out wc1 (Below.refl _ _)
  have KD := KK.out wc1.drew (below_drew (Below.refl _ _))
  go_region_held3 (fun w9 => (w9.cell? ⟨g_p, 0, none⟩ = some (.pointer (some ⟨g_m, 0, none⟩))) ∧ (w9.cell? ⟨g_m, 0, none⟩ = some (.int .i64 gx) ∧ w9.cell? ⟨g_m, 1, none⟩ = some (.int .i64 nx) ∧ w9.cell? ⟨g_m, 2, none⟩ = some (.int .i64 gy) ∧ w9.cell? ⟨g_m, 3, none⟩ = some (.int .i64 ny) ∧ w9.cell? ⟨g_m, 4, none⟩ = some (.slice none 0 0)))
      (first | with_reducible exact KD | with_reducible exact K0 | with_reducible exact K_w1)
      (first
        | (go_at_call 74
           refine (CF.out _).mono ?_
           rintro e w1 ⟨rfl, hb⟩
           have B_w1 := Lib.hid (reg_next (w0 := wc1) (by repeat (first | with_reducible exact Below.refl _ _ | with_reducible apply below_drew | with_reducible apply below_new)) hb)
           have K_w1 := KK.out _ B_w1.out
           clear hb))
  clear KK K0 KD K_w1
  replace r_p := Lib.hid (r_p.out.keep B_w1.out)
  replace r_m := Lib.hid (r_m.out.keep B_w1.out)
  replace BB := Lib.hid (below_next BB.out B_w1.out)
  clear B_w1
  go_wp2_with fail
  obtain ⟨c_p0, f_p0⟩ := reads1 r_p.out
  have l_p := r_p.out.lt
  obtain ⟨c_m0, c_m1, c_m2, c_m3, c_m4, f_m0, f_m1, f_m2, f_m3, f_m4⟩ := reads5 r_m.out
  have l_m := r_m.out.lt
  go_quiet (fail)
  have hb := below_drawn (Below.refl w1.heap.size w1) nq
  generalize w1.drewN nq = w2 at *
  clear c_p0 f_p0 l_p c_m0 c_m1 c_m2 c_m3 c_m4 f_m0 f_m1 f_m2 f_m3 f_m4 l_m
  replace r_p := Lib.hid (r_p.out.keep hb)
  replace r_m := Lib.hid (r_m.out.keep hb)
  replace BB := Lib.hid (below_next BB.out hb)
  clear hb nq
  go_wp2_with fail
  refine bodyPost_ret (v := .tuple #[.pointer none, .int .i64 12]) (by unfold results; simp only [Try.results17]; go_simp) rfl ?_
  exact ⟨rfl, BB.out⟩
set_option maxRecDepth 100000 in
set_option maxHeartbeats 8000000 in
theorem mnew_d (v : Value) (gx gy nx ny W0 H0 : Int) (rest : List Int) (hf : fitsM gx gy nx ny = true) (hL : ((rest.length + 4 : Nat) : Int) = 4 + 2 * (nx + 1) * (ny + 1)) (hfar : rest.any farM = true) (w : World) (hv : IS w v (gx :: gy :: nx :: ny :: rest)) :
    Calls Try.prog 17 #[v, .int .i64 W0, .int .i64 H0] w fun e w' => e = .returned (.tuple #[.pointer none, .int .i64 11]) ∧ Below w.heap.size w w' := by
  obtain ⟨b, off, cap, rfl, h1, h2, h3, h4⟩ := hv.some (by simp)
  simp only [List.length_cons] at hv h1 h4 ⊢
  have hv4 := Lib.hid (is_drop4 hv)
  have CF := Lib.hid (fun w => mfits gx nx gy ny w)
  rw [hf] at CF
  obtain ⟨g1, g2, g3, g4⟩ := fitsM_iff.1 hf
  have m1 := mul_rng g1 g3
  have m2 := mul_rng g2 g4
  have m3 : (nx + 1) * (ny + 1) ≤ 65 * 65 := Int.mul_le_mul (by omega) (by omega) (by omega) (by omega)
  have m5 : 2 * 2 ≤ (nx + 1) * (ny + 1) := Int.mul_le_mul (by omega) (by omega) (by omega) (by omega)
  have m4 : 2 * (nx + 1) * (ny + 1) = 2 * ((nx + 1) * (ny + 1)) := Int.mul_assoc _ _ _
  obtain ⟨n1, hn1⟩ : ∃ v, v = nx + 1 := ⟨_, rfl⟩
  obtain ⟨n2, hn2⟩ : ∃ v, v = 2 * n1 := ⟨_, rfl⟩
  obtain ⟨n3, hn3⟩ : ∃ v, v = ny + 1 := ⟨_, rfl⟩
  obtain ⟨n5, hn5⟩ : ∃ v, v = n2 * n3 := ⟨_, rfl⟩
  have e5' : n5 = 2 * (nx + 1) * (ny + 1) := by rw [hn5, hn2, hn1, hn3]
  obtain ⟨a1, ha1⟩ : ∃ v, v = gx * nx := ⟨_, rfl⟩
  obtain ⟨a2, ha2⟩ : ∃ v, v = gy * ny := ⟨_, rfl⟩
  have CK := Lib.hid (fun v w hv => kcon v farM rest w hv (fun z _ => mfar z w))
  rw [hfar] at CK
  have c0 := h4 0 (by omega)
  have c1 := h4 1 (by omega)
  have c2 := h4 2 (by omega)
  have c3 := h4 3 (by omega)
  have CT := Lib.hid (fun w9 (h9 : Below w.heap.size w w9) => And.intro ((h9.cell h3).trans c0) (And.intro ((h9.cell h3).trans c1) (And.intro ((h9.cell h3).trans c2) ((h9.cell h3).trans c3))))
  obtain ⟨n, hn⟩ : ∃ v, v = rest.length + 4 := ⟨_, rfl⟩
  have e1 : IntKind.i64.wrap (nx + 1) = n1 := by rw [hn1]; exact iw ⟨by omega, by omega⟩
  have e2 : IntKind.i64.wrap (2 * n1) = n2 := by rw [hn2]; exact iw ⟨by omega, by omega⟩
  have e3 : IntKind.i64.wrap (ny + 1) = n3 := by rw [hn3]; exact iw ⟨by omega, by omega⟩
  have e4 : IntKind.i64.wrap (n2 * n3) = n5 := by rw [← hn5]; exact iw ⟨by omega, by omega⟩
  have e6 : IntKind.i64.wrap (gx * nx) = a1 := by rw [ha1]; exact iw ⟨by omega, by omega⟩
  have e7 : IntKind.i64.wrap (gy * ny) = a2 := by rw [ha2]; exact iw ⟨by omega, by omega⟩
  have e5 : IntKind.i64.wrap (4 + n5) = (n : Int) := by rw [show 4 + n5 = (n : Int) by omega]; exact iw ⟨by omega, by omega⟩
  have k1 : ¬ (n : Int) < 4 := by omega
  have k2 : (4 : Int) ≤ (n : Int) := by omega
  have k3 : n ≤ cap := by omega
  have k4 : (4 : Int) ≤ (cap : Int) := by omega
  have k5 : ¬ 4 = cap := by omega
  have k6 : ¬ cap = 4 := by omega
  have hn4' := Lib.hid (show n - 4 = rest.length by omega)
  have hv5 : Hid (IS w (.slice (some ⟨b, off + 4, none⟩) (n - 4) (cap - 4)) rest) := by
    show IS _ _ _
    rw [hn4'.out]; exact hv4.out
  have k7 : (0 : Int) < (n : Int) := by omega
  have k7n : 0 < n := by omega
  have k8 : (1 : Int) < (n : Int) := by omega
  have k9 : (2 : Int) < (n : Int) := by omega
  have k10 : (3 : Int) < (n : Int) := by omega
  rw [← hn] at hv h1 h4 ⊢
  clear hv h4 h3 h1 hn c0 c1 c2 c3 m1 m2 m3 m4 m5 hn1 hn2 hn3 hn5 e5' ha1 ha2 g1 g2 g3 g4 hf hL hfar
  go_enter Try.func17, Try.ntmps17
  go_wp2_with fail
  have BB : Hid (Below w.heap.size w w) := Below.refl _ _
  go_cut [8] (fun s8 wc => ∃ gp g, s8 = .pointer (some ⟨gp, 0, none⟩) ∧ Hid (AtB wc gp #[.pointer (some ⟨g, 0, none⟩)] PMT ∧ AtB wc g #[.int .i64 gx, .int .i64 nx, .int .i64 gy, .int .i64 ny, .slice none 0 0] MXT ∧ gp ≠ g ∧ Below w.heap.size w wc ∧ w.heap.size ≤ gp ∧ w.heap.size ≤ g))
  case first =>
    have KK := Lib.hid (fun (w9 : World) (h : Below w.heap.size w w9) => (CT.out _ (below_next BB.out h) : (w9.cell? ⟨b, off, none⟩ = some (.int .i64 gx) ∧ w9.cell? ⟨b, off + 1, none⟩ = some (.int .i64 gy) ∧ w9.cell? ⟨b, off + 2, none⟩ = some (.int .i64 nx) ∧ w9.cell? ⟨b, off + 3, none⟩ = some (.int .i64 ny))))
    have K0 := KK.out w (Below.refl _ _)
    have KD := KK.out w.drew (below_drew (Below.refl _ _))
    go_region_held3 (fun w9 => (w9.cell? ⟨b, off, none⟩ = some (.int .i64 gx) ∧ w9.cell? ⟨b, off + 1, none⟩ = some (.int .i64 gy) ∧ w9.cell? ⟨b, off + 2, none⟩ = some (.int .i64 nx) ∧ w9.cell? ⟨b, off + 3, none⟩ = some (.int .i64 ny)))
        (first | with_reducible exact KD | with_reducible exact K0 | (refine KK.out _ ?_; repeat' (first | with_reducible exact Below.refl _ _ | with_reducible apply below_new | with_reducible apply below_drew | with_reducible apply below_set | omega)))
        (fail)
    all_goals clear KK K0 KD
    all_goals go_wp2_with fail
    all_goals go_meet
    all_goals first
      | (refine ⟨_, w.heap.size, rfl, ⟨?_, ?_, by omega, ?_, by omega, by omega⟩⟩ <;> ((repeat (first | with_reducible exact Below.refl _ _ | with_reducible apply below_new | with_reducible apply below_drew | (refine new_at_eq (by simp; done) _ _) | (refine AtB.alloc ?_ _))); done))
      | (refine ⟨_, w.heap.size + 1, rfl, ⟨?_, ?_, by omega, ?_, by omega, by omega⟩⟩ <;> ((repeat (first | with_reducible exact Below.refl _ _ | with_reducible apply below_new | with_reducible apply below_drew | (refine new_at_eq (by simp; done) _ _) | (refine AtB.alloc ?_ _))); done))
  obtain ⟨wc1, rfl⟩ : ∃ wo : World, wo = wc := ⟨_, rfl⟩
  obtain ⟨g_p, g_m, rfl, hcut⟩ := hcut
  obtain ⟨r_p, r_m, hne, BB, hgp, hgm⟩ := hcut.out
  clear hcut
  replace r_p := Lib.hid r_p; replace r_m := Lib.hid r_m; replace BB := Lib.hid BB
  have d_p := Lib.hid (And.intro hgp (And.intro hne True.intro))
  have d_m := Lib.hid (And.intro hgm (And.intro hne True.intro))
  clear hgp hgm hne
  go_wp2_with fail
  have KK := Lib.hid (fun (w9 : World) (h : Below wc1.heap.size wc1 w9) => (⟨cells1 (r_p.out.keep h), cells5 (r_m.out.keep h)⟩ : (w9.cell? ⟨g_p, 0, none⟩ = some (.pointer (some ⟨g_m, 0, none⟩))) ∧ (w9.cell? ⟨g_m, 0, none⟩ = some (.int .i64 gx) ∧ w9.cell? ⟨g_m, 1, none⟩ = some (.int .i64 nx) ∧ w9.cell? ⟨g_m, 2, none⟩ = some (.int .i64 gy) ∧ w9.cell? ⟨g_m, 3, none⟩ = some (.int .i64 ny) ∧ w9.cell? ⟨g_m, 4, none⟩ = some (.slice none 0 0))))
  have K0 := KK.out wc1 (Below.refl _ _)
  have KD := KK.out wc1.drew (below_drew (Below.refl _ _))
  go_region_held3 (fun w9 => (w9.cell? ⟨g_p, 0, none⟩ = some (.pointer (some ⟨g_m, 0, none⟩))) ∧ (w9.cell? ⟨g_m, 0, none⟩ = some (.int .i64 gx) ∧ w9.cell? ⟨g_m, 1, none⟩ = some (.int .i64 nx) ∧ w9.cell? ⟨g_m, 2, none⟩ = some (.int .i64 gy) ∧ w9.cell? ⟨g_m, 3, none⟩ = some (.int .i64 ny) ∧ w9.cell? ⟨g_m, 4, none⟩ = some (.slice none 0 0)))
      (first | with_reducible exact KD | with_reducible exact K0 | with_reducible exact K_w1)
      (first
        | (go_at_call 74
           refine (CF.out _).mono ?_
           rintro e w1 ⟨rfl, hb⟩
           have B_w1 := Lib.hid (reg_next (w0 := wc1) (by repeat (first | with_reducible exact Below.refl _ _ | with_reducible apply below_drew | with_reducible apply below_new)) hb)
           have K_w1 := KK.out _ B_w1.out
           clear hb))
  clear KK K0 KD K_w1
  replace r_p := Lib.hid (r_p.out.keep B_w1.out)
  replace r_m := Lib.hid (r_m.out.keep B_w1.out)
  replace BB := Lib.hid (below_next BB.out B_w1.out)
  clear B_w1
  go_wp2_with fail
  obtain ⟨c_p0, f_p0⟩ := reads1 r_p.out
  have l_p := r_p.out.lt
  obtain ⟨c_m0, c_m1, c_m2, c_m3, c_m4, f_m0, f_m1, f_m2, f_m3, f_m4⟩ := reads5 r_m.out
  have l_m := r_m.out.lt
  go_quiet (fail)
  have hb := below_drawn (Below.refl w1.heap.size w1) nq
  generalize w1.drewN nq = w2 at *
  clear c_p0 f_p0 l_p c_m0 c_m1 c_m2 c_m3 c_m4 f_m0 f_m1 f_m2 f_m3 f_m4 l_m
  replace r_p := Lib.hid (r_p.out.keep hb)
  replace r_m := Lib.hid (r_m.out.keep hb)
  replace BB := Lib.hid (below_next BB.out hb)
  clear hb nq
  go_wp2_with fail
  have h_v := Lib.hid (hv5.out.below BB.out)
  refine (CK.out _ _ h_v.out).mono ?_
  rintro e w9 ⟨rfl, rfl⟩
  go_wp2_with fail
  refine bodyPost_ret (v := .tuple #[.pointer none, .int .i64 11]) (by unfold results; simp only [Try.results17]; go_simp) rfl ?_
  exact ⟨rfl, BB.out⟩
set_option maxRecDepth 100000 in
set_option maxHeartbeats 8000000 in
theorem mnew_e1 (v : Value) (gx gy nx ny W0 H0 : Int) (rest : List Int) (hf : fitsM gx gy nx ny = true) (hL : ((rest.length + 4 : Nat) : Int) = 4 + 2 * (nx + 1) * (ny + 1)) (hfar : rest.any farM = false) (hw : W0 < 1) (w : World) (hv : IS w v (gx :: gy :: nx :: ny :: rest)) :
    Calls Try.prog 17 #[v, .int .i64 W0, .int .i64 H0] w fun e w' => e = .returned (.tuple #[.pointer none, .int .i64 30]) ∧ Below w.heap.size w w' := by
  obtain ⟨b, off, cap, rfl, h1, h2, h3, h4⟩ := hv.some (by simp)
  simp only [List.length_cons] at hv h1 h4 ⊢
  have hv4 := Lib.hid (is_drop4 hv)
  have CF := Lib.hid (fun w => mfits gx nx gy ny w)
  rw [hf] at CF
  obtain ⟨g1, g2, g3, g4⟩ := fitsM_iff.1 hf
  have m1 := mul_rng g1 g3
  have m2 := mul_rng g2 g4
  have m3 : (nx + 1) * (ny + 1) ≤ 65 * 65 := Int.mul_le_mul (by omega) (by omega) (by omega) (by omega)
  have m5 : 2 * 2 ≤ (nx + 1) * (ny + 1) := Int.mul_le_mul (by omega) (by omega) (by omega) (by omega)
  have m4 : 2 * (nx + 1) * (ny + 1) = 2 * ((nx + 1) * (ny + 1)) := Int.mul_assoc _ _ _
  obtain ⟨n1, hn1⟩ : ∃ v, v = nx + 1 := ⟨_, rfl⟩
  obtain ⟨n2, hn2⟩ : ∃ v, v = 2 * n1 := ⟨_, rfl⟩
  obtain ⟨n3, hn3⟩ : ∃ v, v = ny + 1 := ⟨_, rfl⟩
  obtain ⟨n5, hn5⟩ : ∃ v, v = n2 * n3 := ⟨_, rfl⟩
  have e5' : n5 = 2 * (nx + 1) * (ny + 1) := by rw [hn5, hn2, hn1, hn3]
  obtain ⟨a1, ha1⟩ : ∃ v, v = gx * nx := ⟨_, rfl⟩
  obtain ⟨a2, ha2⟩ : ∃ v, v = gy * ny := ⟨_, rfl⟩
  have CK := Lib.hid (fun v w hv => kcon v farM rest w hv (fun z _ => mfar z w))
  rw [hfar] at CK
  have c0 := h4 0 (by omega)
  have c1 := h4 1 (by omega)
  have c2 := h4 2 (by omega)
  have c3 := h4 3 (by omega)
  have CT := Lib.hid (fun w9 (h9 : Below w.heap.size w w9) => And.intro ((h9.cell h3).trans c0) (And.intro ((h9.cell h3).trans c1) (And.intro ((h9.cell h3).trans c2) ((h9.cell h3).trans c3))))
  obtain ⟨n, hn⟩ : ∃ v, v = rest.length + 4 := ⟨_, rfl⟩
  have e1 : IntKind.i64.wrap (nx + 1) = n1 := by rw [hn1]; exact iw ⟨by omega, by omega⟩
  have e2 : IntKind.i64.wrap (2 * n1) = n2 := by rw [hn2]; exact iw ⟨by omega, by omega⟩
  have e3 : IntKind.i64.wrap (ny + 1) = n3 := by rw [hn3]; exact iw ⟨by omega, by omega⟩
  have e4 : IntKind.i64.wrap (n2 * n3) = n5 := by rw [← hn5]; exact iw ⟨by omega, by omega⟩
  have e6 : IntKind.i64.wrap (gx * nx) = a1 := by rw [ha1]; exact iw ⟨by omega, by omega⟩
  have e7 : IntKind.i64.wrap (gy * ny) = a2 := by rw [ha2]; exact iw ⟨by omega, by omega⟩
  have e5 : IntKind.i64.wrap (4 + n5) = (n : Int) := by rw [show 4 + n5 = (n : Int) by omega]; exact iw ⟨by omega, by omega⟩
  have k1 : ¬ (n : Int) < 4 := by omega
  have k2 : (4 : Int) ≤ (n : Int) := by omega
  have k3 : n ≤ cap := by omega
  have k4 : (4 : Int) ≤ (cap : Int) := by omega
  have k5 : ¬ 4 = cap := by omega
  have k6 : ¬ cap = 4 := by omega
  have hn4' := Lib.hid (show n - 4 = rest.length by omega)
  have hv5 : Hid (IS w (.slice (some ⟨b, off + 4, none⟩) (n - 4) (cap - 4)) rest) := by
    show IS _ _ _
    rw [hn4'.out]; exact hv4.out
  have k7 : (0 : Int) < (n : Int) := by omega
  have k7n : 0 < n := by omega
  have k8 : (1 : Int) < (n : Int) := by omega
  have k9 : (2 : Int) < (n : Int) := by omega
  have k10 : (3 : Int) < (n : Int) := by omega
  have l1 : W0 < 1 := hw
  rw [← hn] at hv h1 h4 ⊢
  clear hv h4 h3 h1 hn c0 c1 c2 c3 m1 m2 m3 m4 m5 hn1 hn2 hn3 hn5 e5' ha1 ha2 g1 g2 g3 g4 hf hL hfar hw
  go_enter Try.func17, Try.ntmps17
  go_wp2_with fail
  have BB : Hid (Below w.heap.size w w) := Below.refl _ _
  go_cut [8] (fun s8 wc => ∃ gp g, s8 = .pointer (some ⟨gp, 0, none⟩) ∧ Hid (AtB wc gp #[.pointer (some ⟨g, 0, none⟩)] PMT ∧ AtB wc g #[.int .i64 gx, .int .i64 nx, .int .i64 gy, .int .i64 ny, .slice none 0 0] MXT ∧ gp ≠ g ∧ Below w.heap.size w wc ∧ w.heap.size ≤ gp ∧ w.heap.size ≤ g))
  case first =>
    have KK := Lib.hid (fun (w9 : World) (h : Below w.heap.size w w9) => (CT.out _ (below_next BB.out h) : (w9.cell? ⟨b, off, none⟩ = some (.int .i64 gx) ∧ w9.cell? ⟨b, off + 1, none⟩ = some (.int .i64 gy) ∧ w9.cell? ⟨b, off + 2, none⟩ = some (.int .i64 nx) ∧ w9.cell? ⟨b, off + 3, none⟩ = some (.int .i64 ny))))
    have K0 := KK.out w (Below.refl _ _)
    have KD := KK.out w.drew (below_drew (Below.refl _ _))
    go_region_held3 (fun w9 => (w9.cell? ⟨b, off, none⟩ = some (.int .i64 gx) ∧ w9.cell? ⟨b, off + 1, none⟩ = some (.int .i64 gy) ∧ w9.cell? ⟨b, off + 2, none⟩ = some (.int .i64 nx) ∧ w9.cell? ⟨b, off + 3, none⟩ = some (.int .i64 ny)))
        (first | with_reducible exact KD | with_reducible exact K0 | (refine KK.out _ ?_; repeat' (first | with_reducible exact Below.refl _ _ | with_reducible apply below_new | with_reducible apply below_drew | with_reducible apply below_set | omega)))
        (fail)
    all_goals clear KK K0 KD
    all_goals go_wp2_with fail
    all_goals go_meet
    all_goals first
      | (refine ⟨_, w.heap.size, rfl, ⟨?_, ?_, by omega, ?_, by omega, by omega⟩⟩ <;> ((repeat (first | with_reducible exact Below.refl _ _ | with_reducible apply below_new | with_reducible apply below_drew | (refine new_at_eq (by simp; done) _ _) | (refine AtB.alloc ?_ _))); done))
      | (refine ⟨_, w.heap.size + 1, rfl, ⟨?_, ?_, by omega, ?_, by omega, by omega⟩⟩ <;> ((repeat (first | with_reducible exact Below.refl _ _ | with_reducible apply below_new | with_reducible apply below_drew | (refine new_at_eq (by simp; done) _ _) | (refine AtB.alloc ?_ _))); done))
  obtain ⟨wc1, rfl⟩ : ∃ wo : World, wo = wc := ⟨_, rfl⟩
  obtain ⟨g_p, g_m, rfl, hcut⟩ := hcut
  obtain ⟨r_p, r_m, hne, BB, hgp, hgm⟩ := hcut.out
  clear hcut
  replace r_p := Lib.hid r_p; replace r_m := Lib.hid r_m; replace BB := Lib.hid BB
  have d_p := Lib.hid (And.intro hgp (And.intro hne True.intro))
  have d_m := Lib.hid (And.intro hgm (And.intro hne True.intro))
  clear hgp hgm hne
  go_wp2_with fail
  have KK := Lib.hid (fun (w9 : World) (h : Below wc1.heap.size wc1 w9) => (⟨cells1 (r_p.out.keep h), cells5 (r_m.out.keep h)⟩ : (w9.cell? ⟨g_p, 0, none⟩ = some (.pointer (some ⟨g_m, 0, none⟩))) ∧ (w9.cell? ⟨g_m, 0, none⟩ = some (.int .i64 gx) ∧ w9.cell? ⟨g_m, 1, none⟩ = some (.int .i64 nx) ∧ w9.cell? ⟨g_m, 2, none⟩ = some (.int .i64 gy) ∧ w9.cell? ⟨g_m, 3, none⟩ = some (.int .i64 ny) ∧ w9.cell? ⟨g_m, 4, none⟩ = some (.slice none 0 0))))
  have K0 := KK.out wc1 (Below.refl _ _)
  have KD := KK.out wc1.drew (below_drew (Below.refl _ _))
  go_region_held3 (fun w9 => (w9.cell? ⟨g_p, 0, none⟩ = some (.pointer (some ⟨g_m, 0, none⟩))) ∧ (w9.cell? ⟨g_m, 0, none⟩ = some (.int .i64 gx) ∧ w9.cell? ⟨g_m, 1, none⟩ = some (.int .i64 nx) ∧ w9.cell? ⟨g_m, 2, none⟩ = some (.int .i64 gy) ∧ w9.cell? ⟨g_m, 3, none⟩ = some (.int .i64 ny) ∧ w9.cell? ⟨g_m, 4, none⟩ = some (.slice none 0 0)))
      (first | with_reducible exact KD | with_reducible exact K0 | with_reducible exact K_w1)
      (first
        | (go_at_call 74
           refine (CF.out _).mono ?_
           rintro e w1 ⟨rfl, hb⟩
           have B_w1 := Lib.hid (reg_next (w0 := wc1) (by repeat (first | with_reducible exact Below.refl _ _ | with_reducible apply below_drew | with_reducible apply below_new)) hb)
           have K_w1 := KK.out _ B_w1.out
           clear hb))
  clear KK K0 KD K_w1
  replace r_p := Lib.hid (r_p.out.keep B_w1.out)
  replace r_m := Lib.hid (r_m.out.keep B_w1.out)
  replace BB := Lib.hid (below_next BB.out B_w1.out)
  clear B_w1
  go_wp2_with fail
  obtain ⟨c_p0, f_p0⟩ := reads1 r_p.out
  have l_p := r_p.out.lt
  obtain ⟨c_m0, c_m1, c_m2, c_m3, c_m4, f_m0, f_m1, f_m2, f_m3, f_m4⟩ := reads5 r_m.out
  have l_m := r_m.out.lt
  go_quiet (fail)
  have hb := below_drawn (Below.refl w1.heap.size w1) nq
  generalize w1.drewN nq = w2 at *
  clear c_p0 f_p0 l_p c_m0 c_m1 c_m2 c_m3 c_m4 f_m0 f_m1 f_m2 f_m3 f_m4 l_m
  replace r_p := Lib.hid (r_p.out.keep hb)
  replace r_m := Lib.hid (r_m.out.keep hb)
  replace BB := Lib.hid (below_next BB.out hb)
  clear hb nq
  go_wp2_with fail
  have h_v := Lib.hid (hv5.out.below BB.out)
  refine (CK.out _ _ h_v.out).mono ?_
  rintro e w9 ⟨rfl, rfl⟩
  go_wp2_with fail
  refine bodyPost_ret (v := .tuple #[.pointer none, .int .i64 30]) (by unfold results; simp only [Try.results17]; go_simp) rfl ?_
  exact ⟨rfl, BB.out⟩
set_option maxRecDepth 100000 in
set_option maxHeartbeats 8000000 in
theorem mnew_e2 (v : Value) (gx gy nx ny W0 H0 : Int) (rest : List Int) (hf : fitsM gx gy nx ny = true) (hL : ((rest.length + 4 : Nat) : Int) = 4 + 2 * (nx + 1) * (ny + 1)) (hfar : rest.any farM = false) (hw : 32768 < W0) (w : World) (hv : IS w v (gx :: gy :: nx :: ny :: rest)) :
    Calls Try.prog 17 #[v, .int .i64 W0, .int .i64 H0] w fun e w' => e = .returned (.tuple #[.pointer none, .int .i64 30]) ∧ Below w.heap.size w w' := by
  obtain ⟨b, off, cap, rfl, h1, h2, h3, h4⟩ := hv.some (by simp)
  simp only [List.length_cons] at hv h1 h4 ⊢
  have hv4 := Lib.hid (is_drop4 hv)
  have CF := Lib.hid (fun w => mfits gx nx gy ny w)
  rw [hf] at CF
  obtain ⟨g1, g2, g3, g4⟩ := fitsM_iff.1 hf
  have m1 := mul_rng g1 g3
  have m2 := mul_rng g2 g4
  have m3 : (nx + 1) * (ny + 1) ≤ 65 * 65 := Int.mul_le_mul (by omega) (by omega) (by omega) (by omega)
  have m5 : 2 * 2 ≤ (nx + 1) * (ny + 1) := Int.mul_le_mul (by omega) (by omega) (by omega) (by omega)
  have m4 : 2 * (nx + 1) * (ny + 1) = 2 * ((nx + 1) * (ny + 1)) := Int.mul_assoc _ _ _
  obtain ⟨n1, hn1⟩ : ∃ v, v = nx + 1 := ⟨_, rfl⟩
  obtain ⟨n2, hn2⟩ : ∃ v, v = 2 * n1 := ⟨_, rfl⟩
  obtain ⟨n3, hn3⟩ : ∃ v, v = ny + 1 := ⟨_, rfl⟩
  obtain ⟨n5, hn5⟩ : ∃ v, v = n2 * n3 := ⟨_, rfl⟩
  have e5' : n5 = 2 * (nx + 1) * (ny + 1) := by rw [hn5, hn2, hn1, hn3]
  obtain ⟨a1, ha1⟩ : ∃ v, v = gx * nx := ⟨_, rfl⟩
  obtain ⟨a2, ha2⟩ : ∃ v, v = gy * ny := ⟨_, rfl⟩
  have CK := Lib.hid (fun v w hv => kcon v farM rest w hv (fun z _ => mfar z w))
  rw [hfar] at CK
  have c0 := h4 0 (by omega)
  have c1 := h4 1 (by omega)
  have c2 := h4 2 (by omega)
  have c3 := h4 3 (by omega)
  have CT := Lib.hid (fun w9 (h9 : Below w.heap.size w w9) => And.intro ((h9.cell h3).trans c0) (And.intro ((h9.cell h3).trans c1) (And.intro ((h9.cell h3).trans c2) ((h9.cell h3).trans c3))))
  obtain ⟨n, hn⟩ : ∃ v, v = rest.length + 4 := ⟨_, rfl⟩
  have e1 : IntKind.i64.wrap (nx + 1) = n1 := by rw [hn1]; exact iw ⟨by omega, by omega⟩
  have e2 : IntKind.i64.wrap (2 * n1) = n2 := by rw [hn2]; exact iw ⟨by omega, by omega⟩
  have e3 : IntKind.i64.wrap (ny + 1) = n3 := by rw [hn3]; exact iw ⟨by omega, by omega⟩
  have e4 : IntKind.i64.wrap (n2 * n3) = n5 := by rw [← hn5]; exact iw ⟨by omega, by omega⟩
  have e6 : IntKind.i64.wrap (gx * nx) = a1 := by rw [ha1]; exact iw ⟨by omega, by omega⟩
  have e7 : IntKind.i64.wrap (gy * ny) = a2 := by rw [ha2]; exact iw ⟨by omega, by omega⟩
  have e5 : IntKind.i64.wrap (4 + n5) = (n : Int) := by rw [show 4 + n5 = (n : Int) by omega]; exact iw ⟨by omega, by omega⟩
  have k1 : ¬ (n : Int) < 4 := by omega
  have k2 : (4 : Int) ≤ (n : Int) := by omega
  have k3 : n ≤ cap := by omega
  have k4 : (4 : Int) ≤ (cap : Int) := by omega
  have k5 : ¬ 4 = cap := by omega
  have k6 : ¬ cap = 4 := by omega
  have hn4' := Lib.hid (show n - 4 = rest.length by omega)
  have hv5 : Hid (IS w (.slice (some ⟨b, off + 4, none⟩) (n - 4) (cap - 4)) rest) := by
    show IS _ _ _
    rw [hn4'.out]; exact hv4.out
  have k7 : (0 : Int) < (n : Int) := by omega
  have k7n : 0 < n := by omega
  have k8 : (1 : Int) < (n : Int) := by omega
  have k9 : (2 : Int) < (n : Int) := by omega
  have k10 : (3 : Int) < (n : Int) := by omega
  have l1 : ¬ W0 < 1 := by omega
  have l2 : 32768 < W0 := hw
  rw [← hn] at hv h1 h4 ⊢
  clear hv h4 h3 h1 hn c0 c1 c2 c3 m1 m2 m3 m4 m5 hn1 hn2 hn3 hn5 e5' ha1 ha2 g1 g2 g3 g4 hf hL hfar hw
  go_enter Try.func17, Try.ntmps17
  go_wp2_with fail
  have BB : Hid (Below w.heap.size w w) := Below.refl _ _
  go_cut [8] (fun s8 wc => ∃ gp g, s8 = .pointer (some ⟨gp, 0, none⟩) ∧ Hid (AtB wc gp #[.pointer (some ⟨g, 0, none⟩)] PMT ∧ AtB wc g #[.int .i64 gx, .int .i64 nx, .int .i64 gy, .int .i64 ny, .slice none 0 0] MXT ∧ gp ≠ g ∧ Below w.heap.size w wc ∧ w.heap.size ≤ gp ∧ w.heap.size ≤ g))
  case first =>
    have KK := Lib.hid (fun (w9 : World) (h : Below w.heap.size w w9) => (CT.out _ (below_next BB.out h) : (w9.cell? ⟨b, off, none⟩ = some (.int .i64 gx) ∧ w9.cell? ⟨b, off + 1, none⟩ = some (.int .i64 gy) ∧ w9.cell? ⟨b, off + 2, none⟩ = some (.int .i64 nx) ∧ w9.cell? ⟨b, off + 3, none⟩ = some (.int .i64 ny))))
    have K0 := KK.out w (Below.refl _ _)
    have KD := KK.out w.drew (below_drew (Below.refl _ _))
    go_region_held3 (fun w9 => (w9.cell? ⟨b, off, none⟩ = some (.int .i64 gx) ∧ w9.cell? ⟨b, off + 1, none⟩ = some (.int .i64 gy) ∧ w9.cell? ⟨b, off + 2, none⟩ = some (.int .i64 nx) ∧ w9.cell? ⟨b, off + 3, none⟩ = some (.int .i64 ny)))
        (first | with_reducible exact KD | with_reducible exact K0 | (refine KK.out _ ?_; repeat' (first | with_reducible exact Below.refl _ _ | with_reducible apply below_new | with_reducible apply below_drew | with_reducible apply below_set | omega)))
        (fail)
    all_goals clear KK K0 KD
    all_goals go_wp2_with fail
    all_goals go_meet
    all_goals first
      | (refine ⟨_, w.heap.size, rfl, ⟨?_, ?_, by omega, ?_, by omega, by omega⟩⟩ <;> ((repeat (first | with_reducible exact Below.refl _ _ | with_reducible apply below_new | with_reducible apply below_drew | (refine new_at_eq (by simp; done) _ _) | (refine AtB.alloc ?_ _))); done))
      | (refine ⟨_, w.heap.size + 1, rfl, ⟨?_, ?_, by omega, ?_, by omega, by omega⟩⟩ <;> ((repeat (first | with_reducible exact Below.refl _ _ | with_reducible apply below_new | with_reducible apply below_drew | (refine new_at_eq (by simp; done) _ _) | (refine AtB.alloc ?_ _))); done))
  obtain ⟨wc1, rfl⟩ : ∃ wo : World, wo = wc := ⟨_, rfl⟩
  obtain ⟨g_p, g_m, rfl, hcut⟩ := hcut
  obtain ⟨r_p, r_m, hne, BB, hgp, hgm⟩ := hcut.out
  clear hcut
  replace r_p := Lib.hid r_p; replace r_m := Lib.hid r_m; replace BB := Lib.hid BB
  have d_p := Lib.hid (And.intro hgp (And.intro hne True.intro))
  have d_m := Lib.hid (And.intro hgm (And.intro hne True.intro))
  clear hgp hgm hne
  go_wp2_with fail
  have KK := Lib.hid (fun (w9 : World) (h : Below wc1.heap.size wc1 w9) => (⟨cells1 (r_p.out.keep h), cells5 (r_m.out.keep h)⟩ : (w9.cell? ⟨g_p, 0, none⟩ = some (.pointer (some ⟨g_m, 0, none⟩))) ∧ (w9.cell? ⟨g_m, 0, none⟩ = some (.int .i64 gx) ∧ w9.cell? ⟨g_m, 1, none⟩ = some (.int .i64 nx) ∧ w9.cell? ⟨g_m, 2, none⟩ = some (.int .i64 gy) ∧ w9.cell? ⟨g_m, 3, none⟩ = some (.int .i64 ny) ∧ w9.cell? ⟨g_m, 4, none⟩ = some (.slice none 0 0))))
  have K0 := KK.out wc1 (Below.refl _ _)
  have KD := KK.out wc1.drew (below_drew (Below.refl _ _))
  go_region_held3 (fun w9 => (w9.cell? ⟨g_p, 0, none⟩ = some (.pointer (some ⟨g_m, 0, none⟩))) ∧ (w9.cell? ⟨g_m, 0, none⟩ = some (.int .i64 gx) ∧ w9.cell? ⟨g_m, 1, none⟩ = some (.int .i64 nx) ∧ w9.cell? ⟨g_m, 2, none⟩ = some (.int .i64 gy) ∧ w9.cell? ⟨g_m, 3, none⟩ = some (.int .i64 ny) ∧ w9.cell? ⟨g_m, 4, none⟩ = some (.slice none 0 0)))
      (first | with_reducible exact KD | with_reducible exact K0 | with_reducible exact K_w1)
      (first
        | (go_at_call 74
           refine (CF.out _).mono ?_
           rintro e w1 ⟨rfl, hb⟩
           have B_w1 := Lib.hid (reg_next (w0 := wc1) (by repeat (first | with_reducible exact Below.refl _ _ | with_reducible apply below_drew | with_reducible apply below_new)) hb)
           have K_w1 := KK.out _ B_w1.out
           clear hb))
  clear KK K0 KD K_w1
  replace r_p := Lib.hid (r_p.out.keep B_w1.out)
  replace r_m := Lib.hid (r_m.out.keep B_w1.out)
  replace BB := Lib.hid (below_next BB.out B_w1.out)
  clear B_w1
  go_wp2_with fail
  obtain ⟨c_p0, f_p0⟩ := reads1 r_p.out
  have l_p := r_p.out.lt
  obtain ⟨c_m0, c_m1, c_m2, c_m3, c_m4, f_m0, f_m1, f_m2, f_m3, f_m4⟩ := reads5 r_m.out
  have l_m := r_m.out.lt
  go_quiet (fail)
  have hb := below_drawn (Below.refl w1.heap.size w1) nq
  generalize w1.drewN nq = w2 at *
  clear c_p0 f_p0 l_p c_m0 c_m1 c_m2 c_m3 c_m4 f_m0 f_m1 f_m2 f_m3 f_m4 l_m
  replace r_p := Lib.hid (r_p.out.keep hb)
  replace r_m := Lib.hid (r_m.out.keep hb)
  replace BB := Lib.hid (below_next BB.out hb)
  clear hb nq
  go_wp2_with fail
  have h_v := Lib.hid (hv5.out.below BB.out)
  refine (CK.out _ _ h_v.out).mono ?_
  rintro e w9 ⟨rfl, rfl⟩
  go_wp2_with fail
  refine bodyPost_ret (v := .tuple #[.pointer none, .int .i64 30]) (by unfold results; simp only [Try.results17]; go_simp) rfl ?_
  exact ⟨rfl, BB.out⟩
set_option maxRecDepth 100000 in
set_option maxHeartbeats 8000000 in
theorem mnew_e3 (v : Value) (gx gy nx ny W0 H0 : Int) (rest : List Int) (hf : fitsM gx gy nx ny = true) (hL : ((rest.length + 4 : Nat) : Int) = 4 + 2 * (nx + 1) * (ny + 1)) (hfar : rest.any farM = false) (hw : 1 ≤ W0 ∧ W0 ≤ 32768) (hh : H0 < 1) (w : World) (hv : IS w v (gx :: gy :: nx :: ny :: rest)) :
    Calls Try.prog 17 #[v, .int .i64 W0, .int .i64 H0] w fun e w' => e = .returned (.tuple #[.pointer none, .int .i64 30]) ∧ Below w.heap.size w w' := by
  obtain ⟨b, off, cap, rfl, h1, h2, h3, h4⟩ := hv.some (by simp)
  simp only [List.length_cons] at hv h1 h4 ⊢
  have hv4 := Lib.hid (is_drop4 hv)
  have CF := Lib.hid (fun w => mfits gx nx gy ny w)
  rw [hf] at CF
  obtain ⟨g1, g2, g3, g4⟩ := fitsM_iff.1 hf
  have m1 := mul_rng g1 g3
  have m2 := mul_rng g2 g4
  have m3 : (nx + 1) * (ny + 1) ≤ 65 * 65 := Int.mul_le_mul (by omega) (by omega) (by omega) (by omega)
  have m5 : 2 * 2 ≤ (nx + 1) * (ny + 1) := Int.mul_le_mul (by omega) (by omega) (by omega) (by omega)
  have m4 : 2 * (nx + 1) * (ny + 1) = 2 * ((nx + 1) * (ny + 1)) := Int.mul_assoc _ _ _
  obtain ⟨n1, hn1⟩ : ∃ v, v = nx + 1 := ⟨_, rfl⟩
  obtain ⟨n2, hn2⟩ : ∃ v, v = 2 * n1 := ⟨_, rfl⟩
  obtain ⟨n3, hn3⟩ : ∃ v, v = ny + 1 := ⟨_, rfl⟩
  obtain ⟨n5, hn5⟩ : ∃ v, v = n2 * n3 := ⟨_, rfl⟩
  have e5' : n5 = 2 * (nx + 1) * (ny + 1) := by rw [hn5, hn2, hn1, hn3]
  obtain ⟨a1, ha1⟩ : ∃ v, v = gx * nx := ⟨_, rfl⟩
  obtain ⟨a2, ha2⟩ : ∃ v, v = gy * ny := ⟨_, rfl⟩
  have CK := Lib.hid (fun v w hv => kcon v farM rest w hv (fun z _ => mfar z w))
  rw [hfar] at CK
  have c0 := h4 0 (by omega)
  have c1 := h4 1 (by omega)
  have c2 := h4 2 (by omega)
  have c3 := h4 3 (by omega)
  have CT := Lib.hid (fun w9 (h9 : Below w.heap.size w w9) => And.intro ((h9.cell h3).trans c0) (And.intro ((h9.cell h3).trans c1) (And.intro ((h9.cell h3).trans c2) ((h9.cell h3).trans c3))))
  obtain ⟨n, hn⟩ : ∃ v, v = rest.length + 4 := ⟨_, rfl⟩
  have e1 : IntKind.i64.wrap (nx + 1) = n1 := by rw [hn1]; exact iw ⟨by omega, by omega⟩
  have e2 : IntKind.i64.wrap (2 * n1) = n2 := by rw [hn2]; exact iw ⟨by omega, by omega⟩
  have e3 : IntKind.i64.wrap (ny + 1) = n3 := by rw [hn3]; exact iw ⟨by omega, by omega⟩
  have e4 : IntKind.i64.wrap (n2 * n3) = n5 := by rw [← hn5]; exact iw ⟨by omega, by omega⟩
  have e6 : IntKind.i64.wrap (gx * nx) = a1 := by rw [ha1]; exact iw ⟨by omega, by omega⟩
  have e7 : IntKind.i64.wrap (gy * ny) = a2 := by rw [ha2]; exact iw ⟨by omega, by omega⟩
  have e5 : IntKind.i64.wrap (4 + n5) = (n : Int) := by rw [show 4 + n5 = (n : Int) by omega]; exact iw ⟨by omega, by omega⟩
  have k1 : ¬ (n : Int) < 4 := by omega
  have k2 : (4 : Int) ≤ (n : Int) := by omega
  have k3 : n ≤ cap := by omega
  have k4 : (4 : Int) ≤ (cap : Int) := by omega
  have k5 : ¬ 4 = cap := by omega
  have k6 : ¬ cap = 4 := by omega
  have hn4' := Lib.hid (show n - 4 = rest.length by omega)
  have hv5 : Hid (IS w (.slice (some ⟨b, off + 4, none⟩) (n - 4) (cap - 4)) rest) := by
    show IS _ _ _
    rw [hn4'.out]; exact hv4.out
  have k7 : (0 : Int) < (n : Int) := by omega
  have k7n : 0 < n := by omega
  have k8 : (1 : Int) < (n : Int) := by omega
  have k9 : (2 : Int) < (n : Int) := by omega
  have k10 : (3 : Int) < (n : Int) := by omega
  have l1 : ¬ W0 < 1 := by omega
  have l2 : ¬ 32768 < W0 := by omega
  have l3 : H0 < 1 := hh
  rw [← hn] at hv h1 h4 ⊢
  clear hv h4 h3 h1 hn c0 c1 c2 c3 m1 m2 m3 m4 m5 hn1 hn2 hn3 hn5 e5' ha1 ha2 g1 g2 g3 g4 hf hL hfar hw hh
  go_enter Try.func17, Try.ntmps17
  go_wp2_with fail
  have BB : Hid (Below w.heap.size w w) := Below.refl _ _
  go_cut [8] (fun s8 wc => ∃ gp g, s8 = .pointer (some ⟨gp, 0, none⟩) ∧ Hid (AtB wc gp #[.pointer (some ⟨g, 0, none⟩)] PMT ∧ AtB wc g #[.int .i64 gx, .int .i64 nx, .int .i64 gy, .int .i64 ny, .slice none 0 0] MXT ∧ gp ≠ g ∧ Below w.heap.size w wc ∧ w.heap.size ≤ gp ∧ w.heap.size ≤ g))
  case first =>
    have KK := Lib.hid (fun (w9 : World) (h : Below w.heap.size w w9) => (CT.out _ (below_next BB.out h) : (w9.cell? ⟨b, off, none⟩ = some (.int .i64 gx) ∧ w9.cell? ⟨b, off + 1, none⟩ = some (.int .i64 gy) ∧ w9.cell? ⟨b, off + 2, none⟩ = some (.int .i64 nx) ∧ w9.cell? ⟨b, off + 3, none⟩ = some (.int .i64 ny))))
    have K0 := KK.out w (Below.refl _ _)
    have KD := KK.out w.drew (below_drew (Below.refl _ _))
    go_region_held3 (fun w9 => (w9.cell? ⟨b, off, none⟩ = some (.int .i64 gx) ∧ w9.cell? ⟨b, off + 1, none⟩ = some (.int .i64 gy) ∧ w9.cell? ⟨b, off + 2, none⟩ = some (.int .i64 nx) ∧ w9.cell? ⟨b, off + 3, none⟩ = some (.int .i64 ny)))
        (first | with_reducible exact KD | with_reducible exact K0 | (refine KK.out _ ?_; repeat' (first | with_reducible exact Below.refl _ _ | with_reducible apply below_new | with_reducible apply below_drew | with_reducible apply below_set | omega)))
        (fail)
    all_goals clear KK K0 KD
    all_goals go_wp2_with fail
    all_goals go_meet
    all_goals first
      | (refine ⟨_, w.heap.size, rfl, ⟨?_, ?_, by omega, ?_, by omega, by omega⟩⟩ <;> ((repeat (first | with_reducible exact Below.refl _ _ | with_reducible apply below_new | with_reducible apply below_drew | (refine new_at_eq (by simp; done) _ _) | (refine AtB.alloc ?_ _))); done))
      | (refine ⟨_, w.heap.size + 1, rfl, ⟨?_, ?_, by omega, ?_, by omega, by omega⟩⟩ <;> ((repeat (first | with_reducible exact Below.refl _ _ | with_reducible apply below_new | with_reducible apply below_drew | (refine new_at_eq (by simp; done) _ _) | (refine AtB.alloc ?_ _))); done))
  obtain ⟨wc1, rfl⟩ : ∃ wo : World, wo = wc := ⟨_, rfl⟩
  obtain ⟨g_p, g_m, rfl, hcut⟩ := hcut
  obtain ⟨r_p, r_m, hne, BB, hgp, hgm⟩ := hcut.out
  clear hcut
  replace r_p := Lib.hid r_p; replace r_m := Lib.hid r_m; replace BB := Lib.hid BB
  have d_p := Lib.hid (And.intro hgp (And.intro hne True.intro))
  have d_m := Lib.hid (And.intro hgm (And.intro hne True.intro))
  clear hgp hgm hne
  go_wp2_with fail
  have KK := Lib.hid (fun (w9 : World) (h : Below wc1.heap.size wc1 w9) => (⟨cells1 (r_p.out.keep h), cells5 (r_m.out.keep h)⟩ : (w9.cell? ⟨g_p, 0, none⟩ = some (.pointer (some ⟨g_m, 0, none⟩))) ∧ (w9.cell? ⟨g_m, 0, none⟩ = some (.int .i64 gx) ∧ w9.cell? ⟨g_m, 1, none⟩ = some (.int .i64 nx) ∧ w9.cell? ⟨g_m, 2, none⟩ = some (.int .i64 gy) ∧ w9.cell? ⟨g_m, 3, none⟩ = some (.int .i64 ny) ∧ w9.cell? ⟨g_m, 4, none⟩ = some (.slice none 0 0))))
  have K0 := KK.out wc1 (Below.refl _ _)
  have KD := KK.out wc1.drew (below_drew (Below.refl _ _))
  go_region_held3 (fun w9 => (w9.cell? ⟨g_p, 0, none⟩ = some (.pointer (some ⟨g_m, 0, none⟩))) ∧ (w9.cell? ⟨g_m, 0, none⟩ = some (.int .i64 gx) ∧ w9.cell? ⟨g_m, 1, none⟩ = some (.int .i64 nx) ∧ w9.cell? ⟨g_m, 2, none⟩ = some (.int .i64 gy) ∧ w9.cell? ⟨g_m, 3, none⟩ = some (.int .i64 ny) ∧ w9.cell? ⟨g_m, 4, none⟩ = some (.slice none 0 0)))
      (first | with_reducible exact KD | with_reducible exact K0 | with_reducible exact K_w1)
      (first
        | (go_at_call 74
           refine (CF.out _).mono ?_
           rintro e w1 ⟨rfl, hb⟩
           have B_w1 := Lib.hid (reg_next (w0 := wc1) (by repeat (first | with_reducible exact Below.refl _ _ | with_reducible apply below_drew | with_reducible apply below_new)) hb)
           have K_w1 := KK.out _ B_w1.out
           clear hb))
  clear KK K0 KD K_w1
  replace r_p := Lib.hid (r_p.out.keep B_w1.out)
  replace r_m := Lib.hid (r_m.out.keep B_w1.out)
  replace BB := Lib.hid (below_next BB.out B_w1.out)
  clear B_w1
  go_wp2_with fail
  obtain ⟨c_p0, f_p0⟩ := reads1 r_p.out
  have l_p := r_p.out.lt
  obtain ⟨c_m0, c_m1, c_m2, c_m3, c_m4, f_m0, f_m1, f_m2, f_m3, f_m4⟩ := reads5 r_m.out
  have l_m := r_m.out.lt
  go_quiet (fail)
  have hb := below_drawn (Below.refl w1.heap.size w1) nq
  generalize w1.drewN nq = w2 at *
  clear c_p0 f_p0 l_p c_m0 c_m1 c_m2 c_m3 c_m4 f_m0 f_m1 f_m2 f_m3 f_m4 l_m
  replace r_p := Lib.hid (r_p.out.keep hb)
  replace r_m := Lib.hid (r_m.out.keep hb)
  replace BB := Lib.hid (below_next BB.out hb)
  clear hb nq
  go_wp2_with fail
  have h_v := Lib.hid (hv5.out.below BB.out)
  refine (CK.out _ _ h_v.out).mono ?_
  rintro e w9 ⟨rfl, rfl⟩
  go_wp2_with fail
  refine bodyPost_ret (v := .tuple #[.pointer none, .int .i64 30]) (by unfold results; simp only [Try.results17]; go_simp) rfl ?_
  exact ⟨rfl, BB.out⟩
set_option maxRecDepth 100000 in
set_option maxHeartbeats 8000000 in
theorem mnew_e4 (v : Value) (gx gy nx ny W0 H0 : Int) (rest : List Int) (hf : fitsM gx gy nx ny = true) (hL : ((rest.length + 4 : Nat) : Int) = 4 + 2 * (nx + 1) * (ny + 1)) (hfar : rest.any farM = false) (hw : 1 ≤ W0 ∧ W0 ≤ 32768) (hh : 32768 < H0) (w : World) (hv : IS w v (gx :: gy :: nx :: ny :: rest)) :
    Calls Try.prog 17 #[v, .int .i64 W0, .int .i64 H0] w fun e w' => e = .returned (.tuple #[.pointer none, .int .i64 30]) ∧ Below w.heap.size w w' := by
  obtain ⟨b, off, cap, rfl, h1, h2, h3, h4⟩ := hv.some (by simp)
  simp only [List.length_cons] at hv h1 h4 ⊢
  have hv4 := Lib.hid (is_drop4 hv)
  have CF := Lib.hid (fun w => mfits gx nx gy ny w)
  rw [hf] at CF
  obtain ⟨g1, g2, g3, g4⟩ := fitsM_iff.1 hf
  have m1 := mul_rng g1 g3
  have m2 := mul_rng g2 g4
  have m3 : (nx + 1) * (ny + 1) ≤ 65 * 65 := Int.mul_le_mul (by omega) (by omega) (by omega) (by omega)
  have m5 : 2 * 2 ≤ (nx + 1) * (ny + 1) := Int.mul_le_mul (by omega) (by omega) (by omega) (by omega)
  have m4 : 2 * (nx + 1) * (ny + 1) = 2 * ((nx + 1) * (ny + 1)) := Int.mul_assoc _ _ _
  obtain ⟨n1, hn1⟩ : ∃ v, v = nx + 1 := ⟨_, rfl⟩
  obtain ⟨n2, hn2⟩ : ∃ v, v = 2 * n1 := ⟨_, rfl⟩
  obtain ⟨n3, hn3⟩ : ∃ v, v = ny + 1 := ⟨_, rfl⟩
  obtain ⟨n5, hn5⟩ : ∃ v, v = n2 * n3 := ⟨_, rfl⟩
  have e5' : n5 = 2 * (nx + 1) * (ny + 1) := by rw [hn5, hn2, hn1, hn3]
  obtain ⟨a1, ha1⟩ : ∃ v, v = gx * nx := ⟨_, rfl⟩
  obtain ⟨a2, ha2⟩ : ∃ v, v = gy * ny := ⟨_, rfl⟩
  have CK := Lib.hid (fun v w hv => kcon v farM rest w hv (fun z _ => mfar z w))
  rw [hfar] at CK
  have c0 := h4 0 (by omega)
  have c1 := h4 1 (by omega)
  have c2 := h4 2 (by omega)
  have c3 := h4 3 (by omega)
  have CT := Lib.hid (fun w9 (h9 : Below w.heap.size w w9) => And.intro ((h9.cell h3).trans c0) (And.intro ((h9.cell h3).trans c1) (And.intro ((h9.cell h3).trans c2) ((h9.cell h3).trans c3))))
  obtain ⟨n, hn⟩ : ∃ v, v = rest.length + 4 := ⟨_, rfl⟩
  have e1 : IntKind.i64.wrap (nx + 1) = n1 := by rw [hn1]; exact iw ⟨by omega, by omega⟩
  have e2 : IntKind.i64.wrap (2 * n1) = n2 := by rw [hn2]; exact iw ⟨by omega, by omega⟩
  have e3 : IntKind.i64.wrap (ny + 1) = n3 := by rw [hn3]; exact iw ⟨by omega, by omega⟩
  have e4 : IntKind.i64.wrap (n2 * n3) = n5 := by rw [← hn5]; exact iw ⟨by omega, by omega⟩
  have e6 : IntKind.i64.wrap (gx * nx) = a1 := by rw [ha1]; exact iw ⟨by omega, by omega⟩
  have e7 : IntKind.i64.wrap (gy * ny) = a2 := by rw [ha2]; exact iw ⟨by omega, by omega⟩
  have e5 : IntKind.i64.wrap (4 + n5) = (n : Int) := by rw [show 4 + n5 = (n : Int) by omega]; exact iw ⟨by omega, by omega⟩
  have k1 : ¬ (n : Int) < 4 := by omega
  have k2 : (4 : Int) ≤ (n : Int) := by omega
  have k3 : n ≤ cap := by omega
  have k4 : (4 : Int) ≤ (cap : Int) := by omega
  have k5 : ¬ 4 = cap := by omega
  have k6 : ¬ cap = 4 := by omega
  have hn4' := Lib.hid (show n - 4 = rest.length by omega)
  have hv5 : Hid (IS w (.slice (some ⟨b, off + 4, none⟩) (n - 4) (cap - 4)) rest) := by
    show IS _ _ _
    rw [hn4'.out]; exact hv4.out
  have k7 : (0 : Int) < (n : Int) := by omega
  have k7n : 0 < n := by omega
  have k8 : (1 : Int) < (n : Int) := by omega
  have k9 : (2 : Int) < (n : Int) := by omega
  have k10 : (3 : Int) < (n : Int) := by omega
  have l1 : ¬ W0 < 1 := by omega
  have l2 : ¬ 32768 < W0 := by omega
  have l3 : ¬ H0 < 1 := by omega
  have l4 : 32768 < H0 := hh
  rw [← hn] at hv h1 h4 ⊢
  clear hv h4 h3 h1 hn c0 c1 c2 c3 m1 m2 m3 m4 m5 hn1 hn2 hn3 hn5 e5' ha1 ha2 g1 g2 g3 g4 hf hL hfar hw hh
  go_enter Try.func17, Try.ntmps17
  go_wp2_with fail
  have BB : Hid (Below w.heap.size w w) := Below.refl _ _
  go_cut [8] (fun s8 wc => ∃ gp g, s8 = .pointer (some ⟨gp, 0, none⟩) ∧ Hid (AtB wc gp #[.pointer (some ⟨g, 0, none⟩)] PMT ∧ AtB wc g #[.int .i64 gx, .int .i64 nx, .int .i64 gy, .int .i64 ny, .slice none 0 0] MXT ∧ gp ≠ g ∧ Below w.heap.size w wc ∧ w.heap.size ≤ gp ∧ w.heap.size ≤ g))
  case first =>
    have KK := Lib.hid (fun (w9 : World) (h : Below w.heap.size w w9) => (CT.out _ (below_next BB.out h) : (w9.cell? ⟨b, off, none⟩ = some (.int .i64 gx) ∧ w9.cell? ⟨b, off + 1, none⟩ = some (.int .i64 gy) ∧ w9.cell? ⟨b, off + 2, none⟩ = some (.int .i64 nx) ∧ w9.cell? ⟨b, off + 3, none⟩ = some (.int .i64 ny))))
    have K0 := KK.out w (Below.refl _ _)
    have KD := KK.out w.drew (below_drew (Below.refl _ _))
    go_region_held3 (fun w9 => (w9.cell? ⟨b, off, none⟩ = some (.int .i64 gx) ∧ w9.cell? ⟨b, off + 1, none⟩ = some (.int .i64 gy) ∧ w9.cell? ⟨b, off + 2, none⟩ = some (.int .i64 nx) ∧ w9.cell? ⟨b, off + 3, none⟩ = some (.int .i64 ny)))
        (first | with_reducible exact KD | with_reducible exact K0 | (refine KK.out _ ?_; repeat' (first | with_reducible exact Below.refl _ _ | with_reducible apply below_new | with_reducible apply below_drew | with_reducible apply below_set | omega)))
        (fail)
    all_goals clear KK K0 KD
    all_goals go_wp2_with fail
    all_goals go_meet
    all_goals first
      | (refine ⟨_, w.heap.size, rfl, ⟨?_, ?_, by omega, ?_, by omega, by omega⟩⟩ <;> ((repeat (first | with_reducible exact Below.refl _ _ | with_reducible apply below_new | with_reducible apply below_drew | (refine new_at_eq (by simp; done) _ _) | (refine AtB.alloc ?_ _))); done))
      | (refine ⟨_, w.heap.size + 1, rfl, ⟨?_, ?_, by omega, ?_, by omega, by omega⟩⟩ <;> ((repeat (first | with_reducible exact Below.refl _ _ | with_reducible apply below_new | with_reducible apply below_drew | (refine new_at_eq (by simp; done) _ _) | (refine AtB.alloc ?_ _))); done))
  obtain ⟨wc1, rfl⟩ : ∃ wo : World, wo = wc := ⟨_, rfl⟩
  obtain ⟨g_p, g_m, rfl, hcut⟩ := hcut
  obtain ⟨r_p, r_m, hne, BB, hgp, hgm⟩ := hcut.out
  clear hcut
  replace r_p := Lib.hid r_p; replace r_m := Lib.hid r_m; replace BB := Lib.hid BB
  have d_p := Lib.hid (And.intro hgp (And.intro hne True.intro))
  have d_m := Lib.hid (And.intro hgm (And.intro hne True.intro))
  clear hgp hgm hne
  go_wp2_with fail
  have KK := Lib.hid (fun (w9 : World) (h : Below wc1.heap.size wc1 w9) => (⟨cells1 (r_p.out.keep h), cells5 (r_m.out.keep h)⟩ : (w9.cell? ⟨g_p, 0, none⟩ = some (.pointer (some ⟨g_m, 0, none⟩))) ∧ (w9.cell? ⟨g_m, 0, none⟩ = some (.int .i64 gx) ∧ w9.cell? ⟨g_m, 1, none⟩ = some (.int .i64 nx) ∧ w9.cell? ⟨g_m, 2, none⟩ = some (.int .i64 gy) ∧ w9.cell? ⟨g_m, 3, none⟩ = some (.int .i64 ny) ∧ w9.cell? ⟨g_m, 4, none⟩ = some (.slice none 0 0))))
  have K0 := KK.out wc1 (Below.refl _ _)
  have KD := KK.out wc1.drew (below_drew (Below.refl _ _))
  go_region_held3 (fun w9 => (w9.cell? ⟨g_p, 0, none⟩ = some (.pointer (some ⟨g_m, 0, none⟩))) ∧ (w9.cell? ⟨g_m, 0, none⟩ = some (.int .i64 gx) ∧ w9.cell? ⟨g_m, 1, none⟩ = some (.int .i64 nx) ∧ w9.cell? ⟨g_m, 2, none⟩ = some (.int .i64 gy) ∧ w9.cell? ⟨g_m, 3, none⟩ = some (.int .i64 ny) ∧ w9.cell? ⟨g_m, 4, none⟩ = some (.slice none 0 0)))
      (first | with_reducible exact KD | with_reducible exact K0 | with_reducible exact K_w1)
      (first
        | (go_at_call 74
           refine (CF.out _).mono ?_
           rintro e w1 ⟨rfl, hb⟩
           have B_w1 := Lib.hid (reg_next (w0 := wc1) (by repeat (first | with_reducible exact Below.refl _ _ | with_reducible apply below_drew | with_reducible apply below_new)) hb)
           have K_w1 := KK.out _ B_w1.out
           clear hb))
  clear KK K0 KD K_w1
  replace r_p := Lib.hid (r_p.out.keep B_w1.out)
  replace r_m := Lib.hid (r_m.out.keep B_w1.out)
  replace BB := Lib.hid (below_next BB.out B_w1.out)
  clear B_w1
  go_wp2_with fail
  obtain ⟨c_p0, f_p0⟩ := reads1 r_p.out
  have l_p := r_p.out.lt
  obtain ⟨c_m0, c_m1, c_m2, c_m3, c_m4, f_m0, f_m1, f_m2, f_m3, f_m4⟩ := reads5 r_m.out
  have l_m := r_m.out.lt
  go_quiet (fail)
  have hb := below_drawn (Below.refl w1.heap.size w1) nq
  generalize w1.drewN nq = w2 at *
  clear c_p0 f_p0 l_p c_m0 c_m1 c_m2 c_m3 c_m4 f_m0 f_m1 f_m2 f_m3 f_m4 l_m
  replace r_p := Lib.hid (r_p.out.keep hb)
  replace r_m := Lib.hid (r_m.out.keep hb)
  replace BB := Lib.hid (below_next BB.out hb)
  clear hb nq
  go_wp2_with fail
  have h_v := Lib.hid (hv5.out.below BB.out)
  refine (CK.out _ _ h_v.out).mono ?_
  rintro e w9 ⟨rfl, rfl⟩
  go_wp2_with fail
  refine bodyPost_ret (v := .tuple #[.pointer none, .int .i64 30]) (by unfold results; simp only [Try.results17]; go_simp) rfl ?_
  exact ⟨rfl, BB.out⟩
set_option maxRecDepth 100000 in
set_option maxHeartbeats 8000000 in
theorem mnew_f1 (v : Value) (gx gy nx ny W0 H0 : Int) (rest : List Int) (hf : fitsM gx gy nx ny = true) (hL : ((rest.length + 4 : Nat) : Int) = 4 + 2 * (nx + 1) * (ny + 1)) (hfar : rest.any farM = false) (hw : 1 ≤ W0 ∧ W0 ≤ 32768) (hh : 1 ≤ H0 ∧ H0 ≤ 32768) (hs : gx * nx < W0) (w : World) (hv : IS w v (gx :: gy :: nx :: ny :: rest)) :
    Calls Try.prog 17 #[v, .int .i64 W0, .int .i64 H0] w fun e w' => e = .returned (.tuple #[.pointer none, .int .i64 42]) ∧ Below w.heap.size w w' := by
  obtain ⟨b, off, cap, rfl, h1, h2, h3, h4⟩ := hv.some (by simp)
  simp only [List.length_cons] at hv h1 h4 ⊢
  have hv4 := Lib.hid (is_drop4 hv)
  have CF := Lib.hid (fun w => mfits gx nx gy ny w)
  rw [hf] at CF
  obtain ⟨g1, g2, g3, g4⟩ := fitsM_iff.1 hf
  have m1 := mul_rng g1 g3
  have m2 := mul_rng g2 g4
  have m3 : (nx + 1) * (ny + 1) ≤ 65 * 65 := Int.mul_le_mul (by omega) (by omega) (by omega) (by omega)
  have m5 : 2 * 2 ≤ (nx + 1) * (ny + 1) := Int.mul_le_mul (by omega) (by omega) (by omega) (by omega)
  have m4 : 2 * (nx + 1) * (ny + 1) = 2 * ((nx + 1) * (ny + 1)) := Int.mul_assoc _ _ _
  obtain ⟨n1, hn1⟩ : ∃ v, v = nx + 1 := ⟨_, rfl⟩
  obtain ⟨n2, hn2⟩ : ∃ v, v = 2 * n1 := ⟨_, rfl⟩
  obtain ⟨n3, hn3⟩ : ∃ v, v = ny + 1 := ⟨_, rfl⟩
  obtain ⟨n5, hn5⟩ : ∃ v, v = n2 * n3 := ⟨_, rfl⟩
  have e5' : n5 = 2 * (nx + 1) * (ny + 1) := by rw [hn5, hn2, hn1, hn3]
  obtain ⟨a1, ha1⟩ : ∃ v, v = gx * nx := ⟨_, rfl⟩
  obtain ⟨a2, ha2⟩ : ∃ v, v = gy * ny := ⟨_, rfl⟩
  have CK := Lib.hid (fun v w hv => kcon v farM rest w hv (fun z _ => mfar z w))
  rw [hfar] at CK
  have c0 := h4 0 (by omega)
  have c1 := h4 1 (by omega)
  have c2 := h4 2 (by omega)
  have c3 := h4 3 (by omega)
  have CT := Lib.hid (fun w9 (h9 : Below w.heap.size w w9) => And.intro ((h9.cell h3).trans c0) (And.intro ((h9.cell h3).trans c1) (And.intro ((h9.cell h3).trans c2) ((h9.cell h3).trans c3))))
  obtain ⟨n, hn⟩ : ∃ v, v = rest.length + 4 := ⟨_, rfl⟩
  have e1 : IntKind.i64.wrap (nx + 1) = n1 := by rw [hn1]; exact iw ⟨by omega, by omega⟩
  have e2 : IntKind.i64.wrap (2 * n1) = n2 := by rw [hn2]; exact iw ⟨by omega, by omega⟩
  have e3 : IntKind.i64.wrap (ny + 1) = n3 := by rw [hn3]; exact iw ⟨by omega, by omega⟩
  have e4 : IntKind.i64.wrap (n2 * n3) = n5 := by rw [← hn5]; exact iw ⟨by omega, by omega⟩
  have e6 : IntKind.i64.wrap (gx * nx) = a1 := by rw [ha1]; exact iw ⟨by omega, by omega⟩
  have e7 : IntKind.i64.wrap (gy * ny) = a2 := by rw [ha2]; exact iw ⟨by omega, by omega⟩
  have e5 : IntKind.i64.wrap (4 + n5) = (n : Int) := by rw [show 4 + n5 = (n : Int) by omega]; exact iw ⟨by omega, by omega⟩
  have k1 : ¬ (n : Int) < 4 := by omega
  have k2 : (4 : Int) ≤ (n : Int) := by omega
  have k3 : n ≤ cap := by omega
  have k4 : (4 : Int) ≤ (cap : Int) := by omega
  have k5 : ¬ 4 = cap := by omega
  have k6 : ¬ cap = 4 := by omega
  have hn4' := Lib.hid (show n - 4 = rest.length by omega)
  have hv5 : Hid (IS w (.slice (some ⟨b, off + 4, none⟩) (n - 4) (cap - 4)) rest) := by
    show IS _ _ _
    rw [hn4'.out]; exact hv4.out
  have k7 : (0 : Int) < (n : Int) := by omega
  have k7n : 0 < n := by omega
  have k8 : (1 : Int) < (n : Int) := by omega
  have k9 : (2 : Int) < (n : Int) := by omega
  have k10 : (3 : Int) < (n : Int) := by omega
  have l1 : ¬ W0 < 1 := by omega
  have l2 : ¬ 32768 < W0 := by omega
  have l3 : ¬ H0 < 1 := by omega
  have l4 : ¬ 32768 < H0 := by omega
  have l5 : a1 < W0 := by omega
  rw [← hn] at hv h1 h4 ⊢
  clear hv h4 h3 h1 hn c0 c1 c2 c3 m1 m2 m3 m4 m5 hn1 hn2 hn3 hn5 e5' ha1 ha2 g1 g2 g3 g4 hf hL hfar hw hh hs
  go_enter Try.func17, Try.ntmps17
  go_wp2_with fail
  have BB : Hid (Below w.heap.size w w) := Below.refl _ _
  go_cut [8] (fun s8 wc => ∃ gp g, s8 = .pointer (some ⟨gp, 0, none⟩) ∧ Hid (AtB wc gp #[.pointer (some ⟨g, 0, none⟩)] PMT ∧ AtB wc g #[.int .i64 gx, .int .i64 nx, .int .i64 gy, .int .i64 ny, .slice none 0 0] MXT ∧ gp ≠ g ∧ Below w.heap.size w wc ∧ w.heap.size ≤ gp ∧ w.heap.size ≤ g))
  case first =>
    have KK := Lib.hid (fun (w9 : World) (h : Below w.heap.size w w9) => (CT.out _ (below_next BB.out h) : (w9.cell? ⟨b, off, none⟩ = some (.int .i64 gx) ∧ w9.cell? ⟨b, off + 1, none⟩ = some (.int .i64 gy) ∧ w9.cell? ⟨b, off + 2, none⟩ = some (.int .i64 nx) ∧ w9.cell? ⟨b, off + 3, none⟩ = some (.int .i64 ny))))
    have K0 := KK.out w (Below.refl _ _)
    have KD := KK.out w.drew (below_drew (Below.refl _ _))
    go_region_held3 (fun w9 => (w9.cell? ⟨b, off, none⟩ = some (.int .i64 gx) ∧ w9.cell? ⟨b, off + 1, none⟩ = some (.int .i64 gy) ∧ w9.cell? ⟨b, off + 2, none⟩ = some (.int .i64 nx) ∧ w9.cell? ⟨b, off + 3, none⟩ = some (.int .i64 ny)))
        (first | with_reducible exact KD | with_reducible exact K0 | (refine KK.out _ ?_; repeat' (first | with_reducible exact Below.refl _ _ | with_reducible apply below_new | with_reducible apply below_drew | with_reducible apply below_set | omega)))
        (fail)
    all_goals clear KK K0 KD
    all_goals go_wp2_with fail
    all_goals go_meet
    all_goals first
      | (refine ⟨_, w.heap.size, rfl, ⟨?_, ?_, by omega, ?_, by omega, by omega⟩⟩ <;> ((repeat (first | with_reducible exact Below.refl _ _ | with_reducible apply below_new | with_reducible apply below_drew | (refine new_at_eq (by simp; done) _ _) | (refine AtB.alloc ?_ _))); done))
      | (refine ⟨_, w.heap.size + 1, rfl, ⟨?_, ?_, by omega, ?_, by omega, by omega⟩⟩ <;> ((repeat (first | with_reducible exact Below.refl _ _ | with_reducible apply below_new | with_reducible apply below_drew | (refine new_at_eq (by simp; done) _ _) | (refine AtB.alloc ?_ _))); done))
  obtain ⟨wc1, rfl⟩ : ∃ wo : World, wo = wc := ⟨_, rfl⟩
  obtain ⟨g_p, g_m, rfl, hcut⟩ := hcut
  obtain ⟨r_p, r_m, hne, BB, hgp, hgm⟩ := hcut.out
  clear hcut
  replace r_p := Lib.hid r_p; replace r_m := Lib.hid r_m; replace BB := Lib.hid BB
  have d_p := Lib.hid (And.intro hgp (And.intro hne True.intro))
  have d_m := Lib.hid (And.intro hgm (And.intro hne True.intro))
  clear hgp hgm hne
  go_wp2_with fail
  have KK := Lib.hid (fun (w9 : World) (h : Below wc1.heap.size wc1 w9) => (⟨cells1 (r_p.out.keep h), cells5 (r_m.out.keep h)⟩ : (w9.cell? ⟨g_p, 0, none⟩ = some (.pointer (some ⟨g_m, 0, none⟩))) ∧ (w9.cell? ⟨g_m, 0, none⟩ = some (.int .i64 gx) ∧ w9.cell? ⟨g_m, 1, none⟩ = some (.int .i64 nx) ∧ w9.cell? ⟨g_m, 2, none⟩ = some (.int .i64 gy) ∧ w9.cell? ⟨g_m, 3, none⟩ = some (.int .i64 ny) ∧ w9.cell? ⟨g_m, 4, none⟩ = some (.slice none 0 0))))
  have K0 := KK.out wc1 (Below.refl _ _)
  have KD := KK.out wc1.drew (below_drew (Below.refl _ _))
  go_region_held3 (fun w9 => (w9.cell? ⟨g_p, 0, none⟩ = some (.pointer (some ⟨g_m, 0, none⟩))) ∧ (w9.cell? ⟨g_m, 0, none⟩ = some (.int .i64 gx) ∧ w9.cell? ⟨g_m, 1, none⟩ = some (.int .i64 nx) ∧ w9.cell? ⟨g_m, 2, none⟩ = some (.int .i64 gy) ∧ w9.cell? ⟨g_m, 3, none⟩ = some (.int .i64 ny) ∧ w9.cell? ⟨g_m, 4, none⟩ = some (.slice none 0 0)))
      (first | with_reducible exact KD | with_reducible exact K0 | with_reducible exact K_w1)
      (first
        | (go_at_call 74
           refine (CF.out _).mono ?_
           rintro e w1 ⟨rfl, hb⟩
           have B_w1 := Lib.hid (reg_next (w0 := wc1) (by repeat (first | with_reducible exact Below.refl _ _ | with_reducible apply below_drew | with_reducible apply below_new)) hb)
           have K_w1 := KK.out _ B_w1.out
           clear hb))
  clear KK K0 KD K_w1
  replace r_p := Lib.hid (r_p.out.keep B_w1.out)
  replace r_m := Lib.hid (r_m.out.keep B_w1.out)
  replace BB := Lib.hid (below_next BB.out B_w1.out)
  clear B_w1
  go_wp2_with fail
  obtain ⟨c_p0, f_p0⟩ := reads1 r_p.out
  have l_p := r_p.out.lt
  obtain ⟨c_m0, c_m1, c_m2, c_m3, c_m4, f_m0, f_m1, f_m2, f_m3, f_m4⟩ := reads5 r_m.out
  have l_m := r_m.out.lt
  go_quiet (fail)
  have hb := below_drawn (Below.refl w1.heap.size w1) nq
  generalize w1.drewN nq = w2 at *
  clear c_p0 f_p0 l_p c_m0 c_m1 c_m2 c_m3 c_m4 f_m0 f_m1 f_m2 f_m3 f_m4 l_m
  replace r_p := Lib.hid (r_p.out.keep hb)
  replace r_m := Lib.hid (r_m.out.keep hb)
  replace BB := Lib.hid (below_next BB.out hb)
  clear hb nq
  go_wp2_with fail
  have h_v := Lib.hid (hv5.out.below BB.out)
  refine (CK.out _ _ h_v.out).mono ?_
  rintro e w9 ⟨rfl, rfl⟩
  go_wp2_with fail
  obtain ⟨c_p0, f_p0⟩ := reads1 r_p.out
  have l_p := r_p.out.lt
  obtain ⟨c_m0, c_m1, c_m2, c_m3, c_m4, f_m0, f_m1, f_m2, f_m3, f_m4⟩ := reads5 r_m.out
  have l_m := r_m.out.lt
  go_quiet (fail)
  have hb := below_drawn (Below.refl w2.heap.size w2) nq
  generalize w2.drewN nq = w3 at *
  clear c_p0 f_p0 l_p c_m0 c_m1 c_m2 c_m3 c_m4 f_m0 f_m1 f_m2 f_m3 f_m4 l_m
  replace r_p := Lib.hid (r_p.out.keep hb)
  replace r_m := Lib.hid (r_m.out.keep hb)
  replace BB := Lib.hid (below_next BB.out hb)
  clear hb nq
  go_wp2_with fail
  refine bodyPost_ret (v := .tuple #[.pointer none, .int .i64 42]) (by unfold results; simp only [Try.results17]; go_simp) rfl ?_
  exact ⟨rfl, BB.out⟩
set_option maxRecDepth 100000 in
set_option maxHeartbeats 8000000 in
theorem mnew_f2 (v : Value) (gx gy nx ny W0 H0 : Int) (rest : List Int) (hf : fitsM gx gy nx ny = true) (hL : ((rest.length + 4 : Nat) : Int) = 4 + 2 * (nx + 1) * (ny + 1)) (hfar : rest.any farM = false) (hw : 1 ≤ W0 ∧ W0 ≤ 32768) (hh : 1 ≤ H0 ∧ H0 ≤ 32768) (hs1 : W0 ≤ gx * nx) (hs : gy * ny < H0) (w : World) (hv : IS w v (gx :: gy :: nx :: ny :: rest)) :
    Calls Try.prog 17 #[v, .int .i64 W0, .int .i64 H0] w fun e w' => e = .returned (.tuple #[.pointer none, .int .i64 42]) ∧ Below w.heap.size w w' := by
  obtain ⟨b, off, cap, rfl, h1, h2, h3, h4⟩ := hv.some (by simp)
  simp only [List.length_cons] at hv h1 h4 ⊢
  have hv4 := Lib.hid (is_drop4 hv)
  have CF := Lib.hid (fun w => mfits gx nx gy ny w)
  rw [hf] at CF
  obtain ⟨g1, g2, g3, g4⟩ := fitsM_iff.1 hf
  have m1 := mul_rng g1 g3
  have m2 := mul_rng g2 g4
  have m3 : (nx + 1) * (ny + 1) ≤ 65 * 65 := Int.mul_le_mul (by omega) (by omega) (by omega) (by omega)
  have m5 : 2 * 2 ≤ (nx + 1) * (ny + 1) := Int.mul_le_mul (by omega) (by omega) (by omega) (by omega)
  have m4 : 2 * (nx + 1) * (ny + 1) = 2 * ((nx + 1) * (ny + 1)) := Int.mul_assoc _ _ _
  obtain ⟨n1, hn1⟩ : ∃ v, v = nx + 1 := ⟨_, rfl⟩
  obtain ⟨n2, hn2⟩ : ∃ v, v = 2 * n1 := ⟨_, rfl⟩
  obtain ⟨n3, hn3⟩ : ∃ v, v = ny + 1 := ⟨_, rfl⟩
  obtain ⟨n5, hn5⟩ : ∃ v, v = n2 * n3 := ⟨_, rfl⟩
  have e5' : n5 = 2 * (nx + 1) * (ny + 1) := by rw [hn5, hn2, hn1, hn3]
  obtain ⟨a1, ha1⟩ : ∃ v, v = gx * nx := ⟨_, rfl⟩
  obtain ⟨a2, ha2⟩ : ∃ v, v = gy * ny := ⟨_, rfl⟩
  have CK := Lib.hid (fun v w hv => kcon v farM rest w hv (fun z _ => mfar z w))
  rw [hfar] at CK
  have c0 := h4 0 (by omega)
  have c1 := h4 1 (by omega)
  have c2 := h4 2 (by omega)
  have c3 := h4 3 (by omega)
  have CT := Lib.hid (fun w9 (h9 : Below w.heap.size w w9) => And.intro ((h9.cell h3).trans c0) (And.intro ((h9.cell h3).trans c1) (And.intro ((h9.cell h3).trans c2) ((h9.cell h3).trans c3))))
  obtain ⟨n, hn⟩ : ∃ v, v = rest.length + 4 := ⟨_, rfl⟩
  have e1 : IntKind.i64.wrap (nx + 1) = n1 := by rw [hn1]; exact iw ⟨by omega, by omega⟩
  have e2 : IntKind.i64.wrap (2 * n1) = n2 := by rw [hn2]; exact iw ⟨by omega, by omega⟩
  have e3 : IntKind.i64.wrap (ny + 1) = n3 := by rw [hn3]; exact iw ⟨by omega, by omega⟩
  have e4 : IntKind.i64.wrap (n2 * n3) = n5 := by rw [← hn5]; exact iw ⟨by omega, by omega⟩
  have e6 : IntKind.i64.wrap (gx * nx) = a1 := by rw [ha1]; exact iw ⟨by omega, by omega⟩
  have e7 : IntKind.i64.wrap (gy * ny) = a2 := by rw [ha2]; exact iw ⟨by omega, by omega⟩
  have e5 : IntKind.i64.wrap (4 + n5) = (n : Int) := by rw [show 4 + n5 = (n : Int) by omega]; exact iw ⟨by omega, by omega⟩
  have k1 : ¬ (n : Int) < 4 := by omega
  have k2 : (4 : Int) ≤ (n : Int) := by omega
  have k3 : n ≤ cap := by omega
  have k4 : (4 : Int) ≤ (cap : Int) := by omega
  have k5 : ¬ 4 = cap := by omega
  have k6 : ¬ cap = 4 := by omega
  have hn4' := Lib.hid (show n - 4 = rest.length by omega)
  have hv5 : Hid (IS w (.slice (some ⟨b, off + 4, none⟩) (n - 4) (cap - 4)) rest) := by
    show IS _ _ _
    rw [hn4'.out]; exact hv4.out
  have k7 : (0 : Int) < (n : Int) := by omega
  have k7n : 0 < n := by omega
  have k8 : (1 : Int) < (n : Int) := by omega
  have k9 : (2 : Int) < (n : Int) := by omega
  have k10 : (3 : Int) < (n : Int) := by omega
  have l1 : ¬ W0 < 1 := by omega
  have l2 : ¬ 32768 < W0 := by omega
  have l3 : ¬ H0 < 1 := by omega
  have l4 : ¬ 32768 < H0 := by omega
  have l5 : ¬ a1 < W0 := by omega
  have l6 : a2 < H0 := by omega
  rw [← hn] at hv h1 h4 ⊢
  clear hv h4 h3 h1 hn c0 c1 c2 c3 m1 m2 m3 m4 m5 hn1 hn2 hn3 hn5 e5' ha1 ha2 g1 g2 g3 g4 hf hL hfar hw hh hs1 hs
  go_enter Try.func17, Try.ntmps17
  go_wp2_with fail
  have BB : Hid (Below w.heap.size w w) := Below.refl _ _
  go_cut [8] (fun s8 wc => ∃ gp g, s8 = .pointer (some ⟨gp, 0, none⟩) ∧ Hid (AtB wc gp #[.pointer (some ⟨g, 0, none⟩)] PMT ∧ AtB wc g #[.int .i64 gx, .int .i64 nx, .int .i64 gy, .int .i64 ny, .slice none 0 0] MXT ∧ gp ≠ g ∧ Below w.heap.size w wc ∧ w.heap.size ≤ gp ∧ w.heap.size ≤ g))
  case first =>
    have KK := Lib.hid (fun (w9 : World) (h : Below w.heap.size w w9) => (CT.out _ (below_next BB.out h) : (w9.cell? ⟨b, off, none⟩ = some (.int .i64 gx) ∧ w9.cell? ⟨b, off + 1, none⟩ = some (.int .i64 gy) ∧ w9.cell? ⟨b, off + 2, none⟩ = some (.int .i64 nx) ∧ w9.cell? ⟨b, off + 3, none⟩ = some (.int .i64 ny))))
    have K0 := KK.out w (Below.refl _ _)
    have KD := KK.out w.drew (below_drew (Below.refl _ _))
    go_region_held3 (fun w9 => (w9.cell? ⟨b, off, none⟩ = some (.int .i64 gx) ∧ w9.cell? ⟨b, off + 1, none⟩ = some (.int .i64 gy) ∧ w9.cell? ⟨b, off + 2, none⟩ = some (.int .i64 nx) ∧ w9.cell? ⟨b, off + 3, none⟩ = some (.int .i64 ny)))
        (first | with_reducible exact KD | with_reducible exact K0 | (refine KK.out _ ?_; repeat' (first | with_reducible exact Below.refl _ _ | with_reducible apply below_new | with_reducible apply below_drew | with_reducible apply below_set | omega)))
        (fail)
    all_goals clear KK K0 KD
    all_goals go_wp2_with fail
    all_goals go_meet
    all_goals first
      | (refine ⟨_, w.heap.size, rfl, ⟨?_, ?_, by omega, ?_, by omega, by omega⟩⟩ <;> ((repeat (first | with_reducible exact Below.refl _ _ | with_reducible apply below_new | with_reducible apply below_drew | (refine new_at_eq (by simp; done) _ _) | (refine AtB.alloc ?_ _))); done))
      | (refine ⟨_, w.heap.size + 1, rfl, ⟨?_, ?_, by omega, ?_, by omega, by omega⟩⟩ <;> ((repeat (first | with_reducible exact Below.refl _ _ | with_reducible apply below_new | with_reducible apply below_drew | (refine new_at_eq (by simp; done) _ _) | (refine AtB.alloc ?_ _))); done))
  obtain ⟨wc1, rfl⟩ : ∃ wo : World, wo = wc := ⟨_, rfl⟩
  obtain ⟨g_p, g_m, rfl, hcut⟩ := hcut
  obtain ⟨r_p, r_m, hne, BB, hgp, hgm⟩ := hcut.out
  clear hcut
  replace r_p := Lib.hid r_p; replace r_m := Lib.hid r_m; replace BB := Lib.hid BB
  have d_p := Lib.hid (And.intro hgp (And.intro hne True.intro))
  have d_m := Lib.hid (And.intro hgm (And.intro hne True.intro))
  clear hgp hgm hne
  go_wp2_with fail
  have KK := Lib.hid (fun (w9 : World) (h : Below wc1.heap.size wc1 w9) => (⟨cells1 (r_p.out.keep h), cells5 (r_m.out.keep h)⟩ : (w9.cell? ⟨g_p, 0, none⟩ = some (.pointer (some ⟨g_m, 0, none⟩))) ∧ (w9.cell? ⟨g_m, 0, none⟩ = some (.int .i64 gx) ∧ w9.cell? ⟨g_m, 1, none⟩ = some (.int .i64 nx) ∧ w9.cell? ⟨g_m, 2, none⟩ = some (.int .i64 gy) ∧ w9.cell? ⟨g_m, 3, none⟩ = some (.int .i64 ny) ∧ w9.cell? ⟨g_m, 4, none⟩ = some (.slice none 0 0))))
  have K0 := KK.out wc1 (Below.refl _ _)
  have KD := KK.out wc1.drew (below_drew (Below.refl _ _))
  go_region_held3 (fun w9 => (w9.cell? ⟨g_p, 0, none⟩ = some (.pointer (some ⟨g_m, 0, none⟩))) ∧ (w9.cell? ⟨g_m, 0, none⟩ = some (.int .i64 gx) ∧ w9.cell? ⟨g_m, 1, none⟩ = some (.int .i64 nx) ∧ w9.cell? ⟨g_m, 2, none⟩ = some (.int .i64 gy) ∧ w9.cell? ⟨g_m, 3, none⟩ = some (.int .i64 ny) ∧ w9.cell? ⟨g_m, 4, none⟩ = some (.slice none 0 0)))
      (first | with_reducible exact KD | with_reducible exact K0 | with_reducible exact K_w1)
      (first
        | (go_at_call 74
           refine (CF.out _).mono ?_
           rintro e w1 ⟨rfl, hb⟩
           have B_w1 := Lib.hid (reg_next (w0 := wc1) (by repeat (first | with_reducible exact Below.refl _ _ | with_reducible apply below_drew | with_reducible apply below_new)) hb)
           have K_w1 := KK.out _ B_w1.out
           clear hb))
  clear KK K0 KD K_w1
  replace r_p := Lib.hid (r_p.out.keep B_w1.out)
  replace r_m := Lib.hid (r_m.out.keep B_w1.out)
  replace BB := Lib.hid (below_next BB.out B_w1.out)
  clear B_w1
  go_wp2_with fail
  obtain ⟨c_p0, f_p0⟩ := reads1 r_p.out
  have l_p := r_p.out.lt
  obtain ⟨c_m0, c_m1, c_m2, c_m3, c_m4, f_m0, f_m1, f_m2, f_m3, f_m4⟩ := reads5 r_m.out
  have l_m := r_m.out.lt
  go_quiet (fail)
  have hb := below_drawn (Below.refl w1.heap.size w1) nq
  generalize w1.drewN nq = w2 at *
  clear c_p0 f_p0 l_p c_m0 c_m1 c_m2 c_m3 c_m4 f_m0 f_m1 f_m2 f_m3 f_m4 l_m
  replace r_p := Lib.hid (r_p.out.keep hb)
  replace r_m := Lib.hid (r_m.out.keep hb)
  replace BB := Lib.hid (below_next BB.out hb)
  clear hb nq
  go_wp2_with fail
  have h_v := Lib.hid (hv5.out.below BB.out)
  refine (CK.out _ _ h_v.out).mono ?_
  rintro e w9 ⟨rfl, rfl⟩
  go_wp2_with fail
  obtain ⟨c_p0, f_p0⟩ := reads1 r_p.out
  have l_p := r_p.out.lt
  obtain ⟨c_m0, c_m1, c_m2, c_m3, c_m4, f_m0, f_m1, f_m2, f_m3, f_m4⟩ := reads5 r_m.out
  have l_m := r_m.out.lt
  go_quiet (fail)
  have hb := below_drawn (Below.refl w2.heap.size w2) nq
  generalize w2.drewN nq = w3 at *
  clear c_p0 f_p0 l_p c_m0 c_m1 c_m2 c_m3 c_m4 f_m0 f_m1 f_m2 f_m3 f_m4 l_m
  replace r_p := Lib.hid (r_p.out.keep hb)
  replace r_m := Lib.hid (r_m.out.keep hb)
  replace BB := Lib.hid (below_next BB.out hb)
  clear hb nq
  go_wp2_with fail
  refine bodyPost_ret (v := .tuple #[.pointer none, .int .i64 42]) (by unfold results; simp only [Try.results17]; go_simp) rfl ?_
  exact ⟨rfl, BB.out⟩
def meshC (gx gy nx ny W0 H0 : Int) (rest : List Int) : Int :=
  if fitsM gx gy nx ny = false then 11
  else if ((rest.length + 4 : Nat) : Int) ≠ 4 + 2 * (nx + 1) * (ny + 1) then 12
  else if rest.any farM = true then 11
  else if W0 < 1 ∨ 32768 < W0 ∨ H0 < 1 ∨ 32768 < H0 then 30
  else if gx * nx < W0 ∨ gy * ny < H0 then 42 else 0
theorem mnew_bad (v : Value) (gx gy nx ny W0 H0 : Int) (rest : List Int) (hb : meshC gx gy nx ny W0 H0 rest ≠ 0) (w : World) (hv : IS w v (gx :: gy :: nx :: ny :: rest)) :
    Calls Try.prog 17 #[v, .int .i64 W0, .int .i64 H0] w fun e w' => e = .returned (.tuple #[.pointer none, .int .i64 (meshC gx gy nx ny W0 H0 rest)]) ∧ Below w.heap.size w w' := by
  unfold meshC at hb ⊢
  by_cases h1 : fitsM gx gy nx ny = false
  · rw [if_pos h1]; exact mnew_b v gx gy nx ny W0 H0 rest h1 w hv
  · rw [if_neg h1] at hb ⊢
    have h1 : fitsM gx gy nx ny = true := by simpa using h1
    by_cases h2 : ((rest.length + 4 : Nat) : Int) ≠ 4 + 2 * (nx + 1) * (ny + 1)
    · rw [if_pos h2]; exact mnew_c v gx gy nx ny W0 H0 rest h1 h2 w hv
    · rw [if_neg h2] at hb ⊢
      have h2 : ((rest.length + 4 : Nat) : Int) = 4 + 2 * (nx + 1) * (ny + 1) := by omega
      by_cases h3 : rest.any farM = true
      · rw [if_pos h3]; exact mnew_d v gx gy nx ny W0 H0 rest h1 h2 h3 w hv
      · rw [if_neg h3] at hb ⊢
        have h3 : rest.any farM = false := by simpa using h3
        by_cases h4 : W0 < 1 ∨ 32768 < W0 ∨ H0 < 1 ∨ 32768 < H0
        · rw [if_pos h4]
          by_cases a : W0 < 1
          · exact mnew_e1 v gx gy nx ny W0 H0 rest h1 h2 h3 a w hv
          · by_cases b : 32768 < W0
            · exact mnew_e2 v gx gy nx ny W0 H0 rest h1 h2 h3 b w hv
            · by_cases c : H0 < 1
              · exact mnew_e3 v gx gy nx ny W0 H0 rest h1 h2 h3 (by omega) c w hv
              · exact mnew_e4 v gx gy nx ny W0 H0 rest h1 h2 h3 (by omega) (by omega) w hv
        · rw [if_neg h4] at hb ⊢
          by_cases h5 : gx * nx < W0 ∨ gy * ny < H0
          · rw [if_pos h5]
            by_cases a : gx * nx < W0
            · exact mnew_f1 v gx gy nx ny W0 H0 rest h1 h2 h3 (by omega) (by omega) a w hv
            · exact mnew_f2 v gx gy nx ny W0 H0 rest h1 h2 h3 (by omega) (by omega) (by omega) (by omega) w hv
          · rw [if_neg h5] at hb; exact absurd rfl hb
end Go.Proofs.Ythoakbjnofhpbaa
