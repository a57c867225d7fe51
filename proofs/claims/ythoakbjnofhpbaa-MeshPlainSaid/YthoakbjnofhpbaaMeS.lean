/- Contract of ref21.At. -/
import Derived.Test.YthoakbjnofhpbaaMeR
set_option linter.unusedVariables false
set_option linter.unusedSimpArgs false
namespace Go.Proofs.Ythoakbjnofhpbaa
open Go.RowKit
theorem cell_I {b f : Int} (hb : 0 ≤ b ∧ b ≤ 268435456) (hf : I64 f) : Wd 200 (b * f) := (((i64_wd (show I64 b from ⟨by omega, by omega⟩)).mul (i64_wd hf))).up (by omega)
set_option maxRecDepth 100000 in
set_option maxHeartbeats 16000000 in
theorem r21at (v : Value) (gx gy nx ny px py d : Int) (rest : List Int) (q N : Nat) (hq : q ≤ 1) (hG : MG gx gy nx ny (ksOf rest N)) (hN : rest.length = 2 * N) (hd : 1 ≤ d ∧ d ≤ 16) (w : World) (hv : IS w v (gx :: gy :: nx :: ny :: rest)) :
    Calls Try.prog 24 #[v, .int .i64 px, .int .i64 py, .int .i64 d, .int .i64 (q : Int)] w fun e w' => e = .returned (.int .i64 (mePl gx gy nx ny px py d (fun i k => rest.getD (2 * (k * (nx + 1) + i).toNat + q) 0))) ∧ Below w.heap.size w w' := by
  obtain ⟨g1, g2, g3, g4, g5⟩ := id hG
  have hks : ((ksOf rest N).length : Int) = N := by unfold ksOf; simp
  rw [hks] at g5
  obtain ⟨-, -, x3, x4, x5, x6⟩ := cell_facts (p := px) g1 g3 hd
  obtain ⟨-, -, y3, y4, y5, y6⟩ := cell_facts (p := py) g2 g4 hd
  obtain ⟨c1, c2, c3, c4, c5⟩ := cw_facts (px := px) (py := py) g1 g2 g3 g4 hd
  have u1 := mul_rng g1 hd
  have u2 := mul_rng g2 hd
  have u3 := mul_rng u1 u2
  have hint : ∀ i, I64 (rest.getD i 0) := fun i => by
    have := hv.ints (i + 4)
    simpa using this
  have CX := Lib.hid (fun w => r21cell gx nx px d g1 g3 hd w)
  have CY := Lib.hid (fun w => r21cell gy ny py d g2 g4 hd w)
  unfold mePl
  dsimp only
  rw [c5]
  unfold mixS cwA cwB cwC cwD at *
  generalize cellI gx nx px d = I at *
  generalize cellI gy ny py d = K at *
  generalize cellS gx nx px d = S at *
  generalize cellS gy ny py d = T at *
  have P0 := Lib.hid (fun w hv => (r21knot v gx gy nx ny I K rest q (K * (nx + 1) + I).toNat hq (by have := kn_ix (ny := ny) (i := I) (k := K) g3.1 (by omega) (by omega); omega) (by have := kn_ix (ny := ny) (i := I) (k := K) g3.1 (by omega) (by omega); omega) g3 (by omega) (by omega) w hv).mono (fun e w' h => And.intro h.1 (show Below w.heap.size w w' by rw [← h.2]; exact Below.refl _ _)))
  have P1 := Lib.hid (fun w hv => (r21knot v gx gy nx ny (I + 1) K rest q (K * (nx + 1) + (I + 1)).toNat hq (by have := kn_ix (ny := ny) (i := (I + 1)) (k := K) g3.1 (by omega) (by omega); omega) (by have := kn_ix (ny := ny) (i := (I + 1)) (k := K) g3.1 (by omega) (by omega); omega) g3 (by omega) (by omega) w hv).mono (fun e w' h => And.intro h.1 (show Below w.heap.size w w' by rw [← h.2]; exact Below.refl _ _)))
  have P2 := Lib.hid (fun w hv => (r21knot v gx gy nx ny I (K + 1) rest q ((K + 1) * (nx + 1) + I).toNat hq (by have := kn_ix (ny := ny) (i := I) (k := (K + 1)) g3.1 (by omega) (by omega); omega) (by have := kn_ix (ny := ny) (i := I) (k := (K + 1)) g3.1 (by omega) (by omega); omega) g3 (by omega) (by omega) w hv).mono (fun e w' h => And.intro h.1 (show Below w.heap.size w w' by rw [← h.2]; exact Below.refl _ _)))
  have P3 := Lib.hid (fun w hv => (r21knot v gx gy nx ny (I + 1) (K + 1) rest q ((K + 1) * (nx + 1) + (I + 1)).toNat hq (by have := kn_ix (ny := ny) (i := (I + 1)) (k := (K + 1)) g3.1 (by omega) (by omega); omega) (by have := kn_ix (ny := ny) (i := (I + 1)) (k := (K + 1)) g3.1 (by omega) (by omega); omega) g3 (by omega) (by omega) w hv).mono (fun e w' h => And.intro h.1 (show Below w.heap.size w w' by rw [← h.2]; exact Below.refl _ _)))
  obtain ⟨I1, hI1⟩ : ∃ v, v = I + 1 := ⟨_, rfl⟩
  obtain ⟨K1, hK1⟩ : ∃ v, v = K + 1 := ⟨_, rfl⟩
  have i0 := hint (2 * (K * (nx + 1) + I).toNat + q)
  have i1 := hint (2 * (K * (nx + 1) + (I + 1)).toNat + q)
  have i2 := hint (2 * ((K + 1) * (nx + 1) + I).toNat + q)
  have i3 := hint (2 * ((K + 1) * (nx + 1) + (I + 1)).toNat + q)
  generalize rest.getD (2 * (K * (nx + 1) + I).toNat + q) 0 = f0 at *
  generalize rest.getD (2 * (K * (nx + 1) + (I + 1)).toNat + q) 0 = f1 at *
  generalize rest.getD (2 * ((K + 1) * (nx + 1) + I).toNat + q) 0 = f2 at *
  generalize rest.getD (2 * ((K + 1) * (nx + 1) + (I + 1)).toNat + q) 0 = f3 at *
  obtain ⟨U, hU⟩ : ∃ v, v = gx * d := ⟨_, rfl⟩
  obtain ⟨H, hH⟩ : ∃ v, v = gy * d := ⟨_, rfl⟩
  rw [← hU] at x6 u1 u3 c1 c3 ⊢
  rw [← hH] at y6 u2 u3 c1 c2 ⊢
  obtain ⟨us, hus⟩ : ∃ v, v = U - S := ⟨_, rfl⟩
  obtain ⟨ht, hht⟩ : ∃ v, v = H - T := ⟨_, rfl⟩
  rw [← hus] at c1 c3 ⊢
  rw [← hht] at c1 c2 ⊢
  have e1 : IntKind.i64.wrap (gx * d) = U := by rw [hU]; exact iw ⟨by omega, by omega⟩
  have e2 : IntKind.i64.wrap (gy * d) = H := by rw [hH]; exact iw ⟨by omega, by omega⟩
  have e3 : IntKind.i64.wrap (U - S) = us := by rw [hus]; exact iw ⟨by omega, by omega⟩
  have e4 : IntKind.i64.wrap (H - T) = ht := by rw [hht]; exact iw ⟨by omega, by omega⟩
  obtain ⟨b0, hb0⟩ : ∃ v, v = us * ht := ⟨_, rfl⟩
  obtain ⟨b1, hb1⟩ : ∃ v, v = S * ht := ⟨_, rfl⟩
  obtain ⟨b2, hb2⟩ : ∃ v, v = us * T := ⟨_, rfl⟩
  obtain ⟨b3, hb3⟩ : ∃ v, v = S * T := ⟨_, rfl⟩
  rw [← hb0, ← hb1, ← hb2, ← hb3]
  rw [← hb0] at c1
  rw [← hb1] at c2
  rw [← hb2] at c3
  rw [← hb3] at c4
  have e5 : IntKind.i64.wrap (us * ht) = b0 := by rw [hb0] at c1 ⊢; exact iw ⟨by omega, by omega⟩
  have e6 : IntKind.i64.wrap (S * ht) = b1 := by rw [hb1] at c2 ⊢; exact iw ⟨by omega, by omega⟩
  have e7 : IntKind.i64.wrap (us * T) = b2 := by rw [hb2] at c3 ⊢; exact iw ⟨by omega, by omega⟩
  have e8 : IntKind.i64.wrap (S * T) = b3 := by rw [hb3] at c4 ⊢; exact iw ⟨by omega, by omega⟩
  obtain ⟨UH, hUH⟩ : ∃ v, v = U * H := ⟨_, rfl⟩
  rw [← hUH] at u3 ⊢
  have e11 : IntKind.i64.wrap (U * H) = UH := by rw [hUH] at u3 ⊢; exact iw ⟨by omega, by omega⟩
  have e9 : IntKind.i64.wrap (I + 1) = I1 := by rw [hI1]; exact iw ⟨by omega, by omega⟩
  have e10 : IntKind.i64.wrap (K + 1) = K1 := by rw [hK1]; exact iw ⟨by omega, by omega⟩
  have e12 : IntKind.i64.wrap (I + 0) = I := by rw [Int.add_zero]; exact iw ⟨by omega, by omega⟩
  have e13 : IntKind.i64.wrap (K + 0) = K := by rw [Int.add_zero]; exact iw ⟨by omega, by omega⟩
  have e14 : IntKind.i64.wrap I = I := iw ⟨by omega, by omega⟩
  have e15 : IntKind.i64.wrap K = K := iw ⟨by omega, by omega⟩
  rw [← hI1] at P1 P3
  rw [← hK1] at P2 P3
  have w0 := cell_I c1 i0
  have w1' := cell_I c2 i1
  have w2' := cell_I c3 i2
  have w3 := cell_I c4 i3
  have CO := Lib.hid (fun w => of_any 0 (by unfold I64; omega) w)
  have OB0 := Lib.hid (fun w => of_any b0 ⟨by omega, by omega⟩ w)
  have OB1 := Lib.hid (fun w => of_any b1 ⟨by omega, by omega⟩ w)
  have OB2 := Lib.hid (fun w => of_any b2 ⟨by omega, by omega⟩ w)
  have OB3 := Lib.hid (fun w => of_any b3 ⟨by omega, by omega⟩ w)
  have OF0 := Lib.hid (fun w => of_any f0 i0 w)
  have OF1 := Lib.hid (fun w => of_any f1 i1 w)
  have OF2 := Lib.hid (fun w => of_any f2 i2 w)
  have OF3 := Lib.hid (fun w => of_any f3 i3 w)
  have OU := Lib.hid (fun w => of_any UH ⟨by omega, by omega⟩ w)
  have M0 := Lib.hid (fun (u v : Value) w (hu : BR w u b0) (hv : BR w v f0) => mul_any u v b0 f0 w hu hv ((i64_wd (show I64 b0 from ⟨by omega, by omega⟩)).mid (by omega)) ((i64_wd i0).mid (by omega)))
  have M1 := Lib.hid (fun (u v : Value) w (hu : BR w u b1) (hv : BR w v f1) => mul_any u v b1 f1 w hu hv ((i64_wd (show I64 b1 from ⟨by omega, by omega⟩)).mid (by omega)) ((i64_wd i1).mid (by omega)))
  have M2 := Lib.hid (fun (u v : Value) w (hu : BR w u b2) (hv : BR w v f2) => mul_any u v b2 f2 w hu hv ((i64_wd (show I64 b2 from ⟨by omega, by omega⟩)).mid (by omega)) ((i64_wd i2).mid (by omega)))
  have M3 := Lib.hid (fun (u v : Value) w (hu : BR w u b3) (hv : BR w v f3) => mul_any u v b3 f3 w hu hv ((i64_wd (show I64 b3 from ⟨by omega, by omega⟩)).mid (by omega)) ((i64_wd i3).mid (by omega)))
  have z0 : Wd 200 0 := by unfold Wd; have := two_pos 200; omega
  have s1 := z0.add w0
  have s2 := s1.add (w1'.up (show 200 ≤ 201 by omega))
  have s3 := s2.add (w2'.up (show 200 ≤ 202 by omega))
  have s4 := s3.add (w3.up (show 200 ≤ 203 by omega))
  have A0 := Lib.hid (fun (u v : Value) w (hu : BR w u 0) (hv : BR w v (b0 * f0)) => add_any u v 0 (b0 * f0) w hu hv (z0.mid (by omega)) (w0.mid (by omega)))
  have A1 := Lib.hid (fun (u v : Value) w (hu : BR w u (0 + b0 * f0)) (hv : BR w v (b1 * f1)) => add_any u v _ _ w hu hv (s1.mid (by omega)) (w1'.mid (by omega)))
  have A2 := Lib.hid (fun (u v : Value) w (hu : BR w u (0 + b0 * f0 + b1 * f1)) (hv : BR w v (b2 * f2)) => add_any u v _ _ w hu hv (s2.mid (by omega)) (w2'.mid (by omega)))
  have A3 := Lib.hid (fun (u v : Value) w (hu : BR w u (0 + b0 * f0 + b1 * f1 + b2 * f2)) (hv : BR w v (b3 * f3)) => add_any u v _ _ w hu hv (s3.mid (by omega)) (w3.mid (by omega)))
  have FL := Lib.hid (fun (u v : Value) w (hu : BR w u (0 + b0 * f0 + b1 * f1 + b2 * f2 + b3 * f3)) (hv : BR w v UH) => floor_any u v _ UH w hu hv (s4.mid (by omega)) ((i64_wd (show I64 UH from ⟨by omega, by omega⟩)).low (by omega)) (by omega))
  have CU := Lib.hid (fun (u : Value) w (hu : BR w u ((0 + b0 * f0 + b1 * f1 + b2 * f2 + b3 * f3).fdiv UH)) => r2cut u _ w hu ((s4.fdiv (y := UH)).up (by omega)))
  generalize (0 + b0 * f0 + b1 * f1 + b2 * f2 + b3 * f3).fdiv UH = Z at *
  generalize cutI Z = R at *
  generalize 0 + b0 * f0 + b1 * f1 + b2 * f2 + b3 * f3 = S4 at *
  generalize 0 + b0 * f0 + b1 * f1 + b2 * f2 = S3 at *
  generalize 0 + b0 * f0 + b1 * f1 = S2 at *
  generalize 0 + b0 * f0 = S1 at *
  generalize b0 * f0 = q0 at *
  generalize b1 * f1 = q1 at *
  generalize b2 * f2 = q2 at *
  generalize b3 * f3 = q3 at *
  obtain ⟨b, off, cap, rfl, h1, h2, h3, h4⟩ := hv.some (by simp)
  simp only [List.length_cons] at hv h1 h4 P0 P1 P2 P3 ⊢
  have k0 := h4 0 (by omega)
  have k1 := h4 1 (by omega)
  have k2 := h4 2 (by omega)
  have k3 := h4 3 (by omega)
  have CT := Lib.hid (fun w9 (h9 : Below w.heap.size w w9) => And.intro ((h9.cell h3).trans k0) (And.intro ((h9.cell h3).trans k1) (And.intro ((h9.cell h3).trans k2) ((h9.cell h3).trans k3))))
  obtain ⟨n, hn⟩ : ∃ v, v = rest.length + 4 := ⟨_, rfl⟩
  have n0 : (0 : Int) < (n : Int) := by omega
  have n0n : 0 < n := by omega
  have n1 : (1 : Int) < (n : Int) := by omega
  have n2 : (2 : Int) < (n : Int) := by omega
  have n3 : (3 : Int) < (n : Int) := by omega
  rw [← hn] at hv h1 h4 P0 P1 P2 P3 ⊢
  replace hv := Lib.hid hv
  generalize (q : Int) = qq at *
  clear h1 h2 h3 h4 k0 k1 k2 k3 hn hb0 hb1 hb2 hb3 hUH hus hht hU hH hI1 hK1 x3 x4 x5 x6 y3 y4 y5 y6 c1 c2 c3 c4 c5 u1 u2 u3 hint i0 i1 i2 i3 w0 w1' w2' w3 z0 s1 s2 s3 s4 g1 g2 g3 g4 g5 hG hN hd hks hq
  have v0 : IntKind.i64.wrap 0 = 0 := by decide
  have v1 : IntKind.i64.wrap 1 = 1 := by decide
  have v2 : IntKind.i64.wrap 2 = 2 := by decide
  have v3 : IntKind.i64.wrap 3 = 3 := by decide
  have v4 : IntKind.i64.wrap 4 = 4 := by decide
  have r0 : (0 : Int).tmod 2 = 0 := by decide
  have t0 : (0 : Int).tdiv 2 = 0 := by decide
  have r1 : (1 : Int).tmod 2 = 1 := by decide
  have t1 : (1 : Int).tdiv 2 = 0 := by decide
  have r2 : (2 : Int).tmod 2 = 0 := by decide
  have t2 : (2 : Int).tdiv 2 = 1 := by decide
  have r3 : (3 : Int).tmod 2 = 1 := by decide
  have t3 : (3 : Int).tdiv 2 = 1 := by decide
  go_enter Try.func24, Try.ntmps24
  go_wp2_with fail
  have BB : Hid (Below w.heap.size w w) := Below.refl _ _
  obtain ⟨k0, k1, k2, k3⟩ := CT.out _ BB.out
  simp only [Nat.add_zero, List.getD_cons_zero, List.getD_cons_succ] at k0 k1 k2 k3
  have Q_0 := Lib.hid (fun n => quiet_same (CX.out (w.drewN n)))
  go_quiet ((first | (go_at_call 84; with_reducible exact Q_0.out _)))
  clear Q_0
  have hb := below_drawn (Below.refl w.heap.size w) nq
  generalize w.drewN nq = w1 at *
  replace BB := Lib.hid (below_next BB.out hb)
  clear hb nq
  clear k0 k1 k2 k3
  go_wp2_with fail
  obtain ⟨k0, k1, k2, k3⟩ := CT.out _ BB.out
  simp only [Nat.add_zero, List.getD_cons_zero, List.getD_cons_succ] at k0 k1 k2 k3
  have Q_0 := Lib.hid (fun n => quiet_same (CY.out (w1.drewN n)))
  go_quiet ((first | (go_at_call 84; with_reducible exact Q_0.out _)))
  clear Q_0
  have hb := below_drawn (Below.refl w1.heap.size w1) nq
  generalize w1.drewN nq = w2 at *
  replace BB := Lib.hid (below_next BB.out hb)
  clear hb nq
  clear k0 k1 k2 k3
  obtain ⟨k0, k1, k2, k3⟩ := CT.out _ BB.out
  simp only [Nat.add_zero, List.getD_cons_zero, List.getD_cons_succ] at k0 k1 k2 k3
  go_wp2_with fail
  clear k0 k1 k2 k3
  refine (CO.out _).mono ?_
  rintro e w3 ⟨v_s, rfl, hb, h_s⟩
  obtain ⟨A_s, n_s, cap_s, rfl, -⟩ := id h_s.form
  replace h_s := Lib.hid h_s
  replace BB := Lib.hid (below_next BB.out hb)
  clear hb
  go_upto_region 6 with fail
  have d_s := Lib.hid (And.intro BB.out.size (True.intro))
  obtain ⟨hb, r_s⟩ := laid w3 #[.bool (sgn (0)), .slice A_s n_s cap_s] 76
  replace h_s := Lib.hid (h_s.out.below hb)
  replace BB := Lib.hid (below_next BB.out hb)
  replace r_s := Lib.hid r_s
  clear hb
  generalize w3.alloc (.cells #[.bool (sgn (0)), .slice A_s n_s cap_s] 76) = w4 at *
  generalize w3.heap.size = g_s at *
  go_wp2_with fail
  refine wp_loop_rounds 5 ?_
  rw [rounds_succ]
  go_wp2_with fail
  have h_v := Lib.hid (hv.out.below BB.out)
  have KK := Lib.hid (fun (w9 : World) (h : Below w4.heap.size w4 w9) => (cells2 (r_s.out.keep h) : (w9.cell? ⟨g_s, 0, none⟩ = some (.bool (sgn (0))) ∧ w9.cell? ⟨g_s, 1, none⟩ = some (.slice A_s n_s cap_s))))
  have K0 := KK.out w4 (Below.refl _ _)
  have KD := KK.out w4.drew (below_drew (Below.refl _ _))
  have tok0 : Hid True := trivial
  have tok2 : Hid True := trivial
  refine AnyG.begin_ (fun w9 => (w9.cell? ⟨g_s, 0, none⟩ = some (.bool (sgn (0))) ∧ w9.cell? ⟨g_s, 1, none⟩ = some (.slice A_s n_s cap_s))) 19 (by kernel_rfl) ?_
  refine AnyG.take (i := 0) (v := ?_) rfl (by kernel_rfl) (by kernel_rfl) (by kernel_rfl) (fun _ _ _ h => h) (by kernel_rfl) (by kernel_rfl) (Or.inl ⟨by rfl, ?_⟩) (by assumption) ?_
  rotate_left
  · intro w9 hSw; (try dsimp only at hSw); go_simp <;> with_reducible rfl
  try simp only [Act.put, List.getElem_toArray, List.getElem_cons_zero, List.getElem_cons_succ, List.setIfInBounds_toArray, List.set_cons_zero, List.set_cons_succ]
  refine AnyG.take (i := 1) (v := ?_) rfl (by kernel_rfl) (by kernel_rfl) (by kernel_rfl) (fun _ _ _ h => h) (by kernel_rfl) (by kernel_rfl) (Or.inl ⟨by rfl, ?_⟩) (by assumption) ?_
  rotate_left
  · intro w9 hSw; (try dsimp only at hSw); go_simp <;> with_reducible rfl
  try simp only [Act.put, List.getElem_toArray, List.getElem_cons_zero, List.getElem_cons_succ, List.setIfInBounds_toArray, List.set_cons_zero, List.set_cons_succ]
  refine AnyG.take (i := 2) (v := ?_) rfl (by kernel_rfl) (by kernel_rfl) (by kernel_rfl) (fun _ _ _ h => h) (by kernel_rfl) (by kernel_rfl) (Or.inl ⟨by rfl, ?_⟩) (by assumption) ?_
  rotate_left
  · intro w9 hSw; (try dsimp only at hSw); go_simp <;> with_reducible rfl
  try simp only [Act.put, List.getElem_toArray, List.getElem_cons_zero, List.getElem_cons_succ, List.setIfInBounds_toArray, List.set_cons_zero, List.set_cons_succ]
  refine AnyG.take (i := 3) (v := ?_) rfl (by kernel_rfl) (by kernel_rfl) (by kernel_rfl) (fun _ _ _ h => h) (by kernel_rfl) (by kernel_rfl) (Or.inl ⟨by rfl, ?_⟩) (by assumption) ?_
  rotate_left
  · intro w9 hSw; (try dsimp only at hSw); go_simp <;> with_reducible rfl
  try simp only [Act.put, List.getElem_toArray, List.getElem_cons_zero, List.getElem_cons_succ, List.setIfInBounds_toArray, List.set_cons_zero, List.set_cons_succ]
  refine AnyG.take (i := 5) (v := ?_) rfl (by kernel_rfl) (by kernel_rfl) (by kernel_rfl) (fun _ _ _ h => h) (by kernel_rfl) (by kernel_rfl) (Or.inl ⟨by rfl, ?_⟩) (by assumption) ?_
  rotate_left
  · intro w9 hSw; (try dsimp only at hSw); go_simp <;> with_reducible rfl
  try simp only [Act.put, List.getElem_toArray, List.getElem_cons_zero, List.getElem_cons_succ, List.setIfInBounds_toArray, List.set_cons_zero, List.set_cons_succ]
  refine AnyG.take (i := 6) (v := ?_) rfl (by kernel_rfl) (by kernel_rfl) (by kernel_rfl) (fun _ _ _ h => h) (by kernel_rfl) (by kernel_rfl) (Or.inl ⟨by rfl, ?_⟩) (by assumption) ?_
  rotate_left
  · intro w9 hSw; (try dsimp only at hSw); go_simp <;> with_reducible rfl
  try simp only [Act.put, List.getElem_toArray, List.getElem_cons_zero, List.getElem_cons_succ, List.setIfInBounds_toArray, List.set_cons_zero, List.set_cons_succ]
  refine AnyG.take (i := 7) (v := ?_) rfl (by kernel_rfl) (by kernel_rfl) (by kernel_rfl) (fun _ _ _ h => h) (by kernel_rfl) (by kernel_rfl) (Or.inl ⟨by rfl, ?_⟩) (by assumption) ?_
  rotate_left
  · intro w9 hSw; (try dsimp only at hSw); go_simp <;> with_reducible rfl
  try simp only [Act.put, List.getElem_toArray, List.getElem_cons_zero, List.getElem_cons_succ, List.setIfInBounds_toArray, List.set_cons_zero, List.set_cons_succ]
  refine AnyG.take (i := 8) (v := ?_) rfl (by kernel_rfl) (by kernel_rfl) (by kernel_rfl) (fun _ _ _ h => h) (by kernel_rfl) (by kernel_rfl) (Or.inl ⟨by rfl, ?_⟩) (by assumption) ?_
  rotate_left
  · intro w9 hSw; (try dsimp only at hSw); go_simp <;> with_reducible rfl
  try simp only [Act.put, List.getElem_toArray, List.getElem_cons_zero, List.getElem_cons_succ, List.setIfInBounds_toArray, List.set_cons_zero, List.set_cons_succ]
  refine AnyG.take (i := 9) (v := ?_) rfl (by kernel_rfl) (by kernel_rfl) (by kernel_rfl) (fun _ _ _ h => h) (by kernel_rfl) (by kernel_rfl) (Or.inl ⟨by rfl, ?_⟩) (by assumption) ?_
  rotate_left
  · intro w9 hSw; (try dsimp only at hSw); go_simp <;> with_reducible rfl
  try simp only [Act.put, List.getElem_toArray, List.getElem_cons_zero, List.getElem_cons_succ, List.setIfInBounds_toArray, List.set_cons_zero, List.set_cons_succ]
  refine AnyG.take (i := 10) (v := ?_) rfl (by kernel_rfl) (by kernel_rfl) (by kernel_rfl) (fun _ _ _ h => h) (by kernel_rfl) (by kernel_rfl) (Or.inl ⟨by rfl, ?_⟩) (by assumption) ?_
  rotate_left
  · intro w9 hSw; (try dsimp only at hSw); go_simp <;> with_reducible rfl
  try simp only [Act.put, List.getElem_toArray, List.getElem_cons_zero, List.getElem_cons_succ, List.setIfInBounds_toArray, List.set_cons_zero, List.set_cons_succ]
  refine AnyG.take (i := 11) (v := ?_) rfl (by kernel_rfl) (by kernel_rfl) (by kernel_rfl) (fun _ _ _ h => h) (by kernel_rfl) (by kernel_rfl) (Or.inl ⟨by rfl, ?_⟩) (by assumption) ?_
  rotate_left
  · intro w9 hSw; (try dsimp only at hSw); go_simp <;> with_reducible rfl
  try simp only [Act.put, List.getElem_toArray, List.getElem_cons_zero, List.getElem_cons_succ, List.setIfInBounds_toArray, List.set_cons_zero, List.set_cons_succ]
  refine AnyG.take (i := 12) (v := ?_) rfl (by kernel_rfl) (by kernel_rfl) (by kernel_rfl) (fun _ _ _ h => h) (by kernel_rfl) (by kernel_rfl) (Or.inl ⟨by rfl, ?_⟩) (by assumption) ?_
  rotate_left
  · intro w9 hSw; (try dsimp only at hSw); go_simp <;> with_reducible rfl
  try simp only [Act.put, List.getElem_toArray, List.getElem_cons_zero, List.getElem_cons_succ, List.setIfInBounds_toArray, List.set_cons_zero, List.set_cons_succ]
  refine AnyG.take (i := 13) (v := ?_) rfl (by kernel_rfl) (by kernel_rfl) (by kernel_rfl) (fun _ _ _ h => h) (by kernel_rfl) (by kernel_rfl) (Or.inl ⟨by rfl, ?_⟩) (by assumption) ?_
  rotate_left
  · intro w9 hSw; (try dsimp only at hSw); go_simp <;> with_reducible rfl
  try simp only [Act.put, List.getElem_toArray, List.getElem_cons_zero, List.getElem_cons_succ, List.setIfInBounds_toArray, List.set_cons_zero, List.set_cons_succ]
  refine AnyG.take (i := 14) (v := ?_) rfl (by kernel_rfl) (by kernel_rfl) (by kernel_rfl) (fun _ _ _ h => h) (by kernel_rfl) (by kernel_rfl) (Or.inl ⟨by rfl, ?_⟩) (by assumption) ?_
  rotate_left
  · intro w9 hSw; (try dsimp only at hSw); go_simp <;> with_reducible rfl
  try simp only [Act.put, List.getElem_toArray, List.getElem_cons_zero, List.getElem_cons_succ, List.setIfInBounds_toArray, List.set_cons_zero, List.set_cons_succ]
  refine AnyG.step (i := 4) (by kernel_rfl) rfl (fun K hK => ?_)
  go_simp
  go_at_call 45
  have t_k := tok0
  refine (OB0.out _).mono ?_
  rintro e w5 ⟨v_oa0, rfl, hb, h_oa0⟩
  obtain ⟨A_oa0, n_oa0, cap_oa0, rfl, -⟩ := id h_oa0.form
  replace h_oa0 := Lib.hid h_oa0
  have B_w5 := Lib.hid (reg_next (w0 := w4) (by repeat (first | with_reducible exact Below.refl _ _ | with_reducible apply below_drew | with_reducible apply below_new)) hb)
  have K_w5 := KK.out _ B_w5.out
  clear hb
  clear t_k tok0
  refine hK.out _ _ (fun _ => K_w5) (fun hHeld => ?_)
  replace hHeld := hHeld (by decide)
  clear hK
  try simp only [Act.put, List.getElem_toArray, List.getElem_cons_zero, List.getElem_cons_succ, List.setIfInBounds_toArray, List.set_cons_zero, List.set_cons_succ]
  refine AnyG.step (i := 15) (by kernel_rfl) rfl (fun K hK => ?_)
  go_simp
  go_at_call 27
  refine (P0.out _ (h_v.out.below B_w5.out)).mono ?_
  rintro e w6 ⟨rfl, hb⟩
  replace h_oa0 := Lib.hid (h_oa0.out.below hb)
  have B_w6 := Lib.hid (below_next B_w5.out hb)
  have K_w6 := KK.out _ B_w6.out
  clear hb
  refine hK.out _ _ (fun _ => K_w6) (fun hHeld => ?_)
  replace hHeld := hHeld (by decide)
  clear hK
  try simp only [Act.put, List.getElem_toArray, List.getElem_cons_zero, List.getElem_cons_succ, List.setIfInBounds_toArray, List.set_cons_zero, List.set_cons_succ]
  refine AnyG.step (i := 16) (by kernel_rfl) rfl (fun K hK => ?_)
  go_simp
  go_at_call 45
  have t_k := tok2
  refine (OF0.out _).mono ?_
  rintro e w7 ⟨v_ob0, rfl, hb, h_ob0⟩
  obtain ⟨A_ob0, n_ob0, cap_ob0, rfl, -⟩ := id h_ob0.form
  replace h_ob0 := Lib.hid h_ob0
  replace h_oa0 := Lib.hid (h_oa0.out.below hb)
  have B_w7 := Lib.hid (below_next B_w6.out hb)
  have K_w7 := KK.out _ B_w7.out
  clear hb
  clear t_k tok2
  refine hK.out _ _ (fun _ => K_w7) (fun hHeld => ?_)
  replace hHeld := hHeld (by decide)
  clear hK
  try simp only [Act.put, List.getElem_toArray, List.getElem_cons_zero, List.getElem_cons_succ, List.setIfInBounds_toArray, List.set_cons_zero, List.set_cons_succ]
  refine AnyG.step (i := 17) (by kernel_rfl) rfl (fun K hK => ?_)
  go_simp
  go_at_call 47
  refine (M0.out _ _ _ h_oa0.out h_ob0.out).mono ?_
  rintro e w8 ⟨v_oc0, rfl, hb, h_oc0⟩
  obtain ⟨A_oc0, n_oc0, cap_oc0, rfl, -⟩ := id h_oc0.form
  replace h_oc0 := Lib.hid h_oc0
  replace h_oa0 := Lib.hid (h_oa0.out.below hb)
  replace h_ob0 := Lib.hid (h_ob0.out.below hb)
  have B_w8 := Lib.hid (below_next B_w7.out hb)
  have K_w8 := KK.out _ B_w8.out
  clear hb
  refine hK.out _ _ (fun _ => K_w8) (fun hHeld => ?_)
  replace hHeld := hHeld (by decide)
  clear hK
  try simp only [Act.put, List.getElem_toArray, List.getElem_cons_zero, List.getElem_cons_succ, List.setIfInBounds_toArray, List.set_cons_zero, List.set_cons_succ]
  refine AnyG.step (i := 18) (by kernel_rfl) rfl (fun K hK => ?_)
  go_simp
  go_at_call 46
  refine (A0.out _ _ _ (h_s.out.below B_w8.out) h_oc0.out).mono ?_
  rintro e w10 ⟨v_od0, rfl, hb, h_od0⟩
  obtain ⟨A_od0, n_od0, cap_od0, rfl, -⟩ := id h_od0.form
  replace h_od0 := Lib.hid h_od0
  replace h_oa0 := Lib.hid (h_oa0.out.below hb)
  replace h_ob0 := Lib.hid (h_ob0.out.below hb)
  replace h_oc0 := Lib.hid (h_oc0.out.below hb)
  have B_w10 := Lib.hid (below_next B_w8.out hb)
  have K_w10 := KK.out _ B_w10.out
  obtain ⟨rc_s0, rc_s1, rf_s0, rf_s1⟩ := reads2 (r_s.out.keep B_w10.out)
  have rl_s := (r_s.out.keep B_w10.out).lt
  clear hb
  refine hK.out _ _ (fun _ => K_w10) (fun hHeld => ?_)
  replace hHeld := hHeld (by decide)
  clear hK
  try simp only [Act.put, List.getElem_toArray, List.getElem_cons_zero, List.getElem_cons_succ, List.setIfInBounds_toArray, List.set_cons_zero, List.set_cons_succ]
  refine AnyG.step (i := 19) (by kernel_rfl) rfl (fun K hK => ?_)
  go_simp
  refine hK.out _ _ (fun h => absurd h (by decide)) (fun _ => ?_)
  clear hK
  try simp only [Act.put, List.getElem_toArray, List.getElem_cons_zero, List.getElem_cons_succ, List.setIfInBounds_toArray, List.set_cons_zero, List.set_cons_succ]
  refine AnyG.done (by kernel_rfl) ?_ _
  clear KK K0 KD K_w5 K_w6 K_w7 K_w8 K_w10
  replace r_s := Lib.hid (r_s.out.keep B_w10.out)
  replace h_s := Lib.hid (h_s.out.below B_w10.out)
  replace h_v := Lib.hid (h_v.out.below B_w10.out)
  replace BB := Lib.hid (below_next BB.out B_w10.out)
  clear B_w5 B_w6 B_w7 B_w8 B_w10
  clear h_v h_oa0 h_ob0 h_oc0
  replace h_od0 := Lib.hid (h_od0.out.far2 r_s.out (by decide) (.bool (sgn S1)) (.slice A_od0 n_od0 cap_od0))
  clear h_s
  replace r_s := Lib.hid (r_s.out.set2 (.bool (sgn S1)) (.slice A_od0 n_od0 cap_od0))
  replace BB := Lib.hid (below_far2 BB.out (p := g_s) (by have dd := d_s.out; omega) (.bool (sgn S1)) (.slice A_od0 n_od0 cap_od0))
  generalize ((w10.setCell ⟨g_s, 0, none⟩ (.bool (sgn S1))).setCell ⟨g_s, 1, none⟩ (.slice A_od0 n_od0 cap_od0)) = w11 at *
  go_wp2_with fail
  rw [rounds_succ]
  go_wp2_with fail
  have h_v := Lib.hid (hv.out.below BB.out)
  have KK := Lib.hid (fun (w9 : World) (h : Below w11.heap.size w11 w9) => (cells2 (r_s.out.keep h) : (w9.cell? ⟨g_s, 0, none⟩ = some (.bool (sgn S1)) ∧ w9.cell? ⟨g_s, 1, none⟩ = some (.slice A_od0 n_od0 cap_od0))))
  have K0 := KK.out w11 (Below.refl _ _)
  have KD := KK.out w11.drew (below_drew (Below.refl _ _))
  have tok0 : Hid True := trivial
  have tok2 : Hid True := trivial
  refine AnyG.begin_ (fun w9 => (w9.cell? ⟨g_s, 0, none⟩ = some (.bool (sgn S1)) ∧ w9.cell? ⟨g_s, 1, none⟩ = some (.slice A_od0 n_od0 cap_od0))) 19 (by kernel_rfl) ?_
  refine AnyG.take (i := 0) (v := ?_) rfl (by kernel_rfl) (by kernel_rfl) (by kernel_rfl) (fun _ _ _ h => h) (by kernel_rfl) (by kernel_rfl) (Or.inl ⟨by rfl, ?_⟩) (by assumption) ?_
  rotate_left
  · intro w9 hSw; (try dsimp only at hSw); go_simp <;> with_reducible rfl
  try simp only [Act.put, List.getElem_toArray, List.getElem_cons_zero, List.getElem_cons_succ, List.setIfInBounds_toArray, List.set_cons_zero, List.set_cons_succ]
  refine AnyG.take (i := 1) (v := ?_) rfl (by kernel_rfl) (by kernel_rfl) (by kernel_rfl) (fun _ _ _ h => h) (by kernel_rfl) (by kernel_rfl) (Or.inl ⟨by rfl, ?_⟩) (by assumption) ?_
  rotate_left
  · intro w9 hSw; (try dsimp only at hSw); go_simp <;> with_reducible rfl
  try simp only [Act.put, List.getElem_toArray, List.getElem_cons_zero, List.getElem_cons_succ, List.setIfInBounds_toArray, List.set_cons_zero, List.set_cons_succ]
  refine AnyG.take (i := 2) (v := ?_) rfl (by kernel_rfl) (by kernel_rfl) (by kernel_rfl) (fun _ _ _ h => h) (by kernel_rfl) (by kernel_rfl) (Or.inl ⟨by rfl, ?_⟩) (by assumption) ?_
  rotate_left
  · intro w9 hSw; (try dsimp only at hSw); go_simp <;> with_reducible rfl
  try simp only [Act.put, List.getElem_toArray, List.getElem_cons_zero, List.getElem_cons_succ, List.setIfInBounds_toArray, List.set_cons_zero, List.set_cons_succ]
  refine AnyG.take (i := 3) (v := ?_) rfl (by kernel_rfl) (by kernel_rfl) (by kernel_rfl) (fun _ _ _ h => h) (by kernel_rfl) (by kernel_rfl) (Or.inl ⟨by rfl, ?_⟩) (by assumption) ?_
  rotate_left
  · intro w9 hSw; (try dsimp only at hSw); go_simp <;> with_reducible rfl
  try simp only [Act.put, List.getElem_toArray, List.getElem_cons_zero, List.getElem_cons_succ, List.setIfInBounds_toArray, List.set_cons_zero, List.set_cons_succ]
  refine AnyG.take (i := 5) (v := ?_) rfl (by kernel_rfl) (by kernel_rfl) (by kernel_rfl) (fun _ _ _ h => h) (by kernel_rfl) (by kernel_rfl) (Or.inl ⟨by rfl, ?_⟩) (by assumption) ?_
  rotate_left
  · intro w9 hSw; (try dsimp only at hSw); go_simp <;> with_reducible rfl
  try simp only [Act.put, List.getElem_toArray, List.getElem_cons_zero, List.getElem_cons_succ, List.setIfInBounds_toArray, List.set_cons_zero, List.set_cons_succ]
  refine AnyG.take (i := 6) (v := ?_) rfl (by kernel_rfl) (by kernel_rfl) (by kernel_rfl) (fun _ _ _ h => h) (by kernel_rfl) (by kernel_rfl) (Or.inl ⟨by rfl, ?_⟩) (by assumption) ?_
  rotate_left
  · intro w9 hSw; (try dsimp only at hSw); go_simp <;> with_reducible rfl
  try simp only [Act.put, List.getElem_toArray, List.getElem_cons_zero, List.getElem_cons_succ, List.setIfInBounds_toArray, List.set_cons_zero, List.set_cons_succ]
  refine AnyG.take (i := 7) (v := ?_) rfl (by kernel_rfl) (by kernel_rfl) (by kernel_rfl) (fun _ _ _ h => h) (by kernel_rfl) (by kernel_rfl) (Or.inl ⟨by rfl, ?_⟩) (by assumption) ?_
  rotate_left
  · intro w9 hSw; (try dsimp only at hSw); go_simp <;> with_reducible rfl
  try simp only [Act.put, List.getElem_toArray, List.getElem_cons_zero, List.getElem_cons_succ, List.setIfInBounds_toArray, List.set_cons_zero, List.set_cons_succ]
  refine AnyG.take (i := 8) (v := ?_) rfl (by kernel_rfl) (by kernel_rfl) (by kernel_rfl) (fun _ _ _ h => h) (by kernel_rfl) (by kernel_rfl) (Or.inl ⟨by rfl, ?_⟩) (by assumption) ?_
  rotate_left
  · intro w9 hSw; (try dsimp only at hSw); go_simp <;> with_reducible rfl
  try simp only [Act.put, List.getElem_toArray, List.getElem_cons_zero, List.getElem_cons_succ, List.setIfInBounds_toArray, List.set_cons_zero, List.set_cons_succ]
  refine AnyG.take (i := 9) (v := ?_) rfl (by kernel_rfl) (by kernel_rfl) (by kernel_rfl) (fun _ _ _ h => h) (by kernel_rfl) (by kernel_rfl) (Or.inl ⟨by rfl, ?_⟩) (by assumption) ?_
  rotate_left
  · intro w9 hSw; (try dsimp only at hSw); go_simp <;> with_reducible rfl
  try simp only [Act.put, List.getElem_toArray, List.getElem_cons_zero, List.getElem_cons_succ, List.setIfInBounds_toArray, List.set_cons_zero, List.set_cons_succ]
  refine AnyG.take (i := 10) (v := ?_) rfl (by kernel_rfl) (by kernel_rfl) (by kernel_rfl) (fun _ _ _ h => h) (by kernel_rfl) (by kernel_rfl) (Or.inl ⟨by rfl, ?_⟩) (by assumption) ?_
  rotate_left
  · intro w9 hSw; (try dsimp only at hSw); go_simp <;> with_reducible rfl
  try simp only [Act.put, List.getElem_toArray, List.getElem_cons_zero, List.getElem_cons_succ, List.setIfInBounds_toArray, List.set_cons_zero, List.set_cons_succ]
  refine AnyG.take (i := 11) (v := ?_) rfl (by kernel_rfl) (by kernel_rfl) (by kernel_rfl) (fun _ _ _ h => h) (by kernel_rfl) (by kernel_rfl) (Or.inl ⟨by rfl, ?_⟩) (by assumption) ?_
  rotate_left
  · intro w9 hSw; (try dsimp only at hSw); go_simp <;> with_reducible rfl
  try simp only [Act.put, List.getElem_toArray, List.getElem_cons_zero, List.getElem_cons_succ, List.setIfInBounds_toArray, List.set_cons_zero, List.set_cons_succ]
  refine AnyG.take (i := 12) (v := ?_) rfl (by kernel_rfl) (by kernel_rfl) (by kernel_rfl) (fun _ _ _ h => h) (by kernel_rfl) (by kernel_rfl) (Or.inl ⟨by rfl, ?_⟩) (by assumption) ?_
  rotate_left
  · intro w9 hSw; (try dsimp only at hSw); go_simp <;> with_reducible rfl
  try simp only [Act.put, List.getElem_toArray, List.getElem_cons_zero, List.getElem_cons_succ, List.setIfInBounds_toArray, List.set_cons_zero, List.set_cons_succ]
  refine AnyG.take (i := 13) (v := ?_) rfl (by kernel_rfl) (by kernel_rfl) (by kernel_rfl) (fun _ _ _ h => h) (by kernel_rfl) (by kernel_rfl) (Or.inl ⟨by rfl, ?_⟩) (by assumption) ?_
  rotate_left
  · intro w9 hSw; (try dsimp only at hSw); go_simp <;> with_reducible rfl
  try simp only [Act.put, List.getElem_toArray, List.getElem_cons_zero, List.getElem_cons_succ, List.setIfInBounds_toArray, List.set_cons_zero, List.set_cons_succ]
  refine AnyG.take (i := 14) (v := ?_) rfl (by kernel_rfl) (by kernel_rfl) (by kernel_rfl) (fun _ _ _ h => h) (by kernel_rfl) (by kernel_rfl) (Or.inl ⟨by rfl, ?_⟩) (by assumption) ?_
  rotate_left
  · intro w9 hSw; (try dsimp only at hSw); go_simp <;> with_reducible rfl
  try simp only [Act.put, List.getElem_toArray, List.getElem_cons_zero, List.getElem_cons_succ, List.setIfInBounds_toArray, List.set_cons_zero, List.set_cons_succ]
  refine AnyG.step (i := 4) (by kernel_rfl) rfl (fun K hK => ?_)
  go_simp
  go_at_call 45
  have t_k := tok0
  refine (OB1.out _).mono ?_
  rintro e w12 ⟨v_oa1, rfl, hb, h_oa1⟩
  obtain ⟨A_oa1, n_oa1, cap_oa1, rfl, -⟩ := id h_oa1.form
  replace h_oa1 := Lib.hid h_oa1
  have B_w12 := Lib.hid (reg_next (w0 := w11) (by repeat (first | with_reducible exact Below.refl _ _ | with_reducible apply below_drew | with_reducible apply below_new)) hb)
  have K_w12 := KK.out _ B_w12.out
  clear hb
  clear t_k tok0
  refine hK.out _ _ (fun _ => K_w12) (fun hHeld => ?_)
  replace hHeld := hHeld (by decide)
  clear hK
  try simp only [Act.put, List.getElem_toArray, List.getElem_cons_zero, List.getElem_cons_succ, List.setIfInBounds_toArray, List.set_cons_zero, List.set_cons_succ]
  refine AnyG.step (i := 15) (by kernel_rfl) rfl (fun K hK => ?_)
  go_simp
  go_at_call 27
  refine (P1.out _ (h_v.out.below B_w12.out)).mono ?_
  rintro e w13 ⟨rfl, hb⟩
  replace h_oa1 := Lib.hid (h_oa1.out.below hb)
  have B_w13 := Lib.hid (below_next B_w12.out hb)
  have K_w13 := KK.out _ B_w13.out
  clear hb
  refine hK.out _ _ (fun _ => K_w13) (fun hHeld => ?_)
  replace hHeld := hHeld (by decide)
  clear hK
  try simp only [Act.put, List.getElem_toArray, List.getElem_cons_zero, List.getElem_cons_succ, List.setIfInBounds_toArray, List.set_cons_zero, List.set_cons_succ]
  refine AnyG.step (i := 16) (by kernel_rfl) rfl (fun K hK => ?_)
  go_simp
  go_at_call 45
  have t_k := tok2
  refine (OF1.out _).mono ?_
  rintro e w14 ⟨v_ob1, rfl, hb, h_ob1⟩
  obtain ⟨A_ob1, n_ob1, cap_ob1, rfl, -⟩ := id h_ob1.form
  replace h_ob1 := Lib.hid h_ob1
  replace h_oa1 := Lib.hid (h_oa1.out.below hb)
  have B_w14 := Lib.hid (below_next B_w13.out hb)
  have K_w14 := KK.out _ B_w14.out
  clear hb
  clear t_k tok2
  refine hK.out _ _ (fun _ => K_w14) (fun hHeld => ?_)
  replace hHeld := hHeld (by decide)
  clear hK
  try simp only [Act.put, List.getElem_toArray, List.getElem_cons_zero, List.getElem_cons_succ, List.setIfInBounds_toArray, List.set_cons_zero, List.set_cons_succ]
  refine AnyG.step (i := 17) (by kernel_rfl) rfl (fun K hK => ?_)
  go_simp
  go_at_call 47
  refine (M1.out _ _ _ h_oa1.out h_ob1.out).mono ?_
  rintro e w15 ⟨v_oc1, rfl, hb, h_oc1⟩
  obtain ⟨A_oc1, n_oc1, cap_oc1, rfl, -⟩ := id h_oc1.form
  replace h_oc1 := Lib.hid h_oc1
  replace h_oa1 := Lib.hid (h_oa1.out.below hb)
  replace h_ob1 := Lib.hid (h_ob1.out.below hb)
  have B_w15 := Lib.hid (below_next B_w14.out hb)
  have K_w15 := KK.out _ B_w15.out
  clear hb
  refine hK.out _ _ (fun _ => K_w15) (fun hHeld => ?_)
  replace hHeld := hHeld (by decide)
  clear hK
  try simp only [Act.put, List.getElem_toArray, List.getElem_cons_zero, List.getElem_cons_succ, List.setIfInBounds_toArray, List.set_cons_zero, List.set_cons_succ]
  refine AnyG.step (i := 18) (by kernel_rfl) rfl (fun K hK => ?_)
  go_simp
  go_at_call 46
  refine (A1.out _ _ _ (h_od0.out.below B_w15.out) h_oc1.out).mono ?_
  rintro e w16 ⟨v_od1, rfl, hb, h_od1⟩
  obtain ⟨A_od1, n_od1, cap_od1, rfl, -⟩ := id h_od1.form
  replace h_od1 := Lib.hid h_od1
  replace h_oa1 := Lib.hid (h_oa1.out.below hb)
  replace h_ob1 := Lib.hid (h_ob1.out.below hb)
  replace h_oc1 := Lib.hid (h_oc1.out.below hb)
  have B_w16 := Lib.hid (below_next B_w15.out hb)
  have K_w16 := KK.out _ B_w16.out
  obtain ⟨rc_s0, rc_s1, rf_s0, rf_s1⟩ := reads2 (r_s.out.keep B_w16.out)
  have rl_s := (r_s.out.keep B_w16.out).lt
  clear hb
  refine hK.out _ _ (fun _ => K_w16) (fun hHeld => ?_)
  replace hHeld := hHeld (by decide)
  clear hK
  try simp only [Act.put, List.getElem_toArray, List.getElem_cons_zero, List.getElem_cons_succ, List.setIfInBounds_toArray, List.set_cons_zero, List.set_cons_succ]
  refine AnyG.step (i := 19) (by kernel_rfl) rfl (fun K hK => ?_)
  go_simp
  refine hK.out _ _ (fun h => absurd h (by decide)) (fun _ => ?_)
  clear hK
  try simp only [Act.put, List.getElem_toArray, List.getElem_cons_zero, List.getElem_cons_succ, List.setIfInBounds_toArray, List.set_cons_zero, List.set_cons_succ]
  refine AnyG.done (by kernel_rfl) ?_ _
  clear KK K0 KD K_w12 K_w13 K_w14 K_w15 K_w16
  replace r_s := Lib.hid (r_s.out.keep B_w16.out)
  replace h_od0 := Lib.hid (h_od0.out.below B_w16.out)
  replace h_v := Lib.hid (h_v.out.below B_w16.out)
  replace BB := Lib.hid (below_next BB.out B_w16.out)
  clear B_w12 B_w13 B_w14 B_w15 B_w16
  clear h_v h_oa1 h_ob1 h_oc1
  replace h_od1 := Lib.hid (h_od1.out.far2 r_s.out (by decide) (.bool (sgn S2)) (.slice A_od1 n_od1 cap_od1))
  clear h_od0
  replace r_s := Lib.hid (r_s.out.set2 (.bool (sgn S2)) (.slice A_od1 n_od1 cap_od1))
  replace BB := Lib.hid (below_far2 BB.out (p := g_s) (by have dd := d_s.out; omega) (.bool (sgn S2)) (.slice A_od1 n_od1 cap_od1))
  generalize ((w16.setCell ⟨g_s, 0, none⟩ (.bool (sgn S2))).setCell ⟨g_s, 1, none⟩ (.slice A_od1 n_od1 cap_od1)) = w17 at *
  go_wp2_with fail
  rw [rounds_succ]
  go_wp2_with fail
  have h_v := Lib.hid (hv.out.below BB.out)
  have KK := Lib.hid (fun (w9 : World) (h : Below w17.heap.size w17 w9) => (cells2 (r_s.out.keep h) : (w9.cell? ⟨g_s, 0, none⟩ = some (.bool (sgn S2)) ∧ w9.cell? ⟨g_s, 1, none⟩ = some (.slice A_od1 n_od1 cap_od1))))
  have K0 := KK.out w17 (Below.refl _ _)
  have KD := KK.out w17.drew (below_drew (Below.refl _ _))
  have tok0 : Hid True := trivial
  have tok2 : Hid True := trivial
  refine AnyG.begin_ (fun w9 => (w9.cell? ⟨g_s, 0, none⟩ = some (.bool (sgn S2)) ∧ w9.cell? ⟨g_s, 1, none⟩ = some (.slice A_od1 n_od1 cap_od1))) 19 (by kernel_rfl) ?_
  refine AnyG.take (i := 0) (v := ?_) rfl (by kernel_rfl) (by kernel_rfl) (by kernel_rfl) (fun _ _ _ h => h) (by kernel_rfl) (by kernel_rfl) (Or.inl ⟨by rfl, ?_⟩) (by assumption) ?_
  rotate_left
  · intro w9 hSw; (try dsimp only at hSw); go_simp <;> with_reducible rfl
  try simp only [Act.put, List.getElem_toArray, List.getElem_cons_zero, List.getElem_cons_succ, List.setIfInBounds_toArray, List.set_cons_zero, List.set_cons_succ]
  refine AnyG.take (i := 1) (v := ?_) rfl (by kernel_rfl) (by kernel_rfl) (by kernel_rfl) (fun _ _ _ h => h) (by kernel_rfl) (by kernel_rfl) (Or.inl ⟨by rfl, ?_⟩) (by assumption) ?_
  rotate_left
  · intro w9 hSw; (try dsimp only at hSw); go_simp <;> with_reducible rfl
  try simp only [Act.put, List.getElem_toArray, List.getElem_cons_zero, List.getElem_cons_succ, List.setIfInBounds_toArray, List.set_cons_zero, List.set_cons_succ]
  refine AnyG.take (i := 2) (v := ?_) rfl (by kernel_rfl) (by kernel_rfl) (by kernel_rfl) (fun _ _ _ h => h) (by kernel_rfl) (by kernel_rfl) (Or.inl ⟨by rfl, ?_⟩) (by assumption) ?_
  rotate_left
  · intro w9 hSw; (try dsimp only at hSw); go_simp <;> with_reducible rfl
  try simp only [Act.put, List.getElem_toArray, List.getElem_cons_zero, List.getElem_cons_succ, List.setIfInBounds_toArray, List.set_cons_zero, List.set_cons_succ]
  refine AnyG.take (i := 3) (v := ?_) rfl (by kernel_rfl) (by kernel_rfl) (by kernel_rfl) (fun _ _ _ h => h) (by kernel_rfl) (by kernel_rfl) (Or.inl ⟨by rfl, ?_⟩) (by assumption) ?_
  rotate_left
  · intro w9 hSw; (try dsimp only at hSw); go_simp <;> with_reducible rfl
  try simp only [Act.put, List.getElem_toArray, List.getElem_cons_zero, List.getElem_cons_succ, List.setIfInBounds_toArray, List.set_cons_zero, List.set_cons_succ]
  refine AnyG.take (i := 5) (v := ?_) rfl (by kernel_rfl) (by kernel_rfl) (by kernel_rfl) (fun _ _ _ h => h) (by kernel_rfl) (by kernel_rfl) (Or.inl ⟨by rfl, ?_⟩) (by assumption) ?_
  rotate_left
  · intro w9 hSw; (try dsimp only at hSw); go_simp <;> with_reducible rfl
  try simp only [Act.put, List.getElem_toArray, List.getElem_cons_zero, List.getElem_cons_succ, List.setIfInBounds_toArray, List.set_cons_zero, List.set_cons_succ]
  refine AnyG.take (i := 6) (v := ?_) rfl (by kernel_rfl) (by kernel_rfl) (by kernel_rfl) (fun _ _ _ h => h) (by kernel_rfl) (by kernel_rfl) (Or.inl ⟨by rfl, ?_⟩) (by assumption) ?_
  rotate_left
  · intro w9 hSw; (try dsimp only at hSw); go_simp <;> with_reducible rfl
  try simp only [Act.put, List.getElem_toArray, List.getElem_cons_zero, List.getElem_cons_succ, List.setIfInBounds_toArray, List.set_cons_zero, List.set_cons_succ]
  refine AnyG.take (i := 7) (v := ?_) rfl (by kernel_rfl) (by kernel_rfl) (by kernel_rfl) (fun _ _ _ h => h) (by kernel_rfl) (by kernel_rfl) (Or.inl ⟨by rfl, ?_⟩) (by assumption) ?_
  rotate_left
  · intro w9 hSw; (try dsimp only at hSw); go_simp <;> with_reducible rfl
  try simp only [Act.put, List.getElem_toArray, List.getElem_cons_zero, List.getElem_cons_succ, List.setIfInBounds_toArray, List.set_cons_zero, List.set_cons_succ]
  refine AnyG.take (i := 8) (v := ?_) rfl (by kernel_rfl) (by kernel_rfl) (by kernel_rfl) (fun _ _ _ h => h) (by kernel_rfl) (by kernel_rfl) (Or.inl ⟨by rfl, ?_⟩) (by assumption) ?_
  rotate_left
  · intro w9 hSw; (try dsimp only at hSw); go_simp <;> with_reducible rfl
  try simp only [Act.put, List.getElem_toArray, List.getElem_cons_zero, List.getElem_cons_succ, List.setIfInBounds_toArray, List.set_cons_zero, List.set_cons_succ]
  refine AnyG.take (i := 9) (v := ?_) rfl (by kernel_rfl) (by kernel_rfl) (by kernel_rfl) (fun _ _ _ h => h) (by kernel_rfl) (by kernel_rfl) (Or.inl ⟨by rfl, ?_⟩) (by assumption) ?_
  rotate_left
  · intro w9 hSw; (try dsimp only at hSw); go_simp <;> with_reducible rfl
  try simp only [Act.put, List.getElem_toArray, List.getElem_cons_zero, List.getElem_cons_succ, List.setIfInBounds_toArray, List.set_cons_zero, List.set_cons_succ]
  refine AnyG.take (i := 10) (v := ?_) rfl (by kernel_rfl) (by kernel_rfl) (by kernel_rfl) (fun _ _ _ h => h) (by kernel_rfl) (by kernel_rfl) (Or.inl ⟨by rfl, ?_⟩) (by assumption) ?_
  rotate_left
  · intro w9 hSw; (try dsimp only at hSw); go_simp <;> with_reducible rfl
  try simp only [Act.put, List.getElem_toArray, List.getElem_cons_zero, List.getElem_cons_succ, List.setIfInBounds_toArray, List.set_cons_zero, List.set_cons_succ]
  refine AnyG.take (i := 11) (v := ?_) rfl (by kernel_rfl) (by kernel_rfl) (by kernel_rfl) (fun _ _ _ h => h) (by kernel_rfl) (by kernel_rfl) (Or.inl ⟨by rfl, ?_⟩) (by assumption) ?_
  rotate_left
  · intro w9 hSw; (try dsimp only at hSw); go_simp <;> with_reducible rfl
  try simp only [Act.put, List.getElem_toArray, List.getElem_cons_zero, List.getElem_cons_succ, List.setIfInBounds_toArray, List.set_cons_zero, List.set_cons_succ]
  refine AnyG.take (i := 12) (v := ?_) rfl (by kernel_rfl) (by kernel_rfl) (by kernel_rfl) (fun _ _ _ h => h) (by kernel_rfl) (by kernel_rfl) (Or.inl ⟨by rfl, ?_⟩) (by assumption) ?_
  rotate_left
  · intro w9 hSw; (try dsimp only at hSw); go_simp <;> with_reducible rfl
  try simp only [Act.put, List.getElem_toArray, List.getElem_cons_zero, List.getElem_cons_succ, List.setIfInBounds_toArray, List.set_cons_zero, List.set_cons_succ]
  refine AnyG.take (i := 13) (v := ?_) rfl (by kernel_rfl) (by kernel_rfl) (by kernel_rfl) (fun _ _ _ h => h) (by kernel_rfl) (by kernel_rfl) (Or.inl ⟨by rfl, ?_⟩) (by assumption) ?_
  rotate_left
  · intro w9 hSw; (try dsimp only at hSw); go_simp <;> with_reducible rfl
  try simp only [Act.put, List.getElem_toArray, List.getElem_cons_zero, List.getElem_cons_succ, List.setIfInBounds_toArray, List.set_cons_zero, List.set_cons_succ]
  refine AnyG.take (i := 14) (v := ?_) rfl (by kernel_rfl) (by kernel_rfl) (by kernel_rfl) (fun _ _ _ h => h) (by kernel_rfl) (by kernel_rfl) (Or.inl ⟨by rfl, ?_⟩) (by assumption) ?_
  rotate_left
  · intro w9 hSw; (try dsimp only at hSw); go_simp <;> with_reducible rfl
  try simp only [Act.put, List.getElem_toArray, List.getElem_cons_zero, List.getElem_cons_succ, List.setIfInBounds_toArray, List.set_cons_zero, List.set_cons_succ]
  refine AnyG.step (i := 4) (by kernel_rfl) rfl (fun K hK => ?_)
  go_simp
  go_at_call 45
  have t_k := tok0
  refine (OB2.out _).mono ?_
  rintro e w18 ⟨v_oa2, rfl, hb, h_oa2⟩
  obtain ⟨A_oa2, n_oa2, cap_oa2, rfl, -⟩ := id h_oa2.form
  replace h_oa2 := Lib.hid h_oa2
  have B_w18 := Lib.hid (reg_next (w0 := w17) (by repeat (first | with_reducible exact Below.refl _ _ | with_reducible apply below_drew | with_reducible apply below_new)) hb)
  have K_w18 := KK.out _ B_w18.out
  clear hb
  clear t_k tok0
  refine hK.out _ _ (fun _ => K_w18) (fun hHeld => ?_)
  replace hHeld := hHeld (by decide)
  clear hK
  try simp only [Act.put, List.getElem_toArray, List.getElem_cons_zero, List.getElem_cons_succ, List.setIfInBounds_toArray, List.set_cons_zero, List.set_cons_succ]
  refine AnyG.step (i := 15) (by kernel_rfl) rfl (fun K hK => ?_)
  go_simp
  go_at_call 27
  refine (P2.out _ (h_v.out.below B_w18.out)).mono ?_
  rintro e w19 ⟨rfl, hb⟩
  replace h_oa2 := Lib.hid (h_oa2.out.below hb)
  have B_w19 := Lib.hid (below_next B_w18.out hb)
  have K_w19 := KK.out _ B_w19.out
  clear hb
  refine hK.out _ _ (fun _ => K_w19) (fun hHeld => ?_)
  replace hHeld := hHeld (by decide)
  clear hK
  try simp only [Act.put, List.getElem_toArray, List.getElem_cons_zero, List.getElem_cons_succ, List.setIfInBounds_toArray, List.set_cons_zero, List.set_cons_succ]
  refine AnyG.step (i := 16) (by kernel_rfl) rfl (fun K hK => ?_)
  go_simp
  go_at_call 45
  have t_k := tok2
  refine (OF2.out _).mono ?_
  rintro e w20 ⟨v_ob2, rfl, hb, h_ob2⟩
  obtain ⟨A_ob2, n_ob2, cap_ob2, rfl, -⟩ := id h_ob2.form
  replace h_ob2 := Lib.hid h_ob2
  replace h_oa2 := Lib.hid (h_oa2.out.below hb)
  have B_w20 := Lib.hid (below_next B_w19.out hb)
  have K_w20 := KK.out _ B_w20.out
  clear hb
  clear t_k tok2
  refine hK.out _ _ (fun _ => K_w20) (fun hHeld => ?_)
  replace hHeld := hHeld (by decide)
  clear hK
  try simp only [Act.put, List.getElem_toArray, List.getElem_cons_zero, List.getElem_cons_succ, List.setIfInBounds_toArray, List.set_cons_zero, List.set_cons_succ]
  refine AnyG.step (i := 17) (by kernel_rfl) rfl (fun K hK => ?_)
  go_simp
  go_at_call 47
  refine (M2.out _ _ _ h_oa2.out h_ob2.out).mono ?_
  rintro e w21 ⟨v_oc2, rfl, hb, h_oc2⟩
  obtain ⟨A_oc2, n_oc2, cap_oc2, rfl, -⟩ := id h_oc2.form
  replace h_oc2 := Lib.hid h_oc2
  replace h_oa2 := Lib.hid (h_oa2.out.below hb)
  replace h_ob2 := Lib.hid (h_ob2.out.below hb)
  have B_w21 := Lib.hid (below_next B_w20.out hb)
  have K_w21 := KK.out _ B_w21.out
  clear hb
  refine hK.out _ _ (fun _ => K_w21) (fun hHeld => ?_)
  replace hHeld := hHeld (by decide)
  clear hK
  try simp only [Act.put, List.getElem_toArray, List.getElem_cons_zero, List.getElem_cons_succ, List.setIfInBounds_toArray, List.set_cons_zero, List.set_cons_succ]
  refine AnyG.step (i := 18) (by kernel_rfl) rfl (fun K hK => ?_)
  go_simp
  go_at_call 46
  refine (A2.out _ _ _ (h_od1.out.below B_w21.out) h_oc2.out).mono ?_
  rintro e w22 ⟨v_od2, rfl, hb, h_od2⟩
  obtain ⟨A_od2, n_od2, cap_od2, rfl, -⟩ := id h_od2.form
  replace h_od2 := Lib.hid h_od2
  replace h_oa2 := Lib.hid (h_oa2.out.below hb)
  replace h_ob2 := Lib.hid (h_ob2.out.below hb)
  replace h_oc2 := Lib.hid (h_oc2.out.below hb)
  have B_w22 := Lib.hid (below_next B_w21.out hb)
  have K_w22 := KK.out _ B_w22.out
  obtain ⟨rc_s0, rc_s1, rf_s0, rf_s1⟩ := reads2 (r_s.out.keep B_w22.out)
  have rl_s := (r_s.out.keep B_w22.out).lt
  clear hb
  refine hK.out _ _ (fun _ => K_w22) (fun hHeld => ?_)
  replace hHeld := hHeld (by decide)
  clear hK
  try simp only [Act.put, List.getElem_toArray, List.getElem_cons_zero, List.getElem_cons_succ, List.setIfInBounds_toArray, List.set_cons_zero, List.set_cons_succ]
  refine AnyG.step (i := 19) (by kernel_rfl) rfl (fun K hK => ?_)
  go_simp
  refine hK.out _ _ (fun h => absurd h (by decide)) (fun _ => ?_)
  clear hK
  try simp only [Act.put, List.getElem_toArray, List.getElem_cons_zero, List.getElem_cons_succ, List.setIfInBounds_toArray, List.set_cons_zero, List.set_cons_succ]
  refine AnyG.done (by kernel_rfl) ?_ _
  clear KK K0 KD K_w18 K_w19 K_w20 K_w21 K_w22
  replace r_s := Lib.hid (r_s.out.keep B_w22.out)
  replace h_od1 := Lib.hid (h_od1.out.below B_w22.out)
  replace h_v := Lib.hid (h_v.out.below B_w22.out)
  replace BB := Lib.hid (below_next BB.out B_w22.out)
  clear B_w18 B_w19 B_w20 B_w21 B_w22
  clear h_v h_oa2 h_ob2 h_oc2
  replace h_od2 := Lib.hid (h_od2.out.far2 r_s.out (by decide) (.bool (sgn S3)) (.slice A_od2 n_od2 cap_od2))
  clear h_od1
  replace r_s := Lib.hid (r_s.out.set2 (.bool (sgn S3)) (.slice A_od2 n_od2 cap_od2))
  replace BB := Lib.hid (below_far2 BB.out (p := g_s) (by have dd := d_s.out; omega) (.bool (sgn S3)) (.slice A_od2 n_od2 cap_od2))
  generalize ((w22.setCell ⟨g_s, 0, none⟩ (.bool (sgn S3))).setCell ⟨g_s, 1, none⟩ (.slice A_od2 n_od2 cap_od2)) = w23 at *
  go_wp2_with fail
  rw [rounds_succ]
  go_wp2_with fail
  have h_v := Lib.hid (hv.out.below BB.out)
  have KK := Lib.hid (fun (w9 : World) (h : Below w23.heap.size w23 w9) => (cells2 (r_s.out.keep h) : (w9.cell? ⟨g_s, 0, none⟩ = some (.bool (sgn S3)) ∧ w9.cell? ⟨g_s, 1, none⟩ = some (.slice A_od2 n_od2 cap_od2))))
  have K0 := KK.out w23 (Below.refl _ _)
  have KD := KK.out w23.drew (below_drew (Below.refl _ _))
  have tok0 : Hid True := trivial
  have tok2 : Hid True := trivial
  refine AnyG.begin_ (fun w9 => (w9.cell? ⟨g_s, 0, none⟩ = some (.bool (sgn S3)) ∧ w9.cell? ⟨g_s, 1, none⟩ = some (.slice A_od2 n_od2 cap_od2))) 19 (by kernel_rfl) ?_
  refine AnyG.take (i := 0) (v := ?_) rfl (by kernel_rfl) (by kernel_rfl) (by kernel_rfl) (fun _ _ _ h => h) (by kernel_rfl) (by kernel_rfl) (Or.inl ⟨by rfl, ?_⟩) (by assumption) ?_
  rotate_left
  · intro w9 hSw; (try dsimp only at hSw); go_simp <;> with_reducible rfl
  try simp only [Act.put, List.getElem_toArray, List.getElem_cons_zero, List.getElem_cons_succ, List.setIfInBounds_toArray, List.set_cons_zero, List.set_cons_succ]
  refine AnyG.take (i := 1) (v := ?_) rfl (by kernel_rfl) (by kernel_rfl) (by kernel_rfl) (fun _ _ _ h => h) (by kernel_rfl) (by kernel_rfl) (Or.inl ⟨by rfl, ?_⟩) (by assumption) ?_
  rotate_left
  · intro w9 hSw; (try dsimp only at hSw); go_simp <;> with_reducible rfl
  try simp only [Act.put, List.getElem_toArray, List.getElem_cons_zero, List.getElem_cons_succ, List.setIfInBounds_toArray, List.set_cons_zero, List.set_cons_succ]
  refine AnyG.take (i := 2) (v := ?_) rfl (by kernel_rfl) (by kernel_rfl) (by kernel_rfl) (fun _ _ _ h => h) (by kernel_rfl) (by kernel_rfl) (Or.inl ⟨by rfl, ?_⟩) (by assumption) ?_
  rotate_left
  · intro w9 hSw; (try dsimp only at hSw); go_simp <;> with_reducible rfl
  try simp only [Act.put, List.getElem_toArray, List.getElem_cons_zero, List.getElem_cons_succ, List.setIfInBounds_toArray, List.set_cons_zero, List.set_cons_succ]
  refine AnyG.take (i := 3) (v := ?_) rfl (by kernel_rfl) (by kernel_rfl) (by kernel_rfl) (fun _ _ _ h => h) (by kernel_rfl) (by kernel_rfl) (Or.inl ⟨by rfl, ?_⟩) (by assumption) ?_
  rotate_left
  · intro w9 hSw; (try dsimp only at hSw); go_simp <;> with_reducible rfl
  try simp only [Act.put, List.getElem_toArray, List.getElem_cons_zero, List.getElem_cons_succ, List.setIfInBounds_toArray, List.set_cons_zero, List.set_cons_succ]
  refine AnyG.take (i := 5) (v := ?_) rfl (by kernel_rfl) (by kernel_rfl) (by kernel_rfl) (fun _ _ _ h => h) (by kernel_rfl) (by kernel_rfl) (Or.inl ⟨by rfl, ?_⟩) (by assumption) ?_
  rotate_left
  · intro w9 hSw; (try dsimp only at hSw); go_simp <;> with_reducible rfl
  try simp only [Act.put, List.getElem_toArray, List.getElem_cons_zero, List.getElem_cons_succ, List.setIfInBounds_toArray, List.set_cons_zero, List.set_cons_succ]
  refine AnyG.take (i := 6) (v := ?_) rfl (by kernel_rfl) (by kernel_rfl) (by kernel_rfl) (fun _ _ _ h => h) (by kernel_rfl) (by kernel_rfl) (Or.inl ⟨by rfl, ?_⟩) (by assumption) ?_
  rotate_left
  · intro w9 hSw; (try dsimp only at hSw); go_simp <;> with_reducible rfl
  try simp only [Act.put, List.getElem_toArray, List.getElem_cons_zero, List.getElem_cons_succ, List.setIfInBounds_toArray, List.set_cons_zero, List.set_cons_succ]
  refine AnyG.take (i := 7) (v := ?_) rfl (by kernel_rfl) (by kernel_rfl) (by kernel_rfl) (fun _ _ _ h => h) (by kernel_rfl) (by kernel_rfl) (Or.inl ⟨by rfl, ?_⟩) (by assumption) ?_
  rotate_left
  · intro w9 hSw; (try dsimp only at hSw); go_simp <;> with_reducible rfl
  try simp only [Act.put, List.getElem_toArray, List.getElem_cons_zero, List.getElem_cons_succ, List.setIfInBounds_toArray, List.set_cons_zero, List.set_cons_succ]
  refine AnyG.take (i := 8) (v := ?_) rfl (by kernel_rfl) (by kernel_rfl) (by kernel_rfl) (fun _ _ _ h => h) (by kernel_rfl) (by kernel_rfl) (Or.inl ⟨by rfl, ?_⟩) (by assumption) ?_
  rotate_left
  · intro w9 hSw; (try dsimp only at hSw); go_simp <;> with_reducible rfl
  try simp only [Act.put, List.getElem_toArray, List.getElem_cons_zero, List.getElem_cons_succ, List.setIfInBounds_toArray, List.set_cons_zero, List.set_cons_succ]
  refine AnyG.take (i := 9) (v := ?_) rfl (by kernel_rfl) (by kernel_rfl) (by kernel_rfl) (fun _ _ _ h => h) (by kernel_rfl) (by kernel_rfl) (Or.inl ⟨by rfl, ?_⟩) (by assumption) ?_
  rotate_left
  · intro w9 hSw; (try dsimp only at hSw); go_simp <;> with_reducible rfl
  try simp only [Act.put, List.getElem_toArray, List.getElem_cons_zero, List.getElem_cons_succ, List.setIfInBounds_toArray, List.set_cons_zero, List.set_cons_succ]
  refine AnyG.take (i := 10) (v := ?_) rfl (by kernel_rfl) (by kernel_rfl) (by kernel_rfl) (fun _ _ _ h => h) (by kernel_rfl) (by kernel_rfl) (Or.inl ⟨by rfl, ?_⟩) (by assumption) ?_
  rotate_left
  · intro w9 hSw; (try dsimp only at hSw); go_simp <;> with_reducible rfl
  try simp only [Act.put, List.getElem_toArray, List.getElem_cons_zero, List.getElem_cons_succ, List.setIfInBounds_toArray, List.set_cons_zero, List.set_cons_succ]
  refine AnyG.take (i := 11) (v := ?_) rfl (by kernel_rfl) (by kernel_rfl) (by kernel_rfl) (fun _ _ _ h => h) (by kernel_rfl) (by kernel_rfl) (Or.inl ⟨by rfl, ?_⟩) (by assumption) ?_
  rotate_left
  · intro w9 hSw; (try dsimp only at hSw); go_simp <;> with_reducible rfl
  try simp only [Act.put, List.getElem_toArray, List.getElem_cons_zero, List.getElem_cons_succ, List.setIfInBounds_toArray, List.set_cons_zero, List.set_cons_succ]
  refine AnyG.take (i := 12) (v := ?_) rfl (by kernel_rfl) (by kernel_rfl) (by kernel_rfl) (fun _ _ _ h => h) (by kernel_rfl) (by kernel_rfl) (Or.inl ⟨by rfl, ?_⟩) (by assumption) ?_
  rotate_left
  · intro w9 hSw; (try dsimp only at hSw); go_simp <;> with_reducible rfl
  try simp only [Act.put, List.getElem_toArray, List.getElem_cons_zero, List.getElem_cons_succ, List.setIfInBounds_toArray, List.set_cons_zero, List.set_cons_succ]
  refine AnyG.take (i := 13) (v := ?_) rfl (by kernel_rfl) (by kernel_rfl) (by kernel_rfl) (fun _ _ _ h => h) (by kernel_rfl) (by kernel_rfl) (Or.inl ⟨by rfl, ?_⟩) (by assumption) ?_
  rotate_left
  · intro w9 hSw; (try dsimp only at hSw); go_simp <;> with_reducible rfl
  try simp only [Act.put, List.getElem_toArray, List.getElem_cons_zero, List.getElem_cons_succ, List.setIfInBounds_toArray, List.set_cons_zero, List.set_cons_succ]
  refine AnyG.take (i := 14) (v := ?_) rfl (by kernel_rfl) (by kernel_rfl) (by kernel_rfl) (fun _ _ _ h => h) (by kernel_rfl) (by kernel_rfl) (Or.inl ⟨by rfl, ?_⟩) (by assumption) ?_
  rotate_left
  · intro w9 hSw; (try dsimp only at hSw); go_simp <;> with_reducible rfl
  try simp only [Act.put, List.getElem_toArray, List.getElem_cons_zero, List.getElem_cons_succ, List.setIfInBounds_toArray, List.set_cons_zero, List.set_cons_succ]
  refine AnyG.step (i := 4) (by kernel_rfl) rfl (fun K hK => ?_)
  go_simp
  go_at_call 45
  have t_k := tok0
  refine (OB3.out _).mono ?_
  rintro e w24 ⟨v_oa3, rfl, hb, h_oa3⟩
  obtain ⟨A_oa3, n_oa3, cap_oa3, rfl, -⟩ := id h_oa3.form
  replace h_oa3 := Lib.hid h_oa3
  have B_w24 := Lib.hid (reg_next (w0 := w23) (by repeat (first | with_reducible exact Below.refl _ _ | with_reducible apply below_drew | with_reducible apply below_new)) hb)
  have K_w24 := KK.out _ B_w24.out
  clear hb
  clear t_k tok0
  refine hK.out _ _ (fun _ => K_w24) (fun hHeld => ?_)
  replace hHeld := hHeld (by decide)
  clear hK
  try simp only [Act.put, List.getElem_toArray, List.getElem_cons_zero, List.getElem_cons_succ, List.setIfInBounds_toArray, List.set_cons_zero, List.set_cons_succ]
  refine AnyG.step (i := 15) (by kernel_rfl) rfl (fun K hK => ?_)
  go_simp
  go_at_call 27
  refine (P3.out _ (h_v.out.below B_w24.out)).mono ?_
  rintro e w25 ⟨rfl, hb⟩
  replace h_oa3 := Lib.hid (h_oa3.out.below hb)
  have B_w25 := Lib.hid (below_next B_w24.out hb)
  have K_w25 := KK.out _ B_w25.out
  clear hb
  refine hK.out _ _ (fun _ => K_w25) (fun hHeld => ?_)
  replace hHeld := hHeld (by decide)
  clear hK
  try simp only [Act.put, List.getElem_toArray, List.getElem_cons_zero, List.getElem_cons_succ, List.setIfInBounds_toArray, List.set_cons_zero, List.set_cons_succ]
  refine AnyG.step (i := 16) (by kernel_rfl) rfl (fun K hK => ?_)
  go_simp
  go_at_call 45
  have t_k := tok2
  refine (OF3.out _).mono ?_
  rintro e w26 ⟨v_ob3, rfl, hb, h_ob3⟩
  obtain ⟨A_ob3, n_ob3, cap_ob3, rfl, -⟩ := id h_ob3.form
  replace h_ob3 := Lib.hid h_ob3
  replace h_oa3 := Lib.hid (h_oa3.out.below hb)
  have B_w26 := Lib.hid (below_next B_w25.out hb)
  have K_w26 := KK.out _ B_w26.out
  clear hb
  clear t_k tok2
  refine hK.out _ _ (fun _ => K_w26) (fun hHeld => ?_)
  replace hHeld := hHeld (by decide)
  clear hK
  try simp only [Act.put, List.getElem_toArray, List.getElem_cons_zero, List.getElem_cons_succ, List.setIfInBounds_toArray, List.set_cons_zero, List.set_cons_succ]
  refine AnyG.step (i := 17) (by kernel_rfl) rfl (fun K hK => ?_)
  go_simp
  go_at_call 47
  refine (M3.out _ _ _ h_oa3.out h_ob3.out).mono ?_
  rintro e w27 ⟨v_oc3, rfl, hb, h_oc3⟩
  obtain ⟨A_oc3, n_oc3, cap_oc3, rfl, -⟩ := id h_oc3.form
  replace h_oc3 := Lib.hid h_oc3
  replace h_oa3 := Lib.hid (h_oa3.out.below hb)
  replace h_ob3 := Lib.hid (h_ob3.out.below hb)
  have B_w27 := Lib.hid (below_next B_w26.out hb)
  have K_w27 := KK.out _ B_w27.out
  clear hb
  refine hK.out _ _ (fun _ => K_w27) (fun hHeld => ?_)
  replace hHeld := hHeld (by decide)
  clear hK
  try simp only [Act.put, List.getElem_toArray, List.getElem_cons_zero, List.getElem_cons_succ, List.setIfInBounds_toArray, List.set_cons_zero, List.set_cons_succ]
  refine AnyG.step (i := 18) (by kernel_rfl) rfl (fun K hK => ?_)
  go_simp
  go_at_call 46
  refine (A3.out _ _ _ (h_od2.out.below B_w27.out) h_oc3.out).mono ?_
  rintro e w28 ⟨v_od3, rfl, hb, h_od3⟩
  obtain ⟨A_od3, n_od3, cap_od3, rfl, -⟩ := id h_od3.form
  replace h_od3 := Lib.hid h_od3
  replace h_oa3 := Lib.hid (h_oa3.out.below hb)
  replace h_ob3 := Lib.hid (h_ob3.out.below hb)
  replace h_oc3 := Lib.hid (h_oc3.out.below hb)
  have B_w28 := Lib.hid (below_next B_w27.out hb)
  have K_w28 := KK.out _ B_w28.out
  obtain ⟨rc_s0, rc_s1, rf_s0, rf_s1⟩ := reads2 (r_s.out.keep B_w28.out)
  have rl_s := (r_s.out.keep B_w28.out).lt
  clear hb
  refine hK.out _ _ (fun _ => K_w28) (fun hHeld => ?_)
  replace hHeld := hHeld (by decide)
  clear hK
  try simp only [Act.put, List.getElem_toArray, List.getElem_cons_zero, List.getElem_cons_succ, List.setIfInBounds_toArray, List.set_cons_zero, List.set_cons_succ]
  refine AnyG.step (i := 19) (by kernel_rfl) rfl (fun K hK => ?_)
  go_simp
  refine hK.out _ _ (fun h => absurd h (by decide)) (fun _ => ?_)
  clear hK
  try simp only [Act.put, List.getElem_toArray, List.getElem_cons_zero, List.getElem_cons_succ, List.setIfInBounds_toArray, List.set_cons_zero, List.set_cons_succ]
  refine AnyG.done (by kernel_rfl) ?_ _
  clear KK K0 KD K_w24 K_w25 K_w26 K_w27 K_w28
  replace r_s := Lib.hid (r_s.out.keep B_w28.out)
  replace h_od2 := Lib.hid (h_od2.out.below B_w28.out)
  replace h_v := Lib.hid (h_v.out.below B_w28.out)
  replace BB := Lib.hid (below_next BB.out B_w28.out)
  clear B_w24 B_w25 B_w26 B_w27 B_w28
  clear h_v h_oa3 h_ob3 h_oc3
  replace h_od3 := Lib.hid (h_od3.out.far2 r_s.out (by decide) (.bool (sgn S4)) (.slice A_od3 n_od3 cap_od3))
  clear h_od2
  replace r_s := Lib.hid (r_s.out.set2 (.bool (sgn S4)) (.slice A_od3 n_od3 cap_od3))
  replace BB := Lib.hid (below_far2 BB.out (p := g_s) (by have dd := d_s.out; omega) (.bool (sgn S4)) (.slice A_od3 n_od3 cap_od3))
  generalize ((w28.setCell ⟨g_s, 0, none⟩ (.bool (sgn S4))).setCell ⟨g_s, 1, none⟩ (.slice A_od3 n_od3 cap_od3)) = w29 at *
  go_wp2_with fail
  rw [rounds_succ]
  go_wp2_with fail
  have KK := Lib.hid (fun (w9 : World) (h : Below w29.heap.size w29 w9) => (cells2 (r_s.out.keep h) : (w9.cell? ⟨g_s, 0, none⟩ = some (.bool (sgn S4)) ∧ w9.cell? ⟨g_s, 1, none⟩ = some (.slice A_od3 n_od3 cap_od3))))
  have K0 := KK.out w29 (Below.refl _ _)
  have KD := KK.out w29.drew (below_drew (Below.refl _ _))
  go_region_held3 (fun w9 => (w9.cell? ⟨g_s, 0, none⟩ = some (.bool (sgn S4)) ∧ w9.cell? ⟨g_s, 1, none⟩ = some (.slice A_od3 n_od3 cap_od3)))
      (first | with_reducible exact KD | with_reducible exact K0 | with_reducible exact K_w30 | with_reducible exact K_w31 | with_reducible exact K_w32)
      (first
        | (go_at_call 45
           refine (OU.out _).mono ?_
           rintro e w30 ⟨v_ou, rfl, hb, h_ou⟩
           obtain ⟨A_ou, n_ou, cap_ou, rfl, -⟩ := id h_ou.form
           replace h_ou := Lib.hid h_ou
           have B_w30 := Lib.hid (reg_next (w0 := w29) (by repeat (first | with_reducible exact Below.refl _ _ | with_reducible apply below_drew | with_reducible apply below_new)) hb)
           have K_w30 := KK.out _ B_w30.out
           clear hb)
        | (go_at_call 86
           refine (FL.out _ _ _ (h_od3.out.below B_w30.out) h_ou.out).mono ?_
           rintro e w31 ⟨v_fl, rfl, hb, h_fl⟩
           obtain ⟨A_fl, n_fl, cap_fl, rfl, -⟩ := id h_fl.form
           replace h_fl := Lib.hid h_fl
           replace h_ou := Lib.hid (h_ou.out.below hb)
           have B_w31 := Lib.hid (below_next B_w30.out hb)
           have K_w31 := KK.out _ B_w31.out
           clear hb)
        | (go_at_call 85
           refine (CU.out _ _ h_fl.out).mono ?_
           rintro e w32 ⟨rfl, hb⟩
           replace h_ou := Lib.hid (h_ou.out.below hb)
           replace h_fl := Lib.hid (h_fl.out.below hb)
           have B_w32 := Lib.hid (below_next B_w31.out hb)
           have K_w32 := KK.out _ B_w32.out
           clear hb))
  clear KK K0 KD K_w30 K_w31 K_w32
  replace r_s := Lib.hid (r_s.out.keep B_w32.out)
  replace h_od3 := Lib.hid (h_od3.out.below B_w32.out)
  replace BB := Lib.hid (below_next BB.out B_w32.out)
  clear B_w30 B_w31 B_w32
  go_wp2_with fail
  go_ret
  exact ⟨rfl, BB.out⟩
end Go.Proofs.Ythoakbjnofhpbaa
