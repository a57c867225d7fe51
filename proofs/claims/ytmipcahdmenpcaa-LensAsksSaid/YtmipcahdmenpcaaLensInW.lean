/- Walk of the law LensIn. -/
import Derived.Test.YtmipcahdmenpcaaLensL
set_option linter.unusedVariables false
namespace Go.Proofs.Ytmipcahdmenpcaa
open Go.RowKit

theorem lC_zero {zs : List Int} {W H : Int} (h : lC zs W H = 0) : ∃ c0 c1 c2 c3 c4 c5 c6, zs = [c0, c1, c2, c3, c4, c5, c6] ∧ LM c0 c1 c2 c3 c4 c5 c6 ∧ sizeI W H = true ∧ farI c0 c1 c2 (-1) (-1) 2 = false ∧ farI c0 c1 c2 (2 * W - 1) (2 * H - 1) 2 = false := by
  have h0 : lR zs = 0 := by
    refine Decidable.byContradiction fun k => ?_
    rw [lC_R k] at h; exact k h
  obtain ⟨c0, c1, c2, c3, c4, c5, c6, rfl, hM⟩ := lR_zero h0
  have hS : sizeI W H = true := by
    cases hx : sizeI W H
    · have := lC_size (W := W) (H := H) h0 (fun k => by rw [sizeI_iff.2 k] at hx; cases hx)
      omega
    · rfl
  have := lC_far h0 hS
  rw [h] at this
  refine ⟨c0, c1, c2, c3, c4, c5, c6, rfl, hM, hS, ?_, ?_⟩
  · cases hq : farI c0 c1 c2 (-1) (-1) 2
    · rfl
    · rw [if_pos (.inl hq)] at this; omega
  · cases hq : farI c0 c1 c2 (2 * W - 1) (2 * H - 1) 2
    · rfl
    · rw [if_pos (.inr hq)] at this; omega

/-- A place between two ends is as near to the middle as they are. -/
theorem ax_mono {p q d e mid f : Int} (hf : 0 < f) (hd : 0 < d) (h : 65536 * p / d ≤ 65536 * q / e) : axI p d mid f ≤ axI q e mid f := by
  unfold axI; exact Int.ediv_le_ediv hf (by omega)
theorem ax_between {p d w mid f : Int} (hf : 0 < f) (hd : 0 < d) (h0 : -d ≤ 2 * p) (h1 : 2 * p ≤ (2 * w - 1) * d) (k0 : inI (axI (-1) 2 mid f) 262144 = true) (k1 : inI (axI (2 * w - 1) 2 mid f) 262144 = true) : inI (axI p d mid f) 262144 = true := by
  have a := ax_mono (p := -1) (q := p) (d := 2) (e := d) (mid := mid) hf (by omega) (Int.le_ediv_of_mul_le hd (by omega))
  have b := ax_mono (p := p) (q := 2 * w - 1) (d := d) (e := 2) (mid := mid) hf hd (by
    have : 65536 * p / d ≤ 32768 * (2 * w - 1) := by
      refine Int.ediv_le_of_le_mul hd ?_
      rw [Int.mul_assoc]; omega
    omega)
  have x := inI_iff.1 k0
  have y := inI_iff.1 k1
  exact inI_iff.2 (by omega)
theorem far_in {cx cy f px py d w h : Int} (hf : 0 < f) (hd : 0 < d) (x0 : -d ≤ 2 * px) (x1 : 2 * px ≤ (2 * w - 1) * d) (y0 : -d ≤ 2 * py) (y1 : 2 * py ≤ (2 * h - 1) * d) (k0 : farI cx cy f (-1) (-1) 2 = false) (k1 : farI cx cy f (2 * w - 1) (2 * h - 1) 2 = false) : farI cx cy f px py d = false := by
  unfold farI at *
  simp only [Bool.or_eq_false_iff, Bool.not_eq_false'] at *
  exact ⟨ax_between hf hd x0 x1 k0.1 k1.1, ax_between hf hd y0 y1 k0.2 k1.2⟩

set_option maxRecDepth 100000 in
set_option maxHeartbeats 8000000 in
theorem lensIn_any (v : Value) (zs : List Int) (W H px py d : Int) (hW : I64 W) (hH : I64 H) (hpx : I64 px) (hpy : I64 py) (hd : I64 d) (w : World) (hv : IS w v zs) :
    Calls Try.prog 9 #[v, .agg #[.int .i64 W, .int .i64 H], .agg #[.int .i64 px, .int .i64 py, .int .i64 d]] w fun e w' => e = .returned (.bool true) ∧ Below w.heap.size w w' := by
  have CN := Lib.hid (fun w hv => lnew v zs W H hW hH w hv)
  have CA := Lib.hid (fun w => alive20 w)
  have CR := Lib.hid (fun w => rright px py d w)
  obtain ⟨A, cap, rfl⟩ := hv.form
  have hv := Lib.hid hv
  have hW := Lib.hid hW; have hH := Lib.hid hH
  clear hpx hpy hd
  go_enter Try.func9, Try.ntmps9
  go_wp2_with fail
  have BB := start2 w #[.int .i64 W, .int .i64 H] 60 #[.int .i64 px, .int .i64 py, .int .i64 d] 62
  obtain ⟨BB, hsz, r_s, r_p⟩ := BB
  generalize ((w.alloc (.cells #[.int .i64 W, .int .i64 H] 60)).alloc (.cells #[.int .i64 px, .int .i64 py, .int .i64 d] 62)) = w0 at *
  replace BB := Lib.hid BB
  replace r_s := Lib.hid r_s
  replace r_p := Lib.hid r_p
  clear hsz
  refine (CN.out _ (hv.out.below BB.out)).mono ?_
  rintro e w1 ⟨m, rfl, hb, hn, hp⟩
  replace r_s := Lib.hid (r_s.out.keep hb)
  replace r_p := Lib.hid (r_p.out.keep hb)
  replace BB := Lib.hid (below_next BB.out hb)
  clear hb
  have hn := Lib.hid hn; have hp := Lib.hid hp
  clear CN
  by_cases hC : lC zs W H = 0
  · obtain ⟨g, c0, c1, c2, c3, c4, c5, c6, rfl, rfl, hM, r_m⟩ := hp.out hC
    obtain ⟨e0, e1, e2, e3, e4, e5, e6, hz, -, hS, f0, f1⟩ := lC_zero hC
    simp only [List.cons.injEq, and_true] at hz
    obtain ⟨rfl, rfl, rfl, rfl, rfl, rfl, rfl⟩ := hz
    have hS := sizeI_iff.1 hS
    have hf := hM.f
    have hfar := Lib.hid (fun hd x0 x1 y0 y1 => far_in (px := px) (py := py) (d := d) (w := W) (h := H) (show 0 < c2 by omega) hd x0 x1 y0 y1 f0 f1)
    have CT := Lib.hid (fun hr hf' w hm => lat_ok g c0 c1 c2 c3 c4 c5 c6 px py d hr hM hf' w hm)
    rw [hC]
    clear hn hp hf f0 f1 hM hC hv hW hH
    replace r_m := Lib.hid r_m
    obtain ⟨c_s0, c_s1, f_s0, f_s1⟩ := reads2 r_s.out
    have l_s := r_s.out.lt
    obtain ⟨c_p0, c_p1, c_p2, f_p0, f_p1, f_p2⟩ := reads3 r_p.out
    have l_p := r_p.out.lt
    go_wp2_with fail
    go_quiet (fail)
    have hb := below_drawn (Below.refl w1.heap.size w1) nq
    generalize w1.drewN nq = w2 at *
    clear c_s0 c_s1 f_s0 f_s1 l_s c_p0 c_p1 c_p2 f_p0 f_p1 f_p2 l_p
    replace r_s := Lib.hid (r_s.out.keep hb)
    replace r_p := Lib.hid (r_p.out.keep hb)
    replace r_m := Lib.hid (r_m.out.keep hb)
    replace BB := Lib.hid (below_next BB.out hb)
    clear hb nq
    cases hr : rightI px py d
    · rw [hr] at CR
      clear hfar CT hr
      obtain ⟨c_p0, c_p1, c_p2, f_p0, f_p1, f_p2⟩ := reads3 r_p.out
      have l_p := r_p.out.lt
      go_wp2_with fail
      refine (CR.out _).mono ?_
      rintro e w9 ⟨rfl, rfl⟩
      go_wp2_with fail
      refine (CA.out _).mono ?_
      rintro e w3 ⟨rfl, hb⟩
      clear c_p0 c_p1 c_p2 f_p0 f_p1 f_p2 l_p
      replace r_s := Lib.hid (r_s.out.keep hb)
      replace r_p := Lib.hid (r_p.out.keep hb)
      replace r_m := Lib.hid (r_m.out.keep hb)
      replace BB := Lib.hid (below_next BB.out hb)
      clear hb
      go_wp2_with fail
      refine bodyPost_ret (v := .bool true) (by unfold results; simp only [Try.results9]; go_simp) rfl ?_
      exact ⟨rfl, BB.out⟩
    · rw [hr] at CR
      obtain ⟨x0, y0, d0, d1⟩ := rightI_iff.1 hr
      replace CT := Lib.hid (CT.out hr)
      have e0 : wrap64 (2 * px) = 2 * px := ww (by omega)
      have e1 : wrap64 (2 * py) = 2 * py := ww (by omega)
      have e2 : wrap64 (2 * W) = 2 * W := ww (by omega)
      have e3 : wrap64 (2 * H) = 2 * H := ww (by omega)
      have e4 : wrap64 (2 * W - 1) = 2 * W - 1 := ww (by omega)
      have e5 : wrap64 (2 * H - 1) = 2 * H - 1 := ww (by omega)
      have m1 := mul_in (a := 2 * W - 1) (A := 65536) (b := d) (B := 16) (by omega) (by omega)
      have m2 := mul_in (a := 2 * H - 1) (A := 65536) (b := d) (B := 16) (by omega) (by omega)
      have e6 : wrap64 ((2 * W - 1) * d) = (2 * W - 1) * d := ww (by omega)
      have e7 : wrap64 ((2 * H - 1) * d) = (2 * H - 1) * d := ww (by omega)
      have e8 : wrap64 (-d) = -d := ww (by omega)
      replace hfar := Lib.hid (hfar.out (by omega))
      clear m1 m2 x0 y0 d0 d1 hS hr
      rcases dec_both (2 * px < -d) with ⟨g1, d1⟩ | ⟨g1, d1⟩
      · clear hfar CT g1
        obtain ⟨c_p0, c_p1, c_p2, f_p0, f_p1, f_p2⟩ := reads3 r_p.out
        have l_p := r_p.out.lt
        go_wp2_with fail
        refine (CR.out _).mono ?_
        rintro e w9 ⟨rfl, rfl⟩
        go_wp2_with fail
        refine (CA.out _).mono ?_
        rintro e w3 ⟨rfl, hb⟩
        clear c_p0 c_p1 c_p2 f_p0 f_p1 f_p2 l_p
        replace r_s := Lib.hid (r_s.out.keep hb)
        replace r_p := Lib.hid (r_p.out.keep hb)
        replace r_m := Lib.hid (r_m.out.keep hb)
        replace BB := Lib.hid (below_next BB.out hb)
        clear hb
        go_wp2_with fail
        refine bodyPost_ret (v := .bool true) (by unfold results; simp only [Try.results9]; go_simp) rfl ?_
        exact ⟨rfl, BB.out⟩
      rcases dec_both (2 * px > (2 * W - 1) * d) with ⟨g2, d2⟩ | ⟨g2, d2⟩
      · clear hfar CT g1 g2
        obtain ⟨c_p0, c_p1, c_p2, f_p0, f_p1, f_p2⟩ := reads3 r_p.out
        have l_p := r_p.out.lt
        go_wp2_with fail
        refine (CR.out _).mono ?_
        rintro e w9 ⟨rfl, rfl⟩
        go_wp2_with fail
        refine (CA.out _).mono ?_
        rintro e w3 ⟨rfl, hb⟩
        clear c_p0 c_p1 c_p2 f_p0 f_p1 f_p2 l_p
        replace r_s := Lib.hid (r_s.out.keep hb)
        replace r_p := Lib.hid (r_p.out.keep hb)
        replace r_m := Lib.hid (r_m.out.keep hb)
        replace BB := Lib.hid (below_next BB.out hb)
        clear hb
        go_wp2_with fail
        refine bodyPost_ret (v := .bool true) (by unfold results; simp only [Try.results9]; go_simp) rfl ?_
        exact ⟨rfl, BB.out⟩
      rcases dec_both (2 * py < -d) with ⟨g3, d3⟩ | ⟨g3, d3⟩
      · clear hfar CT g1 g2 g3
        obtain ⟨c_p0, c_p1, c_p2, f_p0, f_p1, f_p2⟩ := reads3 r_p.out
        have l_p := r_p.out.lt
        go_wp2_with fail
        refine (CR.out _).mono ?_
        rintro e w9 ⟨rfl, rfl⟩
        go_wp2_with fail
        refine (CA.out _).mono ?_
        rintro e w3 ⟨rfl, hb⟩
        clear c_p0 c_p1 c_p2 f_p0 f_p1 f_p2 l_p
        replace r_s := Lib.hid (r_s.out.keep hb)
        replace r_p := Lib.hid (r_p.out.keep hb)
        replace r_m := Lib.hid (r_m.out.keep hb)
        replace BB := Lib.hid (below_next BB.out hb)
        clear hb
        go_wp2_with fail
        refine bodyPost_ret (v := .bool true) (by unfold results; simp only [Try.results9]; go_simp) rfl ?_
        exact ⟨rfl, BB.out⟩
      rcases dec_both (2 * py > (2 * H - 1) * d) with ⟨g4, d4⟩ | ⟨g4, d4⟩
      · clear hfar CT g1 g2 g3 g4
        obtain ⟨c_p0, c_p1, c_p2, f_p0, f_p1, f_p2⟩ := reads3 r_p.out
        have l_p := r_p.out.lt
        go_wp2_with fail
        refine (CR.out _).mono ?_
        rintro e w9 ⟨rfl, rfl⟩
        go_wp2_with fail
        refine (CA.out _).mono ?_
        rintro e w3 ⟨rfl, hb⟩
        clear c_p0 c_p1 c_p2 f_p0 f_p1 f_p2 l_p
        replace r_s := Lib.hid (r_s.out.keep hb)
        replace r_p := Lib.hid (r_p.out.keep hb)
        replace r_m := Lib.hid (r_m.out.keep hb)
        replace BB := Lib.hid (below_next BB.out hb)
        clear hb
        go_wp2_with fail
        refine bodyPost_ret (v := .bool true) (by unfold results; simp only [Try.results9]; go_simp) rfl ?_
        exact ⟨rfl, BB.out⟩
      replace CT := Lib.hid (CT.out (hfar.out (by omega) (by omega) (by omega) (by omega)))
      clear hfar g1 g2 g3 g4
      obtain ⟨c_p0, c_p1, c_p2, f_p0, f_p1, f_p2⟩ := reads3 r_p.out
      have l_p := r_p.out.lt
      go_wp2_with fail
      refine (CR.out _).mono ?_
      rintro e w9 ⟨rfl, rfl⟩
      go_wp2_with fail
      refine (CT.out _ r_m.out).mono ?_
      rintro e w9 ⟨rfl, m_q, rfl⟩
      have hb := below_drawn (Below.refl w2.heap.size w2) m_q
      generalize w2.drewN m_q = w3 at *
      clear c_p0 c_p1 c_p2 f_p0 f_p1 f_p2 l_p
      replace r_s := Lib.hid (r_s.out.keep hb)
      replace r_p := Lib.hid (r_p.out.keep hb)
      replace r_m := Lib.hid (r_m.out.keep hb)
      replace BB := Lib.hid (below_next BB.out hb)
      clear hb
      go_wp2_with fail
      refine (CA.out _).mono ?_
      rintro e w4 ⟨rfl, hb⟩
      replace r_s := Lib.hid (r_s.out.keep hb)
      replace r_p := Lib.hid (r_p.out.keep hb)
      replace r_m := Lib.hid (r_m.out.keep hb)
      replace BB := Lib.hid (below_next BB.out hb)
      clear hb
      go_wp2_with fail
      refine bodyPost_ret (v := .bool true) (by unfold results; simp only [Try.results9]; go_simp) rfl ?_
      exact ⟨rfl, BB.out⟩
  · have hC' : (lC zs W H != 0) = true := by simpa using hC
    clear hn hp CR hC hv hW hH
    generalize lC zs W H = C at *
    obtain ⟨c_s0, c_s1, f_s0, f_s1⟩ := reads2 r_s.out
    have l_s := r_s.out.lt
    obtain ⟨c_p0, c_p1, c_p2, f_p0, f_p1, f_p2⟩ := reads3 r_p.out
    have l_p := r_p.out.lt
    go_wp2_with fail
    go_quiet (fail)
    have hb := below_drawn (Below.refl w1.heap.size w1) nq
    generalize w1.drewN nq = w2 at *
    clear c_s0 c_s1 f_s0 f_s1 l_s c_p0 c_p1 c_p2 f_p0 f_p1 f_p2 l_p
    replace r_s := Lib.hid (r_s.out.keep hb)
    replace r_p := Lib.hid (r_p.out.keep hb)
    replace BB := Lib.hid (below_next BB.out hb)
    clear hb nq
    obtain ⟨c_p0, c_p1, c_p2, f_p0, f_p1, f_p2⟩ := reads3 r_p.out
    have l_p := r_p.out.lt
    go_wp2_with fail
    refine (CA.out _).mono ?_
    rintro e w3 ⟨rfl, hb⟩
    clear c_p0 c_p1 c_p2 f_p0 f_p1 f_p2 l_p
    replace r_s := Lib.hid (r_s.out.keep hb)
    replace r_p := Lib.hid (r_p.out.keep hb)
    replace BB := Lib.hid (below_next BB.out hb)
    clear hb
    go_wp2_with fail
    refine bodyPost_ret (v := .bool true) (by unfold results; simp only [Try.results9]; go_simp) rfl ?_
    exact ⟨rfl, BB.out⟩

end Go.Proofs.Ytmipcahdmenpcaa
