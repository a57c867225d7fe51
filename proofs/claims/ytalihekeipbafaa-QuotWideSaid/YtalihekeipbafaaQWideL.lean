/- Walk of QuotWide. -/
import Derived.Test.YtalihekeipbafaaQLaws
set_option linter.unusedVariables false
namespace Go.Proofs.Ytalihekeipbafaa
open Go.RowKit

set_option maxRecDepth 100000 in
set_option maxHeartbeats 4000000 in
theorem quotWide_any (ah al b : Int) (a1 : I64 ah) (a2 : U64 al) (hb : I64 b) (w : World) :
    Calls Try.prog 9 #[wv ah al, .int .i64 b] w fun e w' => e = .returned (.bool true) ∧ Below w.heap.size w w' := by
  obtain ⟨z, hz⟩ : ∃ z, W128 z ah al := ⟨_, a1, a2, rfl⟩
  have wz := i128_wd hz.room
  have CB := Lib.hid (fun w => lbig_any z ah al hz w)
  have CW := Lib.hid (fun w => qwide z ah al b hz hb w)
  have CH := Lib.hid (fun w => qhalf z ah al b hz hb w)
  have RF := Lib.hid (fun (u : Value) w (hu : BR w u z) => r2floor_u u z b w hu (wz.up (by omega)) hb)
  have RN := Lib.hid (fun (u : Value) w (hu : BR w u z) => r2near_u u z b w hu (wz.up (by omega)) hb)
  have CA := Lib.hid (fun w => alive2_any w)
  have w1 : Wd 128 (z.fdiv b) := wz.fdiv
  have w3 : Wd 130 (nearI z b) := by
    have h : Wd 129 (2 * z + b) := by
      have h1 : Wd 128 (2 * z) := by have := wz.add wz; rwa [show z + z = 2 * z by omega] at this
      exact h1.add ((i64_wd hb).up (by omega))
    exact h.fdiv
  have T1 := Lib.hid (fun (v : Value) hi lo ok w1' (hv : BR w1' v (z.fdiv b)) (h : WB (z.fdiv b) hi lo ok) => told_any v _ hi lo ok w1' hv (w1.up (by omega)) h)
  have T2 := Lib.hid (fun (v : Value) hi lo ok w1' (hv : BR w1' v (nearI z b)) (h : WB (nearI z b) hi lo ok) => told_any v _ hi lo ok w1' hv (w3.up (by omega)) h)
  have RL := Lib.hid (fun h0 (u : Value) w (hu : BR w u z) => r2left u z b w hu (wz.up (by omega)) hb h0)
  have HM : Hid (b ≠ 0 → I64 (z.fmod b)) := fun h0 => by have := fmod_bounds (a := z) h0; unfold I64 at *; omega
  have CS := Lib.hid (fun (h0 : b ≠ 0) (u : Value) w (hu : BR w u (z.fmod b)) => small_any u _ w hu (HM.out h0))
  clear w1 w3 wz hz a1 a2 hb HM
  go_enter Try.func9, Try.ntmps9
  go_wp2_with fail
  have BB := start1 w #[.int .i64 ah, .int .u64 al] 24
  obtain ⟨BB, hsz, r_a⟩ := BB
  generalize (w.alloc (.cells #[.int .i64 ah, .int .u64 al] 24)) = w0 at *
  replace BB := Lib.hid BB
  replace r_a := Lib.hid r_a
  clear hsz
  refine (CB.out _).mono ?_
  rintro e w1 ⟨v_x, rfl, hb, h_x⟩
  obtain ⟨A_x, n_x, cap_x, rfl, -⟩ := id h_x.form
  replace h_x := Lib.hid h_x
  replace r_a := Lib.hid (r_a.out.keep hb)
  replace BB := Lib.hid (below_next BB.out hb)
  clear hb
  clear CB
  obtain ⟨c_a0, c_a1, f_a0, f_a1⟩ := reads2 r_a.out
  have l_a := r_a.out.lt
  go_wp2_with fail
  clear c_a0 c_a1 f_a0 f_a1 l_a
  have d_x := Lib.hid (And.intro BB.out.size (And.intro r_a.out.lt (True.intro)))
  obtain ⟨hb, r_x⟩ := laid w1 #[.bool (sgn (z)), .slice A_x n_x cap_x] 27
  replace r_a := Lib.hid (r_a.out.keep hb)
  replace h_x := Lib.hid (h_x.out.below hb)
  replace BB := Lib.hid (below_next BB.out hb)
  replace r_x := Lib.hid r_x
  clear hb
  generalize w1.alloc (.cells #[.bool (sgn (z)), .slice A_x n_x cap_x] 27) = w2 at *
  generalize w1.heap.size = g_x at *
  refine (CW.out _).mono ?_
  rintro e w3 ⟨qh, ql, r, ok, rfl, hb, hq⟩
  replace r_a := Lib.hid (r_a.out.keep hb)
  replace r_x := Lib.hid (r_x.out.keep hb)
  replace h_x := Lib.hid (h_x.out.below hb)
  replace BB := Lib.hid (below_next BB.out hb)
  clear hb
  replace hq := Lib.hid hq
  clear CW
  obtain ⟨c_a0, c_a1, f_a0, f_a1⟩ := reads2 r_a.out
  have l_a := r_a.out.lt
  go_wp2_with fail
  clear c_a0 c_a1 f_a0 f_a1 l_a
  have d_f := Lib.hid (And.intro BB.out.size (And.intro r_a.out.lt (And.intro r_x.out.lt (True.intro))))
  obtain ⟨hb, r_f⟩ := laid w3 #[.int .i64 qh, .int .u64 ql] 24
  replace r_a := Lib.hid (r_a.out.keep hb)
  replace r_x := Lib.hid (r_x.out.keep hb)
  replace h_x := Lib.hid (h_x.out.below hb)
  replace BB := Lib.hid (below_next BB.out hb)
  replace r_f := Lib.hid r_f
  clear hb
  generalize w3.alloc (.cells #[.int .i64 qh, .int .u64 ql] 24) = w4 at *
  generalize w3.heap.size = g_f at *
  refine (CH.out _).mono ?_
  rintro e w5 ⟨hh, hl, hok, rfl, hb, hn⟩
  replace r_a := Lib.hid (r_a.out.keep hb)
  replace r_x := Lib.hid (r_x.out.keep hb)
  replace r_f := Lib.hid (r_f.out.keep hb)
  replace h_x := Lib.hid (h_x.out.below hb)
  replace BB := Lib.hid (below_next BB.out hb)
  clear hb
  replace hn := Lib.hid hn
  clear CH
  obtain ⟨c_x0, c_x1, f_x0, f_x1⟩ := reads2 r_x.out
  have l_x := r_x.out.lt
  go_wp2_with fail
  clear c_x0 c_x1 f_x0 f_x1 l_x
  have d_n := Lib.hid (And.intro BB.out.size (And.intro r_a.out.lt (And.intro r_x.out.lt (And.intro r_f.out.lt (True.intro)))))
  obtain ⟨hb, r_n⟩ := laid w5 #[.int .i64 hh, .int .u64 hl] 24
  replace r_a := Lib.hid (r_a.out.keep hb)
  replace r_x := Lib.hid (r_x.out.keep hb)
  replace r_f := Lib.hid (r_f.out.keep hb)
  replace h_x := Lib.hid (h_x.out.below hb)
  replace BB := Lib.hid (below_next BB.out hb)
  replace r_n := Lib.hid r_n
  clear hb
  generalize w5.alloc (.cells #[.int .i64 hh, .int .u64 hl] 24) = w6 at *
  generalize w5.heap.size = g_n at *
  refine (RF.out _ _ h_x.out).mono ?_
  rintro e w7 ⟨v_p, rfl, hb, h_p⟩
  replace r_a := Lib.hid (r_a.out.keep hb)
  replace r_x := Lib.hid (r_x.out.keep hb)
  replace r_f := Lib.hid (r_f.out.keep hb)
  replace r_n := Lib.hid (r_n.out.keep hb)
  replace h_x := Lib.hid (h_x.out.below hb)
  replace BB := Lib.hid (below_next BB.out hb)
  clear hb
  obtain ⟨A_p, n_p, cap_p, rfl, -⟩ := id h_p.form
  replace h_p := Lib.hid h_p
  clear RF
  obtain ⟨c_x0, c_x1, f_x0, f_x1⟩ := reads2 r_x.out
  have l_x := r_x.out.lt
  go_wp2_with fail
  clear c_x0 c_x1 f_x0 f_x1 l_x
  have d_p := Lib.hid (And.intro BB.out.size (And.intro r_a.out.lt (And.intro r_x.out.lt (And.intro r_f.out.lt (And.intro r_n.out.lt (True.intro))))))
  obtain ⟨hb, r_p⟩ := laid w7 #[.bool (sgn ((z.fdiv b))), .slice A_p n_p cap_p] 27
  replace r_a := Lib.hid (r_a.out.keep hb)
  replace r_x := Lib.hid (r_x.out.keep hb)
  replace r_f := Lib.hid (r_f.out.keep hb)
  replace r_n := Lib.hid (r_n.out.keep hb)
  replace h_x := Lib.hid (h_x.out.below hb)
  replace h_p := Lib.hid (h_p.out.below hb)
  replace BB := Lib.hid (below_next BB.out hb)
  replace r_p := Lib.hid r_p
  clear hb
  generalize w7.alloc (.cells #[.bool (sgn ((z.fdiv b))), .slice A_p n_p cap_p] 27) = w8 at *
  generalize w7.heap.size = g_p at *
  refine (RN.out _ _ h_x.out).mono ?_
  rintro e w9 ⟨v_q, rfl, hb, h_q⟩
  replace r_a := Lib.hid (r_a.out.keep hb)
  replace r_x := Lib.hid (r_x.out.keep hb)
  replace r_f := Lib.hid (r_f.out.keep hb)
  replace r_n := Lib.hid (r_n.out.keep hb)
  replace r_p := Lib.hid (r_p.out.keep hb)
  replace h_x := Lib.hid (h_x.out.below hb)
  replace h_p := Lib.hid (h_p.out.below hb)
  replace BB := Lib.hid (below_next BB.out hb)
  clear hb
  obtain ⟨A_q, n_q, cap_q, rfl, -⟩ := id h_q.form
  replace h_q := Lib.hid h_q
  clear RN
  by_cases h0 : b = 0
  · have e0 : (b != 0) = false := bne_false h0
    have HQ : Hid (qh = 0 ∧ ql = 0 ∧ r = 0 ∧ ok = false) := by
      rcases hq.out with ⟨-, h, -⟩ | ⟨-, h1, h2, h3, h4⟩
      · exact absurd h0 h
      · exact ⟨h2, h3, h4, h1⟩
    have HN : Hid (hh = 0 ∧ hl = 0 ∧ hok = false) := by
      rcases hn.out with ⟨h, -⟩ | ⟨-, h1, h2, h3⟩
      · exact absurd h0 h
      · exact ⟨h2, h3, h1⟩
    obtain ⟨rfl, rfl, rfl, rfl⟩ := HQ.out
    obtain ⟨rfl, rfl, rfl⟩ := HN.out
    clear HQ HN hq hn RL CS T1 T2 h0
    generalize nearI z b = N at *
    generalize z.fdiv b = Q at *
    obtain ⟨c_f0, c_f1, f_f0, f_f1⟩ := reads2 r_f.out
    have l_f := r_f.out.lt
    obtain ⟨c_n0, c_n1, f_n0, f_n1⟩ := reads2 r_n.out
    have l_n := r_n.out.lt
    go_wp2_with fail
    clear c_f0 c_f1 f_f0 f_f1 l_f c_n0 c_n1 f_n0 f_n1 l_n
    have d_q := Lib.hid (And.intro BB.out.size (And.intro r_a.out.lt (And.intro r_x.out.lt (And.intro r_f.out.lt (And.intro r_n.out.lt (And.intro r_p.out.lt (True.intro)))))))
    obtain ⟨hb, r_q⟩ := laid w9 #[.bool (sgn N), .slice A_q n_q cap_q] 27
    replace r_a := Lib.hid (r_a.out.keep hb)
    replace r_x := Lib.hid (r_x.out.keep hb)
    replace r_f := Lib.hid (r_f.out.keep hb)
    replace r_n := Lib.hid (r_n.out.keep hb)
    replace r_p := Lib.hid (r_p.out.keep hb)
    replace h_x := Lib.hid (h_x.out.below hb)
    replace h_p := Lib.hid (h_p.out.below hb)
    replace h_q := Lib.hid (h_q.out.below hb)
    replace BB := Lib.hid (below_next BB.out hb)
    replace r_q := Lib.hid r_q
    clear hb
    generalize w9.alloc (.cells #[.bool (sgn N), .slice A_q n_q cap_q] 27) = w10 at *
    generalize w9.heap.size = g_q at *
    refine (CA.out _).mono ?_
    rintro e w11 ⟨rfl, hb⟩
    replace r_a := Lib.hid (r_a.out.keep hb)
    replace r_x := Lib.hid (r_x.out.keep hb)
    replace r_f := Lib.hid (r_f.out.keep hb)
    replace r_n := Lib.hid (r_n.out.keep hb)
    replace r_p := Lib.hid (r_p.out.keep hb)
    replace r_q := Lib.hid (r_q.out.keep hb)
    replace h_x := Lib.hid (h_x.out.below hb)
    replace h_p := Lib.hid (h_p.out.below hb)
    replace h_q := Lib.hid (h_q.out.below hb)
    replace BB := Lib.hid (below_next BB.out hb)
    clear hb
    go_wp2_with fail
    go_ret
    exact ⟨rfl, BB.out⟩
  · skip
    have e0 : (b != 0) = true := bne_true h0
    have HN : Hid (WB (nearI z b) hh hl hok) := by
      rcases hn.out with ⟨-, h⟩ | ⟨h, -⟩
      · exact h
      · exact absurd h h0
    replace RL := Lib.hid (RL.out h0)
    replace CS := Lib.hid (CS.out h0)
    clear hn
    have hq := hq.out
    rcases hq with ⟨hI, -, rfl, hW, rfl⟩ | ⟨hI, rfl, rfl, rfl, rfl⟩
    · have HW : Hid (WB (z.fdiv b) qh ql true) := .inl ⟨hI, rfl, hW⟩
      clear hI hW h0
      generalize nearI z b = N at *
      generalize z.fdiv b = Q at *
      generalize z.fmod b = M at *
      obtain ⟨c_f0, c_f1, f_f0, f_f1⟩ := reads2 r_f.out
      have l_f := r_f.out.lt
      obtain ⟨c_n0, c_n1, f_n0, f_n1⟩ := reads2 r_n.out
      have l_n := r_n.out.lt
      obtain ⟨c_x0, c_x1, f_x0, f_x1⟩ := reads2 r_x.out
      have l_x := r_x.out.lt
      go_wp2_with fail
      clear c_f0 c_f1 f_f0 f_f1 l_f c_n0 c_n1 f_n0 f_n1 l_n c_x0 c_x1 f_x0 f_x1 l_x
      have d_q := Lib.hid (And.intro BB.out.size (And.intro r_a.out.lt (And.intro r_x.out.lt (And.intro r_f.out.lt (And.intro r_n.out.lt (And.intro r_p.out.lt (True.intro)))))))
      obtain ⟨hb, r_q⟩ := laid w9 #[.bool (sgn N), .slice A_q n_q cap_q] 27
      replace r_a := Lib.hid (r_a.out.keep hb)
      replace r_x := Lib.hid (r_x.out.keep hb)
      replace r_f := Lib.hid (r_f.out.keep hb)
      replace r_n := Lib.hid (r_n.out.keep hb)
      replace r_p := Lib.hid (r_p.out.keep hb)
      replace h_x := Lib.hid (h_x.out.below hb)
      replace h_p := Lib.hid (h_p.out.below hb)
      replace h_q := Lib.hid (h_q.out.below hb)
      replace BB := Lib.hid (below_next BB.out hb)
      replace r_q := Lib.hid r_q
      clear hb
      generalize w9.alloc (.cells #[.bool (sgn N), .slice A_q n_q cap_q] 27) = w10 at *
      generalize w9.heap.size = g_q at *
      refine (RL.out _ _ h_x.out).mono ?_
      rintro e w11 ⟨v_l, rfl, hb, h_l⟩
      obtain ⟨A_l, n_l, cap_l, rfl, -⟩ := id h_l.form
      replace h_l := Lib.hid h_l
      replace r_a := Lib.hid (r_a.out.keep hb)
      replace r_x := Lib.hid (r_x.out.keep hb)
      replace r_f := Lib.hid (r_f.out.keep hb)
      replace r_n := Lib.hid (r_n.out.keep hb)
      replace r_p := Lib.hid (r_p.out.keep hb)
      replace r_q := Lib.hid (r_q.out.keep hb)
      replace h_x := Lib.hid (h_x.out.below hb)
      replace h_p := Lib.hid (h_p.out.below hb)
      replace h_q := Lib.hid (h_q.out.below hb)
      replace BB := Lib.hid (below_next BB.out hb)
      clear hb
      obtain ⟨c_f0, c_f1, f_f0, f_f1⟩ := reads2 r_f.out
      have l_f := r_f.out.lt
      obtain ⟨c_n0, c_n1, f_n0, f_n1⟩ := reads2 r_n.out
      have l_n := r_n.out.lt
      obtain ⟨c_x0, c_x1, f_x0, f_x1⟩ := reads2 r_x.out
      have l_x := r_x.out.lt
      obtain ⟨c_p0, c_p1, f_p0, f_p1⟩ := reads2 r_p.out
      have l_p := r_p.out.lt
      obtain ⟨c_q0, c_q1, f_q0, f_q1⟩ := reads2 r_q.out
      have l_q := r_q.out.lt
      go_wp2_with fail
      refine (CS.out _ _ h_l.out).mono ?_
      rintro e w12 ⟨rfl, hb⟩
      clear c_f0 c_f1 f_f0 f_f1 l_f c_n0 c_n1 f_n0 f_n1 l_n c_x0 c_x1 f_x0 f_x1 l_x c_p0 c_p1 f_p0 f_p1 l_p c_q0 c_q1 f_q0 f_q1 l_q
      replace r_a := Lib.hid (r_a.out.keep hb)
      replace r_x := Lib.hid (r_x.out.keep hb)
      replace r_f := Lib.hid (r_f.out.keep hb)
      replace r_n := Lib.hid (r_n.out.keep hb)
      replace r_p := Lib.hid (r_p.out.keep hb)
      replace r_q := Lib.hid (r_q.out.keep hb)
      replace h_x := Lib.hid (h_x.out.below hb)
      replace h_p := Lib.hid (h_p.out.below hb)
      replace h_q := Lib.hid (h_q.out.below hb)
      replace h_l := Lib.hid (h_l.out.below hb)
      replace BB := Lib.hid (below_next BB.out hb)
      clear hb
      obtain ⟨c_f0, c_f1, f_f0, f_f1⟩ := reads2 r_f.out
      have l_f := r_f.out.lt
      obtain ⟨c_n0, c_n1, f_n0, f_n1⟩ := reads2 r_n.out
      have l_n := r_n.out.lt
      obtain ⟨c_p0, c_p1, f_p0, f_p1⟩ := reads2 r_p.out
      have l_p := r_p.out.lt
      obtain ⟨c_q0, c_q1, f_q0, f_q1⟩ := reads2 r_q.out
      have l_q := r_q.out.lt
      go_wp2_with fail
      refine (T1.out _ _ _ _ _ h_p.out HW.out).mono ?_
      rintro e w13 ⟨rfl, hb⟩
      clear c_f0 c_f1 f_f0 f_f1 l_f c_n0 c_n1 f_n0 f_n1 l_n c_p0 c_p1 f_p0 f_p1 l_p c_q0 c_q1 f_q0 f_q1 l_q
      replace r_a := Lib.hid (r_a.out.keep hb)
      replace r_x := Lib.hid (r_x.out.keep hb)
      replace r_f := Lib.hid (r_f.out.keep hb)
      replace r_n := Lib.hid (r_n.out.keep hb)
      replace r_p := Lib.hid (r_p.out.keep hb)
      replace r_q := Lib.hid (r_q.out.keep hb)
      replace h_x := Lib.hid (h_x.out.below hb)
      replace h_p := Lib.hid (h_p.out.below hb)
      replace h_q := Lib.hid (h_q.out.below hb)
      replace h_l := Lib.hid (h_l.out.below hb)
      replace BB := Lib.hid (below_next BB.out hb)
      clear hb
      obtain ⟨c_f0, c_f1, f_f0, f_f1⟩ := reads2 r_f.out
      have l_f := r_f.out.lt
      obtain ⟨c_n0, c_n1, f_n0, f_n1⟩ := reads2 r_n.out
      have l_n := r_n.out.lt
      obtain ⟨c_p0, c_p1, f_p0, f_p1⟩ := reads2 r_p.out
      have l_p := r_p.out.lt
      obtain ⟨c_q0, c_q1, f_q0, f_q1⟩ := reads2 r_q.out
      have l_q := r_q.out.lt
      go_wp2_with fail
      refine (T2.out _ _ _ _ _ h_q.out HN.out).mono ?_
      rintro e w14 ⟨rfl, hb⟩
      clear c_f0 c_f1 f_f0 f_f1 l_f c_n0 c_n1 f_n0 f_n1 l_n c_p0 c_p1 f_p0 f_p1 l_p c_q0 c_q1 f_q0 f_q1 l_q
      replace r_a := Lib.hid (r_a.out.keep hb)
      replace r_x := Lib.hid (r_x.out.keep hb)
      replace r_f := Lib.hid (r_f.out.keep hb)
      replace r_n := Lib.hid (r_n.out.keep hb)
      replace r_p := Lib.hid (r_p.out.keep hb)
      replace r_q := Lib.hid (r_q.out.keep hb)
      replace h_x := Lib.hid (h_x.out.below hb)
      replace h_p := Lib.hid (h_p.out.below hb)
      replace h_q := Lib.hid (h_q.out.below hb)
      replace h_l := Lib.hid (h_l.out.below hb)
      replace BB := Lib.hid (below_next BB.out hb)
      clear hb
      go_wp2_with fail
      refine (CA.out _).mono ?_
      rintro e w15 ⟨rfl, hb⟩
      replace r_a := Lib.hid (r_a.out.keep hb)
      replace r_x := Lib.hid (r_x.out.keep hb)
      replace r_f := Lib.hid (r_f.out.keep hb)
      replace r_n := Lib.hid (r_n.out.keep hb)
      replace r_p := Lib.hid (r_p.out.keep hb)
      replace r_q := Lib.hid (r_q.out.keep hb)
      replace h_x := Lib.hid (h_x.out.below hb)
      replace h_p := Lib.hid (h_p.out.below hb)
      replace h_q := Lib.hid (h_q.out.below hb)
      replace h_l := Lib.hid (h_l.out.below hb)
      replace BB := Lib.hid (below_next BB.out hb)
      clear hb
      go_wp2_with fail
      go_ret
      exact ⟨rfl, BB.out⟩
    · have HW : Hid (WB (z.fdiv b) 0 0 false) := .inr ⟨by rcases hI with h | h; exact absurd h h0; exact h, rfl, rfl, rfl⟩
      clear hI h0
      generalize nearI z b = N at *
      generalize z.fdiv b = Q at *
      generalize z.fmod b = M at *
      obtain ⟨c_f0, c_f1, f_f0, f_f1⟩ := reads2 r_f.out
      have l_f := r_f.out.lt
      obtain ⟨c_n0, c_n1, f_n0, f_n1⟩ := reads2 r_n.out
      have l_n := r_n.out.lt
      obtain ⟨c_x0, c_x1, f_x0, f_x1⟩ := reads2 r_x.out
      have l_x := r_x.out.lt
      go_wp2_with fail
      clear c_f0 c_f1 f_f0 f_f1 l_f c_n0 c_n1 f_n0 f_n1 l_n c_x0 c_x1 f_x0 f_x1 l_x
      have d_q := Lib.hid (And.intro BB.out.size (And.intro r_a.out.lt (And.intro r_x.out.lt (And.intro r_f.out.lt (And.intro r_n.out.lt (And.intro r_p.out.lt (True.intro)))))))
      obtain ⟨hb, r_q⟩ := laid w9 #[.bool (sgn N), .slice A_q n_q cap_q] 27
      replace r_a := Lib.hid (r_a.out.keep hb)
      replace r_x := Lib.hid (r_x.out.keep hb)
      replace r_f := Lib.hid (r_f.out.keep hb)
      replace r_n := Lib.hid (r_n.out.keep hb)
      replace r_p := Lib.hid (r_p.out.keep hb)
      replace h_x := Lib.hid (h_x.out.below hb)
      replace h_p := Lib.hid (h_p.out.below hb)
      replace h_q := Lib.hid (h_q.out.below hb)
      replace BB := Lib.hid (below_next BB.out hb)
      replace r_q := Lib.hid r_q
      clear hb
      generalize w9.alloc (.cells #[.bool (sgn N), .slice A_q n_q cap_q] 27) = w10 at *
      generalize w9.heap.size = g_q at *
      refine (RL.out _ _ h_x.out).mono ?_
      rintro e w11 ⟨v_l, rfl, hb, h_l⟩
      obtain ⟨A_l, n_l, cap_l, rfl, -⟩ := id h_l.form
      replace h_l := Lib.hid h_l
      replace r_a := Lib.hid (r_a.out.keep hb)
      replace r_x := Lib.hid (r_x.out.keep hb)
      replace r_f := Lib.hid (r_f.out.keep hb)
      replace r_n := Lib.hid (r_n.out.keep hb)
      replace r_p := Lib.hid (r_p.out.keep hb)
      replace r_q := Lib.hid (r_q.out.keep hb)
      replace h_x := Lib.hid (h_x.out.below hb)
      replace h_p := Lib.hid (h_p.out.below hb)
      replace h_q := Lib.hid (h_q.out.below hb)
      replace BB := Lib.hid (below_next BB.out hb)
      clear hb
      obtain ⟨c_f0, c_f1, f_f0, f_f1⟩ := reads2 r_f.out
      have l_f := r_f.out.lt
      obtain ⟨c_n0, c_n1, f_n0, f_n1⟩ := reads2 r_n.out
      have l_n := r_n.out.lt
      obtain ⟨c_x0, c_x1, f_x0, f_x1⟩ := reads2 r_x.out
      have l_x := r_x.out.lt
      obtain ⟨c_p0, c_p1, f_p0, f_p1⟩ := reads2 r_p.out
      have l_p := r_p.out.lt
      obtain ⟨c_q0, c_q1, f_q0, f_q1⟩ := reads2 r_q.out
      have l_q := r_q.out.lt
      go_wp2_with fail
      refine (CS.out _ _ h_l.out).mono ?_
      rintro e w12 ⟨rfl, hb⟩
      clear c_f0 c_f1 f_f0 f_f1 l_f c_n0 c_n1 f_n0 f_n1 l_n c_x0 c_x1 f_x0 f_x1 l_x c_p0 c_p1 f_p0 f_p1 l_p c_q0 c_q1 f_q0 f_q1 l_q
      replace r_a := Lib.hid (r_a.out.keep hb)
      replace r_x := Lib.hid (r_x.out.keep hb)
      replace r_f := Lib.hid (r_f.out.keep hb)
      replace r_n := Lib.hid (r_n.out.keep hb)
      replace r_p := Lib.hid (r_p.out.keep hb)
      replace r_q := Lib.hid (r_q.out.keep hb)
      replace h_x := Lib.hid (h_x.out.below hb)
      replace h_p := Lib.hid (h_p.out.below hb)
      replace h_q := Lib.hid (h_q.out.below hb)
      replace h_l := Lib.hid (h_l.out.below hb)
      replace BB := Lib.hid (below_next BB.out hb)
      clear hb
      obtain ⟨c_f0, c_f1, f_f0, f_f1⟩ := reads2 r_f.out
      have l_f := r_f.out.lt
      obtain ⟨c_n0, c_n1, f_n0, f_n1⟩ := reads2 r_n.out
      have l_n := r_n.out.lt
      obtain ⟨c_p0, c_p1, f_p0, f_p1⟩ := reads2 r_p.out
      have l_p := r_p.out.lt
      obtain ⟨c_q0, c_q1, f_q0, f_q1⟩ := reads2 r_q.out
      have l_q := r_q.out.lt
      go_wp2_with fail
      refine (T1.out _ _ _ _ _ h_p.out HW.out).mono ?_
      rintro e w13 ⟨rfl, hb⟩
      clear c_f0 c_f1 f_f0 f_f1 l_f c_n0 c_n1 f_n0 f_n1 l_n c_p0 c_p1 f_p0 f_p1 l_p c_q0 c_q1 f_q0 f_q1 l_q
      replace r_a := Lib.hid (r_a.out.keep hb)
      replace r_x := Lib.hid (r_x.out.keep hb)
      replace r_f := Lib.hid (r_f.out.keep hb)
      replace r_n := Lib.hid (r_n.out.keep hb)
      replace r_p := Lib.hid (r_p.out.keep hb)
      replace r_q := Lib.hid (r_q.out.keep hb)
      replace h_x := Lib.hid (h_x.out.below hb)
      replace h_p := Lib.hid (h_p.out.below hb)
      replace h_q := Lib.hid (h_q.out.below hb)
      replace h_l := Lib.hid (h_l.out.below hb)
      replace BB := Lib.hid (below_next BB.out hb)
      clear hb
      obtain ⟨c_f0, c_f1, f_f0, f_f1⟩ := reads2 r_f.out
      have l_f := r_f.out.lt
      obtain ⟨c_n0, c_n1, f_n0, f_n1⟩ := reads2 r_n.out
      have l_n := r_n.out.lt
      obtain ⟨c_p0, c_p1, f_p0, f_p1⟩ := reads2 r_p.out
      have l_p := r_p.out.lt
      obtain ⟨c_q0, c_q1, f_q0, f_q1⟩ := reads2 r_q.out
      have l_q := r_q.out.lt
      go_wp2_with fail
      refine (T2.out _ _ _ _ _ h_q.out HN.out).mono ?_
      rintro e w14 ⟨rfl, hb⟩
      clear c_f0 c_f1 f_f0 f_f1 l_f c_n0 c_n1 f_n0 f_n1 l_n c_p0 c_p1 f_p0 f_p1 l_p c_q0 c_q1 f_q0 f_q1 l_q
      replace r_a := Lib.hid (r_a.out.keep hb)
      replace r_x := Lib.hid (r_x.out.keep hb)
      replace r_f := Lib.hid (r_f.out.keep hb)
      replace r_n := Lib.hid (r_n.out.keep hb)
      replace r_p := Lib.hid (r_p.out.keep hb)
      replace r_q := Lib.hid (r_q.out.keep hb)
      replace h_x := Lib.hid (h_x.out.below hb)
      replace h_p := Lib.hid (h_p.out.below hb)
      replace h_q := Lib.hid (h_q.out.below hb)
      replace h_l := Lib.hid (h_l.out.below hb)
      replace BB := Lib.hid (below_next BB.out hb)
      clear hb
      go_wp2_with fail
      refine (CA.out _).mono ?_
      rintro e w15 ⟨rfl, hb⟩
      replace r_a := Lib.hid (r_a.out.keep hb)
      replace r_x := Lib.hid (r_x.out.keep hb)
      replace r_f := Lib.hid (r_f.out.keep hb)
      replace r_n := Lib.hid (r_n.out.keep hb)
      replace r_p := Lib.hid (r_p.out.keep hb)
      replace r_q := Lib.hid (r_q.out.keep hb)
      replace h_x := Lib.hid (h_x.out.below hb)
      replace h_p := Lib.hid (h_p.out.below hb)
      replace h_q := Lib.hid (h_q.out.below hb)
      replace h_l := Lib.hid (h_l.out.below hb)
      replace BB := Lib.hid (below_next BB.out hb)
      clear hb
      go_wp2_with fail
      go_ret
      exact ⟨rfl, BB.out⟩

end Go.Proofs.Ytalihekeipbafaa
