/- Walk of the law LensAsks. -/
import Derived.Test.YtmipcahdmenpcaaLensInW
import Derived.Test.YtmipcahdmenpcaaOpenP
set_option linter.unusedVariables false
namespace Go.Proofs.Ytmipcahdmenpcaa
open Go.RowKit Go.ChangeShapes Go.WideShapes Go.ChangeAt Go.Deep

theorem PS.at_ {w : World} {A : Option Addr} {n cap : Nat} {ps : List P3} (h : PS w (.slice A n cap) ps) (hn : ps.length = n) {k : Nat} (hk : k < n) : ∃ b off x y d, A = some ⟨b, off, none⟩ ∧ b < w.heap.size ∧ ps.getD k (0, 0, 0) = (x, y, d) ∧ I64 x ∧ I64 y ∧ I64 d ∧
    w.cell? ⟨b, off + k * 3, none⟩ = some (.int .i64 x) ∧ w.cell? ⟨b, off + k * 3 + 1, none⟩ = some (.int .i64 y) ∧ w.cell? ⟨b, off + k * 3 + 2, none⟩ = some (.int .i64 d) := by
  obtain ⟨A', cap', e, h1, h2, h3, h4⟩ := h
  injection e with e1 e2 e3
  subst e1
  obtain ⟨b, off, rfl, hb, hc⟩ := h4 (by intro h; rw [h] at hn; simp at hn; omega)
  have hi := hc k (by omega)
  have hm := h3 (ps.getD k (0, 0, 0)) (by simp [List.getD, List.getElem?_eq_getElem (show k < ps.length by omega)])
  exact ⟨b, off, _, _, _, rfl, hb, rfl, hm.1, hm.2.1, hm.2.2, hi⟩

set_option maxRecDepth 100000 in
set_option maxHeartbeats 8000000 in
theorem lensAsks_bad (v u : Value) (zs : List Int) (ps : List P3) (W H : Int) (hW : I64 W) (hH : I64 H) (hC : lC zs W H ≠ 0) (w : World) (hv : IS w v zs) (hu : PS w u ps) :
    Calls Try.prog 12 #[v, .agg #[.int .i64 W, .int .i64 H], u] w fun e w' => e = .returned (.bool true) ∧ Below w.heap.size w w' := by
  have CN := Lib.hid (fun w hv => lnew v zs W H hW hH w hv)
  have CC := Lib.hid (fun w hv => lcheck v zs W H hW hH w hv)
  have CD := Lib.hid (fun w hv => rcheck v zs W H hW hH w hv)
  have CB := Lib.hid (fun w => lbound_nil w)
  have CT := Lib.hid (fun px py d w => lat_nil px py d w)
  have CA := Lib.hid (fun w => alive20 w)
  obtain ⟨A, cap, rfl⟩ := hv.form
  obtain ⟨L, capl, rfl⟩ := hu.form
  have hv := Lib.hid hv; have hu := Lib.hid hu
  have hC' : (lC zs W H != 0) = true := by simpa using hC
  have hC2 : (lC zs W H == 0) = false := by simpa using hC
  have HC := Lib.hid hC
  clear hC hW hH
  generalize hn1 : zs.length = n1 at *
  generalize hn2 : ps.length = n2 at *
  have hn1 := Lib.hid hn1; have hn2 := Lib.hid hn2
  generalize hCe : lC zs W H = C at *
  have hCe := Lib.hid hCe
  rcases dec_both ((n1 : Int) > 60) with ⟨g1, d1⟩ | ⟨g1, d1⟩
  · clear CN CC CD CB CT CA g1
    go_enter Try.func12, Try.ntmps12
    go_wp2_with fail
    have BB := start1 w #[.int .i64 W, .int .i64 H] 60
    obtain ⟨BB, hsz, r_s⟩ := BB
    generalize (w.alloc (.cells #[.int .i64 W, .int .i64 H] 60)) = w0 at *
    replace BB := Lib.hid BB
    replace r_s := Lib.hid r_s
    clear hsz
    refine bodyPost_ret (v := .bool true) (by unfold results; simp only [Try.results12]; go_simp) rfl ?_
    exact ⟨rfl, BB.out⟩
  rcases dec_both ((n2 : Int) > 60) with ⟨g2, d2⟩ | ⟨g2, d2⟩
  · clear CN CC CD CB CT CA g1 g2
    go_enter Try.func12, Try.ntmps12
    go_wp2_with fail
    have BB := start1 w #[.int .i64 W, .int .i64 H] 60
    obtain ⟨BB, hsz, r_s⟩ := BB
    generalize (w.alloc (.cells #[.int .i64 W, .int .i64 H] 60)) = w0 at *
    replace BB := Lib.hid BB
    replace r_s := Lib.hid r_s
    clear hsz
    refine bodyPost_ret (v := .bool true) (by unfold results; simp only [Try.results12]; go_simp) rfl ?_
    exact ⟨rfl, BB.out⟩
  go_enter Try.func12, Try.ntmps12
  go_wp2_with fail
  have BB := start1 w #[.int .i64 W, .int .i64 H] 60
  obtain ⟨BB, hsz, r_s⟩ := BB
  generalize (w.alloc (.cells #[.int .i64 W, .int .i64 H] 60)) = w0 at *
  replace BB := Lib.hid BB
  replace r_s := Lib.hid r_s
  clear hsz
  have h_v := Lib.hid (hv.out.below BB.out)
  have h_u := Lib.hid (hu.out.below BB.out)
  refine (CN.out _ h_v.out).mono ?_
  rintro e w1 ⟨m, rfl, hb, hn, -⟩
  replace r_s := Lib.hid (r_s.out.keep hb)
  replace h_v := Lib.hid (IS.below h_v.out hb)
  replace h_u := Lib.hid (PS.below h_u.out hb)
  replace BB := Lib.hid (below_next BB.out hb)
  clear hb
  rw [hCe.out] at hn ⊢
  obtain rfl := hn HC.out
  clear hn CN
  obtain ⟨c_s0, c_s1, f_s0, f_s1⟩ := reads2 r_s.out
  have l_s := r_s.out.lt
  go_wp2_with fail
  refine (CD.out _ h_v.out).mono ?_
  rintro e w2 ⟨rfl, hb⟩
  clear c_s0 c_s1 f_s0 f_s1 l_s
  replace r_s := Lib.hid (r_s.out.keep hb)
  replace h_v := Lib.hid (IS.below h_v.out hb)
  replace h_u := Lib.hid (PS.below h_u.out hb)
  replace BB := Lib.hid (below_next BB.out hb)
  clear hb
  clear CD
  obtain ⟨c_s0, c_s1, f_s0, f_s1⟩ := reads2 r_s.out
  have l_s := r_s.out.lt
  go_wp2_with fail
  refine (CC.out _ h_v.out).mono ?_
  rintro e w3 ⟨rfl, hb⟩
  clear c_s0 c_s1 f_s0 f_s1 l_s
  replace r_s := Lib.hid (r_s.out.keep hb)
  replace h_v := Lib.hid (IS.below h_v.out hb)
  replace h_u := Lib.hid (PS.below h_u.out hb)
  replace BB := Lib.hid (below_next BB.out hb)
  clear hb
  clear CC
  go_wp2_with fail
  refine (CB.out _).mono ?_
  rintro e w9 ⟨rfl, rfl⟩
  clear CB
  go_wp2_with fail
  go_loopw [12, 13, 14, 15, 16, 17, 18, 19, 75] (fun _ _ _ _ _ _ _ _ i wr => ∃ k : Nat, k ≤ n2 ∧ i = .int .i64 k ∧ Hid (Below w3.heap.size w3 wr)) (fun _ _ _ _ _ _ _ _ i _ => n2 - (intOf i).toNat)
  case atStart => exact ⟨0, by omega, rfl, Below.refl _ _⟩
  case round =>
    obtain ⟨k, hk, rfl, hbl⟩ := hrel
    replace r_s := Lib.hid (r_s.out.keep hbl.out); replace h_v := Lib.hid (h_v.out.below hbl.out); replace h_u := Lib.hid (h_u.out.below hbl.out); replace BB := Lib.hid (below_next BB.out hbl.out)
    by_cases hkn : k < n2
    · obtain ⟨b, off, x, y, d, rfl, hlt, -, hx, hy, hd, q0, q1, q2⟩ := h_u.out.at_ hn2.out hkn
      have hkn' : (k : Int) < n2 := by omega
      clear CA hx hy hd
      go_wp2_with fail
      refine (CT.out _ _ _ _).mono ?_
      rintro e w9 ⟨rfl, rfl⟩
      go_wp2_with fail
      go_round
      case rel => exact ⟨k + 1, by omega, rfl, below_new hbl.out _⟩
      case measure => simp [intOf]; omega
    · have : ¬ (k : Int) < n2 := by omega
      clear CT
      go_wp2_with fail
      refine (CA.out _).mono ?_
      rintro e w4 ⟨rfl, hb⟩
      replace r_s := Lib.hid (r_s.out.keep hb)
      replace BB := Lib.hid (below_next BB.out hb)
      clear hb
      go_wp2_with fail
      refine bodyPost_ret (v := .bool true) (by unfold results; simp only [Try.results12]; go_simp) rfl ?_
      exact ⟨rfl, BB.out⟩

set_option maxRecDepth 100000 in
set_option maxHeartbeats 16000000 in
theorem lensAsks_ok (v u : Value) (c0 c1 c2 c3 c4 c5 c6 : Int) (ps : List P3) (W H : Int) (hW : I64 W) (hH : I64 H) (hC : lC [c0, c1, c2, c3, c4, c5, c6] W H = 0) (hM : LM c0 c1 c2 c3 c4 c5 c6) (w : World) (hv : IS w v [c0, c1, c2, c3, c4, c5, c6]) (hu : PS w u ps) :
    Calls Try.prog 12 #[v, .agg #[.int .i64 W, .int .i64 H], u] w fun e w' => e = .returned (.bool true) ∧ Below w.heap.size w w' := by
  have CN := Lib.hid (fun w hv => lnew v [c0, c1, c2, c3, c4, c5, c6] W H hW hH w hv)
  have CC := Lib.hid (fun w hv => lcheck v [c0, c1, c2, c3, c4, c5, c6] W H hW hH w hv)
  have CD := Lib.hid (fun w hv => rcheck v [c0, c1, c2, c3, c4, c5, c6] W H hW hH w hv)
  have CB := Lib.hid (fun g w hm => lbound g c0 c1 c2 c3 c4 c5 c6 hM.f.1 hM.f.2 w hm)
  have T1 := Lib.hid (fun g px py d hp w hm => lat_bad g c0 c1 c2 c3 c4 c5 c6 px py d hp w hm)
  have T2 := Lib.hid (fun g px py d hp hf w hm => lat_far g c0 c1 c2 c3 c4 c5 c6 px py d hp hM hf w hm)
  have T3 := Lib.hid (fun g px py d hp hf w hm => lat_ok g c0 c1 c2 c3 c4 c5 c6 px py d hp hM hf w hm)
  have CR := Lib.hid (fun px py d w => rright px py d w)
  have CQ := Lib.hid (fun px py d hp w hv => rat20 v c0 c1 c2 c3 c4 c5 c6 px py d hM hp w hv)
  have CA := Lib.hid (fun w => alive20 w)
  have e1 : wrap64 (12000 * c2) = 12000 * c2 := ww (by have := hM.f; omega)
  obtain ⟨b, off, cap, rfl, h1, h2, hlt, hc⟩ := hv.some (by simp)
  have hcap : 7 ≤ cap := by simpa using h1
  have k2 := hc 2 (by simp)
  simp only [List.getD_cons_zero, List.getD_cons_succ] at k2
  have KK := Lib.hid (fun w9 (h : Below w.heap.size w w9) => (h.cell (p := ⟨b, off + 2, none⟩) hlt).trans k2)
  obtain ⟨L, capl, rfl⟩ := hu.form
  have hv := Lib.hid hv; have hu := Lib.hid hu
  rw [show [c0, c1, c2, c3, c4, c5, c6].length = 7 from rfl] at hv CN CC CD CQ ⊢
  rw [hC] at CC CD
  have HC := Lib.hid hC
  clear hC hW hH hM hc k2 h1
  generalize hn2 : ps.length = n2 at *
  have hn2 := Lib.hid hn2
  rcases dec_both ((n2 : Int) > 60) with ⟨g2, d2⟩ | ⟨g2, d2⟩
  · clear CN CC CD CB T1 T2 T3 CR CQ CA KK g2
    go_enter Try.func12, Try.ntmps12
    go_wp2_with fail
    have BB := start1 w #[.int .i64 W, .int .i64 H] 60
    obtain ⟨BB, hsz, r_s⟩ := BB
    generalize (w.alloc (.cells #[.int .i64 W, .int .i64 H] 60)) = w0 at *
    replace BB := Lib.hid BB
    replace r_s := Lib.hid r_s
    clear hsz
    refine bodyPost_ret (v := .bool true) (by unfold results; simp only [Try.results12]; go_simp) rfl ?_
    exact ⟨rfl, BB.out⟩
  go_enter Try.func12, Try.ntmps12
  go_wp2_with fail
  have BB := start1 w #[.int .i64 W, .int .i64 H] 60
  obtain ⟨BB, hsz, r_s⟩ := BB
  generalize (w.alloc (.cells #[.int .i64 W, .int .i64 H] 60)) = w0 at *
  replace BB := Lib.hid BB
  replace r_s := Lib.hid r_s
  clear hsz
  have h_v := Lib.hid (hv.out.below BB.out)
  have h_u := Lib.hid (hu.out.below BB.out)
  refine (CN.out _ h_v.out).mono ?_
  rintro e w1 ⟨m, rfl, hb, -, hp⟩
  replace r_s := Lib.hid (r_s.out.keep hb)
  replace h_v := Lib.hid (IS.below h_v.out hb)
  replace h_u := Lib.hid (PS.below h_u.out hb)
  replace BB := Lib.hid (below_next BB.out hb)
  clear hb
  obtain ⟨g, x0, x1, x2, x3, x4, x5, x6, rfl, hz, -, r_m⟩ := hp HC.out
  simp only [List.cons.injEq, and_true] at hz
  obtain ⟨rfl, rfl, rfl, rfl, rfl, rfl, rfl⟩ := hz
  rw [HC.out]
  replace r_m := Lib.hid r_m
  clear hp CN HC
  obtain ⟨c_s0, c_s1, f_s0, f_s1⟩ := reads2 r_s.out
  have l_s := r_s.out.lt
  go_wp2_with fail
  refine (CD.out _ h_v.out).mono ?_
  rintro e w2 ⟨rfl, hb⟩
  clear c_s0 c_s1 f_s0 f_s1 l_s
  replace r_s := Lib.hid (r_s.out.keep hb)
  replace r_m := Lib.hid (r_m.out.keep hb)
  replace h_v := Lib.hid (IS.below h_v.out hb)
  replace h_u := Lib.hid (PS.below h_u.out hb)
  replace BB := Lib.hid (below_next BB.out hb)
  clear hb
  clear CD
  obtain ⟨c_s0, c_s1, f_s0, f_s1⟩ := reads2 r_s.out
  have l_s := r_s.out.lt
  go_wp2_with fail
  refine (CC.out _ h_v.out).mono ?_
  rintro e w3 ⟨rfl, hb⟩
  clear c_s0 c_s1 f_s0 f_s1 l_s
  replace r_s := Lib.hid (r_s.out.keep hb)
  replace r_m := Lib.hid (r_m.out.keep hb)
  replace h_v := Lib.hid (IS.below h_v.out hb)
  replace h_u := Lib.hid (PS.below h_u.out hb)
  replace BB := Lib.hid (below_next BB.out hb)
  clear hb
  clear CC
  have k2 := KK.out _ BB.out
  go_wp2_with fail
  refine (CB.out _ _ r_m.out).mono ?_
  rintro e w9 ⟨rfl, rfl⟩
  clear CB k2 KK
  go_wp2_with fail
  go_loopw [12, 13, 14, 15, 16, 17, 18, 19, 75] (fun _ _ _ _ _ _ _ _ i wr => ∃ k : Nat, k ≤ n2 ∧ i = .int .i64 k ∧ Hid (Below w3.heap.size w3 wr)) (fun _ _ _ _ _ _ _ _ i _ => n2 - (intOf i).toNat)
  case atStart => exact ⟨0, by omega, rfl, Below.refl _ _⟩
  case round =>
    obtain ⟨k, hk, rfl, hbl⟩ := hrel
    replace r_m := Lib.hid (r_m.out.keep hbl.out); replace r_s := Lib.hid (r_s.out.keep hbl.out); replace h_v := Lib.hid (h_v.out.below hbl.out); replace h_u := Lib.hid (h_u.out.below hbl.out); replace BB := Lib.hid (below_next BB.out hbl.out)
    by_cases hkn : k < n2
    · obtain ⟨b', off', x, y, d, rfl, hlt', -, hx, hy, hd, q0, q1, q2⟩ := h_u.out.at_ hn2.out hkn
      have hkn' : (k : Int) < n2 := by omega
      clear CA hx hy hd
      go_wp2_with fail
      have d_p := Lib.hid (And.intro BB.out.size (And.intro r_m.out.lt (True.intro)))
      obtain ⟨hb, r_p⟩ := laid wr #[.int .i64 x, .int .i64 y, .int .i64 d] 62
      replace r_m := Lib.hid (r_m.out.keep hb)
      replace h_v := Lib.hid (IS.below h_v.out hb)
      replace hbl := Lib.hid (below_next hbl.out hb)
      replace BB := Lib.hid (below_next BB.out hb)
      replace r_p := Lib.hid r_p
      clear hb
      generalize wr.alloc (.cells #[.int .i64 x, .int .i64 y, .int .i64 d] 62) = w4 at *
      generalize wr.heap.size = g_p at *
      clear q0 q1 q2
      cases hr : rightI x y d
      · replace CR := Lib.hid (fun w => CR.out x y d w)
        replace T1 := Lib.hid (fun w hm => T1.out g x y d hr w hm)
        rw [hr] at CR
        clear T2 T3 CQ hr
        refine (T1.out _ r_m.out).mono ?_
        rintro e w9 ⟨rfl, rfl⟩
        obtain ⟨c_p0, c_p1, c_p2, f_p0, f_p1, f_p2⟩ := reads3 r_p.out
        have l_p := r_p.out.lt
        go_wp2_with fail
        refine (CR.out _).mono ?_
        rintro e w9 ⟨rfl, rfl⟩
        go_wp2_with fail
        go_round
        case rel => exact ⟨k + 1, by omega, rfl, hbl.out⟩
        case measure => simp [intOf]; omega
      · replace CR := Lib.hid (fun w => CR.out x y d w)
        replace CQ := Lib.hid (fun w hv => CQ.out x y d hr w hv)
        rw [hr] at CR
        cases hf : farI c0 c1 c2 x y d
        · replace T3 := Lib.hid (fun w hm => T3.out g x y d hr hf w hm)
          rw [hf] at CQ
          simp only [Bool.false_eq_true, if_false, Bool.not_false] at CQ
          clear T1 T2 hr hf
          generalize latU c0 c2 c3 c4 c5 c6 (axI x d c0 c2) (axI y d c1 c2) = U at *
          generalize latU c1 c2 c3 c4 c6 c5 (axI y d c1 c2) (axI x d c0 c2) = V at *
          refine (T3.out _ r_m.out).mono ?_
          rintro e w9 ⟨rfl, m_q, rfl⟩
          have hb := below_drawn (Below.refl w4.heap.size w4) m_q
          generalize w4.drewN m_q = w5 at *
          replace r_m := Lib.hid (r_m.out.keep hb)
          replace r_p := Lib.hid (r_p.out.keep hb)
          replace h_v := Lib.hid (IS.below h_v.out hb)
          replace hbl := Lib.hid (below_next hbl.out hb)
          replace BB := Lib.hid (below_next BB.out hb)
          clear hb
          obtain ⟨c_p0, c_p1, c_p2, f_p0, f_p1, f_p2⟩ := reads3 r_p.out
          have l_p := r_p.out.lt
          go_wp2_with fail
          refine (CR.out _).mono ?_
          rintro e w9 ⟨rfl, rfl⟩
          go_wp2_with fail
          refine (CQ.out _ h_v.out).mono ?_
          rintro e w6 ⟨rfl, hb⟩
          clear c_p0 c_p1 c_p2 f_p0 f_p1 f_p2 l_p
          replace r_m := Lib.hid (r_m.out.keep hb)
          replace r_p := Lib.hid (r_p.out.keep hb)
          replace h_v := Lib.hid (IS.below h_v.out hb)
          replace hbl := Lib.hid (below_next hbl.out hb)
          replace BB := Lib.hid (below_next BB.out hb)
          clear hb
          go_wp2_with fail
          go_round
          case rel => exact ⟨k + 1, by omega, rfl, hbl.out⟩
          case measure => simp [intOf]; omega
        · replace T2 := Lib.hid (fun w hm => T2.out g x y d hr hf w hm)
          rw [hf] at CQ
          simp only [if_true, Bool.not_true] at CQ
          clear T1 T3 hr hf
          refine (T2.out _ r_m.out).mono ?_
          rintro e w9 ⟨rfl, rfl⟩
          obtain ⟨c_p0, c_p1, c_p2, f_p0, f_p1, f_p2⟩ := reads3 r_p.out
          have l_p := r_p.out.lt
          go_wp2_with fail
          refine (CR.out _).mono ?_
          rintro e w9 ⟨rfl, rfl⟩
          go_wp2_with fail
          refine (CQ.out _ h_v.out).mono ?_
          rintro e w5 ⟨rfl, hb⟩
          clear c_p0 c_p1 c_p2 f_p0 f_p1 f_p2 l_p
          replace r_m := Lib.hid (r_m.out.keep hb)
          replace r_p := Lib.hid (r_p.out.keep hb)
          replace h_v := Lib.hid (IS.below h_v.out hb)
          replace hbl := Lib.hid (below_next hbl.out hb)
          replace BB := Lib.hid (below_next BB.out hb)
          clear hb
          go_wp2_with fail
          go_round
          case rel => exact ⟨k + 1, by omega, rfl, hbl.out⟩
          case measure => simp [intOf]; omega
    · have : ¬ (k : Int) < n2 := by omega
      clear T1 T2 T3 CR CQ
      go_wp2_with fail
      refine (CA.out _).mono ?_
      rintro e w6 ⟨rfl, hb⟩
      replace r_s := Lib.hid (r_s.out.keep hb)
      replace BB := Lib.hid (below_next BB.out hb)
      clear hb
      go_wp2_with fail
      refine bodyPost_ret (v := .bool true) (by unfold results; simp only [Try.results12]; go_simp) rfl ?_
      exact ⟨rfl, BB.out⟩

theorem lensAsks_any (v u : Value) (zs : List Int) (ps : List P3) (W H : Int) (hW : I64 W) (hH : I64 H) (w : World) (hv : IS w v zs) (hu : PS w u ps) :
    Calls Try.prog 12 #[v, .agg #[.int .i64 W, .int .i64 H], u] w fun e w' => e = .returned (.bool true) ∧ Below w.heap.size w w' := by
  by_cases hC : lC zs W H = 0
  · obtain ⟨c0, c1, c2, c3, c4, c5, c6, rfl, hM, -⟩ := lC_zero hC
    exact lensAsks_ok v u c0 c1 c2 c3 c4 c5 c6 ps W H hW hH hC hM w hv hu
  · exact lensAsks_bad v u zs ps W H hW hH hC w hv hu

end Go.Proofs.Ytmipcahdmenpcaa
