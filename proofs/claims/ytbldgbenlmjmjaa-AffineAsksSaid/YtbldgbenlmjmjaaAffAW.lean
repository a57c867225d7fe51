/- Walk of the law AffineAsks. -/
import Derived.Test.YtbldgbenlmjmjaaAffL
set_option linter.unusedVariables false
namespace Go.Proofs.Ytbldgbenlmjmjaa
open Go.RowKit Go.ChangeShapes Go.WideShapes Go.ChangeAt Go.Deep

set_option maxRecDepth 100000 in
set_option maxHeartbeats 8000000 in
theorem affineAsks_bad (v u : Value) (zs : List Int) (ps : List P3) (hC : afC zs ≠ 0) (w : World) (hv : IS w v zs) (hu : PS w u ps) :
    Calls Try.prog 5 #[v, u] w fun e w' => e = .returned (.bool true) ∧ Below w.heap.size w w' := by
  have CN := Lib.hid (fun w hv => afnew v zs w hv)
  have CC := Lib.hid (fun w hv => afcheck v zs w hv)
  have CD := Lib.hid (fun w hv => rcheck18 v zs w hv)
  have CB := Lib.hid (fun w => afdet_nil w)
  have CT := Lib.hid (fun px py d w => afat_nil px py d w)
  have CA := Lib.hid (fun w => alive18 w)
  obtain ⟨A, cap, rfl⟩ := hv.form
  obtain ⟨L, capl, rfl⟩ := hu.form
  have hv := Lib.hid hv; have hu := Lib.hid hu
  have hC' : (afC zs != 0) = true := by simpa using hC
  have hC2 : (afC zs == 0) = false := by simpa using hC
  have HC := Lib.hid hC
  clear hC
  generalize hn1 : zs.length = n1 at *
  generalize hn2 : ps.length = n2 at *
  have hn1 := Lib.hid hn1; have hn2 := Lib.hid hn2
  generalize hCe : afC zs = C at *
  have hCe := Lib.hid hCe
  rcases dec_both ((n1 : Int) > 60) with ⟨g1, d1⟩ | ⟨g1, d1⟩
  · clear CN CC CD CB CT CA g1
    go_enter Try.func5, Try.ntmps5
    go_wp2_with fail
    have BB : Hid (Below w.heap.size w w) := Below.refl _ _
    refine bodyPost_ret (v := .bool true) (by unfold results; simp only [Try.results5]; go_simp) rfl ?_
    exact ⟨rfl, BB.out⟩
  rcases dec_both ((n2 : Int) > 60) with ⟨g2, d2⟩ | ⟨g2, d2⟩
  · clear CN CC CD CB CT CA g1 g2
    go_enter Try.func5, Try.ntmps5
    go_wp2_with fail
    have BB : Hid (Below w.heap.size w w) := Below.refl _ _
    refine bodyPost_ret (v := .bool true) (by unfold results; simp only [Try.results5]; go_simp) rfl ?_
    exact ⟨rfl, BB.out⟩
  go_enter Try.func5, Try.ntmps5
  go_wp2_with fail
  have BB : Hid (Below w.heap.size w w) := Below.refl _ _
  have h_v := Lib.hid (hv.out.below BB.out)
  have h_u := Lib.hid (hu.out.below BB.out)
  refine (CN.out _ h_v.out).mono ?_
  rintro e w1 ⟨m, rfl, hb, hn, -⟩
  replace h_v := Lib.hid (IS.below h_v.out hb)
  replace h_u := Lib.hid (PS.below h_u.out hb)
  replace BB := Lib.hid (below_next BB.out hb)
  clear hb
  rw [hCe.out] at hn ⊢
  obtain rfl := hn HC.out
  clear hn CN
  go_wp2_with fail
  refine (CD.out _ h_v.out).mono ?_
  rintro e w9 ⟨rfl, m_q, rfl⟩
  have hb := below_drawn (Below.refl w1.heap.size w1) m_q
  generalize w1.drewN m_q = w2 at *
  replace h_v := Lib.hid (IS.below h_v.out hb)
  replace h_u := Lib.hid (PS.below h_u.out hb)
  replace BB := Lib.hid (below_next BB.out hb)
  clear hb
  clear CD
  go_wp2_with fail
  refine (CC.out _ h_v.out).mono ?_
  rintro e w9 ⟨rfl, m_q, rfl⟩
  have hb := below_drawn (Below.refl w2.heap.size w2) m_q
  generalize w2.drewN m_q = w3 at *
  replace h_v := Lib.hid (IS.below h_v.out hb)
  replace h_u := Lib.hid (PS.below h_u.out hb)
  replace BB := Lib.hid (below_next BB.out hb)
  clear hb
  clear CC
  go_wp2_with fail
  go_loopw [9, 10, 11, 12, 13, 14, 48] (fun _ _ _ _ _ _ i wr => ∃ k : Nat, k ≤ n2 ∧ i = .int .i64 k ∧ Hid (Below w3.heap.size w3 wr)) (fun _ _ _ _ _ _ i _ => n2 - (intOf i).toNat)
  case atStart => exact ⟨0, by omega, rfl, Below.refl _ _⟩
  case round =>
    obtain ⟨k, hk, rfl, hbl⟩ := hrel
    replace h_v := Lib.hid (h_v.out.below hbl.out); replace h_u := Lib.hid (h_u.out.below hbl.out); replace BB := Lib.hid (below_next BB.out hbl.out)
    by_cases hkn : k < n2
    · obtain ⟨b, off, x, y, d, rfl, hlt, -, hx, hy, hd, q0, q1, q2⟩ := h_u.out.at_ hn2.out hkn
      have hkn' : (k : Int) < n2 := by omega
      clear CA hx hy hd
      go_wp2_with fail
      refine (CT.out _ _ _ _).mono ?_
      rintro e w9 ⟨rfl, rfl⟩
      go_wp2_with fail
      refine (CB.out _).mono ?_
      rintro e w9 ⟨rfl, rfl⟩
      go_wp2_with fail
      go_round
      case rel => exact ⟨k + 1, by omega, rfl, below_new hbl.out _⟩
      case measure => simp [intOf]; omega
    · have : ¬ (k : Int) < n2 := by omega
      clear CT CB
      go_wp2_with fail
      refine (CA.out _).mono ?_
      rintro e w4 ⟨rfl, hb⟩
      replace BB := Lib.hid (below_next BB.out hb)
      clear hb
      go_wp2_with fail
      refine bodyPost_ret (v := .bool true) (by unfold results; simp only [Try.results5]; go_simp) rfl ?_
      exact ⟨rfl, BB.out⟩

set_option maxRecDepth 100000 in
set_option maxHeartbeats 16000000 in
theorem affineAsks_ok (v u : Value) (c0 c1 c2 c3 c4 c5 : Int) (ps : List P3) (hC : afC [c0, c1, c2, c3, c4, c5] = 0) (hM : AM c0 c1 c2 c3 c4 c5) (w : World) (hv : IS w v [c0, c1, c2, c3, c4, c5]) (hu : PS w u ps) :
    Calls Try.prog 5 #[v, u] w fun e w' => e = .returned (.bool true) ∧ Below w.heap.size w w' := by
  have CN := Lib.hid (fun w hv => afnew v [c0, c1, c2, c3, c4, c5] w hv)
  have CC := Lib.hid (fun w hv => afcheck v [c0, c1, c2, c3, c4, c5] w hv)
  have CD := Lib.hid (fun w hv => rcheck18 v [c0, c1, c2, c3, c4, c5] w hv)
  have CB := Lib.hid (fun g a0 a1 a2 a3 a4 a5 a6 w hm => afdet_of g a0 a1 a2 a3 a4 a5 a6 w hm)
  have CE := Lib.hid (fun w hv => rdet18 v c0 c1 c2 c3 c4 c5 hM.a hM.b hM.d hM.e w hv)
  have T1 := Lib.hid (fun g px py d hp w => afat_bad g px py d hp w)
  have T3 := Lib.hid (fun g px py d hp w hm => afat_ok g _ _ _ _ _ _ _ px py d hp hM.lines.1 hM.lines.2 w hm)
  have CR := Lib.hid (fun px py d w => rright px py d w)
  have CQ := Lib.hid (fun px py d hp w hv => rat18 v c0 c1 c2 c3 c4 c5 px py d hM hp w hv)
  have CA := Lib.hid (fun w => alive18 w)
  obtain ⟨A, cap, rfl⟩ := hv.form
  obtain ⟨L, capl, rfl⟩ := hu.form
  rw [show [c0, c1, c2, c3, c4, c5].length = 6 from rfl] at hv CN CC CD CE CQ ⊢
  have hv := Lib.hid hv; have hu := Lib.hid hu
  rw [hC] at CC CD
  have HC := Lib.hid hC
  clear hC hM
  generalize hn2 : ps.length = n2 at *
  have hn2 := Lib.hid hn2
  rcases dec_both ((n2 : Int) > 60) with ⟨g2, d2⟩ | ⟨g2, d2⟩
  · clear CN CC CD CB CE T1 T3 CR CQ CA g2
    go_enter Try.func5, Try.ntmps5
    go_wp2_with fail
    have BB : Hid (Below w.heap.size w w) := Below.refl _ _
    refine bodyPost_ret (v := .bool true) (by unfold results; simp only [Try.results5]; go_simp) rfl ?_
    exact ⟨rfl, BB.out⟩
  go_enter Try.func5, Try.ntmps5
  go_wp2_with fail
  have BB : Hid (Below w.heap.size w w) := Below.refl _ _
  have h_v := Lib.hid (hv.out.below BB.out)
  have h_u := Lib.hid (hu.out.below BB.out)
  refine (CN.out _ h_v.out).mono ?_
  rintro e w1 ⟨m, rfl, hb, -, hp⟩
  replace h_v := Lib.hid (IS.below h_v.out hb)
  replace h_u := Lib.hid (PS.below h_u.out hb)
  replace BB := Lib.hid (below_next BB.out hb)
  clear hb
  obtain ⟨g, x0, x1, x2, x3, x4, x5, rfl, hz, -, r_m⟩ := hp HC.out
  simp only [List.cons.injEq, and_true] at hz
  obtain ⟨rfl, rfl, rfl, rfl, rfl, rfl⟩ := hz
  rw [HC.out]
  replace r_m := Lib.hid r_m
  clear hp CN HC
  go_wp2_with fail
  refine (CD.out _ h_v.out).mono ?_
  rintro e w9 ⟨rfl, m_q, rfl⟩
  have hb := below_drawn (Below.refl w1.heap.size w1) m_q
  generalize w1.drewN m_q = w2 at *
  replace r_m := Lib.hid (r_m.out.keep hb)
  replace h_v := Lib.hid (IS.below h_v.out hb)
  replace h_u := Lib.hid (PS.below h_u.out hb)
  replace BB := Lib.hid (below_next BB.out hb)
  clear hb
  clear CD
  go_wp2_with fail
  refine (CC.out _ h_v.out).mono ?_
  rintro e w9 ⟨rfl, m_q, rfl⟩
  have hb := below_drawn (Below.refl w2.heap.size w2) m_q
  generalize w2.drewN m_q = w3 at *
  replace r_m := Lib.hid (r_m.out.keep hb)
  replace h_v := Lib.hid (IS.below h_v.out hb)
  replace h_u := Lib.hid (PS.below h_u.out hb)
  replace BB := Lib.hid (below_next BB.out hb)
  clear hb
  clear CC
  go_wp2_with fail
  go_loopw [9, 10, 11, 12, 13, 14, 48] (fun _ _ _ _ _ _ i wr => ∃ k : Nat, k ≤ n2 ∧ i = .int .i64 k ∧ Hid (Below w3.heap.size w3 wr)) (fun _ _ _ _ _ _ i _ => n2 - (intOf i).toNat)
  case atStart => exact ⟨0, by omega, rfl, Below.refl _ _⟩
  case round =>
    obtain ⟨k, hk, rfl, hbl⟩ := hrel
    replace r_m := Lib.hid (r_m.out.keep hbl.out); replace h_v := Lib.hid (h_v.out.below hbl.out); replace h_u := Lib.hid (h_u.out.below hbl.out); replace BB := Lib.hid (below_next BB.out hbl.out)
    by_cases hkn : k < n2
    · obtain ⟨b', off', x, y, d, rfl, hlt', -, hx, hy, hd, q0, q1, q2⟩ := h_u.out.at_ hn2.out hkn
      have hkn' : (k : Int) < n2 := by omega
      clear CA hx hy hd
      go_wp2_with fail
      have d_p := Lib.hid (And.intro BB.out.size (And.intro r_m.out.lt (True.intro)))
      obtain ⟨hb, r_p⟩ := laid wr #[.int .i64 x, .int .i64 y, .int .i64 d] 35
      replace r_m := Lib.hid (r_m.out.keep hb)
      replace h_v := Lib.hid (IS.below h_v.out hb)
      replace hbl := Lib.hid (below_next hbl.out hb)
      replace BB := Lib.hid (below_next BB.out hb)
      replace r_p := Lib.hid r_p
      clear hb
      generalize wr.alloc (.cells #[.int .i64 x, .int .i64 y, .int .i64 d] 35) = w4 at *
      generalize wr.heap.size = g_p at *
      clear q0 q1 q2
      cases hr : rightI x y d
      · replace CR := Lib.hid (fun w => CR.out x y d w)
        replace T1 := Lib.hid (fun w => T1.out g x y d hr w)
        rw [hr] at CR
        clear T3 CQ CB CE hr
        obtain ⟨c_p0, c_p1, c_p2, f_p0, f_p1, f_p2⟩ := reads3 r_p.out
        have l_p := r_p.out.lt
        go_wp2_with fail
        refine (T1.out _).mono ?_
        rintro e w9 ⟨rfl, rfl⟩
        go_wp2_with fail
        refine (CR.out _).mono ?_
        rintro e w9 ⟨rfl, rfl⟩
        go_wp2_with fail
        go_round
        case rel => exact ⟨k + 1, by omega, rfl, hbl.out⟩
        case measure => simp [intOf]; omega
      · replace CR := Lib.hid (fun w => CR.out x y d w)
        rw [hr] at CR
        replace T3 := Lib.hid (fun w hm => T3.out g x y d hr w hm)
        replace CQ := Lib.hid (fun w hv => CQ.out x y d hr w hv)
        replace CB := Lib.hid (fun w (hm : AtB w g (afCells c0 c1 c2 c3 c4 c5) AT) => CB.out g _ _ _ _ _ _ (.int .i64 (detI c0 c1 c3 c4)) w hm)
        generalize plU (65536 * c4) (-65536 * c1) (c1 * c5 - c4 * c2) (detI c0 c1 c3 c4) x y d = U at *
        generalize plU (-65536 * c3) (65536 * c0) (c3 * c2 - c0 * c5) (detI c0 c1 c3 c4) x y d = V at *
        clear T1 hr
        obtain ⟨c_p0, c_p1, c_p2, f_p0, f_p1, f_p2⟩ := reads3 r_p.out
        have l_p := r_p.out.lt
        go_wp2_with fail
        refine (T3.out _ r_m.out).mono ?_
        rintro e w5 ⟨rfl, hb⟩
        clear c_p0 c_p1 c_p2 f_p0 f_p1 f_p2 l_p
        replace r_m := Lib.hid (r_m.out.keep hb)
        replace r_p := Lib.hid (r_p.out.keep hb)
        replace h_v := Lib.hid (IS.below h_v.out hb)
        replace hbl := Lib.hid (below_next hbl.out hb)
        replace BB := Lib.hid (below_next BB.out hb)
        clear hb
        obtain ⟨c_p0, c_p1, c_p2, f_p0, f_p1, f_p2⟩ := reads3 r_p.out
        have l_p := r_p.out.lt
        go_wp2_with fail
        refine (CR.out _).mono ?_
        rintro e w9 ⟨rfl, rfl⟩
        go_wp2_with fail
        refine (CQ.out _ h_v.out).mono ?_
        rintro e w6 ⟨rfl, hb⟩
        clear c_p0 c_p1 c_p2 f_p0 f_p1 f_p2 l_p
        replace r_m := Lib.hid (r_m.out.keep hb)
        replace r_p := Lib.hid (r_p.out.keep hb)
        replace h_v := Lib.hid (IS.below h_v.out hb)
        replace hbl := Lib.hid (below_next hbl.out hb)
        replace BB := Lib.hid (below_next BB.out hb)
        clear hb
        go_wp2_with fail
        refine (CB.out _ r_m.out).mono ?_
        rintro e w9 ⟨rfl, rfl⟩
        go_wp2_with fail
        refine (CE.out _ h_v.out).mono ?_
        rintro e w9 ⟨rfl, m_q, rfl⟩
        have hb := below_drawn (Below.refl w6.heap.size w6) m_q
        generalize w6.drewN m_q = w7 at *
        replace r_m := Lib.hid (r_m.out.keep hb)
        replace r_p := Lib.hid (r_p.out.keep hb)
        replace h_v := Lib.hid (IS.below h_v.out hb)
        replace hbl := Lib.hid (below_next hbl.out hb)
        replace BB := Lib.hid (below_next BB.out hb)
        clear hb
        go_wp2_with fail
        go_round
        case rel => exact ⟨k + 1, by omega, rfl, hbl.out⟩
        case measure => simp [intOf]; omega
    · have : ¬ (k : Int) < n2 := by omega
      clear T1 T3 CR CQ CB CE
      go_wp2_with fail
      refine (CA.out _).mono ?_
      rintro e w8 ⟨rfl, hb⟩
      replace BB := Lib.hid (below_next BB.out hb)
      clear hb
      go_wp2_with fail
      refine bodyPost_ret (v := .bool true) (by unfold results; simp only [Try.results5]; go_simp) rfl ?_
      exact ⟨rfl, BB.out⟩

theorem affineAsks_any (v u : Value) (zs : List Int) (ps : List P3) (w : World) (hv : IS w v zs) (hu : PS w u ps) :
    Calls Try.prog 5 #[v, u] w fun e w' => e = .returned (.bool true) ∧ Below w.heap.size w w' := by
  by_cases hC : afC zs = 0
  · obtain ⟨c0, c1, c2, c3, c4, c5, rfl, hM⟩ := afC_zero hC
    exact affineAsks_ok v u c0 c1 c2 c3 c4 c5 ps hC hM w hv hu
  · exact affineAsks_bad v u zs ps hC w hv hu

end Go.Proofs.Ytbldgbenlmjmjaa
