/- Walk of the law ShearAsks. -/
import Derived.Test.YtommpclkiiffpaaShearL
import Derived.Test.YtommpclkiiffpaaOpenP
set_option linter.unusedVariables false
namespace Go.Proofs.Ytommpclkiiffpaa
open Go.RowKit Go.ChangeShapes Go.WideShapes Go.ChangeAt Go.Deep

theorem PS.at_ {w : World} {A : Option Addr} {n cap : Nat} {ps : List P3} (h : PS w (.slice A n cap) ps) (hn : ps.length = n) {k : Nat} (hk : k < n) : ∃ b off x y d, A = some ⟨b, off, none⟩ ∧ b < w.heap.size ∧ ps.getD k (0, 0, 0) = (x, y, d) ∧ I64 x ∧ I64 y ∧ I64 d ∧
    w.cell? ⟨b, off + k * 3, none⟩ = some (.int .i64 x) ∧ w.cell? ⟨b, off + k * 3 + 1, none⟩ = some (.int .i64 y) ∧ w.cell? ⟨b, off + k * 3 + 2, none⟩ = some (.int .i64 d) := by
  obtain ⟨A', cap', e, h1, h2, h3, h4⟩ := h
  injection e with e1 e2 e3
  subst e1
  obtain ⟨b, off, rfl, hb, hc⟩ := h4 (by intro h; rw [h] at hn; simp at hn; omega)
  have hi := hc k (by omega)
  have hm := h3 (ps.getD k (0, 0, 0)) (by simp [List.getD, List.getElem?_eq_getElem (show k < ps.length by omega)])
  exact ⟨b, off, _, _, _, rfl, hb, rfl, hm.1, hm.2.1, hm.2.2, hi⟩

set_option maxRecDepth 100000 in
set_option maxHeartbeats 8000000 in
theorem shearAsks_bad (v u : Value) (zs : List Int) (ps : List P3) (hC : shC zs ≠ 0) (w : World) (hv : IS w v zs) (hu : PS w u ps) :
    Calls Try.prog 9 #[v, u] w fun e w' => e = .returned (.bool true) ∧ Below w.heap.size w w' := by
  have CN := Lib.hid (fun w hv => shnew v zs w hv)
  have CC := Lib.hid (fun w hv => shcheck v zs w hv)
  have CD := Lib.hid (fun w hv => rshcheck v zs w hv)
  have CB := Lib.hid (fun w => shbounds_nil w)
  have CT := Lib.hid (fun px py d w => shat_nil px py d w)
  have CA := Lib.hid (fun w => alive22 w)
  obtain ⟨A, cap, rfl⟩ := hv.form
  obtain ⟨L, capl, rfl⟩ := hu.form
  have hv := Lib.hid hv; have hu := Lib.hid hu
  have hC' : (shC zs != 0) = true := by simpa using hC
  have hC2 : (shC zs == 0) = false := by simpa using hC
  have HC := Lib.hid hC
  clear hC
  generalize hn1 : zs.length = n1 at *
  generalize hn2 : ps.length = n2 at *
  have hn1 := Lib.hid hn1; have hn2 := Lib.hid hn2
  generalize hCe : shC zs = C at *
  have hCe := Lib.hid hCe
  rcases dec_both ((n1 : Int) > 60) with ⟨g1, d1⟩ | ⟨g1, d1⟩
  · clear CN CC CD CB CT CA g1
    go_enter Try.func9, Try.ntmps9
    go_wp2_with fail
    have BB : Hid (Below w.heap.size w w) := Below.refl _ _
    refine bodyPost_ret (v := .bool true) (by unfold results; simp only [Try.results9]; go_simp) rfl ?_
    exact ⟨rfl, BB.out⟩
  rcases dec_both ((n2 : Int) > 60) with ⟨g2, d2⟩ | ⟨g2, d2⟩
  · clear CN CC CD CB CT CA g1 g2
    go_enter Try.func9, Try.ntmps9
    go_wp2_with fail
    have BB : Hid (Below w.heap.size w w) := Below.refl _ _
    refine bodyPost_ret (v := .bool true) (by unfold results; simp only [Try.results9]; go_simp) rfl ?_
    exact ⟨rfl, BB.out⟩
  go_enter Try.func9, Try.ntmps9
  go_wp2_with fail
  have BB : Hid (Below w.heap.size w w) := Below.refl _ _
  have h_v := Lib.hid (hv.out.below BB.out)
  have h_u := Lib.hid (hu.out.below BB.out)
  refine (CN.out _ h_v.out).mono ?_
  rintro e w1 ⟨m, rfl, hb, hn, -⟩
  replace h_v := Lib.hid (IS.below h_v.out hb)
  replace h_u := Lib.hid (PS.below h_u.out hb)
  replace BB := Lib.hid (below_next BB.out hb)
  clear hb
  rw [hCe.out] at hn ⊢
  obtain rfl := hn HC.out
  clear hn CN
  go_wp2_with fail
  refine (CD.out _ h_v.out).mono ?_
  rintro e w9 ⟨rfl, rfl⟩
  clear CD
  go_wp2_with fail
  refine (CC.out _ h_v.out).mono ?_
  rintro e w9 ⟨rfl, rfl⟩
  clear CC
  go_wp2_with fail
  refine (CB.out _).mono ?_
  rintro e w9 ⟨rfl, rfl⟩
  clear CB
  go_wp2_with fail
  go_loopw [13, 14, 15, 16, 17, 18, 19, 79] (fun _ _ _ _ _ _ _ i wr => ∃ k : Nat, k ≤ n2 ∧ i = .int .i64 k ∧ Hid (Below w1.heap.size w1 wr)) (fun _ _ _ _ _ _ _ i _ => n2 - (intOf i).toNat)
  case atStart => exact ⟨0, by omega, rfl, Below.refl _ _⟩
  case round =>
    obtain ⟨k, hk, rfl, hbl⟩ := hrel
    replace h_v := Lib.hid (h_v.out.below hbl.out); replace h_u := Lib.hid (h_u.out.below hbl.out); replace BB := Lib.hid (below_next BB.out hbl.out)
    by_cases hkn : k < n2
    · obtain ⟨b, off, x, y, d, rfl, hlt, -, hx, hy, hd, q0, q1, q2⟩ := h_u.out.at_ hn2.out hkn
      have hkn' : (k : Int) < n2 := by omega
      clear CA hx hy hd
      go_wp2_with fail
      refine (CT.out _ _ _ _).mono ?_
      rintro e w9 ⟨rfl, rfl⟩
      go_wp2_with fail
      go_round
      case rel => exact ⟨k + 1, by omega, rfl, below_new hbl.out _⟩
      case measure => simp [intOf]; omega
    · have : ¬ (k : Int) < n2 := by omega
      clear CT
      go_wp2_with fail
      refine (CA.out _).mono ?_
      rintro e w2 ⟨rfl, hb⟩
      replace BB := Lib.hid (below_next BB.out hb)
      clear hb
      go_wp2_with fail
      refine bodyPost_ret (v := .bool true) (by unfold results; simp only [Try.results9]; go_simp) rfl ?_
      exact ⟨rfl, BB.out⟩

set_option maxRecDepth 100000 in
set_option maxHeartbeats 16000000 in
theorem shearAsks_ok (v u : Value) (a b cx cy : Int) (ps : List P3) (hC : shC [a, b, cx, cy] = 0) (hM : SM a b cx cy) (w : World) (hv : IS w v [a, b, cx, cy]) (hu : PS w u ps) :
    Calls Try.prog 9 #[v, u] w fun e w' => e = .returned (.bool true) ∧ Below w.heap.size w w' := by
  have CN := Lib.hid (fun w hv => shnew v [a, b, cx, cy] w hv)
  have CC := Lib.hid (fun w hv => shcheck v [a, b, cx, cy] w hv)
  have CD := Lib.hid (fun w hv => rshcheck v [a, b, cx, cy] w hv)
  have CB := Lib.hid (fun g w hm => shbounds g a b cx cy hM w hm)
  have CE := Lib.hid (fun w hv => rbounds v a b cx cy hM w hv)
  have T1 := Lib.hid (fun g px py d hp w => shat_bad g px py d hp w)
  have T3 := Lib.hid (fun g px py d hp w hm => shat_ok g a b cx cy px py d hp hM w hm)
  have CR := Lib.hid (fun px py d w => rright px py d w)
  have CQ := Lib.hid (fun X Y hx hy w hv => rpixel v a b cx cy X Y hM hx hy w hv)
  have CP := Lib.hid (fun p d hp hd hd' w => rnearest p d hp hd hd' w)
  have CA := Lib.hid (fun w => alive22 w)
  have HB := Lib.hid (fun X Y (hx : -1048577 ≤ X ∧ X ≤ 1048577) (hy : -1048577 ≤ Y ∧ Y ≤ 1048577) => sh_facts (x0 := X - cx) (y0 := Y - cy) hM.a hM.b (by have := hM.x; omega) (by have := hM.y; omega))
  have HXY := Lib.hid (And.intro hM.x hM.y)
  obtain ⟨A, cap, rfl⟩ := hv.form
  obtain ⟨L, capl, rfl⟩ := hu.form
  rw [show [a, b, cx, cy].length = 4 from rfl] at hv CN CC CD CE CQ ⊢
  have hv := Lib.hid hv; have hu := Lib.hid hu
  rw [hC] at CC CD
  have HC := Lib.hid hC
  clear hC hM
  generalize hn2 : ps.length = n2 at *
  have hn2 := Lib.hid hn2
  rcases dec_both ((n2 : Int) > 60) with ⟨g2, d2⟩ | ⟨g2, d2⟩
  · clear CN CC CD CB CE T1 T3 CR CQ CP CA g2
    go_enter Try.func9, Try.ntmps9
    go_wp2_with fail
    have BB : Hid (Below w.heap.size w w) := Below.refl _ _
    refine bodyPost_ret (v := .bool true) (by unfold results; simp only [Try.results9]; go_simp) rfl ?_
    exact ⟨rfl, BB.out⟩
  go_enter Try.func9, Try.ntmps9
  go_wp2_with fail
  have BB : Hid (Below w.heap.size w w) := Below.refl _ _
  have h_v := Lib.hid (hv.out.below BB.out)
  have h_u := Lib.hid (hu.out.below BB.out)
  refine (CN.out _ h_v.out).mono ?_
  rintro e w1 ⟨m, rfl, hb, -, hp⟩
  replace h_v := Lib.hid (IS.below h_v.out hb)
  replace h_u := Lib.hid (PS.below h_u.out hb)
  replace BB := Lib.hid (below_next BB.out hb)
  clear hb
  obtain ⟨g, x0, x1, x2, x3, rfl, hz, -, r_m⟩ := hp HC.out
  simp only [List.cons.injEq, and_true] at hz
  obtain ⟨rfl, rfl, rfl, rfl⟩ := hz
  rw [HC.out]
  replace r_m := Lib.hid r_m
  clear hp CN HC
  go_wp2_with fail
  refine (CD.out _ h_v.out).mono ?_
  rintro e w9 ⟨rfl, rfl⟩
  clear CD
  go_wp2_with fail
  refine (CC.out _ h_v.out).mono ?_
  rintro e w9 ⟨rfl, rfl⟩
  clear CC
  go_wp2_with fail
  refine (CB.out _ _ r_m.out).mono ?_
  rintro e w2 ⟨rfl, hb⟩
  replace r_m := Lib.hid (r_m.out.keep hb)
  replace h_v := Lib.hid (IS.below h_v.out hb)
  replace h_u := Lib.hid (PS.below h_u.out hb)
  replace BB := Lib.hid (below_next BB.out hb)
  clear hb
  clear CB
  go_wp2_with fail
  refine (CE.out _ h_v.out).mono ?_
  rintro e w9 ⟨rfl, rfl⟩
  clear CE
  go_wp2_with fail
  go_loopw [13, 14, 15, 16, 17, 18, 19, 79] (fun _ _ _ _ _ _ _ i wr => ∃ k : Nat, k ≤ n2 ∧ i = .int .i64 k ∧ Hid (Below w2.heap.size w2 wr)) (fun _ _ _ _ _ _ _ i _ => n2 - (intOf i).toNat)
  case atStart => exact ⟨0, by omega, rfl, Below.refl _ _⟩
  case round =>
    obtain ⟨k, hk, rfl, hbl⟩ := hrel
    replace r_m := Lib.hid (r_m.out.keep hbl.out); replace h_v := Lib.hid (h_v.out.below hbl.out); replace h_u := Lib.hid (h_u.out.below hbl.out); replace BB := Lib.hid (below_next BB.out hbl.out)
    by_cases hkn : k < n2
    · obtain ⟨b', off', x, y, d, rfl, hlt', -, hx, hy, hd, q0, q1, q2⟩ := h_u.out.at_ hn2.out hkn
      have hkn' : (k : Int) < n2 := by omega
      clear CA hx hy hd
      go_wp2_with fail
      have d_p := Lib.hid (And.intro BB.out.size (And.intro r_m.out.lt (True.intro)))
      obtain ⟨hb, r_p⟩ := laid wr #[.int .i64 x, .int .i64 y, .int .i64 d] 71
      replace r_m := Lib.hid (r_m.out.keep hb)
      replace h_v := Lib.hid (IS.below h_v.out hb)
      replace hbl := Lib.hid (below_next hbl.out hb)
      replace BB := Lib.hid (below_next BB.out hb)
      replace r_p := Lib.hid r_p
      clear hb
      generalize wr.alloc (.cells #[.int .i64 x, .int .i64 y, .int .i64 d] 71) = w3 at *
      generalize wr.heap.size = g_p at *
      clear q0 q1 q2
      cases hr : rightI x y d
      · replace CR := Lib.hid (fun w => CR.out x y d w)
        replace T1 := Lib.hid (fun w => T1.out g x y d hr w)
        rw [hr] at CR
        clear T3 CQ CP HB HXY hr
        obtain ⟨c_p0, c_p1, c_p2, f_p0, f_p1, f_p2⟩ := reads3 r_p.out
        have l_p := r_p.out.lt
        go_wp2_with fail
        refine (T1.out _).mono ?_
        rintro e w9 ⟨rfl, rfl⟩
        go_wp2_with fail
        refine (CR.out _).mono ?_
        rintro e w9 ⟨rfl, rfl⟩
        go_wp2_with fail
        go_round
        case rel => exact ⟨k + 1, by omega, rfl, hbl.out⟩
        case measure => simp [intOf]; omega
      · replace CR := Lib.hid (fun w => CR.out x y d w)
        rw [hr] at CR
        replace T3 := Lib.hid (fun w hm => T3.out g x y d hr w hm)
        obtain ⟨p0, p1, p2, p3⟩ := rightI_iff.1 hr
        have n1 := near_in p0 p2
        have n2' := near_in p1 p2
        have P1 := Lib.hid (fun w => CP.out x d (by omega) p2 (by omega) w)
        have P2 := Lib.hid (fun w => CP.out y d (by omega) p2 (by omega) w)
        rw [← near_pos p2] at P1 P2
        replace CQ := Lib.hid (fun w hv => CQ.out (nearI x d) (nearI y d) (by omega) (by omega) w hv)
        obtain ⟨-, o1, o2⟩ := HB.out (nearI x d) (nearI y d) n1 n2'
        obtain ⟨o3, o4⟩ := HXY.out
        generalize nearI x d = X at *
        generalize nearI y d = Y at *
        generalize shX2 a b (X - cx) (Y - cy) = U at *
        generalize shY1 a b (X - cx) (Y - cy) = V at *
        have f1 : wrap64 (65536 * (U + cx)) = 65536 * (U + cx) := ww (by omega)
        have f2 : wrap64 (65536 * (V + cy)) = 65536 * (V + cy) := ww (by omega)
        clear T1 HB HXY CP hr p0 p1 p2 p3 n1 n2' o1 o2 o3 o4
        obtain ⟨c_p0, c_p1, c_p2, f_p0, f_p1, f_p2⟩ := reads3 r_p.out
        have l_p := r_p.out.lt
        go_wp2_with fail
        refine (T3.out _ r_m.out).mono ?_
        rintro e w4 ⟨rfl, hb⟩
        clear c_p0 c_p1 c_p2 f_p0 f_p1 f_p2 l_p
        replace r_m := Lib.hid (r_m.out.keep hb)
        replace r_p := Lib.hid (r_p.out.keep hb)
        replace h_v := Lib.hid (IS.below h_v.out hb)
        replace hbl := Lib.hid (below_next hbl.out hb)
        replace BB := Lib.hid (below_next BB.out hb)
        clear hb
        obtain ⟨c_p0, c_p1, c_p2, f_p0, f_p1, f_p2⟩ := reads3 r_p.out
        have l_p := r_p.out.lt
        go_wp2_with fail
        refine (CR.out _).mono ?_
        rintro e w9 ⟨rfl, rfl⟩
        go_wp2_with fail
        have Q_0 := Lib.hid (fun n => quiet_same (P1.out (w4.drewN n)))
        have Q_1 := Lib.hid (fun n => quiet_same (P2.out (w4.drewN n)))
        have Q_2 := Lib.hid (fun n => Calls.quiet_of (CQ.out (w4.drewN n) (h_v.out.below (below_drawn (Below.refl w4.heap.size w4) n))))
        go_quiet ((first | (go_at_call 40; with_reducible exact Q_0.out _) | (go_at_call 40; with_reducible exact Q_1.out _) | (go_at_call 39; with_reducible exact Q_2.out _)))
        clear Q_0 Q_1 Q_2
        have hb := below_drawn (Below.refl w4.heap.size w4) nq
        generalize w4.drewN nq = w5 at *
        clear c_p0 c_p1 c_p2 f_p0 f_p1 f_p2 l_p
        replace r_m := Lib.hid (r_m.out.keep hb)
        replace r_p := Lib.hid (r_p.out.keep hb)
        replace h_v := Lib.hid (IS.below h_v.out hb)
        replace hbl := Lib.hid (below_next hbl.out hb)
        replace BB := Lib.hid (below_next BB.out hb)
        clear hb nq
        go_wp2_with fail
        go_round
        case rel => exact ⟨k + 1, by omega, rfl, hbl.out⟩
        case measure => simp [intOf]; omega
    · have : ¬ (k : Int) < n2 := by omega
      clear T1 T3 CR CQ CP HB HXY
      go_wp2_with fail
      refine (CA.out _).mono ?_
      rintro e w6 ⟨rfl, hb⟩
      replace BB := Lib.hid (below_next BB.out hb)
      clear hb
      go_wp2_with fail
      refine bodyPost_ret (v := .bool true) (by unfold results; simp only [Try.results9]; go_simp) rfl ?_
      exact ⟨rfl, BB.out⟩

theorem shearAsks_any (v u : Value) (zs : List Int) (ps : List P3) (w : World) (hv : IS w v zs) (hu : PS w u ps) :
    Calls Try.prog 9 #[v, u] w fun e w' => e = .returned (.bool true) ∧ Below w.heap.size w w' := by
  by_cases hC : shC zs = 0
  · obtain ⟨a, b, cx, cy, rfl, hM⟩ := shC_zero hC
    exact shearAsks_ok v u a b cx cy ps hC hM w hv hu
  · exact shearAsks_bad v u zs ps hC w hv hu

end Go.Proofs.Ytommpclkiiffpaa
