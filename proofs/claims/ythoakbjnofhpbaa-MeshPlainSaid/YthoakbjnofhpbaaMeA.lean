/- Walk of the law MeshAsks. -/
import Derived.Test.YthoakbjnofhpbaaMeV
set_option linter.unusedVariables false
set_option linter.unusedSimpArgs false
namespace Go.Proofs.Ythoakbjnofhpbaa
open Go.RowKit Go.ChangeShapes Go.WideShapes Go.ChangeAt Go.Deep
theorem PS.at_ {w : World} {A : Option Addr} {n cap : Nat} {ps : List P3} (h : PS w (.slice A n cap) ps) (hn : ps.length = n) {k : Nat} (hk : k < n) : ∃ b off x y d, A = some ⟨b, off, none⟩ ∧ b < w.heap.size ∧ ps.getD k (0, 0, 0) = (x, y, d) ∧ I64 x ∧ I64 y ∧ I64 d ∧
    w.cell? ⟨b, off + k * 3, none⟩ = some (.int .i64 x) ∧ w.cell? ⟨b, off + k * 3 + 1, none⟩ = some (.int .i64 y) ∧ w.cell? ⟨b, off + k * 3 + 2, none⟩ = some (.int .i64 d) := by
  obtain ⟨A', cap', e, h1, h2, h3, h4⟩ := h
  injection e with e1 e2 e3
  subst e1
  obtain ⟨b, off, rfl, hb, hc⟩ := h4 (by intro h; rw [h] at hn; simp at hn; omega)
  have hi := hc k (by omega)
  have hm := h3 (ps.getD k (0, 0, 0)) (by simp [List.getD, List.getElem?_eq_getElem (show k < ps.length by omega)])
  exact ⟨b, off, _, _, _, rfl, hb, rfl, hm.1, hm.2.1, hm.2.2, hi⟩
theorem MeOf.num {zs : List Int} {w : World} {m : Value} (h : MeOf zs w m) : ∃ gx gy nx ny rest N g, zs = gx :: gy :: nx :: ny :: rest ∧ MG gx gy nx ny (ksOf rest N) ∧ rest.length = 2 * N ∧ m = .pointer (some ⟨g, 0, none⟩) ∧ MX w g gx gy nx ny (ksOf rest N) ∧ (∀ z ∈ rest, -2147483648 ≤ z ∧ z ≤ 2147483648) := h
set_option maxRecDepth 100000 in
set_option maxHeartbeats 8000000 in
theorem meshAsks_any (v u : Value) (zs : List Int) (s0 s1 : Int) (ps : List P3) (w : World) (hv : IS w v zs) (hu : PS w u ps) :
    Calls Try.prog 4 #[v, .agg #[.int .i64 s0, .int .i64 s1], u] w fun e w' => e = .returned (.bool true) ∧ Below w.heap.size w w' := by
  have CN := Lib.hid (fun w hv => mnew_any v zs s0 s1 w hv)
  have CC := Lib.hid (fun w hv => mcheck_any v zs s0 s1 w hv)
  have CD := Lib.hid (fun w hv => r21check v zs s0 s1 w hv)
  unfold GiveNew at CN
  have CT := Lib.hid (fun px py d w => meat_nil px py d w)
  have CA := Lib.hid (fun w => alive21 w)
  have CR := Lib.hid (fun px py d w => rright px py d w)
  obtain ⟨A, cap, rfl⟩ := hv.form
  obtain ⟨L, capl, rfl⟩ := hu.form
  have hv := Lib.hid hv; have hu := Lib.hid hu
  generalize hn1 : zs.length = n1 at *
  generalize hn2 : ps.length = n2 at *
  have hn1 := Lib.hid hn1; have hn2 := Lib.hid hn2
  rcases dec_both ((n1 : Int) > 9000) with ⟨g1, d1⟩ | ⟨g1, d1⟩
  · clear CN CC CD CT CA CR g1
    go_enter Try.func4, Try.ntmps4
    go_upto_region 1 with fail
    have BB := start1 w #[.int .i64 s0, .int .i64 s1] 39
    obtain ⟨BB, hsz, r_s⟩ := BB
    generalize (w.alloc (.cells #[.int .i64 s0, .int .i64 s1] 39)) = w0 at *
    replace BB := Lib.hid BB
    replace r_s := Lib.hid r_s
    clear hsz
    go_wp2_with fail
    refine bodyPost_ret (v := .bool true) (by unfold results; simp only [Try.results4]; go_simp) rfl ?_
    exact ⟨rfl, BB.out⟩
  rcases dec_both ((n2 : Int) > 60) with ⟨g2, d2⟩ | ⟨g2, d2⟩
  · clear CN CC CD CT CA CR g1 g2
    go_enter Try.func4, Try.ntmps4
    go_upto_region 1 with fail
    have BB := start1 w #[.int .i64 s0, .int .i64 s1] 39
    obtain ⟨BB, hsz, r_s⟩ := BB
    generalize (w.alloc (.cells #[.int .i64 s0, .int .i64 s1] 39)) = w0 at *
    replace BB := Lib.hid BB
    replace r_s := Lib.hid r_s
    clear hsz
    go_wp2_with fail
    refine bodyPost_ret (v := .bool true) (by unfold results; simp only [Try.results4]; go_simp) rfl ?_
    exact ⟨rfl, BB.out⟩
  go_enter Try.func4, Try.ntmps4
  go_upto_region 1 with fail
  have BB := start1 w #[.int .i64 s0, .int .i64 s1] 39
  obtain ⟨BB, hsz, r_s⟩ := BB
  generalize (w.alloc (.cells #[.int .i64 s0, .int .i64 s1] 39)) = w0 at *
  replace BB := Lib.hid BB
  replace r_s := Lib.hid r_s
  clear hsz
  have h_v := Lib.hid (hv.out.below BB.out)
  have h_u := Lib.hid (hu.out.below BB.out)
  obtain ⟨c_s0, c_s1, f_s0, f_s1⟩ := reads2 r_s.out
  have l_s := r_s.out.lt
  go_wp2_with fail
  refine (CN.out _ h_v.out).mono ?_
  rintro e w1 ⟨m, rfl, hb, hn, hp⟩
  clear c_s0 c_s1 f_s0 f_s1 l_s
  replace r_s := Lib.hid (r_s.out.keep hb)
  replace h_v := Lib.hid (IS.below h_v.out hb)
  replace h_u := Lib.hid (PS.below h_u.out hb)
  replace BB := Lib.hid (below_next BB.out hb)
  clear hb
  clear CN
  generalize hCe : meC zs s0 s1 = C at *
  by_cases hC : C = 0
  · subst hC
    have hM := Lib.hid (hp rfl)
    clear hp hn hCe
    have hm0 : Hid (∃ g, m = .pointer (some ⟨g, 0, none⟩)) := by obtain ⟨_, _, _, _, _, _, g, -, -, -, e, -⟩ := hM.out; exact ⟨g, e⟩
    obtain ⟨g, rfl⟩ := hm0.out
    clear hm0
    obtain ⟨c_s0, c_s1, f_s0, f_s1⟩ := reads2 r_s.out
    have l_s := r_s.out.lt
    go_wp2_with fail
    refine (CD.out _ h_v.out).mono ?_
    rintro e w2 ⟨rfl, hb⟩
    clear c_s0 c_s1 f_s0 f_s1 l_s
    replace r_s := Lib.hid (r_s.out.keep hb)
    replace h_v := Lib.hid (IS.below h_v.out hb)
    replace h_u := Lib.hid (PS.below h_u.out hb)
    replace hM := Lib.hid (MeOf.below hM.out hb)
    replace BB := Lib.hid (below_next BB.out hb)
    clear hb
    obtain ⟨c_s0, c_s1, f_s0, f_s1⟩ := reads2 r_s.out
    have l_s := r_s.out.lt
    go_wp2_with fail
    refine (CC.out _ h_v.out).mono ?_
    rintro e w3 ⟨rfl, hb⟩
    clear c_s0 c_s1 f_s0 f_s1 l_s
    replace r_s := Lib.hid (r_s.out.keep hb)
    replace h_v := Lib.hid (IS.below h_v.out hb)
    replace h_u := Lib.hid (PS.below h_u.out hb)
    replace hM := Lib.hid (MeOf.below hM.out hb)
    replace BB := Lib.hid (below_next BB.out hb)
    clear hb
    clear CD CC CT
    go_wp2_with fail
    go_loopw [11, 12, 13, 14, 15, 16, 17, 63] (fun _ _ _ _ _ _ _ i wr => ∃ k : Nat, k ≤ n2 ∧ i = .int .i64 k ∧ Hid (Below w3.heap.size w3 wr)) (fun _ _ _ _ _ _ _ i _ => n2 - (intOf i).toNat)
    case atStart => exact ⟨0, by omega, rfl, Below.refl _ _⟩
    case round =>
      obtain ⟨k, hk, rfl, hbl⟩ := hrel
      replace hM := Lib.hid (hM.out.below hbl.out); replace h_v := Lib.hid (h_v.out.below hbl.out); replace h_u := Lib.hid (h_u.out.below hbl.out); replace BB := Lib.hid (below_next BB.out hbl.out)
      by_cases hkn : k < n2
      · obtain ⟨b', off', x, y, d, rfl, hlt', -, hx, hy, hd, q0, q1, q2⟩ := h_u.out.at_ hn2.out hkn
        have hkn' : (k : Int) < n2 := by omega
        clear CA
        go_wp2_with fail
        have d_p := Lib.hid (And.intro BB.out.size (True.intro))
        obtain ⟨hb, r_p⟩ := laid wr #[.int .i64 x, .int .i64 y, .int .i64 d] 24
        replace h_v := Lib.hid (IS.below h_v.out hb)
        replace hM := Lib.hid (MeOf.below hM.out hb)
        replace hbl := Lib.hid (below_next hbl.out hb)
        replace BB := Lib.hid (below_next BB.out hb)
        replace r_p := Lib.hid r_p
        clear hb
        generalize wr.alloc (.cells #[.int .i64 x, .int .i64 y, .int .i64 d] 24) = w4 at *
        generalize wr.heap.size = g_p at *
        clear q0 q1 q2
        cases hr : rightI x y d
        · have T1 := Lib.hid (fun w => meat_bad g x y d hx hy hr w)
          replace CR := Lib.hid (fun w => CR.out x y d w)
          rw [hr] at CR
          clear hr hx hy hd
          obtain ⟨c_p0, c_p1, c_p2, f_p0, f_p1, f_p2⟩ := reads3 r_p.out
          have l_p := r_p.out.lt
          go_wp2_with fail
          refine (T1.out _).mono ?_
          rintro e w9 ⟨rfl, rfl⟩
          go_wp2_with fail
          refine (CR.out _).mono ?_
          rintro e w9 ⟨rfl, rfl⟩
          go_wp2_with fail
          go_round
          case rel => exact ⟨k + 1, by omega, rfl, hbl.out⟩
          case measure => simp [intOf]; omega
        · replace CR := Lib.hid (fun w => CR.out x y d w)
          rw [hr] at CR
          obtain ⟨gx, gy, nx, ny, rest, N, g', e1, hG, hN, e2, hX, hr'⟩ := hM.out
          simp only [Value.pointer.injEq, Option.some.injEq, Addr.mk.injEq, and_true] at e2
          subst e2
          obtain ⟨-, -, hd1, hd2⟩ := rightI_iff.1 hr
          have T3 := Lib.hid (fun w hm => meat_ok g gx gy nx ny x y d (ksOf rest N) hx hy hr hG (ks_in hr') w hm)
          have T4 := Lib.hid (fun w hv => r21at (.slice A n1 cap) gx gy nx ny x y d rest 0 N (by omega) hG hN ⟨hd1, hd2⟩ w hv)
          have T5 := Lib.hid (fun w hv => r21at (.slice A n1 cap) gx gy nx ny x y d rest 1 N (by omega) hG hN ⟨hd1, hd2⟩ w hv)
          have eX : (fun i k => (knP (ksOf rest N) nx i k).1) = (fun i k => rest.getD (2 * (k * (nx + 1) + i).toNat + 0) 0) := by funext i k; exact (knP_at hN nx i k).1
          have eY : (fun i k => (knP (ksOf rest N) nx i k).2) = (fun i k => rest.getD (2 * (k * (nx + 1) + i).toNat + 1) 0) := by funext i k; exact (knP_at hN nx i k).2
          rw [eX, eY] at T3
          generalize mePl gx gy nx ny x y d (fun i k => rest.getD (2 * (k * (nx + 1) + i).toNat + 0) 0) = U at *
          generalize mePl gx gy nx ny x y d (fun i k => rest.getD (2 * (k * (nx + 1) + i).toNat + 1) 0) = V at *
          have hX := Lib.hid hX
          have h_w := Lib.hid (show IS w4 (.slice A n1 cap) (gx :: gy :: nx :: ny :: rest) from e1 ▸ h_v.out)
          clear hr eX eY hG hN hr' e1 hd1 hd2 hx hy hd
          obtain ⟨c_p0, c_p1, c_p2, f_p0, f_p1, f_p2⟩ := reads3 r_p.out
          have l_p := r_p.out.lt
          go_wp2_with fail
          refine (T3.out _ hX.out).mono ?_
          rintro e w5 ⟨rfl, hb⟩
          clear c_p0 c_p1 c_p2 f_p0 f_p1 f_p2 l_p
          replace r_p := Lib.hid (r_p.out.keep hb)
          replace h_w := Lib.hid (h_w.out.below hb)
          replace h_v := Lib.hid (IS.below h_v.out hb)
          replace hM := Lib.hid (MeOf.below hM.out hb)
          replace hbl := Lib.hid (below_next hbl.out hb)
          replace hX := Lib.hid (MX.below hX.out hb)
          replace BB := Lib.hid (below_next BB.out hb)
          clear hb
          obtain ⟨c_p0, c_p1, c_p2, f_p0, f_p1, f_p2⟩ := reads3 r_p.out
          have l_p := r_p.out.lt
          go_wp2_with fail
          refine (CR.out _).mono ?_
          rintro e w9 ⟨rfl, rfl⟩
          go_wp2_with fail
          clear c_p0 c_p1 c_p2 f_p0 f_p1 f_p2 l_p
          have KK := Lib.hid (fun (w9 : World) (h : Below w5.heap.size w5 w9) => (cells3 (r_p.out.keep h) : (w9.cell? ⟨g_p, 0, none⟩ = some (.int .i64 x) ∧ w9.cell? ⟨g_p, 1, none⟩ = some (.int .i64 y) ∧ w9.cell? ⟨g_p, 2, none⟩ = some (.int .i64 d))))
          have K0 := KK.out w5 (Below.refl _ _)
          have KD := KK.out w5.drew (below_drew (Below.refl _ _))
          have tok0 : Hid True := trivial
          have tok1 : Hid True := trivial
          go_region_held3 (fun w9 => (w9.cell? ⟨g_p, 0, none⟩ = some (.int .i64 x) ∧ w9.cell? ⟨g_p, 1, none⟩ = some (.int .i64 y) ∧ w9.cell? ⟨g_p, 2, none⟩ = some (.int .i64 d)))
              (first | with_reducible exact KD | with_reducible exact K0 | with_reducible exact K_w6 | with_reducible exact K_w7)
              (first
                | (go_at_call 24
                   have t_k := tok0
                   refine (T4.out _ (h_w.out.below ?_)).mono ?_
                   · repeat (first | with_reducible exact Below.refl _ _ | with_reducible apply below_drew | with_reducible apply below_new)
                   rintro e w6 ⟨rfl, hb⟩
                   have B_w6 := Lib.hid (reg_next (w0 := w5) (by repeat (first | with_reducible exact Below.refl _ _ | with_reducible apply below_drew | with_reducible apply below_new)) hb)
                   have K_w6 := KK.out _ B_w6.out
                   clear hb
                   clear t_k tok0)
                | (go_at_call 24
                   have t_k := tok1
                   refine (T5.out _ (h_w.out.below B_w6.out)).mono ?_
                   rintro e w7 ⟨rfl, hb⟩
                   have B_w7 := Lib.hid (below_next B_w6.out hb)
                   have K_w7 := KK.out _ B_w7.out
                   clear hb
                   clear t_k tok1))
          clear KK K0 KD K_w6 K_w7
          replace r_p := Lib.hid (r_p.out.keep B_w7.out)
          replace h_w := Lib.hid (h_w.out.below B_w7.out)
          replace h_v := Lib.hid (IS.below h_v.out B_w7.out)
          replace hM := Lib.hid (MeOf.below hM.out B_w7.out)
          replace hbl := Lib.hid (below_next hbl.out B_w7.out)
          replace hX := Lib.hid (MX.below hX.out B_w7.out)
          replace BB := Lib.hid (below_next BB.out B_w7.out)
          clear B_w6 B_w7
          go_wp2_with fail
          go_round
          case rel => exact ⟨k + 1, by omega, rfl, hbl.out⟩
          case measure => simp [intOf]; omega
      · have : ¬ (k : Int) < n2 := by omega
        go_wp2_with fail
        refine (CA.out _).mono ?_
        rintro e w8 ⟨rfl, hb⟩
        replace BB := Lib.hid (below_next BB.out hb)
        clear hb
        go_wp2_with fail
        refine bodyPost_ret (v := .bool true) (by unfold results; simp only [Try.results4]; go_simp) rfl ?_
        exact ⟨rfl, BB.out⟩
  · have hC' : (C != 0) = true := by simpa using hC
    have hC2 : (C == 0) = false := by simpa using hC
    obtain rfl := hn hC
    have HC := Lib.hid hC
    have hCe := Lib.hid hCe
    clear hn hp hC CR
    obtain ⟨c_s0, c_s1, f_s0, f_s1⟩ := reads2 r_s.out
    have l_s := r_s.out.lt
    go_wp2_with fail
    refine (CD.out _ h_v.out).mono ?_
    rintro e w2 ⟨rfl, hb⟩
    clear c_s0 c_s1 f_s0 f_s1 l_s
    replace r_s := Lib.hid (r_s.out.keep hb)
    replace h_v := Lib.hid (IS.below h_v.out hb)
    replace h_u := Lib.hid (PS.below h_u.out hb)
    replace BB := Lib.hid (below_next BB.out hb)
    clear hb
    obtain ⟨c_s0, c_s1, f_s0, f_s1⟩ := reads2 r_s.out
    have l_s := r_s.out.lt
    go_wp2_with fail
    refine (CC.out _ h_v.out).mono ?_
    rintro e w3 ⟨rfl, hb⟩
    clear c_s0 c_s1 f_s0 f_s1 l_s
    replace r_s := Lib.hid (r_s.out.keep hb)
    replace h_v := Lib.hid (IS.below h_v.out hb)
    replace h_u := Lib.hid (PS.below h_u.out hb)
    replace BB := Lib.hid (below_next BB.out hb)
    clear hb
    clear CD CC
    go_wp2_with fail
    go_loopw [11, 12, 13, 14, 15, 16, 17, 63] (fun _ _ _ _ _ _ _ i wr => ∃ k : Nat, k ≤ n2 ∧ i = .int .i64 k ∧ Hid (Below w3.heap.size w3 wr)) (fun _ _ _ _ _ _ _ i _ => n2 - (intOf i).toNat)
    case atStart => exact ⟨0, by omega, rfl, Below.refl _ _⟩
    case round =>
      obtain ⟨k, hk, rfl, hbl⟩ := hrel
      replace h_v := Lib.hid (h_v.out.below hbl.out); replace h_u := Lib.hid (h_u.out.below hbl.out); replace BB := Lib.hid (below_next BB.out hbl.out)
      by_cases hkn : k < n2
      · obtain ⟨b', off', x, y, d, rfl, hlt', -, hx, hy, hd, q0, q1, q2⟩ := h_u.out.at_ hn2.out hkn
        have hkn' : (k : Int) < n2 := by omega
        clear CA hx hy hd
        go_wp2_with fail
        refine (CT.out _ _ _ _).mono ?_
        rintro e w9 ⟨rfl, rfl⟩
        go_wp2_with fail
        go_round
        case rel => exact ⟨k + 1, by omega, rfl, below_new hbl.out _⟩
        case measure => simp [intOf]; omega
      · have : ¬ (k : Int) < n2 := by omega
        clear CT
        go_wp2_with fail
        refine (CA.out _).mono ?_
        rintro e w4 ⟨rfl, hb⟩
        replace BB := Lib.hid (below_next BB.out hb)
        clear hb
        go_wp2_with fail
        refine bodyPost_ret (v := .bool true) (by unfold results; simp only [Try.results4]; go_simp) rfl ?_
        exact ⟨rfl, BB.out⟩
end Go.Proofs.Ythoakbjnofhpbaa
