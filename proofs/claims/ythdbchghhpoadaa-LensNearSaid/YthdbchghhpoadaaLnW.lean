/- The walk of the law LensNear. -/
import Derived.Test.YthdbchghhpoadaaLnY
import Derived.Test.YthdbchghhpoadaaLensInW
set_option linter.unusedVariables false
set_option linter.unusedSimpArgs false
namespace Go.Proofs.Ythdbchghhpoadaa
open Go.RowKit Go.ChangeShapes Go.WideShapes Go.ChangeAt Go.Deep
def MLs (w : World) (g : Nat) (cx cy f k1 k2 p1 p2 : Int) : Prop := AtB w g (lensCells cx cy f k1 k2 p1 p2) LT
theorem MLs.below {w w1 : World} {g : Nat} {cx cy f k1 k2 p1 p2 : Int} (h : MLs w g cx cy f k1 k2 p1 p2) (hb : Below w.heap.size w w1) : MLs w1 g cx cy f k1 k2 p1 p2 := AtB.keep h hb
theorem latU_in {cx f k1 k2 p1 p2 x y : Int} (hc : -2147483648 ≤ cx ∧ cx ≤ 2147483648) (hf : 1 ≤ f ∧ f ≤ 32768) (hx : -262144 ≤ x ∧ x ≤ 262144) (hy : -262144 ≤ y ∧ y ≤ 262144) (h1 : -65536 ≤ k1 ∧ k1 ≤ 65536) (h2 : -65536 ≤ k2 ∧ k2 ≤ 65536) (hs : -65536 ≤ p2 ∧ p2 ≤ 65536) (ho : -65536 ≤ p1 ∧ p1 ≤ 65536) : I64 (latU cx f k1 k2 p1 p2 x y) := by
  obtain ⟨-, -, -, -, -, -, -, -, -, -, -, -, b⟩ := bend_facts (s := p2) (o := p1) hx hy h1 h2 hs ho
  have m := mul_in (a := f) (A := 32768) (b := lB k1 k2 x y p2 p1) (B := 1073741824) (by omega) b
  unfold latU
  exact ⟨by omega, by omega⟩
set_option maxRecDepth 100000 in
set_option maxHeartbeats 8000000 in
theorem lensNear_any (v : Value) (zs : List Int) (W H px py d : Int) (hW : I64 W) (hH : I64 H) (w : World) (hv : IS w v zs) :
    Calls Try.prog 6 #[v, .agg #[.int .i64 W, .int .i64 H], .agg #[.int .i64 px, .int .i64 py, .int .i64 d]] w fun e w' => e = .returned (.bool true) ∧ Below w.heap.size w w' := by
  have CN := Lib.hid (fun w hv => lnew v zs W H hW hH w hv)
  have CD := Lib.hid (fun w hv => rcheck v zs W H hW hH w hv)
  have CA := Lib.hid (fun w => alive20 w)
  have CR := Lib.hid (fun w => rright px py d w)
  obtain ⟨A, cap, rfl⟩ := hv.form
  have hv := Lib.hid hv
  clear hW hH
  go_enter Try.func6, Try.ntmps6
  go_upto_region 1 with fail
  have BB := start2 w #[.int .i64 W, .int .i64 H] 41 #[.int .i64 px, .int .i64 py, .int .i64 d] 43
  obtain ⟨BB, hsz, r_s, r_p⟩ := BB
  generalize ((w.alloc (.cells #[.int .i64 W, .int .i64 H] 41)).alloc (.cells #[.int .i64 px, .int .i64 py, .int .i64 d] 43)) = w0 at *
  replace BB := Lib.hid BB
  replace r_s := Lib.hid r_s
  replace r_p := Lib.hid r_p
  clear hsz
  have h_v := Lib.hid (hv.out.below BB.out)
  obtain ⟨c_s0, c_s1, f_s0, f_s1⟩ := reads2 r_s.out
  have l_s := r_s.out.lt
  go_wp2_with fail
  refine (CN.out _ h_v.out).mono ?_
  rintro e w1 ⟨m, rfl, hb, hn, hp⟩
  clear c_s0 c_s1 f_s0 f_s1 l_s
  replace r_s := Lib.hid (r_s.out.keep hb)
  replace r_p := Lib.hid (r_p.out.keep hb)
  replace h_v := Lib.hid (IS.below h_v.out hb)
  replace BB := Lib.hid (below_next BB.out hb)
  clear hb
  have hn := Lib.hid hn; have hp := Lib.hid hp
  clear CN
  by_cases hC : lC zs W H = 0
  · obtain ⟨g, c0, c1, c2, c3, c4, c5, c6, rfl, hz, hM, h_m⟩ := hp.out hC
    have h_m : Hid (MLs w1 g c0 c1 c2 c3 c4 c5 c6) := h_m
    subst hz
    rw [hC] at CD ⊢
    clear hn hp hC
    simp only [List.length_cons, List.length_nil, Nat.zero_add, Nat.reduceAdd] at *
    obtain ⟨c_s0, c_s1, f_s0, f_s1⟩ := reads2 r_s.out
    have l_s := r_s.out.lt
    go_wp2_with fail
    refine (CD.out _ h_v.out).mono ?_
    rintro e w2 ⟨rfl, hb⟩
    clear c_s0 c_s1 f_s0 f_s1 l_s
    replace r_s := Lib.hid (r_s.out.keep hb)
    replace r_p := Lib.hid (r_p.out.keep hb)
    replace h_v := Lib.hid (IS.below h_v.out hb)
    replace h_m := Lib.hid (MLs.below h_m.out hb)
    replace BB := Lib.hid (below_next BB.out hb)
    clear hb
    obtain ⟨c_p0, c_p1, c_p2, f_p0, f_p1, f_p2⟩ := reads3 r_p.out
    have l_p := r_p.out.lt
    go_wp2_with fail
    clear CD
    cases hr : rightI px py d
    · skip
      have CT := Lib.hid (fun w hm => lat_bad g c0 c1 c2 c3 c4 c5 c6 px py d hr w hm)
      rw [hr] at CR
      clear hr hM
      refine (CT.out _ h_m.out).mono ?_
      rintro e w9 ⟨rfl, rfl⟩
      go_wp2_with fail
      refine (CR.out _).mono ?_
      rintro e w9 ⟨rfl, rfl⟩
      go_wp2_with fail
      refine (CA.out _).mono ?_
      rintro e w3 ⟨rfl, hb⟩
      clear c_p0 c_p1 c_p2 f_p0 f_p1 f_p2 l_p
      replace r_s := Lib.hid (r_s.out.keep hb)
      replace r_p := Lib.hid (r_p.out.keep hb)
      replace h_v := Lib.hid (IS.below h_v.out hb)
      replace h_m := Lib.hid (MLs.below h_m.out hb)
      replace BB := Lib.hid (below_next BB.out hb)
      clear hb
      go_wp2_with fail
      go_ret
      exact ⟨rfl, BB.out⟩
    · rw [hr] at CR
      cases hf : farI c0 c1 c2 px py d
      · skip
        have CT := Lib.hid (fun w hm => lat_ok g c0 c1 c2 c3 c4 c5 c6 px py d hr hM hf w hm)
        have CE := Lib.hid (fun w hv => lexact (.slice A 7 cap) c0 c1 c2 c3 c4 c5 c6 px py d hM hr hf w hv)
        have CB := Lib.hid (fun w hm => lbound g c0 c1 c2 c3 c4 c5 c6 hM.f.1 hM.f.2 w hm)
        have hX : inI (axI px d c0 c2) 262144 = true ∧ inI (axI py d c1 c2) 262144 = true := by
          unfold farI at hf; simpa using hf
        have hx := inI_iff.1 hX.1
        have hy := inI_iff.1 hX.2
        have iU := latU_in hM.x hM.f hx hy hM.k1 hM.k2 hM.p2 hM.p1
        have iV := latU_in (p1 := c6) (p2 := c5) hM.y hM.f hy hx hM.k1 hM.k2 hM.p1 hM.p2
        have ib : I64 (12000 * c2) := by have := hM.f; unfold I64; omega
        unfold GiveEx GiveRR at CE
        generalize latU c0 c2 c3 c4 c5 c6 (axI px d c0 c2) (axI py d c1 c2) = U at *
        generalize latU c1 c2 c3 c4 c6 c5 (axI py d c1 c2) (axI px d c0 c2) = V at *
        have HI := Lib.hid (And.intro iU (And.intro iV ib))
        generalize 12000 * c2 = bn at *
        clear hr hf hM hX hx hy iU iV ib
        refine (CT.out _ h_m.out).mono ?_
        rintro e w9 ⟨rfl, m_q, rfl⟩
        have hb := below_drawn (Below.refl w2.heap.size w2) m_q
        generalize w2.drewN m_q = w3 at *
        clear c_p0 c_p1 c_p2 f_p0 f_p1 f_p2 l_p
        replace r_s := Lib.hid (r_s.out.keep hb)
        replace r_p := Lib.hid (r_p.out.keep hb)
        replace h_v := Lib.hid (IS.below h_v.out hb)
        replace h_m := Lib.hid (MLs.below h_m.out hb)
        replace BB := Lib.hid (below_next BB.out hb)
        clear hb
        obtain ⟨c_p0, c_p1, c_p2, f_p0, f_p1, f_p2⟩ := reads3 r_p.out
        have l_p := r_p.out.lt
        go_wp2_with fail
        refine (CR.out _).mono ?_
        rintro e w9 ⟨rfl, rfl⟩
        go_wp2_with fail
        refine (CE.out _ h_v.out).mono ?_
        rintro e w4 ⟨P, Q, X, Y, ⟨r, s, rfl, hb, h_E1, h_E2⟩, ⟨wP, wQ, wX, wY⟩, ⟨u1, u2⟩, ⟨v1, v2⟩⟩
        clear c_p0 c_p1 c_p2 f_p0 f_p1 f_p2 l_p
        replace r_s := Lib.hid (r_s.out.keep hb)
        replace r_p := Lib.hid (r_p.out.keep hb)
        replace h_v := Lib.hid (IS.below h_v.out hb)
        replace h_m := Lib.hid (MLs.below h_m.out hb)
        replace BB := Lib.hid (below_next BB.out hb)
        clear hb
        obtain ⟨A_E1, n_E1, cap_E1, B_E1, m_E1, cup_E1, rfl, -, -⟩ := id h_E1.form
        obtain ⟨A_E2, n_E2, cap_E2, B_E2, m_E2, cup_E2, rfl, -, -⟩ := id h_E2.form
        replace h_E1 := Lib.hid h_E1; replace h_E2 := Lib.hid h_E2
        have N1 := Lib.hid (fun (v : Value) w (hv : RR w v P Q) => rnearer U v P Q bn wP wQ (by omega) HI.out.1 HI.out.2.2 u1 u2 w hv)
        have N2 := Lib.hid (fun (v : Value) w (hv : RR w v X Y) => rnearer V v X Y bn wX wY (by omega) HI.out.2.1 HI.out.2.2 v1 v2 w hv)
        clear CT CE CR wP wQ wX wY u1 u2 v1 v2 HI
        go_upto_region 12 with fail
        have d_E1 := Lib.hid (And.intro BB.out.size (And.intro r_s.out.lt (And.intro r_p.out.lt (True.intro))))
        obtain ⟨hb, -, r_E1, r_E2⟩ := start2 w4 #[.bool (sgn (P)), .slice A_E1 n_E1 cap_E1, .bool (sgn (Q)), .slice B_E1 m_E1 cup_E1] 54 #[.bool (sgn (X)), .slice A_E2 n_E2 cap_E2, .bool (sgn (Y)), .slice B_E2 m_E2 cup_E2] 54
        replace r_s := Lib.hid (r_s.out.keep hb)
        replace r_p := Lib.hid (r_p.out.keep hb)
        replace h_E1 := Lib.hid (h_E1.out.below hb)
        replace h_E2 := Lib.hid (h_E2.out.below hb)
        replace h_v := Lib.hid (IS.below h_v.out hb)
        replace h_m := Lib.hid (MLs.below h_m.out hb)
        replace BB := Lib.hid (below_next BB.out hb)
        clear hb
        replace r_E1 := Lib.hid r_E1; replace r_E2 := Lib.hid r_E2
        generalize (w4.alloc (.cells #[.bool (sgn (P)), .slice A_E1 n_E1 cap_E1, .bool (sgn (Q)), .slice B_E1 m_E1 cup_E1] 54)).alloc (.cells #[.bool (sgn (X)), .slice A_E2 n_E2 cap_E2, .bool (sgn (Y)), .slice B_E2 m_E2 cup_E2] 54) = w5 at *
        generalize w4.heap.size = g_E1 at *
        have d_E2 := d_E1
        have h_ml := h_m
        have KK := Lib.hid (fun (w9 : World) (h : Below w5.heap.size w5 w9) => (⟨cells4 (r_E1.out.keep h), cells4 (r_E2.out.keep h)⟩ : (w9.cell? ⟨g_E1, 0, none⟩ = some (.bool (sgn (P))) ∧ w9.cell? ⟨g_E1, 1, none⟩ = some (.slice A_E1 n_E1 cap_E1) ∧ w9.cell? ⟨g_E1, 2, none⟩ = some (.bool (sgn (Q))) ∧ w9.cell? ⟨g_E1, 3, none⟩ = some (.slice B_E1 m_E1 cup_E1)) ∧ (w9.cell? ⟨g_E1 + 1, 0, none⟩ = some (.bool (sgn (X))) ∧ w9.cell? ⟨g_E1 + 1, 1, none⟩ = some (.slice A_E2 n_E2 cap_E2) ∧ w9.cell? ⟨g_E1 + 1, 2, none⟩ = some (.bool (sgn (Y))) ∧ w9.cell? ⟨g_E1 + 1, 3, none⟩ = some (.slice B_E2 m_E2 cup_E2))))
        have K0 := KK.out w5 (Below.refl _ _)
        have KD := KK.out w5.drew (below_drew (Below.refl _ _))
        have tok0 : Hid True := trivial
        have tok1 : Hid True := trivial
        have tok2 : Hid True := trivial
        have tok3 : Hid True := trivial
        go_region_held3 (fun w9 => (w9.cell? ⟨g_E1, 0, none⟩ = some (.bool (sgn (P))) ∧ w9.cell? ⟨g_E1, 1, none⟩ = some (.slice A_E1 n_E1 cap_E1) ∧ w9.cell? ⟨g_E1, 2, none⟩ = some (.bool (sgn (Q))) ∧ w9.cell? ⟨g_E1, 3, none⟩ = some (.slice B_E1 m_E1 cup_E1)) ∧ (w9.cell? ⟨g_E1 + 1, 0, none⟩ = some (.bool (sgn (X))) ∧ w9.cell? ⟨g_E1 + 1, 1, none⟩ = some (.slice A_E2 n_E2 cap_E2) ∧ w9.cell? ⟨g_E1 + 1, 2, none⟩ = some (.bool (sgn (Y))) ∧ w9.cell? ⟨g_E1 + 1, 3, none⟩ = some (.slice B_E2 m_E2 cup_E2)))
            (first | with_reducible exact KD | with_reducible exact K0 | with_reducible exact K_w6 | with_reducible exact K_w7 | with_reducible exact K_w8)
            (first
              | (go_at_call 24
                 have t_k := tok0
                 refine (CB.out _ (h_ml.out.below ?_)).mono ?_
                 · repeat (first | with_reducible exact Below.refl _ _ | with_reducible apply below_drew | with_reducible apply below_new)
                 rintro e w9 ⟨rfl, rfl⟩
                 clear t_k tok0)
              | (go_at_call 23
                 have t_k := tok1
                 refine (N1.out _ _ (h_E1.out.below ?_)).mono ?_
                 · repeat (first | with_reducible exact Below.refl _ _ | with_reducible apply below_drew | with_reducible apply below_new)
                 rintro e w6 ⟨rfl, hb⟩
                 have B_w6 := Lib.hid (reg_next (w0 := w5) (by repeat (first | with_reducible exact Below.refl _ _ | with_reducible apply below_drew | with_reducible apply below_new)) hb)
                 have K_w6 := KK.out _ B_w6.out
                 clear hb
                 clear t_k tok1)
              | (go_at_call 24
                 have t_k := tok2
                 refine (CB.out _ (h_ml.out.below B_w6.out)).mono ?_
                 rintro e w9 ⟨rfl, rfl⟩
                 clear t_k tok2)
              | (go_at_call 23
                 have t_k := tok3
                 refine (N2.out _ _ (h_E2.out.below B_w6.out)).mono ?_
                 rintro e w7 ⟨rfl, hb⟩
                 have B_w7 := Lib.hid (below_next B_w6.out hb)
                 have K_w7 := KK.out _ B_w7.out
                 clear hb
                 clear t_k tok3)
              | (go_at_call 20
                 refine (CA.out _).mono ?_
                 rintro e w8 ⟨rfl, hb⟩
                 have B_w8 := Lib.hid (below_next B_w7.out hb)
                 have K_w8 := KK.out _ B_w8.out
                 clear hb))
        clear KK K0 KD K_w6 K_w7 K_w8
        replace r_s := Lib.hid (r_s.out.keep B_w8.out)
        replace r_p := Lib.hid (r_p.out.keep B_w8.out)
        replace r_E1 := Lib.hid (r_E1.out.keep B_w8.out)
        replace r_E2 := Lib.hid (r_E2.out.keep B_w8.out)
        replace h_E1 := Lib.hid (h_E1.out.below B_w8.out)
        replace h_E2 := Lib.hid (h_E2.out.below B_w8.out)
        replace h_ml := Lib.hid (h_ml.out.below B_w8.out)
        replace h_v := Lib.hid (IS.below h_v.out B_w8.out)
        replace h_m := Lib.hid (MLs.below h_m.out B_w8.out)
        replace BB := Lib.hid (below_next BB.out B_w8.out)
        clear B_w6 B_w7 B_w8
        go_wp2_with fail
        go_ret
        exact ⟨rfl, BB.out⟩
      · skip
        have CT := Lib.hid (fun w hm => lat_far g c0 c1 c2 c3 c4 c5 c6 px py d hr hM hf w hm)
        clear hr hf hM
        refine (CT.out _ h_m.out).mono ?_
        rintro e w9 ⟨rfl, rfl⟩
        go_wp2_with fail
        refine (CR.out _).mono ?_
        rintro e w9 ⟨rfl, rfl⟩
        go_wp2_with fail
        refine (CA.out _).mono ?_
        rintro e w3 ⟨rfl, hb⟩
        clear c_p0 c_p1 c_p2 f_p0 f_p1 f_p2 l_p
        replace r_s := Lib.hid (r_s.out.keep hb)
        replace r_p := Lib.hid (r_p.out.keep hb)
        replace h_v := Lib.hid (IS.below h_v.out hb)
        replace h_m := Lib.hid (MLs.below h_m.out hb)
        replace BB := Lib.hid (below_next BB.out hb)
        clear hb
        go_wp2_with fail
        go_ret
        exact ⟨rfl, BB.out⟩
  · have hC' : (lC zs W H != 0) = true := by simpa using hC
    obtain rfl := hn.out hC
    clear hn hp CR hC
    generalize lC zs W H = C at *
    generalize zs.length = n1 at *
    obtain ⟨c_s0, c_s1, f_s0, f_s1⟩ := reads2 r_s.out
    have l_s := r_s.out.lt
    go_wp2_with fail
    refine (CD.out _ h_v.out).mono ?_
    rintro e w2 ⟨rfl, hb⟩
    clear c_s0 c_s1 f_s0 f_s1 l_s
    replace r_s := Lib.hid (r_s.out.keep hb)
    replace r_p := Lib.hid (r_p.out.keep hb)
    replace h_v := Lib.hid (IS.below h_v.out hb)
    replace BB := Lib.hid (below_next BB.out hb)
    clear hb
    go_wp2_with fail
    refine (CA.out _).mono ?_
    rintro e w3 ⟨rfl, hb⟩
    replace r_s := Lib.hid (r_s.out.keep hb)
    replace r_p := Lib.hid (r_p.out.keep hb)
    replace h_v := Lib.hid (IS.below h_v.out hb)
    replace BB := Lib.hid (below_next BB.out hb)
    clear hb
    go_wp2_with fail
    go_ret
    exact ⟨rfl, BB.out⟩
end Go.Proofs.Ythdbchghhpoadaa
