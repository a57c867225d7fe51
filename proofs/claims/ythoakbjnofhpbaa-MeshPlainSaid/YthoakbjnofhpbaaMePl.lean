/- Walk of the law MeshPlain. -/
import Derived.Test.YthoakbjnofhpbaaMePr
import Derived.Test.YthoakbjnofhpbaaMePp
import Derived.Test.YthoakbjnofhpbaaMeA
set_option linter.unusedVariables false
set_option linter.unusedSimpArgs false
namespace Go.Proofs.Ythoakbjnofhpbaa
open Go.RowKit Go.ChangeShapes Go.WideShapes Go.ChangeAt Go.Deep
set_option maxRecDepth 100000 in
set_option maxHeartbeats 8000000 in
theorem meshPlain_no (g0 g1 g2 g3 px py d : Int) (hf : fitsM g0 g1 g2 g3 = false) (w : World) :
    Calls Try.prog 3 #[.agg #[.int .i64 g0, .int .i64 g1, .int .i64 g2, .int .i64 g3], .agg #[.int .i64 px, .int .i64 py, .int .i64 d]] w fun e w' => e = .returned (.bool true) ∧ Below w.heap.size w w' := by
  have C1 := Lib.hid (fun w => mplain_no g0 g1 g2 g3 hf w)
  have C2 := Lib.hid (fun w => r21plain_no g0 g1 g2 g3 hf w)
  have C3 := Lib.hid (fun w => mnew_any (.slice none 0 0) [] 1 1 w ⟨none, 0, rfl, Nat.zero_le _, by decide, by simp, fun h => absurd rfl h⟩)
  unfold GiveNew at C3
  have CA := Lib.hid (fun w => alive21 w)
  clear hf
  go_enter Try.func3, Try.ntmps3
  go_upto_region 1 with fail
  have BB := start2 w #[.int .i64 g0, .int .i64 g1, .int .i64 g2, .int .i64 g3] 22 #[.int .i64 px, .int .i64 py, .int .i64 d] 24
  obtain ⟨BB, hsz, r_g, r_p⟩ := BB
  generalize ((w.alloc (.cells #[.int .i64 g0, .int .i64 g1, .int .i64 g2, .int .i64 g3] 22)).alloc (.cells #[.int .i64 px, .int .i64 py, .int .i64 d] 24)) = w0 at *
  replace BB := Lib.hid BB
  replace r_g := Lib.hid r_g
  replace r_p := Lib.hid r_p
  clear hsz
  obtain ⟨c_g0, c_g1, c_g2, c_g3, f_g0, f_g1, f_g2, f_g3⟩ := reads4 r_g.out
  have l_g := r_g.out.lt
  go_wp2_with fail
  refine (C1.out _).mono ?_
  rintro e w1 ⟨rfl, hb⟩
  clear c_g0 c_g1 c_g2 c_g3 f_g0 f_g1 f_g2 f_g3 l_g
  replace r_g := Lib.hid (r_g.out.keep hb)
  replace r_p := Lib.hid (r_p.out.keep hb)
  replace BB := Lib.hid (below_next BB.out hb)
  clear hb
  obtain ⟨c_g0, c_g1, c_g2, c_g3, f_g0, f_g1, f_g2, f_g3⟩ := reads4 r_g.out
  have l_g := r_g.out.lt
  go_wp2_with fail
  refine (C2.out _).mono ?_
  rintro e w2 ⟨rfl, hb⟩
  clear c_g0 c_g1 c_g2 c_g3 f_g0 f_g1 f_g2 f_g3 l_g
  replace r_g := Lib.hid (r_g.out.keep hb)
  replace r_p := Lib.hid (r_p.out.keep hb)
  replace BB := Lib.hid (below_next BB.out hb)
  clear hb
  go_wp2_with fail
  refine wp_loop_rounds 1 ?_
  rw [rounds_succ]
  go_wp2_with fail
  refine (C3.out _).mono ?_
  rintro e w3 ⟨m, rfl, hb, hn, -⟩
  replace r_g := Lib.hid (r_g.out.keep hb)
  replace r_p := Lib.hid (r_p.out.keep hb)
  replace BB := Lib.hid (below_next BB.out hb)
  clear hb
  obtain rfl := hn (by decide)
  have hm12 : meC [] 1 1 = 12 := rfl
  rw [hm12]
  clear hn hm12
  go_wp2_with fail
  refine (CA.out _).mono ?_
  rintro e w4 ⟨rfl, hb⟩
  replace r_g := Lib.hid (r_g.out.keep hb)
  replace r_p := Lib.hid (r_p.out.keep hb)
  replace BB := Lib.hid (below_next BB.out hb)
  clear hb
  go_wp2_with fail
  refine bodyPost_ret (v := .bool true) (by unfold results; simp only [Try.results3]; go_simp) rfl ?_
  exact ⟨rfl, BB.out⟩
theorem plL_len {gx gy nx ny : Int} (h : fitsM gx gy nx ny = true) : 4 ≤ (plL gx gy nx ny).length ∧ (plL gx gy nx ny).length ≤ 100000 := by
  obtain ⟨g1, g2, g3, g4⟩ := fitsM_iff.1 h
  unfold plL
  rw [List.length_append, plRows_len]
  have q1 : (ny + 1).toNat * ((nx + 1).toNat * 2) ≤ 65 * (65 * 2) := Nat.mul_le_mul (by omega) (by omega)
  simp
  omega
set_option maxRecDepth 100000 in
set_option maxHeartbeats 8000000 in
theorem meshPlain_ok (g0 g1 g2 g3 px py d : Int) (hf : fitsM g0 g1 g2 g3 = true) (hpx : I64 px) (hpy : I64 py) (w : World) :
    Calls Try.prog 3 #[.agg #[.int .i64 g0, .int .i64 g1, .int .i64 g2, .int .i64 g3], .agg #[.int .i64 px, .int .i64 py, .int .i64 d]] w fun e w' => e = .returned (.bool true) ∧ Below w.heap.size w w' := by
  obtain ⟨f1, f2, f3, f4⟩ := fitsM_iff.1 hf
  have C1 := Lib.hid (fun w => mplain_ok g0 g1 g2 g3 hf w)
  have C2 := Lib.hid (fun w => r21plain_ok g0 g1 g2 g3 hf w)
  have C3 := Lib.hid (fun v w hv => mnew_any v (plL g0 g1 g2 g3) 1 1 w hv)
  have C4 := Lib.hid (fun v w hv => r21check v (plL g0 g1 g2 g3) 1 1 w hv)
  unfold GiveNew at C3
  have CA := Lib.hid (fun w => alive21 w)
  have CR := Lib.hid (fun w => rright px py d w)
  obtain ⟨hl1, hl2⟩ := plL_len hf
  obtain ⟨rest, hrest⟩ : ∃ r, r = plRows g0 g1 (g2 + 1).toNat (g3 + 1).toNat := ⟨_, rfl⟩
  have hpl : plL g0 g1 g2 g3 = g0 :: g1 :: g2 :: g3 :: rest := by rw [hrest]; rfl
  obtain ⟨zs, hzs⟩ : ∃ v, v = plL g0 g1 g2 g3 := ⟨_, rfl⟩
  rw [← hzs] at C1 C2 C3 C4 hl1 hl2 hpl
  have HF := Lib.hid (And.intro f1 (And.intro f2 (And.intro f3 f4)))
  have HP := Lib.hid hpl
  have HRs := Lib.hid hrest
  generalize hn : zs.length = n at *
  have hN := Lib.hid hn
  have n0 : ¬ (n : Int) = 0 := by omega
  have n1 : (0 : Int) < (n : Int) := by omega
  have n2 : (1 : Int) < (n : Int) := by omega
  have n3 : (2 : Int) < (n : Int) := by omega
  have n4 : (3 : Int) < (n : Int) := by omega
  have n5 : 0 < n := by omega
  have hz : ∀ i, i < n → I64 (zs.getD i 0) := fun i hi => by
    have h1 := @plL_in g0 g1 g2 g3 (g2 + 1).toNat (g3 + 1).toNat ⟨f1, f2, f3, f4⟩ ⟨by omega, by omega, by omega, by omega⟩
    have e : zs.getD i 0 = zs[i]'(by omega) := by simp [List.getD, show i < zs.length by omega]
    rw [e]
    refine h1 _ ?_
    have : zs = [g0, g1, g2, g3] ++ plRows g0 g1 (g2 + 1).toNat (g3 + 1).toNat := hzs
    rw [← this]
    exact List.getElem_mem _
  clear hz hl1 hn hpl hrest hzs hf f1 f2 f3 f4
  go_enter Try.func3, Try.ntmps3
  go_upto_region 1 with fail
  have BB := start2 w #[.int .i64 g0, .int .i64 g1, .int .i64 g2, .int .i64 g3] 22 #[.int .i64 px, .int .i64 py, .int .i64 d] 24
  obtain ⟨BB, hsz, r_g, r_p⟩ := BB
  generalize ((w.alloc (.cells #[.int .i64 g0, .int .i64 g1, .int .i64 g2, .int .i64 g3] 22)).alloc (.cells #[.int .i64 px, .int .i64 py, .int .i64 d] 24)) = w0 at *
  replace BB := Lib.hid BB
  replace r_g := Lib.hid r_g
  replace r_p := Lib.hid r_p
  clear hsz
  obtain ⟨c_g0, c_g1, c_g2, c_g3, f_g0, f_g1, f_g2, f_g3⟩ := reads4 r_g.out
  have l_g := r_g.out.lt
  go_wp2_with fail
  refine (C1.out _).mono ?_
  rintro e w1 ⟨r1, rfl, hb, h_c⟩
  clear c_g0 c_g1 c_g2 c_g3 f_g0 f_g1 f_g2 f_g3 l_g
  replace r_g := Lib.hid (r_g.out.keep hb)
  replace r_p := Lib.hid (r_p.out.keep hb)
  replace BB := Lib.hid (below_next BB.out hb)
  clear hb
  replace h_c := Lib.hid h_c
  obtain ⟨c_g0, c_g1, c_g2, c_g3, f_g0, f_g1, f_g2, f_g3⟩ := reads4 r_g.out
  have l_g := r_g.out.lt
  go_wp2_with fail
  refine (C2.out _).mono ?_
  rintro e w2 ⟨r2, rfl, hb, h_e⟩
  clear c_g0 c_g1 c_g2 c_g3 f_g0 f_g1 f_g2 f_g3 l_g
  replace r_g := Lib.hid (r_g.out.keep hb)
  replace r_p := Lib.hid (r_p.out.keep hb)
  replace h_c := Lib.hid (IS.below h_c.out hb)
  replace BB := Lib.hid (below_next BB.out hb)
  clear hb
  replace h_e := Lib.hid h_e
  obtain ⟨b1, o1, cap1, rfl, -⟩ := id (h_c.out.some (by rw [HP.out]; simp))
  obtain ⟨b2, o2, cap2, rfl, -⟩ := id (h_e.out.some (by rw [HP.out]; simp))
  rw [hN.out] at h_c h_e ⊢
  clear C1 C2
  have HC1 : Hid (∀ w9, Below w2.heap.size w2 w9 → ∀ i, i < n → w9.cell? ⟨b1, o1 + i, none⟩ = some (.int .i64 (zs.getD i 0))) := fun w9 h9 i hi => by
    obtain ⟨b, off, cap, e, -, -, h3, h4⟩ := h_c.out.some (by rw [HP.out]; simp)
    simp only [Value.slice.injEq, Option.some.injEq, Addr.mk.injEq, and_true] at e
    obtain ⟨⟨rfl, rfl⟩, -, -⟩ := e
    exact (h9.cell h3).trans (h4 i (by rw [hN.out]; exact hi))
  have HC2 : Hid (∀ w9, Below w2.heap.size w2 w9 → ∀ i, i < n → w9.cell? ⟨b2, o2 + i, none⟩ = some (.int .i64 (zs.getD i 0))) := fun w9 h9 i hi => by
    obtain ⟨b, off, cap, e, -, -, h3, h4⟩ := h_e.out.some (by rw [HP.out]; simp)
    simp only [Value.slice.injEq, Option.some.injEq, Addr.mk.injEq, and_true] at e
    obtain ⟨⟨rfl, rfl⟩, -, -⟩ := e
    exact (h9.cell h3).trans (h4 i (by rw [hN.out]; exact hi))
  have HCx : Hid (∀ w9, Below w2.heap.size w2 w9 → (w9.cell? ⟨b1, o1, none⟩ = some (.int .i64 g0) ∧ w9.cell? ⟨b1, o1 + 1, none⟩ = some (.int .i64 g1) ∧ w9.cell? ⟨b1, o1 + 2, none⟩ = some (.int .i64 g2) ∧ w9.cell? ⟨b1, o1 + 3, none⟩ = some (.int .i64 g3))) := fun w9 h9 => by
    have k := HC1.out w9 h9
    rw [HP.out] at k
    exact ⟨k 0 (by omega), k 1 (by omega), k 2 (by omega), k 3 (by omega)⟩
  have hb0 := Lib.hid (Below.refl w2.heap.size w2)
  go_wp2_with fail
  have HB0 := BB
  have h_c0 := h_c
  have r_p0 := r_p
  go_loopw [7] (fun s wr => ∃ k : Nat, k ≤ n ∧ s = .int .i64 k ∧ Hid (Below w2.heap.size w2 wr)) (fun s _ => n - (intOf s).toNat)
  case atStart => exact ⟨0, by omega, rfl, Below.refl _ _⟩
  case round =>
    obtain ⟨k, hk, rfl, hbl⟩ := hrel
    by_cases hkn : k < n
    · have cz := HC1.out _ hbl.out k hkn
      have cy := HC2.out _ hbl.out k hkn
      have hkn' : (k : Int) < n := by omega
      generalize zs.getD k 0 = z at *
      clear BB HB0 h_c h_c0 h_e hb0 HC1 HC2 HCx r_g r_p r_p0 C3 C4 CA CR HF HP HRs
      go_wp2_with fail
      go_quiet (fail)
      go_wp2_with fail
      go_roundw
      case rel => exact ⟨k + 1, by omega, by go_num, below_drawn hbl.out nq⟩
      case measure => simp [intOf]; omega
    · have hkn' : ¬ (k : Int) < n := by omega
      obtain rfl : k = n := by omega
      have hb := hbl.out
      clear hbl hk HB0 h_c0 r_p0
      replace r_g := Lib.hid (r_g.out.keep hb); replace r_p := Lib.hid (r_p.out.keep hb); replace h_c := Lib.hid (h_c.out.below hb); replace h_e := Lib.hid (h_e.out.below hb); replace BB := Lib.hid (below_next BB.out hb); replace hb0 := Lib.hid (below_next hb0.out hb)
      clear hb
      clear h_e HC2
      go_wp2_with fail
      refine (C3.out _ _ h_c.out).mono ?_
      rintro e w3 ⟨m, rfl, hb, hn, hp⟩
      replace r_g := Lib.hid (r_g.out.keep hb)
      replace r_p := Lib.hid (r_p.out.keep hb)
      replace h_c := Lib.hid (IS.below h_c.out hb)
      replace hb0 := Lib.hid (below_next hb0.out hb)
      replace BB := Lib.hid (below_next BB.out hb)
      clear hb
      by_cases hC : meC zs 1 1 = 0
      · rw [hC] at C4 ⊢
        obtain ⟨gx, gy, nx, ny, rest', N, g, ez, hG, hN2, rfl, hX, hr⟩ := hp hC
        rw [HP.out] at ez
        simp only [List.cons.injEq] at ez
        obtain ⟨rfl, rfl, rfl, rfl, rfl⟩ := ez
        have hX := Lib.hid hX
        obtain ⟨f1, f2, f3, f4⟩ := HF.out
        have CM := Lib.hid (fun (hp : rightI px py d = true) w hm => meat_ok g g0 g1 g2 g3 px py d (ksOf rest N) hpx hpy hp hG (ks_in hr) w hm)
        have u1 := mul_rng f1 f3
        have u2 := mul_rng f2 f4
        have HM : Hid (rightI px py d = true → 0 ≤ px ∧ px ≤ g0 * g2 * d → 0 ≤ py ∧ py ≤ g1 * g3 * d → mePl g0 g1 g2 g3 px py d (fun i k => (knP (ksOf rest N) g2 i k).1) = 65536 * px / d ∧ mePl g0 g1 g2 g3 px py d (fun i k => (knP (ksOf rest N) g2 i k).2) = 65536 * py / d) := fun hp hx hy => by
          obtain ⟨-, -, hd1, hd2⟩ := rightI_iff.1 hp
          have hN3 : (plRows g0 g1 (g2 + 1).toNat (g3 + 1).toNat).length = 2 * N := by rw [← HRs.out]; exact hN2
          rw [HRs.out]
          exact ⟨me_plain _ f1 f2 f3 f4 ⟨hd1, hd2⟩ hx hy (fun i k hi hk => (pl_knot hN3 hi hk).1), me_plain' _ f1 f2 f3 f4 ⟨hd1, hd2⟩ hx hy (fun i k hi hk => (pl_knot hN3 hi hk).2)⟩
        have e1 : IntKind.i64.wrap (g0 * g2) = g0 * g2 := iw ⟨by omega, by omega⟩
        have e2 : IntKind.i64.wrap (g1 * g3) = g1 * g3 := iw ⟨by omega, by omega⟩
        clear hn hp hC C3 hr hN2 hG HC1 HRs HP HF f1 f2 f3 f4
        generalize mePl g0 g1 g2 g3 px py d (fun i k => (knP (ksOf rest N) g2 i k).1) = U at *
        generalize mePl g0 g1 g2 g3 px py d (fun i k => (knP (ksOf rest N) g2 i k).2) = V at *
        go_wp2_with fail
        refine (C4.out _ _ h_c.out).mono ?_
        rintro e w4 ⟨rfl, hb⟩
        replace r_g := Lib.hid (r_g.out.keep hb)
        replace r_p := Lib.hid (r_p.out.keep hb)
        replace h_c := Lib.hid (IS.below h_c.out hb)
        replace hb0 := Lib.hid (below_next hb0.out hb)
        replace hX := Lib.hid (MX.below hX.out hb)
        replace BB := Lib.hid (below_next BB.out hb)
        clear hb
        clear C4
        obtain ⟨c_p0, c_p1, c_p2, f_p0, f_p1, f_p2⟩ := reads3 r_p.out
        have l_p := r_p.out.lt
        go_wp2_with fail
        by_cases hp : rightI px py d = true
        · rw [hp] at CR
          obtain ⟨⟨r1, r2⟩, ⟨r3, r4⟩, r5, r6⟩ := rightI_iff.1 hp
          replace CM := Lib.hid (CM.out hp)
          replace HM := Lib.hid (HM.out hp)
          have v1 := mul_rng u1 (show 1 ≤ d ∧ d ≤ 16 from ⟨r5, r6⟩)
          have v2 := mul_rng u2 (show 1 ≤ d ∧ d ≤ 16 from ⟨r5, r6⟩)
          have e3 : IntKind.i64.wrap (g0 * g2 * d) = g0 * g2 * d := iw ⟨by omega, by omega⟩
          have e4 : IntKind.i64.wrap (g1 * g3 * d) = g1 * g3 * d := iw ⟨by omega, by omega⟩
          have e5 : IntKind.i64.wrap (65536 * px) = 65536 * px := iw ⟨by omega, by omega⟩
          have e6 : IntKind.i64.wrap (65536 * py) = 65536 * py := iw ⟨by omega, by omega⟩
          have D1 := Lib.hid (fun w => rdown (65536 * px) d ⟨by omega, by omega⟩ (by omega) (by omega) w)
          have D2 := Lib.hid (fun w => rdown (65536 * py) d ⟨by omega, by omega⟩ (by omega) (by omega) w)
          clear hp r1 r2 r3 r4 r5 r6 v1 v2 u1 u2 hpx hpy
          rcases dec_both (px < 0) with ⟨j1, q1⟩ | ⟨j1, q1⟩
          · skip
            clear CM HM D1 D2 j1
            obtain ⟨ct0, ct1, ct2, ct3⟩ := HCx.out _ hb0.out
            have Q_0 := Lib.hid (fun n => quiet_same (CR.out (w4.drewN n)))
            go_quiet ((first | (go_at_call 20; with_reducible exact Q_0.out _)))
            clear Q_0
            have hb := below_drawn (Below.refl w4.heap.size w4) nq
            generalize w4.drewN nq = w5 at *
            clear c_p0 c_p1 c_p2 f_p0 f_p1 f_p2 l_p
            replace r_g := Lib.hid (r_g.out.keep hb)
            replace r_p := Lib.hid (r_p.out.keep hb)
            replace h_c := Lib.hid (IS.below h_c.out hb)
            replace hb0 := Lib.hid (below_next hb0.out hb)
            replace hX := Lib.hid (MX.below hX.out hb)
            replace BB := Lib.hid (below_next BB.out hb)
            clear hb nq
            clear ct0 ct1 ct2 ct3
            go_wp2_with fail
            refine (CA.out _).mono ?_
            rintro e w6 ⟨rfl, hb⟩
            replace r_g := Lib.hid (r_g.out.keep hb)
            replace r_p := Lib.hid (r_p.out.keep hb)
            replace h_c := Lib.hid (IS.below h_c.out hb)
            replace hb0 := Lib.hid (below_next hb0.out hb)
            replace hX := Lib.hid (MX.below hX.out hb)
            replace BB := Lib.hid (below_next BB.out hb)
            clear hb
            go_wp2_with fail
            refine bodyPost_ret (v := .bool true) (by unfold results; simp only [Try.results3]; go_simp) rfl ?_
            exact ⟨rfl, BB.out⟩
          rcases dec_both (px > g0 * g2 * d) with ⟨j2, q2⟩ | ⟨j2, q2⟩
          · skip
            clear CM HM D1 D2 j1 j2
            obtain ⟨ct0, ct1, ct2, ct3⟩ := HCx.out _ hb0.out
            have Q_0 := Lib.hid (fun n => quiet_same (CR.out (w4.drewN n)))
            go_quiet ((first | (go_at_call 20; with_reducible exact Q_0.out _)))
            clear Q_0
            have hb := below_drawn (Below.refl w4.heap.size w4) nq
            generalize w4.drewN nq = w5 at *
            clear c_p0 c_p1 c_p2 f_p0 f_p1 f_p2 l_p
            replace r_g := Lib.hid (r_g.out.keep hb)
            replace r_p := Lib.hid (r_p.out.keep hb)
            replace h_c := Lib.hid (IS.below h_c.out hb)
            replace hb0 := Lib.hid (below_next hb0.out hb)
            replace hX := Lib.hid (MX.below hX.out hb)
            replace BB := Lib.hid (below_next BB.out hb)
            clear hb nq
            clear ct0 ct1 ct2 ct3
            go_wp2_with fail
            refine (CA.out _).mono ?_
            rintro e w6 ⟨rfl, hb⟩
            replace r_g := Lib.hid (r_g.out.keep hb)
            replace r_p := Lib.hid (r_p.out.keep hb)
            replace h_c := Lib.hid (IS.below h_c.out hb)
            replace hb0 := Lib.hid (below_next hb0.out hb)
            replace hX := Lib.hid (MX.below hX.out hb)
            replace BB := Lib.hid (below_next BB.out hb)
            clear hb
            go_wp2_with fail
            refine bodyPost_ret (v := .bool true) (by unfold results; simp only [Try.results3]; go_simp) rfl ?_
            exact ⟨rfl, BB.out⟩
          rcases dec_both (py < 0) with ⟨j3, q3⟩ | ⟨j3, q3⟩
          · skip
            clear CM HM D1 D2 j1 j2 j3
            obtain ⟨ct0, ct1, ct2, ct3⟩ := HCx.out _ hb0.out
            have Q_0 := Lib.hid (fun n => quiet_same (CR.out (w4.drewN n)))
            go_quiet ((first | (go_at_call 20; with_reducible exact Q_0.out _)))
            clear Q_0
            have hb := below_drawn (Below.refl w4.heap.size w4) nq
            generalize w4.drewN nq = w5 at *
            clear c_p0 c_p1 c_p2 f_p0 f_p1 f_p2 l_p
            replace r_g := Lib.hid (r_g.out.keep hb)
            replace r_p := Lib.hid (r_p.out.keep hb)
            replace h_c := Lib.hid (IS.below h_c.out hb)
            replace hb0 := Lib.hid (below_next hb0.out hb)
            replace hX := Lib.hid (MX.below hX.out hb)
            replace BB := Lib.hid (below_next BB.out hb)
            clear hb nq
            clear ct0 ct1 ct2 ct3
            go_wp2_with fail
            refine (CA.out _).mono ?_
            rintro e w6 ⟨rfl, hb⟩
            replace r_g := Lib.hid (r_g.out.keep hb)
            replace r_p := Lib.hid (r_p.out.keep hb)
            replace h_c := Lib.hid (IS.below h_c.out hb)
            replace hb0 := Lib.hid (below_next hb0.out hb)
            replace hX := Lib.hid (MX.below hX.out hb)
            replace BB := Lib.hid (below_next BB.out hb)
            clear hb
            go_wp2_with fail
            refine bodyPost_ret (v := .bool true) (by unfold results; simp only [Try.results3]; go_simp) rfl ?_
            exact ⟨rfl, BB.out⟩
          rcases dec_both (py > g1 * g3 * d) with ⟨j4, q4⟩ | ⟨j4, q4⟩
          · skip
            clear CM HM D1 D2 j1 j2 j3 j4
            obtain ⟨ct0, ct1, ct2, ct3⟩ := HCx.out _ hb0.out
            have Q_0 := Lib.hid (fun n => quiet_same (CR.out (w4.drewN n)))
            go_quiet ((first | (go_at_call 20; with_reducible exact Q_0.out _)))
            clear Q_0
            have hb := below_drawn (Below.refl w4.heap.size w4) nq
            generalize w4.drewN nq = w5 at *
            clear c_p0 c_p1 c_p2 f_p0 f_p1 f_p2 l_p
            replace r_g := Lib.hid (r_g.out.keep hb)
            replace r_p := Lib.hid (r_p.out.keep hb)
            replace h_c := Lib.hid (IS.below h_c.out hb)
            replace hb0 := Lib.hid (below_next hb0.out hb)
            replace hX := Lib.hid (MX.below hX.out hb)
            replace BB := Lib.hid (below_next BB.out hb)
            clear hb nq
            clear ct0 ct1 ct2 ct3
            go_wp2_with fail
            refine (CA.out _).mono ?_
            rintro e w6 ⟨rfl, hb⟩
            replace r_g := Lib.hid (r_g.out.keep hb)
            replace r_p := Lib.hid (r_p.out.keep hb)
            replace h_c := Lib.hid (IS.below h_c.out hb)
            replace hb0 := Lib.hid (below_next hb0.out hb)
            replace hX := Lib.hid (MX.below hX.out hb)
            replace BB := Lib.hid (below_next BB.out hb)
            clear hb
            go_wp2_with fail
            refine bodyPost_ret (v := .bool true) (by unfold results; simp only [Try.results3]; go_simp) rfl ?_
            exact ⟨rfl, BB.out⟩
          · obtain ⟨rfl, rfl⟩ := HM.out (by omega) (by omega)
            generalize 65536 * px / d = U at *
            generalize 65536 * py / d = V at *
            clear HM j1 j2 j3 j4
            obtain ⟨ct0, ct1, ct2, ct3⟩ := HCx.out _ hb0.out
            have Q_0 := Lib.hid (fun n => quiet_same (CR.out (w4.drewN n)))
            go_quiet ((first | (go_at_call 20; with_reducible exact Q_0.out _)))
            clear Q_0
            have hb := below_drawn (Below.refl w4.heap.size w4) nq
            generalize w4.drewN nq = w5 at *
            clear c_p0 c_p1 c_p2 f_p0 f_p1 f_p2 l_p
            replace r_g := Lib.hid (r_g.out.keep hb)
            replace r_p := Lib.hid (r_p.out.keep hb)
            replace h_c := Lib.hid (IS.below h_c.out hb)
            replace hb0 := Lib.hid (below_next hb0.out hb)
            replace hX := Lib.hid (MX.below hX.out hb)
            replace BB := Lib.hid (below_next BB.out hb)
            clear hb nq
            clear ct0 ct1 ct2 ct3
            obtain ⟨c_p0, c_p1, c_p2, f_p0, f_p1, f_p2⟩ := reads3 r_p.out
            have l_p := r_p.out.lt
            go_wp2_with fail
            refine (CM.out _ hX.out).mono ?_
            rintro e w6 ⟨rfl, hb⟩
            clear c_p0 c_p1 c_p2 f_p0 f_p1 f_p2 l_p
            replace r_g := Lib.hid (r_g.out.keep hb)
            replace r_p := Lib.hid (r_p.out.keep hb)
            replace h_c := Lib.hid (IS.below h_c.out hb)
            replace hb0 := Lib.hid (below_next hb0.out hb)
            replace hX := Lib.hid (MX.below hX.out hb)
            replace BB := Lib.hid (below_next BB.out hb)
            clear hb
            obtain ⟨c_p0, c_p1, c_p2, f_p0, f_p1, f_p2⟩ := reads3 r_p.out
            have l_p := r_p.out.lt
            go_wp2_with fail
            refine (D1.out _).mono ?_
            rintro e w9 ⟨rfl, rfl⟩
            go_wp2_with fail
            refine (D2.out _).mono ?_
            rintro e w9 ⟨rfl, rfl⟩
            go_wp2_with fail
            refine (CA.out _).mono ?_
            rintro e w7 ⟨rfl, hb⟩
            clear c_p0 c_p1 c_p2 f_p0 f_p1 f_p2 l_p
            replace r_g := Lib.hid (r_g.out.keep hb)
            replace r_p := Lib.hid (r_p.out.keep hb)
            replace h_c := Lib.hid (IS.below h_c.out hb)
            replace hb0 := Lib.hid (below_next hb0.out hb)
            replace hX := Lib.hid (MX.below hX.out hb)
            replace BB := Lib.hid (below_next BB.out hb)
            clear hb
            go_wp2_with fail
            refine bodyPost_ret (v := .bool true) (by unfold results; simp only [Try.results3]; go_simp) rfl ?_
            exact ⟨rfl, BB.out⟩
        · have hp' : rightI px py d = false := by simpa using hp
          rw [hp'] at CR
          clear hp hp' CM HM u1 u2 hpx hpy
          obtain ⟨ct0, ct1, ct2, ct3⟩ := HCx.out _ hb0.out
          have Q_0 := Lib.hid (fun n => quiet_same (CR.out (w4.drewN n)))
          go_quiet ((first | (go_at_call 20; with_reducible exact Q_0.out _)))
          clear Q_0
          have hb := below_drawn (Below.refl w4.heap.size w4) nq
          generalize w4.drewN nq = w5 at *
          clear c_p0 c_p1 c_p2 f_p0 f_p1 f_p2 l_p
          replace r_g := Lib.hid (r_g.out.keep hb)
          replace r_p := Lib.hid (r_p.out.keep hb)
          replace h_c := Lib.hid (IS.below h_c.out hb)
          replace hb0 := Lib.hid (below_next hb0.out hb)
          replace hX := Lib.hid (MX.below hX.out hb)
          replace BB := Lib.hid (below_next BB.out hb)
          clear hb nq
          clear ct0 ct1 ct2 ct3
          go_wp2_with fail
          refine (CA.out _).mono ?_
          rintro e w6 ⟨rfl, hb⟩
          replace r_g := Lib.hid (r_g.out.keep hb)
          replace r_p := Lib.hid (r_p.out.keep hb)
          replace h_c := Lib.hid (IS.below h_c.out hb)
          replace hb0 := Lib.hid (below_next hb0.out hb)
          replace hX := Lib.hid (MX.below hX.out hb)
          replace BB := Lib.hid (below_next BB.out hb)
          clear hb
          go_wp2_with fail
          refine bodyPost_ret (v := .bool true) (by unfold results; simp only [Try.results3]; go_simp) rfl ?_
          exact ⟨rfl, BB.out⟩
      · have hC' : (meC zs 1 1 != 0) = true := by simpa using hC
        have hC2 : (meC zs 1 1 == 0) = false := by simpa using hC
        obtain rfl := hn hC
        clear hn hp hC CR HC1 HCx C3
        generalize meC zs 1 1 = C at *
        go_wp2_with fail
        refine (C4.out _ _ h_c.out).mono ?_
        rintro e w4 ⟨rfl, hb⟩
        replace r_g := Lib.hid (r_g.out.keep hb)
        replace r_p := Lib.hid (r_p.out.keep hb)
        replace h_c := Lib.hid (IS.below h_c.out hb)
        replace hb0 := Lib.hid (below_next hb0.out hb)
        replace BB := Lib.hid (below_next BB.out hb)
        clear hb
        go_wp2_with fail
        refine (CA.out _).mono ?_
        rintro e w5 ⟨rfl, hb⟩
        replace r_g := Lib.hid (r_g.out.keep hb)
        replace r_p := Lib.hid (r_p.out.keep hb)
        replace h_c := Lib.hid (IS.below h_c.out hb)
        replace hb0 := Lib.hid (below_next hb0.out hb)
        replace BB := Lib.hid (below_next BB.out hb)
        clear hb
        go_wp2_with fail
        refine bodyPost_ret (v := .bool true) (by unfold results; simp only [Try.results3]; go_simp) rfl ?_
        exact ⟨rfl, BB.out⟩
/-- The law's walk. -/
theorem meshPlain_any (g0 g1 g2 g3 px py d : Int) (hpx : I64 px) (hpy : I64 py) (w : World) :
    Calls Try.prog 3 #[.agg #[.int .i64 g0, .int .i64 g1, .int .i64 g2, .int .i64 g3], .agg #[.int .i64 px, .int .i64 py, .int .i64 d]] w fun e w' => e = .returned (.bool true) ∧ Below w.heap.size w w' := by
  by_cases h : fitsM g0 g1 g2 g3 = true
  · exact meshPlain_ok g0 g1 g2 g3 px py d h hpx hpy w
  · exact meshPlain_no g0 g1 g2 g3 px py d (by simpa using h) w
end Go.Proofs.Ythoakbjnofhpbaa
