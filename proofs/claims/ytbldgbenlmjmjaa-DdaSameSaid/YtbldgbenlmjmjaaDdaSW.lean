/- The walk of DdaSame. -/
import Derived.Test.YtbldgbenlmjmjaaDdaWW
import Derived.Test.YtbldgbenlmjmjaaDdaM
set_option linter.unusedVariables false
set_option linter.unusedSimpArgs false
namespace Go.Proofs.Ytbldgbenlmjmjaa
open Go.RowKit

theorem AtB.apart {w : World} {g g' : Nat} {cs cs' : Array Value} {T T' : TypeId} (h : AtB w g cs T) (h' : AtB w g' cs' T') (ht : T ≠ T') : g' ≠ g := by
  rintro rfl
  have k : some (Obj.cells cs T (0, 0)) = some (Obj.cells cs' T' (0, 0)) := h.symm.trans h'
  simp only [Option.some.injEq, Obj.cells.injEq] at k
  exact ht k.2.1
set_option maxRecDepth 100000 in
set_option maxHeartbeats 4000000 in
theorem ddaSame_no (u : Value) (zs : List Int) (x y n : Int) (hC : ddC zs x y ≠ 0) (w : World) (hv : IS w u zs) :
    Calls Try.prog 10 #[u, .agg #[.int .i64 x, .int .i64 y], .int .i64 n] w fun e w' => e = .returned (.bool true) ∧ Below w.heap.size w w' := by
  have CN := Lib.hid (fun v w hv => ddnew v zs x y w hv)
  have CF := Lib.hid (fun v w hv => afnew v zs w hv)
  have hv := Lib.hid hv
  have CA := Lib.hid (fun w => alive34 w)
  have HN : Hid (∀ q : Value, (ddC zs x y ≠ 0 → q = .pointer none) → q = .pointer none) := fun q h => h hC
  have hne : ¬ ddC zs x y = 0 := hC
  clear hC
  go_enter Try.func10, Try.ntmps10
  go_wp2_with fail
  have BB := start1 w #[.int .i64 x, .int .i64 y] A2T
  obtain ⟨BB, hsz, r_p⟩ := BB
  generalize (w.alloc (.cells #[.int .i64 x, .int .i64 y] A2T)) = w0 at *
  replace BB := Lib.hid BB
  replace r_p := Lib.hid r_p
  clear hsz
  have h_v := Lib.hid (hv.out.below BB.out)
  refine (CN.out _ _ h_v.out).mono ?_
  rintro e w1 ⟨q, rfl, hb, hn', -⟩
  replace r_p := Lib.hid (r_p.out.keep hb)
  replace h_v := Lib.hid (IS.below h_v.out hb)
  replace BB := Lib.hid (below_next BB.out hb)
  clear hb
  obtain rfl := HN.out _ hn'
  clear hn' HN
  obtain ⟨c_p0, c_p1, f_p0, f_p1⟩ := reads2 r_p.out
  have l_p := r_p.out.lt
  go_wp2_with fail
  refine (CF.out _ _ h_v.out).mono ?_
  rintro e w2 ⟨q, rfl, hb, -, -⟩
  clear c_p0 c_p1 f_p0 f_p1 l_p
  replace r_p := Lib.hid (r_p.out.keep hb)
  replace h_v := Lib.hid (IS.below h_v.out hb)
  replace BB := Lib.hid (below_next BB.out hb)
  clear hb
  clear CF CN
  generalize ddC zs x y = C at *
  generalize afC zs = D at *
  have hq : (C == 0) = false := by simpa using hne
  have hq2 : (C != 0) = true := by simpa using hne
  clear hne
  go_wp2_with fail
  refine (CA.out _).mono ?_
  rintro e w3 ⟨rfl, hb⟩
  replace r_p := Lib.hid (r_p.out.keep hb)
  replace h_v := Lib.hid (IS.below h_v.out hb)
  replace BB := Lib.hid (below_next BB.out hb)
  clear hb
  go_wp2_with fail
  go_ret
  exact ⟨rfl, BB.out⟩

set_option maxRecDepth 100000 in
set_option maxHeartbeats 16000000 in
theorem ddaSame_ok (u : Value) (x y c0 c1 c2 c3 c4 c5 n : Int) (iN : I64 n) (hC : ddC [c0, c1, c2, c3, c4, c5] x y = 0) (w : World) (hv : IS w u [c0, c1, c2, c3, c4, c5]) :
    Calls Try.prog 10 #[u, .agg #[.int .i64 x, .int .i64 y], .int .i64 n] w fun e w' => e = .returned (.bool true) ∧ Below w.heap.size w w' := by
  have CN := Lib.hid (fun v w hv => ddnew v [c0, c1, c2, c3, c4, c5] x y w hv)
  have CF := Lib.hid (fun v w hv => afnew v [c0, c1, c2, c3, c4, c5] w hv)
  have hv := Lib.hid hv
  have CA := Lib.hid (fun w => alive34 w)
  have HC := Lib.hid hC
  have h0 : afC [c0, c1, c2, c3, c4, c5] = 0 := by
    unfold ddC at hC
    split at hC
    · assumption
    · exact absurd hC ‹_›
  replace h0 := Lib.hid h0
  clear hC
  go_enter Try.func10, Try.ntmps10
  go_wp2_with fail
  have BB := start1 w #[.int .i64 x, .int .i64 y] A2T
  obtain ⟨BB, hsz, r_p⟩ := BB
  generalize (w.alloc (.cells #[.int .i64 x, .int .i64 y] A2T)) = w0 at *
  replace BB := Lib.hid BB
  replace r_p := Lib.hid r_p
  clear hsz
  have h_v := Lib.hid (hv.out.below BB.out)
  have BW := BB
  have P := Lib.hid (fun (w9 : World) (h : Below w0.heap.size w0 w9) => cells2 (r_p.out.keep h))
  clear hv
  refine (CN.out _ _ h_v.out).mono ?_
  rintro e w1 ⟨q, rfl, hb, -, hz⟩
  have hbk := Lib.hid hb
  replace r_p := Lib.hid (r_p.out.keep hb)
  replace h_v := Lib.hid (IS.below h_v.out hb)
  replace BB := Lib.hid (below_next BB.out hb)
  clear hb
  obtain ⟨g, d0, d1, d2, d3, d4, d5, rfl, hg, he, hM, hx, hy, hw⟩ := hz HC.out
  simp only [List.cons.injEq, and_true] at he
  obtain ⟨rfl, rfl, rfl, rfl, rfl, rfl⟩ := he
  rw [HC.out]
  clear hz CN HC
  have HW := Lib.hid hw
  clear hw
  obtain ⟨c_p0, c_p1, f_p0, f_p1⟩ := reads2 r_p.out
  have l_p := r_p.out.lt
  go_wp2_with fail
  refine (CF.out _ _ h_v.out).mono ?_; rintro e w2 ⟨q, rfl, hb2, -, hz⟩
  obtain ⟨gm, d0, d1, d2, d3, d4, d5, rfl, he, -, r_m⟩ := hz h0.out
  simp only [List.cons.injEq, and_true] at he
  obtain ⟨rfl, rfl, rfl, rfl, rfl, rfl⟩ := he
  rw [h0.out]
  have B0 := Lib.hid (below_next hbk.out hb2)
  replace HW := Lib.hid (HW.out.keep hb2)
  clear c_p0 c_p1 f_p0 f_p1 l_p
  clear hb2 CF hbk r_p BB h_v hz h0
  obtain ⟨cp0, cp1⟩ := P.out _ B0.out
  go_wp2_with fail
  clear cp0 cp1
  have hgm : gm ≠ g := by
    obtain ⟨a0, a1, a2, a3, a4, a5, b0, b1, b2, b3, b4, b5, h1, -, -⟩ := HW.out
    exact AtB.apart h1 r_m (by decide)
  have R0 := Lib.hid r_m
  clear r_m
  go_loopw [11, 12, 13, 14, 15, 16, 17] (fun s _ _ _ _ _ _ wr => ∃ (k : Nat) (X : Int), s = .int .i64 k ∧ (k : Int) ≤ 3000 ∧ Hid (X = min (x + (k : Int)) 1048577) ∧ Hid (WKM wr g X y c0 c1 c2 c3 c4 c5 ∧ AtB wr gm #[.int .i64 (65536 * c4), .int .i64 (-65536 * c1), .int .i64 (c1 * c5 - c4 * c2), .int .i64 (-65536 * c3), .int .i64 (65536 * c0), .int .i64 (c3 * c2 - c0 * c5), .int .i64 (detI c0 c1 c3 c4)] AT ∧ Below w0.heap.size w0 wr)) (fun s _ _ _ _ _ _ _ => 3001 - (intOf s).toNat)
  case atStart => exact ⟨0, x, rfl, by omega, (by show _ = _; omega), ⟨HW.out, R0.out, B0.out⟩⟩
  case round =>
    clear HW B0 R0
    obtain ⟨k, X, rfl, hk, hX, hinv⟩ := hrel
    obtain ⟨HW, R0, B0⟩ := hinv.out
    replace HW := Lib.hid HW; replace B0 := Lib.hid B0; replace R0 := Lib.hid R0
    clear hinv
    by_cases q1 : n < 3000
    · have q2 : ¬ 3000 < n := by omega
      by_cases hlt : (k : Int) < n
      · skip
        go_wp2_with fail
        have hXo := hX.out
        by_cases hY : X ≤ 1048576
        · have hr : rightI (x + (k : Int)) y 1 = true := rightI_iff.2 ⟨⟨by omega, by omega⟩, hy, by omega, by omega⟩
          obtain ⟨U, hU⟩ : ∃ U, U = plU (65536 * c4) (-65536 * c1) (c1 * c5 - c4 * c2) (detI c0 c1 c3 c4) X y 1 := ⟨_, rfl⟩
          obtain ⟨V, hV⟩ : ∃ V, V = plU (-65536 * c3) (65536 * c0) (c3 * c2 - c0 * c5) (detI c0 c1 c3 c4) X y 1 := ⟨_, rfl⟩
          have CN := Lib.hid (fun w1 h1 h2 h3 => wkmNextm g X y c0 c1 c2 c3 c4 c5 hM ⟨by omega, hY⟩ hy w0 w1 h1 hg h2 gm (afCells c0 c1 c2 c3 c4 c5) AT hgm h3)
          have CM := Lib.hid (fun w1 hm => afat_ok gm _ _ _ _ _ _ _ (x + (k : Int)) y 1 hr hM.lines.1 hM.lines.2 w1 hm)
          have eX : x + (k : Int) = X := by omega
          rw [eX] at CM
          replace eX := Lib.hid eX
          have hX0 : -1048576 ≤ X := by omega
          unfold GiveU at CN
          rw [← hU, ← hV] at CN CM
          clear hU hV hr hXo
          refine (CN.out _ B0.out HW.out R0.out).mono ?_; rintro e w6 ⟨rfl, hb2, hw2, hm2⟩
          obtain ⟨cp0, cp1⟩ := P.out _ hb2
          have HM2 := Lib.hid hm2
          have HW2 := Lib.hid hw2; have B2 := Lib.hid hb2
          clear hb2 hw2 hm2 CN
          go_wp2_with fail
          rw [eX.out]
          refine (CM.out _ HM2.out).mono ?_; rintro e w7 ⟨rfl, hb3⟩
          have B3 := Lib.hid (below_next B2.out hb3)
          have HW3 := Lib.hid (HW2.out.keep hb3)
          have HM3 := Lib.hid (HM2.out.keep hb3)
          clear hb3 cp0 cp1 CM
          go_wp2_with fail
          go_roundw
          case rel => exact ⟨k + 1, X + 1, by go_num, by omega, (by have := hX.out; show _ = _; omega), ⟨HW3.out, HM3.out, B3.out⟩⟩
          case measure => simp [intOf]; omega
        · have hr : rightI (x + (k : Int)) y 1 = false := by
            have := rightI_iff (px := x + (k : Int)) (py := y) (d := 1)
            cases h : rightI (x + (k : Int)) y 1
            · rfl
            · exact absurd (this.1 h).1.2 (by omega)
          have CM := Lib.hid (fun w1 => afat_bad gm (x + (k : Int)) y 1 hr w1)
          clear hr
          have hX1 : 1048576 < X := by omega
          clear hXo
          obtain ⟨cp0, cp1⟩ := P.out _ B0.out
          refine (wkmEnd g X y c0 c1 c2 c3 c4 c5 (by omega) _ HW.out).mono ?_; rintro e w6 ⟨rfl, rfl⟩
          go_wp2_with fail
          refine (CM.out _).mono ?_; rintro e w7 ⟨rfl, rfl⟩
          go_wp2_with fail
          go_roundw
          case rel => exact ⟨k + 1, X, by go_num, by omega, (by have := hX.out; show _ = _; omega), ⟨HW.out, R0.out, B0.out⟩⟩
          case measure => simp [intOf]; omega
      · skip
        go_wp2_with fail
        refine (CA.out _).mono ?_; rintro e w5 ⟨rfl, hb⟩
        go_wp2_with fail
        go_ret
        exact ⟨rfl, below_next (below_next BW.out B0.out) hb⟩
    · by_cases q2 : 3000 < n
      · by_cases hlt : (k : Int) < 3000
        · skip
          go_wp2_with fail
          have hXo := hX.out
          by_cases hY : X ≤ 1048576
          · have hr : rightI (x + (k : Int)) y 1 = true := rightI_iff.2 ⟨⟨by omega, by omega⟩, hy, by omega, by omega⟩
            obtain ⟨U, hU⟩ : ∃ U, U = plU (65536 * c4) (-65536 * c1) (c1 * c5 - c4 * c2) (detI c0 c1 c3 c4) X y 1 := ⟨_, rfl⟩
            obtain ⟨V, hV⟩ : ∃ V, V = plU (-65536 * c3) (65536 * c0) (c3 * c2 - c0 * c5) (detI c0 c1 c3 c4) X y 1 := ⟨_, rfl⟩
            have CN := Lib.hid (fun w1 h1 h2 h3 => wkmNextm g X y c0 c1 c2 c3 c4 c5 hM ⟨by omega, hY⟩ hy w0 w1 h1 hg h2 gm (afCells c0 c1 c2 c3 c4 c5) AT hgm h3)
            have CM := Lib.hid (fun w1 hm => afat_ok gm _ _ _ _ _ _ _ (x + (k : Int)) y 1 hr hM.lines.1 hM.lines.2 w1 hm)
            have eX : x + (k : Int) = X := by omega
            rw [eX] at CM
            replace eX := Lib.hid eX
            have hX0 : -1048576 ≤ X := by omega
            unfold GiveU at CN
            rw [← hU, ← hV] at CN CM
            clear hU hV hr hXo
            refine (CN.out _ B0.out HW.out R0.out).mono ?_; rintro e w6 ⟨rfl, hb2, hw2, hm2⟩
            obtain ⟨cp0, cp1⟩ := P.out _ hb2
            have HM2 := Lib.hid hm2
            have HW2 := Lib.hid hw2; have B2 := Lib.hid hb2
            clear hb2 hw2 hm2 CN
            go_wp2_with fail
            rw [eX.out]
            refine (CM.out _ HM2.out).mono ?_; rintro e w7 ⟨rfl, hb3⟩
            have B3 := Lib.hid (below_next B2.out hb3)
            have HW3 := Lib.hid (HW2.out.keep hb3)
            have HM3 := Lib.hid (HM2.out.keep hb3)
            clear hb3 cp0 cp1 CM
            go_wp2_with fail
            go_roundw
            case rel => exact ⟨k + 1, X + 1, by go_num, by omega, (by have := hX.out; show _ = _; omega), ⟨HW3.out, HM3.out, B3.out⟩⟩
            case measure => simp [intOf]; omega
          · have hr : rightI (x + (k : Int)) y 1 = false := by
              have := rightI_iff (px := x + (k : Int)) (py := y) (d := 1)
              cases h : rightI (x + (k : Int)) y 1
              · rfl
              · exact absurd (this.1 h).1.2 (by omega)
            have CM := Lib.hid (fun w1 => afat_bad gm (x + (k : Int)) y 1 hr w1)
            clear hr
            have hX1 : 1048576 < X := by omega
            clear hXo
            obtain ⟨cp0, cp1⟩ := P.out _ B0.out
            refine (wkmEnd g X y c0 c1 c2 c3 c4 c5 (by omega) _ HW.out).mono ?_; rintro e w6 ⟨rfl, rfl⟩
            go_wp2_with fail
            refine (CM.out _).mono ?_; rintro e w7 ⟨rfl, rfl⟩
            go_wp2_with fail
            go_roundw
            case rel => exact ⟨k + 1, X, by go_num, by omega, (by have := hX.out; show _ = _; omega), ⟨HW.out, R0.out, B0.out⟩⟩
            case measure => simp [intOf]; omega
        · skip
          go_wp2_with fail
          refine (CA.out _).mono ?_; rintro e w5 ⟨rfl, hb⟩
          go_wp2_with fail
          go_ret
          exact ⟨rfl, below_next (below_next BW.out B0.out) hb⟩
      · obtain rfl : n = 3000 := by omega
        by_cases hlt : (k : Int) < 3000
        · skip
          go_wp2_with fail
          have hXo := hX.out
          by_cases hY : X ≤ 1048576
          · have hr : rightI (x + (k : Int)) y 1 = true := rightI_iff.2 ⟨⟨by omega, by omega⟩, hy, by omega, by omega⟩
            obtain ⟨U, hU⟩ : ∃ U, U = plU (65536 * c4) (-65536 * c1) (c1 * c5 - c4 * c2) (detI c0 c1 c3 c4) X y 1 := ⟨_, rfl⟩
            obtain ⟨V, hV⟩ : ∃ V, V = plU (-65536 * c3) (65536 * c0) (c3 * c2 - c0 * c5) (detI c0 c1 c3 c4) X y 1 := ⟨_, rfl⟩
            have CN := Lib.hid (fun w1 h1 h2 h3 => wkmNextm g X y c0 c1 c2 c3 c4 c5 hM ⟨by omega, hY⟩ hy w0 w1 h1 hg h2 gm (afCells c0 c1 c2 c3 c4 c5) AT hgm h3)
            have CM := Lib.hid (fun w1 hm => afat_ok gm _ _ _ _ _ _ _ (x + (k : Int)) y 1 hr hM.lines.1 hM.lines.2 w1 hm)
            have eX : x + (k : Int) = X := by omega
            rw [eX] at CM
            replace eX := Lib.hid eX
            have hX0 : -1048576 ≤ X := by omega
            unfold GiveU at CN
            rw [← hU, ← hV] at CN CM
            clear hU hV hr hXo
            refine (CN.out _ B0.out HW.out R0.out).mono ?_; rintro e w6 ⟨rfl, hb2, hw2, hm2⟩
            obtain ⟨cp0, cp1⟩ := P.out _ hb2
            have HM2 := Lib.hid hm2
            have HW2 := Lib.hid hw2; have B2 := Lib.hid hb2
            clear hb2 hw2 hm2 CN
            go_wp2_with fail
            rw [eX.out]
            refine (CM.out _ HM2.out).mono ?_; rintro e w7 ⟨rfl, hb3⟩
            have B3 := Lib.hid (below_next B2.out hb3)
            have HW3 := Lib.hid (HW2.out.keep hb3)
            have HM3 := Lib.hid (HM2.out.keep hb3)
            clear hb3 cp0 cp1 CM
            go_wp2_with fail
            go_roundw
            case rel => exact ⟨k + 1, X + 1, by go_num, by omega, (by have := hX.out; show _ = _; omega), ⟨HW3.out, HM3.out, B3.out⟩⟩
            case measure => simp [intOf]; omega
          · have hr : rightI (x + (k : Int)) y 1 = false := by
              have := rightI_iff (px := x + (k : Int)) (py := y) (d := 1)
              cases h : rightI (x + (k : Int)) y 1
              · rfl
              · exact absurd (this.1 h).1.2 (by omega)
            have CM := Lib.hid (fun w1 => afat_bad gm (x + (k : Int)) y 1 hr w1)
            clear hr
            have hX1 : 1048576 < X := by omega
            clear hXo
            obtain ⟨cp0, cp1⟩ := P.out _ B0.out
            refine (wkmEnd g X y c0 c1 c2 c3 c4 c5 (by omega) _ HW.out).mono ?_; rintro e w6 ⟨rfl, rfl⟩
            go_wp2_with fail
            refine (CM.out _).mono ?_; rintro e w7 ⟨rfl, rfl⟩
            go_wp2_with fail
            go_roundw
            case rel => exact ⟨k + 1, X, by go_num, by omega, (by have := hX.out; show _ = _; omega), ⟨HW.out, R0.out, B0.out⟩⟩
            case measure => simp [intOf]; omega
        · skip
          go_wp2_with fail
          refine (CA.out _).mono ?_; rintro e w5 ⟨rfl, hb⟩
          go_wp2_with fail
          go_ret
          exact ⟨rfl, below_next (below_next BW.out B0.out) hb⟩

theorem ddaSame_any (u : Value) (zs : List Int) (x y n : Int) (hx : I64 x) (hy : I64 y) (iN : I64 n) (w : World) (hu : IS w u zs) :
    Calls Try.prog 10 #[u, .agg #[.int .i64 x, .int .i64 y], .int .i64 n] w fun e w' => e = .returned (.bool true) ∧ Below w.heap.size w w' := by
  by_cases hC : ddC zs x y = 0
  · have h0 : afC zs = 0 := by
      unfold ddC at hC
      split at hC
      · assumption
      · exact absurd hC ‹_›
    obtain ⟨c0, c1, c2, c3, c4, c5, rfl, -⟩ := afC_zero h0
    exact ddaSame_ok u x y c0 c1 c2 c3 c4 c5 n iN hC w hu
  · exact ddaSame_no u zs x y n hC w hu

end Go.Proofs.Ytbldgbenlmjmjaa
