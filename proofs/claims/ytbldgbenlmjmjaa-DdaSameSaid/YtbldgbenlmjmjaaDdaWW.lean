/- The walk of DdaWalks. -/
import Derived.Test.YtbldgbenlmjmjaaDda6
set_option linter.unusedVariables false
set_option linter.unusedSimpArgs false
namespace Go.Proofs.Ytbldgbenlmjmjaa
open Go.RowKit
abbrev A2T : TypeId := 72

theorem is_ints {w : World} {v : Value} {zs : List Int} (h : IS w v zs) (i : Nat) : I64 (zs.getD i 0) := by
  obtain ⟨A, cap, rfl, h1, h2, h3, -⟩ := h
  by_cases hi : i < zs.length
  · rw [List.getD_eq_getElem?_getD, List.getElem?_eq_getElem hi]; exact h3 _ (List.getElem_mem hi)
  · rw [List.getD_eq_getElem?_getD, List.getElem?_eq_none (by omega)]; exact ⟨by simp, by simp⟩
set_option maxRecDepth 100000 in
theorem ddaWalks_long (A B : Option Addr) (n m uc vc : Nat) (x y : Int) (h : 60 < n ∨ 60 < m) (w : World) :
    Calls Try.prog 11 #[.slice A n uc, .agg #[.int .i64 x, .int .i64 y], .slice B m vc] w fun e w' => e = .returned (.bool true) ∧ Below w.heap.size w w' := by
  by_cases h1 : 60 < n
  · clear h
    go_enter Try.func11, Try.ntmps11
    go_wp2_with fail
    have BB := start1 w #[.int .i64 x, .int .i64 y] A2T
    obtain ⟨BB, hsz, r_p⟩ := BB
    generalize (w.alloc (.cells #[.int .i64 x, .int .i64 y] A2T)) = w0 at *
    replace BB := Lib.hid BB
    replace r_p := Lib.hid r_p
    clear hsz
    go_ret
    exact ⟨rfl, BB.out⟩
  · have h2 : 60 < m := by omega
    clear h
    go_enter Try.func11, Try.ntmps11
    go_wp2_with fail
    have BB := start1 w #[.int .i64 x, .int .i64 y] A2T
    obtain ⟨BB, hsz, r_p⟩ := BB
    generalize (w.alloc (.cells #[.int .i64 x, .int .i64 y] A2T)) = w0 at *
    replace BB := Lib.hid BB
    replace r_p := Lib.hid r_p
    clear hsz
    go_ret
    exact ⟨rfl, BB.out⟩

set_option maxRecDepth 100000 in
set_option maxHeartbeats 4000000 in
theorem ddaWalks_no (A B : Option Addr) (zs : List Int) (m uc vc : Nat) (x y : Int) (hn : zs.length ≤ 60) (hm : m ≤ 60) (hC : ddC zs x y ≠ 0) (w : World) (hv : IS w (.slice A zs.length uc) zs) :
    Calls Try.prog 11 #[.slice A zs.length uc, .agg #[.int .i64 x, .int .i64 y], .slice B m vc] w fun e w' => e = .returned (.bool true) ∧ Below w.heap.size w w' := by
  have CN := Lib.hid (fun v w hv => ddnew v zs x y w hv)
  have CC := Lib.hid (fun v w hv => ddcode v zs x y w hv)
  have hv := Lib.hid hv
  have CA := Lib.hid (fun w => alive34 w)
  have N1 := Lib.hid (fun w => ddNext_nil w)
  have N2 := Lib.hid (fun w => ddSkip_nil 0 w)
  have N3 := Lib.hid (fun w => ddx_nil w)
  have HN : Hid (∀ q : Value, (ddC zs x y ≠ 0 → q = .pointer none) → q = .pointer none) := fun q h => h hC
  have hne : ¬ ddC zs x y = 0 := hC
  clear hC
  go_enter Try.func11, Try.ntmps11
  go_wp2_with fail
  have BB := start1 w #[.int .i64 x, .int .i64 y] A2T
  obtain ⟨BB, hsz, r_p⟩ := BB
  generalize (w.alloc (.cells #[.int .i64 x, .int .i64 y] A2T)) = w0 at *
  replace BB := Lib.hid BB
  replace r_p := Lib.hid r_p
  clear hsz
  have h_v := Lib.hid (hv.out.below BB.out)
  refine (CN.out _ _ h_v.out).mono ?_
  rintro e w1 ⟨q, rfl, hb, hn', -⟩
  replace r_p := Lib.hid (r_p.out.keep hb)
  replace h_v := Lib.hid (IS.below h_v.out hb)
  replace BB := Lib.hid (below_next BB.out hb)
  clear hb
  obtain rfl := HN.out _ hn'
  clear hn' HN
  obtain ⟨c_p0, c_p1, f_p0, f_p1⟩ := reads2 r_p.out
  have l_p := r_p.out.lt
  go_wp2_with fail
  refine (CC.out _ _ h_v.out).mono ?_
  rintro e w9 ⟨rfl, m_q, rfl⟩
  have hb := below_drawn (Below.refl w1.heap.size w1) m_q
  generalize w1.drewN m_q = w2 at *
  clear c_p0 c_p1 f_p0 f_p1 l_p
  replace r_p := Lib.hid (r_p.out.keep hb)
  replace h_v := Lib.hid (IS.below h_v.out hb)
  replace BB := Lib.hid (below_next BB.out hb)
  clear hb
  clear CC CN
  generalize ddC zs x y = C at *
  have hq : (C == 0) = false := by simpa using hne
  have hq2 : (C != 0) = true := by simpa using hne
  clear hne
  go_wp2_with fail
  refine (N1.out _).mono ?_
  rintro e w9 ⟨rfl, rfl⟩
  go_wp2_with fail
  refine (N2.out _).mono ?_
  rintro e w9 ⟨rfl, rfl⟩
  go_wp2_with fail
  refine (N3.out _).mono ?_
  rintro e w9 ⟨rfl, rfl⟩
  go_wp2_with fail
  refine (CA.out _).mono ?_
  rintro e w3 ⟨rfl, hb⟩
  replace r_p := Lib.hid (r_p.out.keep hb)
  replace h_v := Lib.hid (IS.below h_v.out hb)
  replace BB := Lib.hid (below_next BB.out hb)
  clear hb
  go_wp2_with fail
  go_ret
  exact ⟨rfl, BB.out⟩

set_option maxRecDepth 100000 in
set_option maxHeartbeats 16000000 in
theorem ddaWalks_ok (A B : Option Addr) (m uc vc : Nat) (f : Nat → Int) (x y c0 c1 c2 c3 c4 c5 : Int) (hm : m ≤ 60) (hC : ddC [c0, c1, c2, c3, c4, c5] x y = 0) (w : World) (hv : IS w (.slice A 6 uc) [c0, c1, c2, c3, c4, c5])
    (hu : 0 < m → ∃ b off, B = some ⟨b, off, none⟩ ∧ b < w.heap.size ∧ ∀ i, i < m → w.cell? ⟨b, off + i, none⟩ = some (.int .i64 (f i))) (hf : ∀ i, I64 (f i)) :
    Calls Try.prog 11 #[.slice A 6 uc, .agg #[.int .i64 x, .int .i64 y], .slice B m vc] w fun e w' => e = .returned (.bool true) ∧ Below w.heap.size w w' := by
  have CN := Lib.hid (fun v w hv => ddnew v [c0, c1, c2, c3, c4, c5] x y w hv)
  have CC := Lib.hid (fun v w hv => ddcode v [c0, c1, c2, c3, c4, c5] x y w hv)
  have hv := Lib.hid hv
  have hu := Lib.hid hu
  have HF := Lib.hid hf
  have CA := Lib.hid (fun w => alive34 w)
  have HC := Lib.hid hC
  rw [hC] at CC
  clear hC hf
  go_enter Try.func11, Try.ntmps11
  go_wp2_with fail
  have BB := start1 w #[.int .i64 x, .int .i64 y] A2T
  obtain ⟨BB, hsz, r_p⟩ := BB
  generalize (w.alloc (.cells #[.int .i64 x, .int .i64 y] A2T)) = w0 at *
  replace BB := Lib.hid BB
  replace r_p := Lib.hid r_p
  clear hsz
  have h_v := Lib.hid (hv.out.below BB.out)
  have HU := Lib.hid (fun h => by
    obtain ⟨b, off, e, h1, h2⟩ := hu.out h
    exact (⟨b, off, e, Nat.lt_of_lt_of_le h1 BB.out.size, fun i hi => (BB.out.cell (p := ⟨b, off + i, none⟩) h1).trans (h2 i hi)⟩ : ∃ b off, B = some ⟨b, off, none⟩ ∧ b < w0.heap.size ∧ ∀ i, i < m → w0.cell? ⟨b, off + i, none⟩ = some (.int .i64 (f i))))
  have BW := BB
  have V0 := h_v
  have P := Lib.hid (fun (w9 : World) (h : Below w0.heap.size w0 w9) => cells2 (r_p.out.keep h))
  clear hu hv
  refine (CN.out _ _ h_v.out).mono ?_
  rintro e w1 ⟨q, rfl, hb, -, hz⟩
  have hbk := Lib.hid hb
  replace r_p := Lib.hid (r_p.out.keep hb)
  replace h_v := Lib.hid (IS.below h_v.out hb)
  replace BB := Lib.hid (below_next BB.out hb)
  clear hb
  obtain ⟨g, d0, d1, d2, d3, d4, d5, rfl, hg, he, hM, hx, hy, hw⟩ := hz HC.out
  simp only [List.cons.injEq, and_true] at he
  obtain ⟨rfl, rfl, rfl, rfl, rfl, rfl⟩ := he
  rw [HC.out]
  clear hz CN HC
  have HW := Lib.hid hw
  clear hw
  obtain ⟨c_p0, c_p1, f_p0, f_p1⟩ := reads2 r_p.out
  have l_p := r_p.out.lt
  go_wp2_with fail
  refine (CC.out _ _ h_v.out).mono ?_; rintro e w2 ⟨rfl, mm, rfl⟩
  have hb2 := below_drawn (Below.refl w1.heap.size w1) mm
  have B0 := Lib.hid (below_next hbk.out hb2)
  replace HW := Lib.hid (HW.out.keep hb2)
  clear c_p0 c_p1 f_p0 f_p1 l_p
  clear hb2 CC hbk r_p BB h_v
  generalize w1.drewN mm = w2 at *
  obtain ⟨cp0, cp1⟩ := P.out _ B0.out
  go_wp2_with fail
  clear cp0 cp1
  go_loopw [13, 15, 16, 17, 18, 19, 20, 21, 90] (fun s _ _ _ _ _ _ _ i wr => ∃ (k : Nat) (X : Int), k ≤ m ∧ s = .int .i64 X ∧ i = .int .i64 k ∧ (-1048576 ≤ X ∧ X ≤ 1048577) ∧ Hid (WKM wr g X y c0 c1 c2 c3 c4 c5 ∧ Below w0.heap.size w0 wr)) (fun _ _ _ _ _ _ _ _ i _ => m - (intOf i).toNat)
  case atStart => exact ⟨0, x, by omega, rfl, rfl, by omega, ⟨HW.out, B0.out⟩⟩
  case round =>
    clear HW B0
    obtain ⟨k, X, hk, rfl, rfl, hX, hinv⟩ := hrel
    obtain ⟨HW, B0⟩ := hinv.out
    replace HW := Lib.hid HW; replace B0 := Lib.hid B0
    clear hinv
    by_cases hlt : k < m
    · obtain ⟨b, off, rfl, hb0, hc⟩ := HU.out (by omega)
      have c1' := (B0.out.cell (p := ⟨b, off + k, none⟩) hb0).trans (hc k hlt)
      obtain ⟨p0, p1⟩ := P.out _ B0.out
      have i0 : (0 : Int) ≤ (k : Int) := by omega
      have i1 : (k : Int) < (m : Int) := by omega
      have is := HF.out k
      clear HU hc HF
      generalize f k = s at *
      by_cases hs : 0 ≤ s ∧ s ≤ 1048577 - X
      · have d1 : decide (s ≥ 0) = true := decide_eq_true hs.1
        have d2 : decide (s ≤ 4194304) = true := decide_eq_true (by omega)
        have dY : decide (X + s ≤ 1048577) = true := decide_eq_true (by omega)
        go_wp2_with fail
        refine (wkmSkip g X y c0 c1 c2 c3 c4 c5 s hM hX hy hs w0 _ B0.out hg HW.out).mono ?_; rintro e w5 ⟨rfl, hb, hw⟩
        have HW1 := Lib.hid hw; have B1 := Lib.hid hb
        have hYX : -1048576 ≤ X + s ∧ X + s ≤ 1048577 := by omega
        clear hw hb c1' p0 p1 HW B0 is d1 d2
        go_wp2_with fail
        by_cases hY : (X + s) ≤ 1048576
        · have d3 : decide ((X + s) ≤ 1048576) = true := decide_eq_true hY
          obtain ⟨U, hU⟩ : ∃ U, U = plU (65536 * c4) (-65536 * c1) (c1 * c5 - c4 * c2) (detI c0 c1 c3 c4) (X + s) y 1 := ⟨_, rfl⟩
          obtain ⟨V, hV⟩ : ∃ V, V = plU (-65536 * c3) (65536 * c0) (c3 * c2 - c0 * c5) (detI c0 c1 c3 c4) (X + s) y 1 := ⟨_, rfl⟩
          have CN := Lib.hid (fun w1 h1 h2 => wkmNext g (X + s) y c0 c1 c2 c3 c4 c5 hM ⟨by omega, hY⟩ hy w0 w1 h1 hg h2)
          have CR := Lib.hid (fun w1 h1 => rat18 (.slice A 6 uc) c0 c1 c2 c3 c4 c5 (X + s) y 1 hM (rightI_iff.2 ⟨⟨by omega, hY⟩, hy, by omega, by omega⟩) w1 h1)
          unfold GiveU at CN
          rw [← hU, ← hV] at CN CR
          clear hU hV
          refine (CN.out _ B1.out HW1.out).mono ?_; rintro e w6 ⟨rfl, hb2, hw2⟩
          obtain ⟨cp0, cp1⟩ := P.out _ hb2
          have HV := Lib.hid (V0.out.below hb2)
          have HW2 := Lib.hid hw2; have B2 := Lib.hid hb2
          clear hb2 hw2 CN
          go_wp2_with fail
          refine (CR.out _ HV.out).mono ?_; rintro e w7 ⟨rfl, hb3⟩
          have B3 := Lib.hid (below_next B2.out hb3)
          have HW3 := Lib.hid (HW2.out.keep hb3)
          clear hb3 cp0 cp1 CR
          go_wp2_with fail
          refine (wkmX g ((X + s) + 1) y c0 c1 c2 c3 c4 c5 _ HW3.out).mono ?_; rintro e w8 ⟨rfl, rfl⟩
          go_wp2_with fail
          go_roundw
          case rel => exact ⟨k + 1, (X + s) + 1, by omega, by go_num, by go_num, by omega, ⟨HW3.out, B3.out⟩⟩
          case measure => simp [intOf]; omega
        · have d3 : decide ((X + s) ≤ 1048576) = false := decide_eq_false hY
          refine (wkmEnd g (X + s) y c0 c1 c2 c3 c4 c5 (by omega) _ HW1.out).mono ?_; rintro e w6 ⟨rfl, rfl⟩
          go_wp2_with fail
          refine (wkmX g (X + s) y c0 c1 c2 c3 c4 c5 _ HW1.out).mono ?_; rintro e w8 ⟨rfl, rfl⟩
          go_wp2_with fail
          go_roundw
          case rel => exact ⟨k + 1, (X + s), by omega, by go_num, by go_num, by omega, ⟨HW1.out, B1.out⟩⟩
          case measure => simp [intOf]; omega
      · by_cases h1 : s < 0
        · have d1 : decide (s ≥ 0) = false := decide_eq_false (by omega)
          go_wp2_with fail
          refine (wkmSkip_no g X y c0 c1 c2 c3 c4 c5 s hM hX hy (by omega) _ HW.out).mono ?_; rintro e w5 ⟨rfl, rfl⟩
          have HW1 := HW; have B1 := B0
          clear c1' p0 p1
          go_wp2_with fail
          by_cases hY : X ≤ 1048576
          · have d3 : decide (X ≤ 1048576) = true := decide_eq_true hY
            obtain ⟨U, hU⟩ : ∃ U, U = plU (65536 * c4) (-65536 * c1) (c1 * c5 - c4 * c2) (detI c0 c1 c3 c4) X y 1 := ⟨_, rfl⟩
            obtain ⟨V, hV⟩ : ∃ V, V = plU (-65536 * c3) (65536 * c0) (c3 * c2 - c0 * c5) (detI c0 c1 c3 c4) X y 1 := ⟨_, rfl⟩
            have CN := Lib.hid (fun w1 h1 h2 => wkmNext g X y c0 c1 c2 c3 c4 c5 hM ⟨by omega, hY⟩ hy w0 w1 h1 hg h2)
            have CR := Lib.hid (fun w1 h1 => rat18 (.slice A 6 uc) c0 c1 c2 c3 c4 c5 X y 1 hM (rightI_iff.2 ⟨⟨by omega, hY⟩, hy, by omega, by omega⟩) w1 h1)
            unfold GiveU at CN
            rw [← hU, ← hV] at CN CR
            clear hU hV
            refine (CN.out _ B1.out HW1.out).mono ?_; rintro e w6 ⟨rfl, hb2, hw2⟩
            obtain ⟨cp0, cp1⟩ := P.out _ hb2
            have HV := Lib.hid (V0.out.below hb2)
            have HW2 := Lib.hid hw2; have B2 := Lib.hid hb2
            clear hb2 hw2 CN
            go_wp2_with fail
            refine (CR.out _ HV.out).mono ?_; rintro e w7 ⟨rfl, hb3⟩
            have B3 := Lib.hid (below_next B2.out hb3)
            have HW3 := Lib.hid (HW2.out.keep hb3)
            clear hb3 cp0 cp1 CR
            go_wp2_with fail
            refine (wkmX g (X + 1) y c0 c1 c2 c3 c4 c5 _ HW3.out).mono ?_; rintro e w8 ⟨rfl, rfl⟩
            go_wp2_with fail
            go_roundw
            case rel => exact ⟨k + 1, X + 1, by omega, by go_num, by go_num, by omega, ⟨HW3.out, B3.out⟩⟩
            case measure => simp [intOf]; omega
          · have d3 : decide (X ≤ 1048576) = false := decide_eq_false hY
            refine (wkmEnd g X y c0 c1 c2 c3 c4 c5 (by omega) _ HW1.out).mono ?_; rintro e w6 ⟨rfl, rfl⟩
            go_wp2_with fail
            refine (wkmX g X y c0 c1 c2 c3 c4 c5 _ HW1.out).mono ?_; rintro e w8 ⟨rfl, rfl⟩
            go_wp2_with fail
            go_roundw
            case rel => exact ⟨k + 1, X, by omega, by go_num, by go_num, by omega, ⟨HW1.out, B1.out⟩⟩
            case measure => simp [intOf]; omega
        · have d1 : decide (s ≥ 0) = true := decide_eq_true (by omega)
          by_cases h2 : s ≤ 4194304
          · have d2 : decide (s ≤ 4194304) = true := decide_eq_true h2
            have dY : decide (X + s ≤ 1048577) = false := decide_eq_false (by omega)
            go_wp2_with fail
            refine (wkmSkip_no g X y c0 c1 c2 c3 c4 c5 s hM hX hy (by omega) _ HW.out).mono ?_; rintro e w5 ⟨rfl, rfl⟩
            have HW1 := HW; have B1 := B0
            clear c1' p0 p1
            go_wp2_with fail
            by_cases hY : X ≤ 1048576
            · have d3 : decide (X ≤ 1048576) = true := decide_eq_true hY
              obtain ⟨U, hU⟩ : ∃ U, U = plU (65536 * c4) (-65536 * c1) (c1 * c5 - c4 * c2) (detI c0 c1 c3 c4) X y 1 := ⟨_, rfl⟩
              obtain ⟨V, hV⟩ : ∃ V, V = plU (-65536 * c3) (65536 * c0) (c3 * c2 - c0 * c5) (detI c0 c1 c3 c4) X y 1 := ⟨_, rfl⟩
              have CN := Lib.hid (fun w1 h1 h2 => wkmNext g X y c0 c1 c2 c3 c4 c5 hM ⟨by omega, hY⟩ hy w0 w1 h1 hg h2)
              have CR := Lib.hid (fun w1 h1 => rat18 (.slice A 6 uc) c0 c1 c2 c3 c4 c5 X y 1 hM (rightI_iff.2 ⟨⟨by omega, hY⟩, hy, by omega, by omega⟩) w1 h1)
              unfold GiveU at CN
              rw [← hU, ← hV] at CN CR
              clear hU hV
              refine (CN.out _ B1.out HW1.out).mono ?_; rintro e w6 ⟨rfl, hb2, hw2⟩
              obtain ⟨cp0, cp1⟩ := P.out _ hb2
              have HV := Lib.hid (V0.out.below hb2)
              have HW2 := Lib.hid hw2; have B2 := Lib.hid hb2
              clear hb2 hw2 CN
              go_wp2_with fail
              refine (CR.out _ HV.out).mono ?_; rintro e w7 ⟨rfl, hb3⟩
              have B3 := Lib.hid (below_next B2.out hb3)
              have HW3 := Lib.hid (HW2.out.keep hb3)
              clear hb3 cp0 cp1 CR
              go_wp2_with fail
              refine (wkmX g (X + 1) y c0 c1 c2 c3 c4 c5 _ HW3.out).mono ?_; rintro e w8 ⟨rfl, rfl⟩
              go_wp2_with fail
              go_roundw
              case rel => exact ⟨k + 1, X + 1, by omega, by go_num, by go_num, by omega, ⟨HW3.out, B3.out⟩⟩
              case measure => simp [intOf]; omega
            · have d3 : decide (X ≤ 1048576) = false := decide_eq_false hY
              refine (wkmEnd g X y c0 c1 c2 c3 c4 c5 (by omega) _ HW1.out).mono ?_; rintro e w6 ⟨rfl, rfl⟩
              go_wp2_with fail
              refine (wkmX g X y c0 c1 c2 c3 c4 c5 _ HW1.out).mono ?_; rintro e w8 ⟨rfl, rfl⟩
              go_wp2_with fail
              go_roundw
              case rel => exact ⟨k + 1, X, by omega, by go_num, by go_num, by omega, ⟨HW1.out, B1.out⟩⟩
              case measure => simp [intOf]; omega
          · have d2 : decide (s ≤ 4194304) = false := decide_eq_false h2
            go_wp2_with fail
            refine (wkmSkip_no g X y c0 c1 c2 c3 c4 c5 s hM hX hy (by omega) _ HW.out).mono ?_; rintro e w5 ⟨rfl, rfl⟩
            have HW1 := HW; have B1 := B0
            clear c1' p0 p1
            go_wp2_with fail
            by_cases hY : X ≤ 1048576
            · have d3 : decide (X ≤ 1048576) = true := decide_eq_true hY
              obtain ⟨U, hU⟩ : ∃ U, U = plU (65536 * c4) (-65536 * c1) (c1 * c5 - c4 * c2) (detI c0 c1 c3 c4) X y 1 := ⟨_, rfl⟩
              obtain ⟨V, hV⟩ : ∃ V, V = plU (-65536 * c3) (65536 * c0) (c3 * c2 - c0 * c5) (detI c0 c1 c3 c4) X y 1 := ⟨_, rfl⟩
              have CN := Lib.hid (fun w1 h1 h2 => wkmNext g X y c0 c1 c2 c3 c4 c5 hM ⟨by omega, hY⟩ hy w0 w1 h1 hg h2)
              have CR := Lib.hid (fun w1 h1 => rat18 (.slice A 6 uc) c0 c1 c2 c3 c4 c5 X y 1 hM (rightI_iff.2 ⟨⟨by omega, hY⟩, hy, by omega, by omega⟩) w1 h1)
              unfold GiveU at CN
              rw [← hU, ← hV] at CN CR
              clear hU hV
              refine (CN.out _ B1.out HW1.out).mono ?_; rintro e w6 ⟨rfl, hb2, hw2⟩
              obtain ⟨cp0, cp1⟩ := P.out _ hb2
              have HV := Lib.hid (V0.out.below hb2)
              have HW2 := Lib.hid hw2; have B2 := Lib.hid hb2
              clear hb2 hw2 CN
              go_wp2_with fail
              refine (CR.out _ HV.out).mono ?_; rintro e w7 ⟨rfl, hb3⟩
              have B3 := Lib.hid (below_next B2.out hb3)
              have HW3 := Lib.hid (HW2.out.keep hb3)
              clear hb3 cp0 cp1 CR
              go_wp2_with fail
              refine (wkmX g (X + 1) y c0 c1 c2 c3 c4 c5 _ HW3.out).mono ?_; rintro e w8 ⟨rfl, rfl⟩
              go_wp2_with fail
              go_roundw
              case rel => exact ⟨k + 1, X + 1, by omega, by go_num, by go_num, by omega, ⟨HW3.out, B3.out⟩⟩
              case measure => simp [intOf]; omega
            · have d3 : decide (X ≤ 1048576) = false := decide_eq_false hY
              refine (wkmEnd g X y c0 c1 c2 c3 c4 c5 (by omega) _ HW1.out).mono ?_; rintro e w6 ⟨rfl, rfl⟩
              go_wp2_with fail
              refine (wkmX g X y c0 c1 c2 c3 c4 c5 _ HW1.out).mono ?_; rintro e w8 ⟨rfl, rfl⟩
              go_wp2_with fail
              go_roundw
              case rel => exact ⟨k + 1, X, by omega, by go_num, by go_num, by omega, ⟨HW1.out, B1.out⟩⟩
              case measure => simp [intOf]; omega
    · obtain rfl : k = m := by omega
      go_wp2_with fail
      refine (CA.out _).mono ?_; rintro e w5 ⟨rfl, hb⟩
      go_wp2_with fail
      go_ret
      exact ⟨rfl, below_next (below_next BW.out B0.out) hb⟩

theorem ddaWalks_any (u v : Value) (zs ys : List Int) (x y : Int) (hx : I64 x) (hy : I64 y) (w : World) (hu : IS w u zs) (hv : IS w v ys) :
    Calls Try.prog 11 #[u, .agg #[.int .i64 x, .int .i64 y], v] w fun e w' => e = .returned (.bool true) ∧ Below w.heap.size w w' := by
  have hv' := hv
  have hu' := hu
  obtain ⟨A, uc, rfl⟩ := hu.form
  obtain ⟨B, vc, rfl⟩ := hv.form
  by_cases h : 60 < zs.length ∨ 60 < ys.length
  · exact ddaWalks_long A B _ _ uc vc x y h w
  · by_cases hC : ddC zs x y = 0
    · have h0 : afC zs = 0 := by
        unfold ddC at hC
        split at hC
        · assumption
        · exact absurd hC ‹_›
      obtain ⟨c0, c1, c2, c3, c4, c5, rfl, -⟩ := afC_zero h0
      refine ddaWalks_ok A B ys.length uc vc (fun i => ys.getD i 0) x y c0 c1 c2 c3 c4 c5 (by omega) hC w hu' (fun hp => ?_) (is_ints hv')
      obtain ⟨b, off, cap, e, k1, k2, k3, k4⟩ := hv'.some (fun e => by rw [e] at hp; simp at hp)
      simp only [Value.slice.injEq] at e
      exact ⟨b, off, e.1, k3, k4⟩
    · exact ddaWalks_no A B zs ys.length uc vc x y (by omega) (by omega) hC w hu'

end Go.Proofs.Ytbldgbenlmjmjaa
