/- Contract of the document's Check of the lens. -/
import Derived.Test.YthdbchghhpoadaaLensR0
set_option linter.unusedVariables false
namespace Go.Proofs.Ythdbchghhpoadaa
open Go.RowKit

theorem lC_R {zs : List Int} {W H : Int} (h : lR zs ≠ 0) : lC zs W H = lR zs := by unfold lC; rw [if_pos h]
theorem lC_far {c0 c1 c2 c3 c4 c5 c6 W H : Int} (h : lR [c0, c1, c2, c3, c4, c5, c6] = 0) (hs : sizeI W H = true) :
    lC [c0, c1, c2, c3, c4, c5, c6] W H = if (farI c0 c1 c2 (-1) (-1) 2 = true ∨ farI c0 c1 c2 (2 * W - 1) (2 * H - 1) 2 = true) then 11 else 0 := by
  unfold lC; rw [if_neg (by simpa using h), if_neg (by rw [hs]; simp)]
theorem lC_size {c0 c1 c2 c3 c4 c5 c6 W H : Int} (h : lR [c0, c1, c2, c3, c4, c5, c6] = 0) (hs : ¬ (1 ≤ W ∧ W ≤ 32768 ∧ 1 ≤ H ∧ H ≤ 32768)) : lC [c0, c1, c2, c3, c4, c5, c6] W H = 30 := by
  unfold lC; rw [if_neg (by simpa using h), if_pos (by cases hx : sizeI W H; rfl; exact absurd (sizeI_iff.1 hx) hs)]
abbrev bad (x : Int) : Bool := !inI x 65536
theorem lR_bad {c0 c1 c2 c3 c4 c5 c6 : Int} (h : [c3, c4, c5, c6].any bad = true) : lR [c0, c1, c2, c3, c4, c5, c6] = 11 := if_neg (fun k => by
  have := k.2.2.2.2; rw [show (fun x => !inI x 65536) = bad from rfl, h] at this; cases this)

set_option maxRecDepth 100000 in
set_option maxHeartbeats 8000000 in
theorem rcheck (v : Value) (zs : List Int) (W H : Int) (hW : I64 W) (hH : I64 H) (w : World) (hv : IS w v zs) : Calls Try.prog 19 #[v, .int .i64 W, .int .i64 H] w fun e w' => e = .returned (.int .i64 (lC zs W H)) ∧ Below w.heap.size w w' := by
  have hl := hv.len
  by_cases h7 : zs.length = 7
  · obtain ⟨c0, c1, c2, c3, c4, c5, c6, rfl⟩ := list7 h7
    obtain ⟨b, off, cap, rfl, h1, h2, hlt, hc⟩ := hv.some (by simp)
    have CI := Lib.hid (fun x w => rin x 2147483648 (by omega) (by omega) w)
    have CJ := Lib.hid (fun x w => rin x 65536 (by omega) (by omega) w)
    have CF := Lib.hid (fun x w => rin x 262144 (by omega) (by omega) w)
    have k0 := hc 0 (by simp); have k1 := hc 1 (by simp); have k2 := hc 2 (by simp); have k3 := hc 3 (by simp); have k4 := hc 4 (by simp); have k5 := hc 5 (by simp); have k6 := hc 6 (by simp)
    simp only [List.getD_cons_zero, List.getD_cons_succ, Nat.add_zero] at k0 k1 k2 k3 k4 k5 k6
    have hcap : 7 ≤ cap := by simpa using h1
    clear hv hc h7 hl h1
    have H11 : Hid (lR [c0, c1, c2, c3, c4, c5, c6] = 11 → lC [c0, c1, c2, c3, c4, c5, c6] W H = 11) := fun h => (lC_R (by omega)).trans h
    rcases hb0 : inI c0 2147483648 with _ | _
    · have H := Lib.hid (H11.out (if_neg (by rw [hb0]; simp)))
      go_enter Try.func19, Try.ntmps19
      go_wp2_with fail
      have BB : Hid (Below w.heap.size w w) := Below.refl _ _
      refine (CI.out _ _).mono ?_
      rintro e w9 ⟨rfl, rfl⟩
      rw [hb0]
      go_wp2_with fail
      refine bodyPost_ret (v := .int .i64 11) (by unfold results; simp only [Try.results19]; go_simp) rfl ?_
      exact ⟨ret_int H.out.symm, BB.out⟩
    rcases hb1 : inI c1 2147483648 with _ | _
    · have H := Lib.hid (H11.out (if_neg (by rw [hb1]; simp)))
      go_enter Try.func19, Try.ntmps19
      go_wp2_with fail
      have BB : Hid (Below w.heap.size w w) := Below.refl _ _
      refine (CI.out _ _).mono ?_
      rintro e w9 ⟨rfl, rfl⟩
      rw [hb0]
      go_wp2_with fail
      refine (CI.out _ _).mono ?_
      rintro e w9 ⟨rfl, rfl⟩
      rw [hb1]
      go_wp2_with fail
      refine bodyPost_ret (v := .int .i64 11) (by unfold results; simp only [Try.results19]; go_simp) rfl ?_
      exact ⟨ret_int H.out.symm, BB.out⟩
    rcases dec_both (c2 < 1) with ⟨h, hd⟩ | ⟨h, hd⟩
    · have H := Lib.hid (H11.out (if_neg (by omega)))
      clear h
      go_enter Try.func19, Try.ntmps19
      go_wp2_with fail
      have BB : Hid (Below w.heap.size w w) := Below.refl _ _
      refine (CI.out _ _).mono ?_
      rintro e w9 ⟨rfl, rfl⟩
      rw [hb0]
      go_wp2_with fail
      refine (CI.out _ _).mono ?_
      rintro e w9 ⟨rfl, rfl⟩
      rw [hb1]
      go_wp2_with fail
      refine bodyPost_ret (v := .int .i64 11) (by unfold results; simp only [Try.results19]; go_simp) rfl ?_
      exact ⟨ret_int H.out.symm, BB.out⟩
    rcases dec_both (c2 > 32768) with ⟨h', hd'⟩ | ⟨h', hd'⟩
    · have H := Lib.hid (H11.out (if_neg (by omega)))
      clear h h'
      go_enter Try.func19, Try.ntmps19
      go_wp2_with fail
      have BB : Hid (Below w.heap.size w w) := Below.refl _ _
      refine (CI.out _ _).mono ?_
      rintro e w9 ⟨rfl, rfl⟩
      rw [hb0]
      go_wp2_with fail
      refine (CI.out _ _).mono ?_
      rintro e w9 ⟨rfl, rfl⟩
      rw [hb1]
      go_wp2_with fail
      refine bodyPost_ret (v := .int .i64 11) (by unfold results; simp only [Try.results19]; go_simp) rfl ?_
      exact ⟨ret_int H.out.symm, BB.out⟩
    have HB : Hid ([c3, c4, c5, c6].any bad = true → lC [c0, c1, c2, c3, c4, c5, c6] W H = 11) := fun h => H11.out (lR_bad h)
    have HG : Hid ([c3, c4, c5, c6].any bad = false → lR [c0, c1, c2, c3, c4, c5, c6] = 0) := fun hany => if_pos ⟨hb0, hb1, by omega, by omega, hany⟩
    have hf := Lib.hid (show 1 ≤ c2 ∧ c2 ≤ 32768 by omega)
    have hm := Lib.hid (And.intro (inI_iff.1 hb0) (inI_iff.1 hb1))
    clear h h' H11
    go_enter Try.func19, Try.ntmps19
    go_wp2_with fail
    have BB : Hid (Below w.heap.size w w) := Below.refl _ _
    refine (CI.out _ _).mono ?_
    rintro e w9 ⟨rfl, rfl⟩
    rw [hb0]
    go_wp2_with fail
    refine (CI.out _ _).mono ?_
    rintro e w9 ⟨rfl, rfl⟩
    rw [hb1]
    go_wp2_with fail
    clear CI hb0 hb1 hd hd'
    go_loop [7] (fun i => ∃ j : Nat, j ≤ 4 ∧ i = .int .i64 ((j : Int) + 3) ∧ Hid (([c3, c4, c5, c6].take j).any bad = false)) (fun i => 7 - (intOf i).toNat)
    case atStart => exact ⟨0, by omega, rfl, rfl⟩
    case round =>
      obtain ⟨j, hj, rfl, hI⟩ := hrel
      have hjj : j = 0 ∨ j = 1 ∨ j = 2 ∨ j = 3 ∨ j = 4 := by omega
      rcases hjj with rfl | rfl | rfl | rfl | rfl
      · skip
        rcases hb : inI c3 65536 with _ | _
        · have HA : Hid (lC [c0, c1, c2, c3, c4, c5, c6] W H = 11) := HB.out (by simp [bad, hb])
          clear HB HG hI
          go_wp2_with fail
          refine (CJ.out _ _).mono ?_
          rintro e w9 ⟨rfl, rfl⟩
          rw [hb]
          go_wp2_with fail
          refine bodyPost_ret (v := .int .i64 11) (by unfold results; simp only [Try.results19]; go_simp) rfl ?_
          exact ⟨ret_int HA.out.symm, BB.out⟩
        · have HA : Hid (([c3, c4, c5, c6].take (0 + 1)).any bad = false) := by have := hI.out; show _ = _; simp [bad, hb] at this ⊢; first | done | exact this | (simp [this])
          clear HB HG hI
          go_wp2_with fail
          refine (CJ.out _ _).mono ?_
          rintro e w9 ⟨rfl, rfl⟩
          rw [hb]
          go_wp2_with fail
          go_round
          case rel => exact ⟨0 + 1, by omega, rfl, HA.out⟩
          case measure => simp [intOf]
      · skip
        rcases hb : inI c4 65536 with _ | _
        · have HA : Hid (lC [c0, c1, c2, c3, c4, c5, c6] W H = 11) := HB.out (by simp [bad, hb])
          clear HB HG hI
          go_wp2_with fail
          refine (CJ.out _ _).mono ?_
          rintro e w9 ⟨rfl, rfl⟩
          rw [hb]
          go_wp2_with fail
          refine bodyPost_ret (v := .int .i64 11) (by unfold results; simp only [Try.results19]; go_simp) rfl ?_
          exact ⟨ret_int HA.out.symm, BB.out⟩
        · have HA : Hid (([c3, c4, c5, c6].take (1 + 1)).any bad = false) := by have := hI.out; show _ = _; simp [bad, hb] at this ⊢; first | done | exact this | (simp [this])
          clear HB HG hI
          go_wp2_with fail
          refine (CJ.out _ _).mono ?_
          rintro e w9 ⟨rfl, rfl⟩
          rw [hb]
          go_wp2_with fail
          go_round
          case rel => exact ⟨1 + 1, by omega, rfl, HA.out⟩
          case measure => simp [intOf]
      · skip
        rcases hb : inI c5 65536 with _ | _
        · have HA : Hid (lC [c0, c1, c2, c3, c4, c5, c6] W H = 11) := HB.out (by simp [bad, hb])
          clear HB HG hI
          go_wp2_with fail
          refine (CJ.out _ _).mono ?_
          rintro e w9 ⟨rfl, rfl⟩
          rw [hb]
          go_wp2_with fail
          refine bodyPost_ret (v := .int .i64 11) (by unfold results; simp only [Try.results19]; go_simp) rfl ?_
          exact ⟨ret_int HA.out.symm, BB.out⟩
        · have HA : Hid (([c3, c4, c5, c6].take (2 + 1)).any bad = false) := by have := hI.out; show _ = _; simp [bad, hb] at this ⊢; first | done | exact this | (simp [this])
          clear HB HG hI
          go_wp2_with fail
          refine (CJ.out _ _).mono ?_
          rintro e w9 ⟨rfl, rfl⟩
          rw [hb]
          go_wp2_with fail
          go_round
          case rel => exact ⟨2 + 1, by omega, rfl, HA.out⟩
          case measure => simp [intOf]
      · skip
        rcases hb : inI c6 65536 with _ | _
        · have HA : Hid (lC [c0, c1, c2, c3, c4, c5, c6] W H = 11) := HB.out (by simp [bad, hb])
          clear HB HG hI
          go_wp2_with fail
          refine (CJ.out _ _).mono ?_
          rintro e w9 ⟨rfl, rfl⟩
          rw [hb]
          go_wp2_with fail
          refine bodyPost_ret (v := .int .i64 11) (by unfold results; simp only [Try.results19]; go_simp) rfl ?_
          exact ⟨ret_int HA.out.symm, BB.out⟩
        · have HA : Hid (([c3, c4, c5, c6].take (3 + 1)).any bad = false) := by have := hI.out; show _ = _; simp [bad, hb] at this ⊢; first | done | exact this | (simp [this])
          clear HB HG hI
          go_wp2_with fail
          refine (CJ.out _ _).mono ?_
          rintro e w9 ⟨rfl, rfl⟩
          rw [hb]
          go_wp2_with fail
          go_round
          case rel => exact ⟨3 + 1, by omega, rfl, HA.out⟩
          case measure => simp [intOf]
      · have hG := HG.out hI.out
        clear HB HG hI CJ k3 k4 k5 k6
        rcases dec_both (W < 1) with ⟨g1, d1⟩ | ⟨g1, d1⟩
        · skip
          have HC := Lib.hid (lC_size (W := W) (H := H) hG (by omega))
          go_wp2_with fail
          refine bodyPost_ret (v := .int .i64 30) (by unfold results; simp only [Try.results19]; go_simp) rfl ?_
          exact ⟨ret_int HC.out.symm, BB.out⟩
        rcases dec_both (W > 32768) with ⟨g2, d2⟩ | ⟨g2, d2⟩
        · skip
          have HC := Lib.hid (lC_size (W := W) (H := H) hG (by omega))
          go_wp2_with fail
          refine bodyPost_ret (v := .int .i64 30) (by unfold results; simp only [Try.results19]; go_simp) rfl ?_
          exact ⟨ret_int HC.out.symm, BB.out⟩
        rcases dec_both (H < 1) with ⟨g3, d3⟩ | ⟨g3, d3⟩
        · skip
          have HC := Lib.hid (lC_size (W := W) (H := H) hG (by omega))
          go_wp2_with fail
          refine bodyPost_ret (v := .int .i64 30) (by unfold results; simp only [Try.results19]; go_simp) rfl ?_
          exact ⟨ret_int HC.out.symm, BB.out⟩
        rcases dec_both (H > 32768) with ⟨g4, d4⟩ | ⟨g4, d4⟩
        · skip
          have HC := Lib.hid (lC_size (W := W) (H := H) hG (by omega))
          go_wp2_with fail
          refine bodyPost_ret (v := .int .i64 30) (by unfold results; simp only [Try.results19]; go_simp) rfl ?_
          exact ⟨ret_int HC.out.symm, BB.out⟩
        have hS : sizeI W H = true := sizeI_iff.2 (by omega)
        have hC := lC_far hG hS
        have hF := hf.out
        have hM := hm.out
        have A1 := Lib.hid (fun w => raxis (-1) 2 c0 c2 ⟨by omega, by omega, by omega, by omega, by omega, by omega, by omega, by omega⟩ w)
        have A2 := Lib.hid (fun w => raxis (2 * W - 1) 2 c0 c2 ⟨by omega, by omega, by omega, by omega, by omega, by omega, by omega, by omega⟩ w)
        have A3 := Lib.hid (fun w => raxis (-1) 2 c1 c2 ⟨by omega, by omega, by omega, by omega, by omega, by omega, by omega, by omega⟩ w)
        have A4 := Lib.hid (fun w => raxis (2 * H - 1) 2 c1 c2 ⟨by omega, by omega, by omega, by omega, by omega, by omega, by omega, by omega⟩ w)
        have i1 : IntKind.i64.wrap (2 * W) = 2 * W := iw (by omega)
        have i2 : IntKind.i64.wrap (2 * H) = 2 * H := iw (by omega)
        have i3 : IntKind.i64.wrap (2 * W - 1) = 2 * W - 1 := iw (by omega)
        have i4 : IntKind.i64.wrap (2 * H - 1) = 2 * H - 1 := iw (by omega)
        have F1 := Lib.hid (fun w => CF.out (axI (-1) 2 c0 c2) w)
        have F2 := Lib.hid (fun w => CF.out (axI (2 * W - 1) 2 c0 c2) w)
        have F3 := Lib.hid (fun w => CF.out (axI (-1) 2 c1 c2) w)
        have F4 := Lib.hid (fun w => CF.out (axI (2 * H - 1) 2 c1 c2) w)
        unfold farI at hC
        clear g1 g2 g3 g4 hS hW hH hF hM hG CF hf hm
        generalize axI (-1) 2 c0 c2 = x1 at *
        generalize axI (2 * W - 1) 2 c0 c2 = x2 at *
        generalize axI (-1) 2 c1 c2 = x3 at *
        generalize axI (2 * H - 1) 2 c1 c2 = x4 at *
        generalize inI x1 262144 = q1 at *
        generalize inI x2 262144 = q2 at *
        generalize inI x3 262144 = q3 at *
        generalize inI x4 262144 = q4 at *
        replace hC := Lib.hid hC
        go_wp2_with fail
        go_loopw [8, 9] (fun i _ wr => Hid (Below w.heap.size w wr) ∧ (i = .int .i64 0 ∨ i = .int .i64 1 ∧ q1 = true ∧ q2 = true ∨ i = .int .i64 2 ∧ q1 = true ∧ q2 = true ∧ q3 = true ∧ q4 = true)) (fun i _ _ => 2 - (intOf i).toNat)
        case atStart => exact ⟨BB.out, .inl rfl⟩
        case round =>
          obtain ⟨hb, hi⟩ := hrel
          have KK := Lib.hid (fun (w9 : World) (h : Below w.heap.size w w9) => (⟨(h.cell (p := ⟨b, off, none⟩) hlt).trans k0, (h.cell (p := ⟨b, off + 1, none⟩) hlt).trans k1, (h.cell (p := ⟨b, off + 2, none⟩) hlt).trans k2⟩ : w9.cell? ⟨b, off, none⟩ = some (.int .i64 c0) ∧ w9.cell? ⟨b, off + 1, none⟩ = some (.int .i64 c1) ∧ w9.cell? ⟨b, off + 2, none⟩ = some (.int .i64 c2)))
          clear k0 k1 k2
          rcases hi with rfl | ⟨rfl, rfl, rfl⟩ | ⟨rfl, rfl, rfl, rfl, rfl⟩
          · skip
            go_wp2_with fail
            replace hb := Lib.hid (below_new hb.out (.cells #[.int .i64 W, .int .i64 H] 3))
            generalize (wr.alloc (.cells #[.int .i64 W, .int .i64 H] 3)) = w2 at *
            obtain ⟨k0, k1, k2⟩ := KK.out w2 hb.out
            have hlt2 : b < w2.heap.size := Nat.lt_of_lt_of_le hlt hb.out.size
            have B1 := Lib.hid (fun n => quiet_same (A1.out (w2.drewN n)))
            have B2 := Lib.hid (fun n => quiet_same (A2.out (w2.drewN n)))
            have B3 := Lib.hid (fun n => quiet_same (F1.out (w2.drewN n)))
            have B4 := Lib.hid (fun n => quiet_same (F2.out (w2.drewN n)))
            clear A1 A2 A3 A4 F1 F2 F3 F4 KK
            cases q1
            · rw [if_pos (by simp)] at hC
              go_quiet (first | (go_at_call 40; with_reducible exact B1.out _) | (go_at_call 40; with_reducible exact B2.out _) | (go_at_call 36; with_reducible exact B3.out _) | (go_at_call 36; with_reducible exact B4.out _))
              go_wp2_with fail
              refine bodyPost_ret (v := .int .i64 11) (by unfold results; simp only [Try.results19]; go_simp) rfl ?_
              exact ⟨ret_int hC.out.symm, below_drawn hb.out _⟩
            · cases q2
              · rw [if_pos (by simp)] at hC
                go_quiet (first | (go_at_call 40; with_reducible exact B1.out _) | (go_at_call 40; with_reducible exact B2.out _) | (go_at_call 36; with_reducible exact B3.out _) | (go_at_call 36; with_reducible exact B4.out _))
                go_wp2_with fail
                refine bodyPost_ret (v := .int .i64 11) (by unfold results; simp only [Try.results19]; go_simp) rfl ?_
                exact ⟨ret_int hC.out.symm, below_drawn hb.out _⟩
              · go_quiet (first | (go_at_call 40; with_reducible exact B1.out _) | (go_at_call 40; with_reducible exact B2.out _) | (go_at_call 36; with_reducible exact B3.out _) | (go_at_call 36; with_reducible exact B4.out _))
                go_wp2_with fail
                go_round
                case rel => exact ⟨below_drawn hb.out _, by simp⟩
                case measure => simp [intOf]
          · skip
            go_wp2_with fail
            replace hb := Lib.hid (below_new hb.out (.cells #[.int .i64 W, .int .i64 H] 3))
            generalize (wr.alloc (.cells #[.int .i64 W, .int .i64 H] 3)) = w2 at *
            obtain ⟨k0, k1, k2⟩ := KK.out w2 hb.out
            have hlt2 : b < w2.heap.size := Nat.lt_of_lt_of_le hlt hb.out.size
            have B1 := Lib.hid (fun n => quiet_same (A3.out (w2.drewN n)))
            have B2 := Lib.hid (fun n => quiet_same (A4.out (w2.drewN n)))
            have B3 := Lib.hid (fun n => quiet_same (F3.out (w2.drewN n)))
            have B4 := Lib.hid (fun n => quiet_same (F4.out (w2.drewN n)))
            clear A1 A2 A3 A4 F1 F2 F3 F4 KK
            cases q3
            · rw [if_pos (by simp)] at hC
              go_quiet (first | (go_at_call 40; with_reducible exact B1.out _) | (go_at_call 40; with_reducible exact B2.out _) | (go_at_call 36; with_reducible exact B3.out _) | (go_at_call 36; with_reducible exact B4.out _))
              go_wp2_with fail
              refine bodyPost_ret (v := .int .i64 11) (by unfold results; simp only [Try.results19]; go_simp) rfl ?_
              exact ⟨ret_int hC.out.symm, below_drawn hb.out _⟩
            · cases q4
              · rw [if_pos (by simp)] at hC
                go_quiet (first | (go_at_call 40; with_reducible exact B1.out _) | (go_at_call 40; with_reducible exact B2.out _) | (go_at_call 36; with_reducible exact B3.out _) | (go_at_call 36; with_reducible exact B4.out _))
                go_wp2_with fail
                refine bodyPost_ret (v := .int .i64 11) (by unfold results; simp only [Try.results19]; go_simp) rfl ?_
                exact ⟨ret_int hC.out.symm, below_drawn hb.out _⟩
              · go_quiet (first | (go_at_call 40; with_reducible exact B1.out _) | (go_at_call 40; with_reducible exact B2.out _) | (go_at_call 36; with_reducible exact B3.out _) | (go_at_call 36; with_reducible exact B4.out _))
                go_wp2_with fail
                go_round
                case rel => exact ⟨below_drawn hb.out _, by simp⟩
                case measure => simp [intOf]
          · rw [if_neg (by simp)] at hC
            go_wp2_with fail
            refine bodyPost_ret (v := .int .i64 0) (by unfold results; simp only [Try.results19]; go_simp) rfl ?_
            exact ⟨ret_int hC.out.symm, hb.out⟩
  · have HL := lR_len h7
    have HC := Lib.hid ((lC_R (W := W) (H := H) (zs := zs) (by omega)).trans HL)
    obtain ⟨A, cap, rfl⟩ := hv.form
    have hn : (zs.length : Int) ≠ 7 := by omega
    clear hv h7 HL
    generalize lC zs W H = k at *
    generalize zs.length = n at *
    go_enter Try.func19, Try.ntmps19
    go_wp2_with fail
    have BB : Hid (Below w.heap.size w w) := Below.refl _ _
    refine bodyPost_ret (v := .int .i64 12) (by unfold results; simp only [Try.results19]; go_simp) rfl ?_
    exact ⟨ret_int HC.out.symm, BB.out⟩

end Go.Proofs.Ythdbchghhpoadaa
