/- Contracts of what tells whether an image, and a border, are right: the program's and the document's; Few. -/
import Derived.Test.YtnklbnphiokpiaaWt0
import Derived.Test.YtnklbnphiokpiaaBIdxL
import Derived.Test.YtnklbnphiokpiaaBoxN
set_option linter.unusedVariables false
set_option linter.unusedSimpArgs false
namespace Go.Proofs.Ytnklbnphiokpiaa
open Go.RowKit
abbrev IT : TypeId := 55
abbrev RT : TypeId := 58
abbrev imv (W H C : Int) (s : Value) : Value := .agg #[.int .i64 W, .int .i64 H, .int .i64 C, s]
abbrev brv (m c0 c1 c2 c3 : Int) : Value := .agg #[.int .i64 m, .int .u8 c0, .int .u8 c1, .int .u8 c2, .int .u8 c3]
/-- The code of an image's size. -/
def fitC (W H C : Int) : Int := if C ≠ 1 ∧ C ≠ 3 ∧ C ≠ 4 then 10 else if 32768 < W ∨ 32768 < H ∨ (0 < W ∧ 0 < H ∧ 4194304 < W * H) then 30 else if W < 1 ∨ H < 1 then 12 else 0
/-- The code of an image whose bytes are n. -/
def imC (W H C : Int) (n : Nat) : Int := if fitC W H C = 0 then (if (n : Int) = W * H * C then 0 else 12) else fitC W H C
theorem area_in {W H : Int} (hW : 1 ≤ W ∧ W ≤ 32768) (hH : 1 ≤ H ∧ H ≤ 32768) : 1 ≤ W * H ∧ W * H ≤ 1073741824 := by
  have h1 : 1 * 1 ≤ W * H := Int.mul_le_mul hW.1 hH.1 (by omega) (by omega)
  have h2 : W * H ≤ 32768 * 32768 := Int.mul_le_mul hW.2 hH.2 (by omega) (by omega)
  omega
theorem fitC_zero {W H C : Int} (h : fitC W H C = 0) : (C = 1 ∨ C = 3 ∨ C = 4) ∧ (1 ≤ W ∧ W ≤ 32768) ∧ (1 ≤ H ∧ H ≤ 32768) ∧ 1 ≤ W * H ∧ W * H ≤ 4194304 := by
  unfold fitC at h
  split at h
  · omega
  · split at h
    · omega
    · split at h
      · omega
      · have := area_in (W := W) (H := H) (by omega) (by omega)
        omega
set_option maxRecDepth 100000 in
set_option maxHeartbeats 2000000 in
theorem ifits (W H C : Int) (w : World) : Calls Try.prog 100 #[.int .i64 W, .int .i64 H, .int .i64 C] w fun e w' => e = .returned (.int .i64 (fitC W H C)) ∧ w = w' := by
  by_cases hc : C ≠ 1 ∧ C ≠ 3 ∧ C ≠ 4
  · have F : Hid (fitC W H C = 10) := if_pos hc
    obtain ⟨h1, h3, h4⟩ := hc
    have b1 : (C != 1) = true := by simpa using h1
    have b3 : (C != 3) = true := by simpa using h3
    have b4 : (C != 4) = true := by simpa using h4
    clear h1 h3 h4
    go_enter Try.func100, Try.ntmps100
    go_wp2
    go_ret
    exact ⟨ret_int F.out.symm, rfl⟩
  · have hc' : C = 1 ∨ C = 3 ∨ C = 4 := by omega
    have F0 : fitC W H C = if 32768 < W ∨ 32768 < H ∨ (0 < W ∧ 0 < H ∧ 4194304 < W * H) then 30 else if W < 1 ∨ H < 1 then 12 else 0 := if_neg hc
    generalize fitC W H C = c at *
    clear hc
    by_cases a1 : 32768 < W
    · have F : Hid (c = 30) := by show _ = _; rw [F0, if_pos (by omega)]
      clear F0
      rcases hc' with rfl | rfl | rfl
      · skip
        go_enter Try.func100, Try.ntmps100
        go_wp2
        go_ret
        exact ⟨ret_int F.out.symm, rfl⟩
      · skip
        go_enter Try.func100, Try.ntmps100
        go_wp2
        go_ret
        exact ⟨ret_int F.out.symm, rfl⟩
      · skip
        go_enter Try.func100, Try.ntmps100
        go_wp2
        go_ret
        exact ⟨ret_int F.out.symm, rfl⟩
    · by_cases a2 : 32768 < H
      · have F : Hid (c = 30) := by show _ = _; rw [F0, if_pos (by omega)]
        clear F0
        rcases hc' with rfl | rfl | rfl
        · skip
          go_enter Try.func100, Try.ntmps100
          go_wp2
          go_ret
          exact ⟨ret_int F.out.symm, rfl⟩
        · skip
          go_enter Try.func100, Try.ntmps100
          go_wp2
          go_ret
          exact ⟨ret_int F.out.symm, rfl⟩
        · skip
          go_enter Try.func100, Try.ntmps100
          go_wp2
          go_ret
          exact ⟨ret_int F.out.symm, rfl⟩
      · by_cases a3 : 0 < W
        · by_cases a4 : 0 < H
          · obtain ⟨p0, p1⟩ := area_in (W := W) (H := H) (by omega) (by omega)
            obtain ⟨P, hP⟩ : ∃ P, P = W * H := ⟨_, rfl⟩
            have hp : wrap64 (W * H) = P := by rw [hP]; exact wr_in (by omega) (by omega)
            rw [← hP] at F0 p0 p1
            have hw1 : ¬ W < 1 := by omega
            have hh1 : ¬ H < 1 := by omega
            clear hP
            by_cases a5 : 4194304 < P
            · have F : Hid (c = 30) := by show _ = _; rw [F0, if_pos (by omega)]
              clear F0
              rcases hc' with rfl | rfl | rfl
              · skip
                go_enter Try.func100, Try.ntmps100
                go_wp2
                go_ret
                exact ⟨ret_int F.out.symm, rfl⟩
              · skip
                go_enter Try.func100, Try.ntmps100
                go_wp2
                go_ret
                exact ⟨ret_int F.out.symm, rfl⟩
              · skip
                go_enter Try.func100, Try.ntmps100
                go_wp2
                go_ret
                exact ⟨ret_int F.out.symm, rfl⟩
            · have F : Hid (c = 0) := by show _ = _; rw [F0, if_neg (by omega), if_neg (by omega)]
              clear F0
              rcases hc' with rfl | rfl | rfl
              · skip
                go_enter Try.func100, Try.ntmps100
                go_wp2
                go_ret
                exact ⟨ret_int F.out.symm, rfl⟩
              · skip
                go_enter Try.func100, Try.ntmps100
                go_wp2
                go_ret
                exact ⟨ret_int F.out.symm, rfl⟩
              · skip
                go_enter Try.func100, Try.ntmps100
                go_wp2
                go_ret
                exact ⟨ret_int F.out.symm, rfl⟩
          · have hh1 : H < 1 := by omega
            have hw1 : ¬ W < 1 := by omega
            have F : Hid (c = 12) := by show _ = _; rw [F0, if_neg (by omega), if_pos (by omega)]
            clear F0
            rcases hc' with rfl | rfl | rfl
            · skip
              go_enter Try.func100, Try.ntmps100
              go_wp2
              go_ret
              exact ⟨ret_int F.out.symm, rfl⟩
            · skip
              go_enter Try.func100, Try.ntmps100
              go_wp2
              go_ret
              exact ⟨ret_int F.out.symm, rfl⟩
            · skip
              go_enter Try.func100, Try.ntmps100
              go_wp2
              go_ret
              exact ⟨ret_int F.out.symm, rfl⟩
        · have hw1 : W < 1 := by omega
          have F : Hid (c = 12) := by show _ = _; rw [F0, if_neg (by omega), if_pos (by omega)]
          clear F0
          rcases hc' with rfl | rfl | rfl
          · skip
            go_enter Try.func100, Try.ntmps100
            go_wp2
            go_ret
            exact ⟨ret_int F.out.symm, rfl⟩
          · skip
            go_enter Try.func100, Try.ntmps100
            go_wp2
            go_ret
            exact ⟨ret_int F.out.symm, rfl⟩
          · skip
            go_enter Try.func100, Try.ntmps100
            go_wp2
            go_ret
            exact ⟨ret_int F.out.symm, rfl⟩
set_option maxRecDepth 100000 in
set_option maxHeartbeats 2000000 in
theorem rfits07 (W H C : Int) (w : World) : Calls Try.prog 79 #[.int .i64 W, .int .i64 H, .int .i64 C] w fun e w' => e = .returned (.int .i64 (fitC W H C)) ∧ w = w' := by
  by_cases hc : C ≠ 1 ∧ C ≠ 3 ∧ C ≠ 4
  · have F : Hid (fitC W H C = 10) := if_pos hc
    obtain ⟨h1, h3, h4⟩ := hc
    have b1 : (C != 1) = true := by simpa using h1
    have b3 : (C != 3) = true := by simpa using h3
    have b4 : (C != 4) = true := by simpa using h4
    clear h1 h3 h4
    go_enter Try.func79, Try.ntmps79
    go_wp2
    go_ret
    exact ⟨ret_int F.out.symm, rfl⟩
  · have hc' : C = 1 ∨ C = 3 ∨ C = 4 := by omega
    have F0 : fitC W H C = if 32768 < W ∨ 32768 < H ∨ (0 < W ∧ 0 < H ∧ 4194304 < W * H) then 30 else if W < 1 ∨ H < 1 then 12 else 0 := if_neg hc
    generalize fitC W H C = c at *
    clear hc
    by_cases a1 : 32768 < W
    · have F : Hid (c = 30) := by show _ = _; rw [F0, if_pos (by omega)]
      clear F0
      rcases hc' with rfl | rfl | rfl
      · skip
        go_enter Try.func79, Try.ntmps79
        go_wp2
        go_ret
        exact ⟨ret_int F.out.symm, rfl⟩
      · skip
        go_enter Try.func79, Try.ntmps79
        go_wp2
        go_ret
        exact ⟨ret_int F.out.symm, rfl⟩
      · skip
        go_enter Try.func79, Try.ntmps79
        go_wp2
        go_ret
        exact ⟨ret_int F.out.symm, rfl⟩
    · by_cases a2 : 32768 < H
      · have F : Hid (c = 30) := by show _ = _; rw [F0, if_pos (by omega)]
        clear F0
        rcases hc' with rfl | rfl | rfl
        · skip
          go_enter Try.func79, Try.ntmps79
          go_wp2
          go_ret
          exact ⟨ret_int F.out.symm, rfl⟩
        · skip
          go_enter Try.func79, Try.ntmps79
          go_wp2
          go_ret
          exact ⟨ret_int F.out.symm, rfl⟩
        · skip
          go_enter Try.func79, Try.ntmps79
          go_wp2
          go_ret
          exact ⟨ret_int F.out.symm, rfl⟩
      · by_cases a3 : 0 < W
        · by_cases a4 : 0 < H
          · obtain ⟨p0, p1⟩ := area_in (W := W) (H := H) (by omega) (by omega)
            obtain ⟨P, hP⟩ : ∃ P, P = W * H := ⟨_, rfl⟩
            have hp : wrap64 (W * H) = P := by rw [hP]; exact wr_in (by omega) (by omega)
            rw [← hP] at F0 p0 p1
            have hw1 : ¬ W < 1 := by omega
            have hh1 : ¬ H < 1 := by omega
            clear hP
            by_cases a5 : 4194304 < P
            · have F : Hid (c = 30) := by show _ = _; rw [F0, if_pos (by omega)]
              clear F0
              rcases hc' with rfl | rfl | rfl
              · skip
                go_enter Try.func79, Try.ntmps79
                go_wp2
                go_ret
                exact ⟨ret_int F.out.symm, rfl⟩
              · skip
                go_enter Try.func79, Try.ntmps79
                go_wp2
                go_ret
                exact ⟨ret_int F.out.symm, rfl⟩
              · skip
                go_enter Try.func79, Try.ntmps79
                go_wp2
                go_ret
                exact ⟨ret_int F.out.symm, rfl⟩
            · have F : Hid (c = 0) := by show _ = _; rw [F0, if_neg (by omega), if_neg (by omega)]
              clear F0
              rcases hc' with rfl | rfl | rfl
              · skip
                go_enter Try.func79, Try.ntmps79
                go_wp2
                go_ret
                exact ⟨ret_int F.out.symm, rfl⟩
              · skip
                go_enter Try.func79, Try.ntmps79
                go_wp2
                go_ret
                exact ⟨ret_int F.out.symm, rfl⟩
              · skip
                go_enter Try.func79, Try.ntmps79
                go_wp2
                go_ret
                exact ⟨ret_int F.out.symm, rfl⟩
          · have hh1 : H < 1 := by omega
            have hw1 : ¬ W < 1 := by omega
            have F : Hid (c = 12) := by show _ = _; rw [F0, if_neg (by omega), if_pos (by omega)]
            clear F0
            rcases hc' with rfl | rfl | rfl
            · skip
              go_enter Try.func79, Try.ntmps79
              go_wp2
              go_ret
              exact ⟨ret_int F.out.symm, rfl⟩
            · skip
              go_enter Try.func79, Try.ntmps79
              go_wp2
              go_ret
              exact ⟨ret_int F.out.symm, rfl⟩
            · skip
              go_enter Try.func79, Try.ntmps79
              go_wp2
              go_ret
              exact ⟨ret_int F.out.symm, rfl⟩
        · have hw1 : W < 1 := by omega
          have F : Hid (c = 12) := by show _ = _; rw [F0, if_neg (by omega), if_pos (by omega)]
          clear F0
          rcases hc' with rfl | rfl | rfl
          · skip
            go_enter Try.func79, Try.ntmps79
            go_wp2
            go_ret
            exact ⟨ret_int F.out.symm, rfl⟩
          · skip
            go_enter Try.func79, Try.ntmps79
            go_wp2
            go_ret
            exact ⟨ret_int F.out.symm, rfl⟩
          · skip
            go_enter Try.func79, Try.ntmps79
            go_wp2
            go_ret
            exact ⟨ret_int F.out.symm, rfl⟩

set_option maxRecDepth 100000 in
set_option maxHeartbeats 2000000 in
theorem icheck (W H C : Int) (A : Option Addr) (n cap : Nat) (w : World) : Calls Try.prog 73 #[imv W H C (.slice A n cap)] w fun e w' => e = .returned (.int .i64 (imC W H C n)) ∧ Below w.heap.size w w' := by
  have CF := Lib.hid (fun w => ifits W H C w)
  by_cases h : fitC W H C = 0
  · have F0 : imC W H C n = if (n : Int) = W * H * C then 0 else 12 := if_pos h
    obtain ⟨hc, hW, hH, p0, p1⟩ := fitC_zero h
    rw [h] at CF
    obtain ⟨P, hP⟩ : ∃ P, P = W * H := ⟨_, rfl⟩
    have hp : wrap64 (W * H) = P := by rw [hP]; exact wr_in (by omega) (by omega)
    rw [← hP] at F0 p0 p1
    obtain ⟨Q, hQ⟩ : ∃ Q, Q = P * C := ⟨_, rfl⟩
    have hq : wrap64 (P * C) = Q := by rw [hQ]; rcases hc with rfl | rfl | rfl <;> exact wr_in (by omega) (by omega)
    rw [← hQ] at F0
    clear h hP hQ
    generalize imC W H C n = c at *
    by_cases hn : (n : Int) = Q
    · have F : Hid (c = 0) := by show _ = _; rw [F0, if_pos hn]
      clear F0
      go_enter Try.func73, Try.ntmps73
      go_wp2_with fail
      have BB := start1 w #[.int .i64 W, .int .i64 H, .int .i64 C, .slice A n cap] IT
      obtain ⟨BB, hsz, r_m⟩ := BB
      generalize (w.alloc (.cells #[.int .i64 W, .int .i64 H, .int .i64 C, .slice A n cap] IT)) = w0 at *
      replace BB := Lib.hid BB
      replace r_m := Lib.hid r_m
      clear hsz
      refine (CF.out _).mono ?_
      rintro e w9 ⟨rfl, rfl⟩
      obtain ⟨c_m0, c_m1, c_m2, c_m3, f_m0, f_m1, f_m2, f_m3⟩ := reads4 r_m.out
      have l_m := r_m.out.lt
      go_wp2_with fail
      go_ret
      exact ⟨ret_int F.out.symm, BB.out⟩
    · have F : Hid (c = 12) := by show _ = _; rw [F0, if_neg hn]
      have hb : ((n : Int) != Q) = true := by simpa using hn
      have hb2 : ((n : Int) == Q) = false := by simpa using hn
      clear F0
      go_enter Try.func73, Try.ntmps73
      go_wp2_with fail
      have BB := start1 w #[.int .i64 W, .int .i64 H, .int .i64 C, .slice A n cap] IT
      obtain ⟨BB, hsz, r_m⟩ := BB
      generalize (w.alloc (.cells #[.int .i64 W, .int .i64 H, .int .i64 C, .slice A n cap] IT)) = w0 at *
      replace BB := Lib.hid BB
      replace r_m := Lib.hid r_m
      clear hsz
      refine (CF.out _).mono ?_
      rintro e w9 ⟨rfl, rfl⟩
      obtain ⟨c_m0, c_m1, c_m2, c_m3, f_m0, f_m1, f_m2, f_m3⟩ := reads4 r_m.out
      have l_m := r_m.out.lt
      go_wp2_with fail
      go_ret
      exact ⟨ret_int F.out.symm, BB.out⟩
  · have F : Hid (imC W H C n = fitC W H C) := if_neg h
    generalize imC W H C n = c at *
    generalize fitC W H C = d at *
    go_enter Try.func73, Try.ntmps73
    go_wp2_with fail
    have BB := start1 w #[.int .i64 W, .int .i64 H, .int .i64 C, .slice A n cap] IT
    obtain ⟨BB, hsz, r_m⟩ := BB
    generalize (w.alloc (.cells #[.int .i64 W, .int .i64 H, .int .i64 C, .slice A n cap] IT)) = w0 at *
    replace BB := Lib.hid BB
    replace r_m := Lib.hid r_m
    clear hsz
    refine (CF.out _).mono ?_
    rintro e w9 ⟨rfl, rfl⟩
    obtain ⟨c_m0, c_m1, c_m2, c_m3, f_m0, f_m1, f_m2, f_m3⟩ := reads4 r_m.out
    have l_m := r_m.out.lt
    go_wp2_with fail
    go_ret
    exact ⟨ret_int F.out.symm, BB.out⟩
set_option maxRecDepth 100000 in
set_option maxHeartbeats 2000000 in
theorem rcheck07 (W H C : Int) (A : Option Addr) (n cap : Nat) (w : World) : Calls Try.prog 39 #[imv W H C (.slice A n cap)] w fun e w' => e = .returned (.int .i64 (imC W H C n)) ∧ Below w.heap.size w w' := by
  have CF := Lib.hid (fun w => rfits07 W H C w)
  by_cases h : fitC W H C = 0
  · have F0 : imC W H C n = if (n : Int) = W * H * C then 0 else 12 := if_pos h
    obtain ⟨hc, hW, hH, p0, p1⟩ := fitC_zero h
    rw [h] at CF
    obtain ⟨P, hP⟩ : ∃ P, P = W * H := ⟨_, rfl⟩
    have hp : wrap64 (W * H) = P := by rw [hP]; exact wr_in (by omega) (by omega)
    rw [← hP] at F0 p0 p1
    obtain ⟨Q, hQ⟩ : ∃ Q, Q = P * C := ⟨_, rfl⟩
    have hq : wrap64 (P * C) = Q := by rw [hQ]; rcases hc with rfl | rfl | rfl <;> exact wr_in (by omega) (by omega)
    rw [← hQ] at F0
    clear h hP hQ
    generalize imC W H C n = c at *
    by_cases hn : (n : Int) = Q
    · have F : Hid (c = 0) := by show _ = _; rw [F0, if_pos hn]
      clear F0
      go_enter Try.func39, Try.ntmps39
      go_wp2_with fail
      have BB := start1 w #[.int .i64 W, .int .i64 H, .int .i64 C, .slice A n cap] IT
      obtain ⟨BB, hsz, r_m⟩ := BB
      generalize (w.alloc (.cells #[.int .i64 W, .int .i64 H, .int .i64 C, .slice A n cap] IT)) = w0 at *
      replace BB := Lib.hid BB
      replace r_m := Lib.hid r_m
      clear hsz
      refine (CF.out _).mono ?_
      rintro e w9 ⟨rfl, rfl⟩
      obtain ⟨c_m0, c_m1, c_m2, c_m3, f_m0, f_m1, f_m2, f_m3⟩ := reads4 r_m.out
      have l_m := r_m.out.lt
      go_wp2_with fail
      go_ret
      exact ⟨ret_int F.out.symm, BB.out⟩
    · have F : Hid (c = 12) := by show _ = _; rw [F0, if_neg hn]
      have hb : ((n : Int) != Q) = true := by simpa using hn
      have hb2 : ((n : Int) == Q) = false := by simpa using hn
      clear F0
      go_enter Try.func39, Try.ntmps39
      go_wp2_with fail
      have BB := start1 w #[.int .i64 W, .int .i64 H, .int .i64 C, .slice A n cap] IT
      obtain ⟨BB, hsz, r_m⟩ := BB
      generalize (w.alloc (.cells #[.int .i64 W, .int .i64 H, .int .i64 C, .slice A n cap] IT)) = w0 at *
      replace BB := Lib.hid BB
      replace r_m := Lib.hid r_m
      clear hsz
      refine (CF.out _).mono ?_
      rintro e w9 ⟨rfl, rfl⟩
      obtain ⟨c_m0, c_m1, c_m2, c_m3, f_m0, f_m1, f_m2, f_m3⟩ := reads4 r_m.out
      have l_m := r_m.out.lt
      go_wp2_with fail
      go_ret
      exact ⟨ret_int F.out.symm, BB.out⟩
  · have F : Hid (imC W H C n = fitC W H C) := if_neg h
    generalize imC W H C n = c at *
    generalize fitC W H C = d at *
    go_enter Try.func39, Try.ntmps39
    go_wp2_with fail
    have BB := start1 w #[.int .i64 W, .int .i64 H, .int .i64 C, .slice A n cap] IT
    obtain ⟨BB, hsz, r_m⟩ := BB
    generalize (w.alloc (.cells #[.int .i64 W, .int .i64 H, .int .i64 C, .slice A n cap] IT)) = w0 at *
    replace BB := Lib.hid BB
    replace r_m := Lib.hid r_m
    clear hsz
    refine (CF.out _).mono ?_
    rintro e w9 ⟨rfl, rfl⟩
    obtain ⟨c_m0, c_m1, c_m2, c_m3, f_m0, f_m1, f_m2, f_m3⟩ := reads4 r_m.out
    have l_m := r_m.out.lt
    go_wp2_with fail
    go_ret
    exact ⟨ret_int F.out.symm, BB.out⟩

set_option maxRecDepth 100000 in
theorem rfew (W H C q : Int) (A : Option Addr) (n cap : Nat) (w : World) : Calls Try.prog 31 #[imv W H C (.slice A n cap), .int .i64 q] w fun e w' => e = .returned (.bool (decide ((n : Int) ≤ q))) ∧ Below w.heap.size w w' := by
  go_enter Try.func31, Try.ntmps31
  go_wp2_with fail
  have BB := start1 w #[.int .i64 W, .int .i64 H, .int .i64 C, .slice A n cap] IT
  obtain ⟨BB, hsz, r_m⟩ := BB
  generalize (w.alloc (.cells #[.int .i64 W, .int .i64 H, .int .i64 C, .slice A n cap] IT)) = w0 at *
  replace BB := Lib.hid BB
  replace r_m := Lib.hid r_m
  clear hsz
  go_ret
  exact ⟨rfl, BB.out⟩

/-- The code of an image and a border. -/
def ibC (W H C m : Int) (n : Nat) : Int := if imC W H C n = 0 then bC m else imC W H C n
set_option maxRecDepth 100000 in
theorem bcheck2 (W H C m c0 c1 c2 c3 : Int) (A : Option Addr) (n cap : Nat) (w : World) : Calls Try.prog 77 #[imv W H C (.slice A n cap), brv m c0 c1 c2 c3] w fun e w' => e = .returned (.int .i64 (ibC W H C m n)) ∧ Below w.heap.size w w' := by
  have CI := Lib.hid (fun w => icheck W H C A n cap w)
  have CB := Lib.hid (fun w => bcheck_any m c0 c1 c2 c3 w)
  by_cases h : imC W H C n = 0
  · have F : Hid (ibC W H C m n = bC m) := if_pos h
    rw [h] at CI
    clear h
    generalize ibC W H C m n = c at *
    generalize bC m = d at *
    go_enter Try.func77, Try.ntmps77
    go_wp2_with fail
    have BB := start2 w #[.int .i64 W, .int .i64 H, .int .i64 C, .slice A n cap] IT #[.int .i64 m, .int .u8 c0, .int .u8 c1, .int .u8 c2, .int .u8 c3] RT
    obtain ⟨BB, hsz, r_i, r_b⟩ := BB
    generalize ((w.alloc (.cells #[.int .i64 W, .int .i64 H, .int .i64 C, .slice A n cap] IT)).alloc (.cells #[.int .i64 m, .int .u8 c0, .int .u8 c1, .int .u8 c2, .int .u8 c3] RT)) = w0 at *
    replace BB := Lib.hid BB
    replace r_i := Lib.hid r_i
    replace r_b := Lib.hid r_b
    clear hsz
    refine (CI.out _).mono ?_
    rintro e w1 ⟨rfl, hb⟩
    replace r_i := Lib.hid (r_i.out.keep hb)
    replace r_b := Lib.hid (r_b.out.keep hb)
    replace BB := Lib.hid (below_next BB.out hb)
    clear hb
    obtain ⟨c_b0, c_b1, c_b2, c_b3, c_b4, f_b0, f_b1, f_b2, f_b3, f_b4⟩ := reads5 r_b.out
    have l_b := r_b.out.lt
    go_wp2_with fail
    refine (CB.out _).mono ?_
    rintro e w2 ⟨rfl, hb⟩
    clear c_b0 c_b1 c_b2 c_b3 c_b4 f_b0 f_b1 f_b2 f_b3 f_b4 l_b
    replace r_i := Lib.hid (r_i.out.keep hb)
    replace r_b := Lib.hid (r_b.out.keep hb)
    replace BB := Lib.hid (below_next BB.out hb)
    clear hb
    go_wp2_with fail
    go_ret
    exact ⟨ret_int F.out.symm, BB.out⟩
  · have F : Hid (ibC W H C m n = imC W H C n) := if_neg h
    generalize ibC W H C m n = c at *
    generalize imC W H C n = d at *
    go_enter Try.func77, Try.ntmps77
    go_wp2_with fail
    have BB := start2 w #[.int .i64 W, .int .i64 H, .int .i64 C, .slice A n cap] IT #[.int .i64 m, .int .u8 c0, .int .u8 c1, .int .u8 c2, .int .u8 c3] RT
    obtain ⟨BB, hsz, r_i, r_b⟩ := BB
    generalize ((w.alloc (.cells #[.int .i64 W, .int .i64 H, .int .i64 C, .slice A n cap] IT)).alloc (.cells #[.int .i64 m, .int .u8 c0, .int .u8 c1, .int .u8 c2, .int .u8 c3] RT)) = w0 at *
    replace BB := Lib.hid BB
    replace r_i := Lib.hid r_i
    replace r_b := Lib.hid r_b
    clear hsz
    refine (CI.out _).mono ?_
    rintro e w1 ⟨rfl, hb⟩
    replace r_i := Lib.hid (r_i.out.keep hb)
    replace r_b := Lib.hid (r_b.out.keep hb)
    replace BB := Lib.hid (below_next BB.out hb)
    clear hb
    go_wp2_with fail
    go_ret
    exact ⟨ret_int F.out.symm, BB.out⟩

end Go.Proofs.Ytnklbnphiokpiaa
