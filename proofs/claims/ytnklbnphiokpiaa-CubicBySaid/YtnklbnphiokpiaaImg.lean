/- Contracts of what tells whether an image, and a border, are right: the program's and the document's; Few. | Contract of border.Pixel: the pixel at a place, within an image or beyond. | Contracts of the document's Place and of a channel of its pixels. -/
import Derived.Test.YtnklbnphiokpiaaWt0
import Derived.Test.YtnklbnphiokpiaaBid
import Derived.Test.YtnklbnphiokpiaaJC
import Derived.Laws.CopyOwn
import Derived.Laws.OwnMore
set_option linter.unusedVariables false
set_option linter.unusedSimpArgs false
namespace Go.Proofs.Ytnklbnphiokpiaa
open Go.RowKit
abbrev IT : TypeId := 55
abbrev RT : TypeId := 58
abbrev imv (W H C : Int) (s : Value) : Value := .agg #[.int .i64 W, .int .i64 H, .int .i64 C, s]
abbrev brv (m c0 c1 c2 c3 : Int) : Value := .agg #[.int .i64 m, .int .u8 c0, .int .u8 c1, .int .u8 c2, .int .u8 c3]
/-- The code of an image's size. -/
def fitC (W H C : Int) : Int := if C ≠ 1 ∧ C ≠ 3 ∧ C ≠ 4 then 10 else if 32768 < W ∨ 32768 < H ∨ (0 < W ∧ 0 < H ∧ 4194304 < W * H) then 30 else if W < 1 ∨ H < 1 then 12 else 0
/-- The code of an image whose bytes are n. -/
def imC (W H C : Int) (n : Nat) : Int := if fitC W H C = 0 then (if (n : Int) = W * H * C then 0 else 12) else fitC W H C
theorem area_in {W H : Int} (hW : 1 ≤ W ∧ W ≤ 32768) (hH : 1 ≤ H ∧ H ≤ 32768) : 1 ≤ W * H ∧ W * H ≤ 1073741824 := by
  have h1 : 1 * 1 ≤ W * H := Int.mul_le_mul hW.1 hH.1 (by omega) (by omega)
  have h2 : W * H ≤ 32768 * 32768 := Int.mul_le_mul hW.2 hH.2 (by omega) (by omega)
  omega
theorem fitC_zero {W H C : Int} (h : fitC W H C = 0) : (C = 1 ∨ C = 3 ∨ C = 4) ∧ (1 ≤ W ∧ W ≤ 32768) ∧ (1 ≤ H ∧ H ≤ 32768) ∧ 1 ≤ W * H ∧ W * H ≤ 4194304 := by
  unfold fitC at h
  split at h
  · omega
  · split at h
    · omega
    · split at h
      · omega
      · have := area_in (W := W) (H := H) (by omega) (by omega)
        omega
set_option maxRecDepth 100000 in
set_option maxHeartbeats 2000000 in
theorem ifits (W H C : Int) (w : World) : Calls Try.prog 100 #[.int .i64 W, .int .i64 H, .int .i64 C] w fun e w' => e = .returned (.int .i64 (fitC W H C)) ∧ w = w' := by
  by_cases hc : C ≠ 1 ∧ C ≠ 3 ∧ C ≠ 4
  · have F : Hid (fitC W H C = 10) := if_pos hc
    obtain ⟨h1, h3, h4⟩ := hc
    have b1 : (C != 1) = true := by simpa using h1
    have b3 : (C != 3) = true := by simpa using h3
    have b4 : (C != 4) = true := by simpa using h4
    clear h1 h3 h4
    go_enter Try.func100, Try.ntmps100
    go_wp2
    go_ret
    exact ⟨ret_int F.out.symm, rfl⟩
  · have hc' : C = 1 ∨ C = 3 ∨ C = 4 := by omega
    have F0 : fitC W H C = if 32768 < W ∨ 32768 < H ∨ (0 < W ∧ 0 < H ∧ 4194304 < W * H) then 30 else if W < 1 ∨ H < 1 then 12 else 0 := if_neg hc
    generalize fitC W H C = c at *
    clear hc
    by_cases a1 : 32768 < W
    · have F : Hid (c = 30) := by show _ = _; rw [F0, if_pos (by omega)]
      clear F0
      rcases hc' with rfl | rfl | rfl
      · skip
        go_enter Try.func100, Try.ntmps100
        go_wp2
        go_ret
        exact ⟨ret_int F.out.symm, rfl⟩
      · skip
        go_enter Try.func100, Try.ntmps100
        go_wp2
        go_ret
        exact ⟨ret_int F.out.symm, rfl⟩
      · skip
        go_enter Try.func100, Try.ntmps100
        go_wp2
        go_ret
        exact ⟨ret_int F.out.symm, rfl⟩
    · by_cases a2 : 32768 < H
      · have F : Hid (c = 30) := by show _ = _; rw [F0, if_pos (by omega)]
        clear F0
        rcases hc' with rfl | rfl | rfl
        · skip
          go_enter Try.func100, Try.ntmps100
          go_wp2
          go_ret
          exact ⟨ret_int F.out.symm, rfl⟩
        · skip
          go_enter Try.func100, Try.ntmps100
          go_wp2
          go_ret
          exact ⟨ret_int F.out.symm, rfl⟩
        · skip
          go_enter Try.func100, Try.ntmps100
          go_wp2
          go_ret
          exact ⟨ret_int F.out.symm, rfl⟩
      · by_cases a3 : 0 < W
        · by_cases a4 : 0 < H
          · obtain ⟨p0, p1⟩ := area_in (W := W) (H := H) (by omega) (by omega)
            obtain ⟨P, hP⟩ : ∃ P, P = W * H := ⟨_, rfl⟩
            have hp : wrap64 (W * H) = P := by rw [hP]; exact wr_in (by omega) (by omega)
            rw [← hP] at F0 p0 p1
            have hw1 : ¬ W < 1 := by omega
            have hh1 : ¬ H < 1 := by omega
            clear hP
            by_cases a5 : 4194304 < P
            · have F : Hid (c = 30) := by show _ = _; rw [F0, if_pos (by omega)]
              clear F0
              rcases hc' with rfl | rfl | rfl
              · skip
                go_enter Try.func100, Try.ntmps100
                go_wp2
                go_ret
                exact ⟨ret_int F.out.symm, rfl⟩
              · skip
                go_enter Try.func100, Try.ntmps100
                go_wp2
                go_ret
                exact ⟨ret_int F.out.symm, rfl⟩
              · skip
                go_enter Try.func100, Try.ntmps100
                go_wp2
                go_ret
                exact ⟨ret_int F.out.symm, rfl⟩
            · have F : Hid (c = 0) := by show _ = _; rw [F0, if_neg (by omega), if_neg (by omega)]
              clear F0
              rcases hc' with rfl | rfl | rfl
              · skip
                go_enter Try.func100, Try.ntmps100
                go_wp2
                go_ret
                exact ⟨ret_int F.out.symm, rfl⟩
              · skip
                go_enter Try.func100, Try.ntmps100
                go_wp2
                go_ret
                exact ⟨ret_int F.out.symm, rfl⟩
              · skip
                go_enter Try.func100, Try.ntmps100
                go_wp2
                go_ret
                exact ⟨ret_int F.out.symm, rfl⟩
          · have hh1 : H < 1 := by omega
            have hw1 : ¬ W < 1 := by omega
            have F : Hid (c = 12) := by show _ = _; rw [F0, if_neg (by omega), if_pos (by omega)]
            clear F0
            rcases hc' with rfl | rfl | rfl
            · skip
              go_enter Try.func100, Try.ntmps100
              go_wp2
              go_ret
              exact ⟨ret_int F.out.symm, rfl⟩
            · skip
              go_enter Try.func100, Try.ntmps100
              go_wp2
              go_ret
              exact ⟨ret_int F.out.symm, rfl⟩
            · skip
              go_enter Try.func100, Try.ntmps100
              go_wp2
              go_ret
              exact ⟨ret_int F.out.symm, rfl⟩
        · have hw1 : W < 1 := by omega
          have F : Hid (c = 12) := by show _ = _; rw [F0, if_neg (by omega), if_pos (by omega)]
          clear F0
          rcases hc' with rfl | rfl | rfl
          · skip
            go_enter Try.func100, Try.ntmps100
            go_wp2
            go_ret
            exact ⟨ret_int F.out.symm, rfl⟩
          · skip
            go_enter Try.func100, Try.ntmps100
            go_wp2
            go_ret
            exact ⟨ret_int F.out.symm, rfl⟩
          · skip
            go_enter Try.func100, Try.ntmps100
            go_wp2
            go_ret
            exact ⟨ret_int F.out.symm, rfl⟩
set_option maxRecDepth 100000 in
set_option maxHeartbeats 2000000 in
theorem rfits07 (W H C : Int) (w : World) : Calls Try.prog 79 #[.int .i64 W, .int .i64 H, .int .i64 C] w fun e w' => e = .returned (.int .i64 (fitC W H C)) ∧ w = w' := by
  by_cases hc : C ≠ 1 ∧ C ≠ 3 ∧ C ≠ 4
  · have F : Hid (fitC W H C = 10) := if_pos hc
    obtain ⟨h1, h3, h4⟩ := hc
    have b1 : (C != 1) = true := by simpa using h1
    have b3 : (C != 3) = true := by simpa using h3
    have b4 : (C != 4) = true := by simpa using h4
    clear h1 h3 h4
    go_enter Try.func79, Try.ntmps79
    go_wp2
    go_ret
    exact ⟨ret_int F.out.symm, rfl⟩
  · have hc' : C = 1 ∨ C = 3 ∨ C = 4 := by omega
    have F0 : fitC W H C = if 32768 < W ∨ 32768 < H ∨ (0 < W ∧ 0 < H ∧ 4194304 < W * H) then 30 else if W < 1 ∨ H < 1 then 12 else 0 := if_neg hc
    generalize fitC W H C = c at *
    clear hc
    by_cases a1 : 32768 < W
    · have F : Hid (c = 30) := by show _ = _; rw [F0, if_pos (by omega)]
      clear F0
      rcases hc' with rfl | rfl | rfl
      · skip
        go_enter Try.func79, Try.ntmps79
        go_wp2
        go_ret
        exact ⟨ret_int F.out.symm, rfl⟩
      · skip
        go_enter Try.func79, Try.ntmps79
        go_wp2
        go_ret
        exact ⟨ret_int F.out.symm, rfl⟩
      · skip
        go_enter Try.func79, Try.ntmps79
        go_wp2
        go_ret
        exact ⟨ret_int F.out.symm, rfl⟩
    · by_cases a2 : 32768 < H
      · have F : Hid (c = 30) := by show _ = _; rw [F0, if_pos (by omega)]
        clear F0
        rcases hc' with rfl | rfl | rfl
        · skip
          go_enter Try.func79, Try.ntmps79
          go_wp2
          go_ret
          exact ⟨ret_int F.out.symm, rfl⟩
        · skip
          go_enter Try.func79, Try.ntmps79
          go_wp2
          go_ret
          exact ⟨ret_int F.out.symm, rfl⟩
        · skip
          go_enter Try.func79, Try.ntmps79
          go_wp2
          go_ret
          exact ⟨ret_int F.out.symm, rfl⟩
      · by_cases a3 : 0 < W
        · by_cases a4 : 0 < H
          · obtain ⟨p0, p1⟩ := area_in (W := W) (H := H) (by omega) (by omega)
            obtain ⟨P, hP⟩ : ∃ P, P = W * H := ⟨_, rfl⟩
            have hp : wrap64 (W * H) = P := by rw [hP]; exact wr_in (by omega) (by omega)
            rw [← hP] at F0 p0 p1
            have hw1 : ¬ W < 1 := by omega
            have hh1 : ¬ H < 1 := by omega
            clear hP
            by_cases a5 : 4194304 < P
            · have F : Hid (c = 30) := by show _ = _; rw [F0, if_pos (by omega)]
              clear F0
              rcases hc' with rfl | rfl | rfl
              · skip
                go_enter Try.func79, Try.ntmps79
                go_wp2
                go_ret
                exact ⟨ret_int F.out.symm, rfl⟩
              · skip
                go_enter Try.func79, Try.ntmps79
                go_wp2
                go_ret
                exact ⟨ret_int F.out.symm, rfl⟩
              · skip
                go_enter Try.func79, Try.ntmps79
                go_wp2
                go_ret
                exact ⟨ret_int F.out.symm, rfl⟩
            · have F : Hid (c = 0) := by show _ = _; rw [F0, if_neg (by omega), if_neg (by omega)]
              clear F0
              rcases hc' with rfl | rfl | rfl
              · skip
                go_enter Try.func79, Try.ntmps79
                go_wp2
                go_ret
                exact ⟨ret_int F.out.symm, rfl⟩
              · skip
                go_enter Try.func79, Try.ntmps79
                go_wp2
                go_ret
                exact ⟨ret_int F.out.symm, rfl⟩
              · skip
                go_enter Try.func79, Try.ntmps79
                go_wp2
                go_ret
                exact ⟨ret_int F.out.symm, rfl⟩
          · have hh1 : H < 1 := by omega
            have hw1 : ¬ W < 1 := by omega
            have F : Hid (c = 12) := by show _ = _; rw [F0, if_neg (by omega), if_pos (by omega)]
            clear F0
            rcases hc' with rfl | rfl | rfl
            · skip
              go_enter Try.func79, Try.ntmps79
              go_wp2
              go_ret
              exact ⟨ret_int F.out.symm, rfl⟩
            · skip
              go_enter Try.func79, Try.ntmps79
              go_wp2
              go_ret
              exact ⟨ret_int F.out.symm, rfl⟩
            · skip
              go_enter Try.func79, Try.ntmps79
              go_wp2
              go_ret
              exact ⟨ret_int F.out.symm, rfl⟩
        · have hw1 : W < 1 := by omega
          have F : Hid (c = 12) := by show _ = _; rw [F0, if_neg (by omega), if_pos (by omega)]
          clear F0
          rcases hc' with rfl | rfl | rfl
          · skip
            go_enter Try.func79, Try.ntmps79
            go_wp2
            go_ret
            exact ⟨ret_int F.out.symm, rfl⟩
          · skip
            go_enter Try.func79, Try.ntmps79
            go_wp2
            go_ret
            exact ⟨ret_int F.out.symm, rfl⟩
          · skip
            go_enter Try.func79, Try.ntmps79
            go_wp2
            go_ret
            exact ⟨ret_int F.out.symm, rfl⟩

set_option maxRecDepth 100000 in
set_option maxHeartbeats 2000000 in
theorem icheck (W H C : Int) (A : Option Addr) (n cap : Nat) (w : World) : Calls Try.prog 73 #[imv W H C (.slice A n cap)] w fun e w' => e = .returned (.int .i64 (imC W H C n)) ∧ Below w.heap.size w w' := by
  have CF := Lib.hid (fun w => ifits W H C w)
  by_cases h : fitC W H C = 0
  · have F0 : imC W H C n = if (n : Int) = W * H * C then 0 else 12 := if_pos h
    obtain ⟨hc, hW, hH, p0, p1⟩ := fitC_zero h
    rw [h] at CF
    obtain ⟨P, hP⟩ : ∃ P, P = W * H := ⟨_, rfl⟩
    have hp : wrap64 (W * H) = P := by rw [hP]; exact wr_in (by omega) (by omega)
    rw [← hP] at F0 p0 p1
    obtain ⟨Q, hQ⟩ : ∃ Q, Q = P * C := ⟨_, rfl⟩
    have hq : wrap64 (P * C) = Q := by rw [hQ]; rcases hc with rfl | rfl | rfl <;> exact wr_in (by omega) (by omega)
    rw [← hQ] at F0
    clear h hP hQ
    generalize imC W H C n = c at *
    by_cases hn : (n : Int) = Q
    · have F : Hid (c = 0) := by show _ = _; rw [F0, if_pos hn]
      clear F0
      go_enter Try.func73, Try.ntmps73
      go_wp2_with fail
      have BB := start1 w #[.int .i64 W, .int .i64 H, .int .i64 C, .slice A n cap] IT
      obtain ⟨BB, hsz, r_m⟩ := BB
      generalize (w.alloc (.cells #[.int .i64 W, .int .i64 H, .int .i64 C, .slice A n cap] IT)) = w0 at *
      replace BB := Lib.hid BB
      replace r_m := Lib.hid r_m
      clear hsz
      refine (CF.out _).mono ?_
      rintro e w9 ⟨rfl, rfl⟩
      obtain ⟨c_m0, c_m1, c_m2, c_m3, f_m0, f_m1, f_m2, f_m3⟩ := reads4 r_m.out
      have l_m := r_m.out.lt
      go_wp2_with fail
      go_ret
      exact ⟨ret_int F.out.symm, BB.out⟩
    · have F : Hid (c = 12) := by show _ = _; rw [F0, if_neg hn]
      have hb : ((n : Int) != Q) = true := by simpa using hn
      have hb2 : ((n : Int) == Q) = false := by simpa using hn
      clear F0
      go_enter Try.func73, Try.ntmps73
      go_wp2_with fail
      have BB := start1 w #[.int .i64 W, .int .i64 H, .int .i64 C, .slice A n cap] IT
      obtain ⟨BB, hsz, r_m⟩ := BB
      generalize (w.alloc (.cells #[.int .i64 W, .int .i64 H, .int .i64 C, .slice A n cap] IT)) = w0 at *
      replace BB := Lib.hid BB
      replace r_m := Lib.hid r_m
      clear hsz
      refine (CF.out _).mono ?_
      rintro e w9 ⟨rfl, rfl⟩
      obtain ⟨c_m0, c_m1, c_m2, c_m3, f_m0, f_m1, f_m2, f_m3⟩ := reads4 r_m.out
      have l_m := r_m.out.lt
      go_wp2_with fail
      go_ret
      exact ⟨ret_int F.out.symm, BB.out⟩
  · have F : Hid (imC W H C n = fitC W H C) := if_neg h
    generalize imC W H C n = c at *
    generalize fitC W H C = d at *
    go_enter Try.func73, Try.ntmps73
    go_wp2_with fail
    have BB := start1 w #[.int .i64 W, .int .i64 H, .int .i64 C, .slice A n cap] IT
    obtain ⟨BB, hsz, r_m⟩ := BB
    generalize (w.alloc (.cells #[.int .i64 W, .int .i64 H, .int .i64 C, .slice A n cap] IT)) = w0 at *
    replace BB := Lib.hid BB
    replace r_m := Lib.hid r_m
    clear hsz
    refine (CF.out _).mono ?_
    rintro e w9 ⟨rfl, rfl⟩
    obtain ⟨c_m0, c_m1, c_m2, c_m3, f_m0, f_m1, f_m2, f_m3⟩ := reads4 r_m.out
    have l_m := r_m.out.lt
    go_wp2_with fail
    go_ret
    exact ⟨ret_int F.out.symm, BB.out⟩
set_option maxRecDepth 100000 in
set_option maxHeartbeats 2000000 in
theorem rcheck07 (W H C : Int) (A : Option Addr) (n cap : Nat) (w : World) : Calls Try.prog 39 #[imv W H C (.slice A n cap)] w fun e w' => e = .returned (.int .i64 (imC W H C n)) ∧ Below w.heap.size w w' := by
  have CF := Lib.hid (fun w => rfits07 W H C w)
  by_cases h : fitC W H C = 0
  · have F0 : imC W H C n = if (n : Int) = W * H * C then 0 else 12 := if_pos h
    obtain ⟨hc, hW, hH, p0, p1⟩ := fitC_zero h
    rw [h] at CF
    obtain ⟨P, hP⟩ : ∃ P, P = W * H := ⟨_, rfl⟩
    have hp : wrap64 (W * H) = P := by rw [hP]; exact wr_in (by omega) (by omega)
    rw [← hP] at F0 p0 p1
    obtain ⟨Q, hQ⟩ : ∃ Q, Q = P * C := ⟨_, rfl⟩
    have hq : wrap64 (P * C) = Q := by rw [hQ]; rcases hc with rfl | rfl | rfl <;> exact wr_in (by omega) (by omega)
    rw [← hQ] at F0
    clear h hP hQ
    generalize imC W H C n = c at *
    by_cases hn : (n : Int) = Q
    · have F : Hid (c = 0) := by show _ = _; rw [F0, if_pos hn]
      clear F0
      go_enter Try.func39, Try.ntmps39
      go_wp2_with fail
      have BB := start1 w #[.int .i64 W, .int .i64 H, .int .i64 C, .slice A n cap] IT
      obtain ⟨BB, hsz, r_m⟩ := BB
      generalize (w.alloc (.cells #[.int .i64 W, .int .i64 H, .int .i64 C, .slice A n cap] IT)) = w0 at *
      replace BB := Lib.hid BB
      replace r_m := Lib.hid r_m
      clear hsz
      refine (CF.out _).mono ?_
      rintro e w9 ⟨rfl, rfl⟩
      obtain ⟨c_m0, c_m1, c_m2, c_m3, f_m0, f_m1, f_m2, f_m3⟩ := reads4 r_m.out
      have l_m := r_m.out.lt
      go_wp2_with fail
      go_ret
      exact ⟨ret_int F.out.symm, BB.out⟩
    · have F : Hid (c = 12) := by show _ = _; rw [F0, if_neg hn]
      have hb : ((n : Int) != Q) = true := by simpa using hn
      have hb2 : ((n : Int) == Q) = false := by simpa using hn
      clear F0
      go_enter Try.func39, Try.ntmps39
      go_wp2_with fail
      have BB := start1 w #[.int .i64 W, .int .i64 H, .int .i64 C, .slice A n cap] IT
      obtain ⟨BB, hsz, r_m⟩ := BB
      generalize (w.alloc (.cells #[.int .i64 W, .int .i64 H, .int .i64 C, .slice A n cap] IT)) = w0 at *
      replace BB := Lib.hid BB
      replace r_m := Lib.hid r_m
      clear hsz
      refine (CF.out _).mono ?_
      rintro e w9 ⟨rfl, rfl⟩
      obtain ⟨c_m0, c_m1, c_m2, c_m3, f_m0, f_m1, f_m2, f_m3⟩ := reads4 r_m.out
      have l_m := r_m.out.lt
      go_wp2_with fail
      go_ret
      exact ⟨ret_int F.out.symm, BB.out⟩
  · have F : Hid (imC W H C n = fitC W H C) := if_neg h
    generalize imC W H C n = c at *
    generalize fitC W H C = d at *
    go_enter Try.func39, Try.ntmps39
    go_wp2_with fail
    have BB := start1 w #[.int .i64 W, .int .i64 H, .int .i64 C, .slice A n cap] IT
    obtain ⟨BB, hsz, r_m⟩ := BB
    generalize (w.alloc (.cells #[.int .i64 W, .int .i64 H, .int .i64 C, .slice A n cap] IT)) = w0 at *
    replace BB := Lib.hid BB
    replace r_m := Lib.hid r_m
    clear hsz
    refine (CF.out _).mono ?_
    rintro e w9 ⟨rfl, rfl⟩
    obtain ⟨c_m0, c_m1, c_m2, c_m3, f_m0, f_m1, f_m2, f_m3⟩ := reads4 r_m.out
    have l_m := r_m.out.lt
    go_wp2_with fail
    go_ret
    exact ⟨ret_int F.out.symm, BB.out⟩

set_option maxRecDepth 100000 in
theorem rfew (W H C q : Int) (A : Option Addr) (n cap : Nat) (w : World) : Calls Try.prog 31 #[imv W H C (.slice A n cap), .int .i64 q] w fun e w' => e = .returned (.bool (decide ((n : Int) ≤ q))) ∧ Below w.heap.size w w' := by
  go_enter Try.func31, Try.ntmps31
  go_wp2_with fail
  have BB := start1 w #[.int .i64 W, .int .i64 H, .int .i64 C, .slice A n cap] IT
  obtain ⟨BB, hsz, r_m⟩ := BB
  generalize (w.alloc (.cells #[.int .i64 W, .int .i64 H, .int .i64 C, .slice A n cap] IT)) = w0 at *
  replace BB := Lib.hid BB
  replace r_m := Lib.hid r_m
  clear hsz
  go_ret
  exact ⟨rfl, BB.out⟩

/-- The code of an image and a border. -/
def ibC (W H C m : Int) (n : Nat) : Int := if imC W H C n = 0 then bC m else imC W H C n
set_option maxRecDepth 100000 in
theorem bcheck2 (W H C m c0 c1 c2 c3 : Int) (A : Option Addr) (n cap : Nat) (w : World) : Calls Try.prog 77 #[imv W H C (.slice A n cap), brv m c0 c1 c2 c3] w fun e w' => e = .returned (.int .i64 (ibC W H C m n)) ∧ Below w.heap.size w w' := by
  have CI := Lib.hid (fun w => icheck W H C A n cap w)
  have CB := Lib.hid (fun w => bcheck_any m c0 c1 c2 c3 w)
  by_cases h : imC W H C n = 0
  · have F : Hid (ibC W H C m n = bC m) := if_pos h
    rw [h] at CI
    clear h
    generalize ibC W H C m n = c at *
    generalize bC m = d at *
    go_enter Try.func77, Try.ntmps77
    go_wp2_with fail
    have BB := start2 w #[.int .i64 W, .int .i64 H, .int .i64 C, .slice A n cap] IT #[.int .i64 m, .int .u8 c0, .int .u8 c1, .int .u8 c2, .int .u8 c3] RT
    obtain ⟨BB, hsz, r_i, r_b⟩ := BB
    generalize ((w.alloc (.cells #[.int .i64 W, .int .i64 H, .int .i64 C, .slice A n cap] IT)).alloc (.cells #[.int .i64 m, .int .u8 c0, .int .u8 c1, .int .u8 c2, .int .u8 c3] RT)) = w0 at *
    replace BB := Lib.hid BB
    replace r_i := Lib.hid r_i
    replace r_b := Lib.hid r_b
    clear hsz
    refine (CI.out _).mono ?_
    rintro e w1 ⟨rfl, hb⟩
    replace r_i := Lib.hid (r_i.out.keep hb)
    replace r_b := Lib.hid (r_b.out.keep hb)
    replace BB := Lib.hid (below_next BB.out hb)
    clear hb
    obtain ⟨c_b0, c_b1, c_b2, c_b3, c_b4, f_b0, f_b1, f_b2, f_b3, f_b4⟩ := reads5 r_b.out
    have l_b := r_b.out.lt
    go_wp2_with fail
    refine (CB.out _).mono ?_
    rintro e w2 ⟨rfl, hb⟩
    clear c_b0 c_b1 c_b2 c_b3 c_b4 f_b0 f_b1 f_b2 f_b3 f_b4 l_b
    replace r_i := Lib.hid (r_i.out.keep hb)
    replace r_b := Lib.hid (r_b.out.keep hb)
    replace BB := Lib.hid (below_next BB.out hb)
    clear hb
    go_wp2_with fail
    go_ret
    exact ⟨ret_int F.out.symm, BB.out⟩
  · have F : Hid (ibC W H C m n = imC W H C n) := if_neg h
    generalize ibC W H C m n = c at *
    generalize imC W H C n = d at *
    go_enter Try.func77, Try.ntmps77
    go_wp2_with fail
    have BB := start2 w #[.int .i64 W, .int .i64 H, .int .i64 C, .slice A n cap] IT #[.int .i64 m, .int .u8 c0, .int .u8 c1, .int .u8 c2, .int .u8 c3] RT
    obtain ⟨BB, hsz, r_i, r_b⟩ := BB
    generalize ((w.alloc (.cells #[.int .i64 W, .int .i64 H, .int .i64 C, .slice A n cap] IT)).alloc (.cells #[.int .i64 m, .int .u8 c0, .int .u8 c1, .int .u8 c2, .int .u8 c3] RT)) = w0 at *
    replace BB := Lib.hid BB
    replace r_i := Lib.hid r_i
    replace r_b := Lib.hid r_b
    clear hsz
    refine (CI.out _).mono ?_
    rintro e w1 ⟨rfl, hb⟩
    replace r_i := Lib.hid (r_i.out.keep hb)
    replace r_b := Lib.hid (r_b.out.keep hb)
    replace BB := Lib.hid (below_next BB.out hb)
    clear hb
    go_wp2_with fail
    go_ret
    exact ⟨ret_int F.out.symm, BB.out⟩

end Go.Proofs.Ytnklbnphiokpiaa

set_option linter.unusedVariables false
set_option linter.unusedSimpArgs false
namespace Go.Proofs.Ytnklbnphiokpiaa
open Go.RowKit
/-- A block of bytes, all of it. -/
def BRow (w : World) (g : Nat) (zs : List Int) : Prop := AtB w g (zs.map (Value.int .u8)).toArray 5
theorem BRow.keep {w w1 : World} {g : Nat} {zs : List Int} (h : BRow w g zs) (hb : Below w.heap.size w w1) : BRow w1 g zs := AtB.keep h hb
theorem BRow.bs {w : World} {g : Nat} {zs : List Int} (h : BRow w g zs) (hz : ∀ z ∈ zs, 0 ≤ z ∧ z ≤ 255) (hl : (zs.length : Int) ≤ 9223372036854775807) : BS w (.slice (some ⟨g, 0, none⟩) zs.length zs.length) zs := by
  refine ⟨_, _, rfl, Nat.le_refl _, hl, hz, fun _ => ⟨g, 0, rfl, AtB.lt h, fun i hi => ?_⟩⟩
  refine AtB.cell h (0 + i) ?_
  rw [Nat.zero_add]
  simp [List.getD, hi]
theorem info_u8s : (Try.prog.info? 5).map (fun i => (i.zero, i.size, i.bytes)) = some (some (.int .u8 0), 1, 1) := by kernel_rfl
theorem size_u8s : (Try.prog.info? 5).map (·.size) = some 1 := by kernel_rfl
theorem mk_bytes (c : Nat) (hc : c ≤ 1000000) (w : World) : (Instr.makeSlice 33 (.int .i64 (c : Int)) (.int .i64 (c : Int))).run Try.prog w = .ok (.slice (some ⟨w.heap.size, 0, none⟩) c c) (w.alloc (.cells (Array.replicate c (Value.int .u8 0)) 5)) := by
  obtain ⟨i, hi, he⟩ := Option.map_eq_some_iff.1 info_u8s
  simp only [Prod.mk.injEq] at he
  obtain ⟨hz, hs, hb⟩ := he
  have h := run_make (P := Try.prog) w 33 5 i _ Try.underlying33 hi hz .i64 .i64 (c : Int) (c : Int) (by omega) (by omega) (by rw [hb]; omega) (by omega)
  rw [hs, Int.toNat_natCast, Nat.mul_one] at h
  rw [h]
  have e : madeCells (Value.int .u8 0).cells c = Array.replicate c (Value.int .u8 0) := by
    apply Array.ext'
    rw [show (Value.int .u8 0).cells = #[Value.int .u8 0] from rfl, toList_madeCells_one]
    simp
  rw [e]

/-- The pixel's bytes. -/
def pixL (W H C m x y : Int) (cl zs : List Int) : List Int := if bOk m x W = true ∧ bOk m y H = true then (zs.drop ((bI m y H * W + bI m x W) * C).toNat).take C.toNat else cl.take C.toNat
def GivePx (W H C m x y : Int) (cl zs : List Int) (w : World) (e : Ending) (w' : World) : Prop :=
  ∃ g c, e = .returned (.tuple #[.slice (some ⟨g, 0, none⟩) c c, .int .i64 0]) ∧ (c : Int) = C ∧ Below w.heap.size w w' ∧ w.heap.size ≤ g ∧ BRow w' g (pixL W H C m x y cl zs)
theorem splice_all {L cs : List Value} (h : cs.length = L.length) : splice L 0 cs = cs := by
  unfold splice
  rw [List.take_zero, List.nil_append, Nat.zero_add, h, List.drop_length, List.append_nil]

theorem one_u8 {l : List Int} : ∀ v ∈ l.map (Value.int .u8), v.oneCell' = true := by
  intro v hv
  obtain ⟨z, -, rfl⟩ := List.mem_map.1 hv
  rfl
theorem row_heap {w : World} {g c : Nat} {v : Value} {T : TypeId} (h : AtB w g (Array.replicate c v) T) : w.heap[g]? = some (.cells (List.replicate c v).toArray T (0, 0)) := by
  rw [List.toArray_replicate]; exact h
theorem color_cells {w : World} {g c : Nat} {m c0 c1 c2 c3 : Int} {T : TypeId} (h : AtB w g #[.int .i64 m, .int .u8 c0, .int .u8 c1, .int .u8 c2, .int .u8 c3] T) :
    ∀ (j : Nat) (v : Value), (([c0, c1, c2, c3].take c).map (Value.int .u8))[j]? = some v → w.cell? ((⟨g, 1, none⟩ : Addr).add j) = some v := by
  intro j v hj
  rw [List.map_take, List.getElem?_take] at hj
  split at hj
  · match j, hj with
    | 0, hj => simp at hj; subst hj; exact h.cell 1 rfl
    | 1, hj => simp at hj; subst hj; exact h.cell 2 rfl
    | 2, hj => simp at hj; subst hj; exact h.cell 3 rfl
    | 3, hj => simp at hj; subst hj; exact h.cell 4 rfl
    | n + 4, hj => simp at hj
  · simp at hj
theorem copy_all (w : World) (g c : Nat) (cs : List Value) (a : Addr) (n cap : Nat) {v : Value} (hg : AtB w g (Array.replicate c v) 5) (hl : cs.length = c) (hn : c ≤ n) (hs : ∀ j v, cs[j]? = some v → w.cell? (a.add j) = some v) (h1 : ∀ v ∈ cs, v.oneCell' = true) :
    (Builtin.copy_ #[33, 33] 3 #[.slice (some ⟨g, 0, none⟩) c c, .slice (some a) n cap]).run Try.prog w = .ok (goInt c) (w.setRow g cs.toArray) := by
  have h := run_copy_row (P := Try.prog) w 33 33 3 5 g 0 c c a n cap (Array.replicate c v) 5 cs Try.underlying33 size_u8s hg (by rw [hl]; simp [Nat.min_def]; omega) hs (by simp; omega) h1
  have e : (Array.replicate c v).toList.take 0 ++ cs ++ (Array.replicate c v).toList.drop (0 + c) = cs := by simp
  rw [h, hl, e]
theorem below_row {w0 : World} (w : World) (g : Nat) (cs : List Value) (hg : w0.heap.size ≤ g) (hb : Below w0.heap.size w0 w) : Below w0.heap.size w0 (w.setRow g cs.toArray) := below_setRow hb hg _
theorem row_set (w : World) (g : Nat) (cs : List Value) {c : Array Value} {T : TypeId} (h : AtB w g c T) : AtB (w.setRow g cs.toArray) g cs.toArray T := setRow_heap w g _ _ _ _ h
set_option maxRecDepth 100000 in
theorem bpixel_no (W H C m c0 c1 c2 c3 x y : Int) (A : Option Addr) (n cap : Nat) (h : ibC W H C m n ≠ 0) (w : World) :
    Calls Try.prog 38 #[imv W H C (.slice A n cap), brv m c0 c1 c2 c3, .int .i64 x, .int .i64 y] w fun e w' => e = .returned (.tuple #[.slice none 0 0, .int .i64 (ibC W H C m n)]) ∧ Below w.heap.size w w' := by
  have CK := Lib.hid (fun w => bcheck2 W H C m c0 c1 c2 c3 A n cap w)
  generalize ibC W H C m n = d at *
  go_enter Try.func38, Try.ntmps38
  go_wp2_with fail
  have BB := start2 w #[.int .i64 W, .int .i64 H, .int .i64 C, .slice A n cap] IT #[.int .i64 m, .int .u8 c0, .int .u8 c1, .int .u8 c2, .int .u8 c3] RT
  obtain ⟨BB, hsz, r_i, r_b⟩ := BB
  generalize ((w.alloc (.cells #[.int .i64 W, .int .i64 H, .int .i64 C, .slice A n cap] IT)).alloc (.cells #[.int .i64 m, .int .u8 c0, .int .u8 c1, .int .u8 c2, .int .u8 c3] RT)) = w0 at *
  replace BB := Lib.hid BB
  replace r_i := Lib.hid r_i
  replace r_b := Lib.hid r_b
  clear hsz
  refine (CK.out _).mono ?_
  rintro e w1 ⟨rfl, hb⟩
  replace r_i := Lib.hid (r_i.out.keep hb)
  replace r_b := Lib.hid (r_b.out.keep hb)
  replace BB := Lib.hid (below_next BB.out hb)
  clear hb
  go_wp2_with fail
  refine bodyPost_ret (v := .tuple #[.slice none 0 0, .int .i64 d]) (by unfold results; simp only [Try.results38]; go_simp) rfl ?_
  exact ⟨rfl, BB.out⟩
theorem ibC_zero {W H C m : Int} {n : Nat} (h : ibC W H C m n = 0) : imC W H C n = 0 ∧ (0 ≤ m ∧ m ≤ 3) ∧ (C = 1 ∨ C = 3 ∨ C = 4) ∧ (1 ≤ W ∧ W ≤ 32768) ∧ (1 ≤ H ∧ H ≤ 32768) ∧ 1 ≤ W * H ∧ W * H ≤ 4194304 ∧ (n : Int) = W * H * C := by
  unfold ibC at h
  split at h
  · rename_i h0
    unfold bC at h
    split at h
    · omega
    · have h1 := h0
      unfold imC at h1
      split at h1
      · rename_i h2
        split at h1
        · rename_i h3
          have := fitC_zero h2
          exact ⟨h0, by omega, this.1, this.2.1, this.2.2.1, this.2.2.2.1, this.2.2.2.2, h3⟩
        · omega
      · exact absurd h1 ‹_›
  · exact absurd h ‹_›

set_option maxRecDepth 100000 in
set_option maxHeartbeats 4000000 in
theorem bpixel_beyond (W H m c0 c1 c2 c3 x y : Int) (c : Nat) (A : Option Addr) (n cap : Nat) (hW : I64 W) (hH : I64 H) (hm : I64 m) (hx : I64 x) (hy : I64 y) (hc : c ≤ 4) (h : ibC W H c m n = 0) (hb : ¬ (bOk m x W = true ∧ bOk m y H = true)) (w : World) :
    Calls Try.prog 38 #[imv W H c (.slice A n cap), brv m c0 c1 c2 c3, .int .i64 x, .int .i64 y] w fun e w' => ∃ g, e = .returned (.tuple #[.slice (some ⟨g, 0, none⟩) c c, .int .i64 0]) ∧ Below w.heap.size w w' ∧ w.heap.size ≤ g ∧ BRow w' g ([c0, c1, c2, c3].take c) := by
  have CK := Lib.hid (fun w => bcheck2 W H c m c0 c1 c2 c3 A n cap w)
  have CX := Lib.hid (fun w => bindex_any m x W hm hx hW w)
  have CY := Lib.hid (fun w => bindex_any m y H hm hy hH w)
  have MK := mk_bytes c (by omega)
  rw [h] at CK
  clear h hm hx hy hW hH
  generalize bI m x W = X at *
  generalize bI m y H = Y at *
  rcases ox : bOk m x W with _ | _
  · clear hb
    rw [ox] at CX
    generalize bOk m y H = oy at *
    clear ox
    go_enter Try.func38, Try.ntmps38
    go_wp2_with fail
    have BB := start2 w #[.int .i64 W, .int .i64 H, .int .i64 c, .slice A n cap] IT #[.int .i64 m, .int .u8 c0, .int .u8 c1, .int .u8 c2, .int .u8 c3] RT
    obtain ⟨BB, hsz, r_i, r_b⟩ := BB
    generalize ((w.alloc (.cells #[.int .i64 W, .int .i64 H, .int .i64 c, .slice A n cap] IT)).alloc (.cells #[.int .i64 m, .int .u8 c0, .int .u8 c1, .int .u8 c2, .int .u8 c3] RT)) = w0 at *
    replace BB := Lib.hid BB
    replace r_i := Lib.hid r_i
    replace r_b := Lib.hid r_b
    clear hsz
    refine (CK.out _).mono ?_
    rintro e w1 ⟨rfl, hb⟩
    replace r_i := Lib.hid (r_i.out.keep hb)
    replace r_b := Lib.hid (r_b.out.keep hb)
    replace BB := Lib.hid (below_next BB.out hb)
    clear hb
    obtain ⟨c_i0, c_i1, c_i2, c_i3, f_i0, f_i1, f_i2, f_i3⟩ := reads4 r_i.out
    have l_i := r_i.out.lt
    obtain ⟨c_b0, c_b1, c_b2, c_b3, c_b4, f_b0, f_b1, f_b2, f_b3, f_b4⟩ := reads5 r_b.out
    have l_b := r_b.out.lt
    go_wp2_with fail
    refine (CX.out _).mono ?_
    rintro e w2 ⟨rfl, hb⟩
    clear c_i0 c_i1 c_i2 c_i3 f_i0 f_i1 f_i2 f_i3 l_i c_b0 c_b1 c_b2 c_b3 c_b4 f_b0 f_b1 f_b2 f_b3 f_b4 l_b
    replace r_i := Lib.hid (r_i.out.keep hb)
    replace r_b := Lib.hid (r_b.out.keep hb)
    replace BB := Lib.hid (below_next BB.out hb)
    clear hb
    obtain ⟨c_i0, c_i1, c_i2, c_i3, f_i0, f_i1, f_i2, f_i3⟩ := reads4 r_i.out
    have l_i := r_i.out.lt
    obtain ⟨c_b0, c_b1, c_b2, c_b3, c_b4, f_b0, f_b1, f_b2, f_b3, f_b4⟩ := reads5 r_b.out
    have l_b := r_b.out.lt
    go_wp2_with fail
    refine (CY.out _).mono ?_
    rintro e w3 ⟨rfl, hb⟩
    clear c_i0 c_i1 c_i2 c_i3 f_i0 f_i1 f_i2 f_i3 l_i c_b0 c_b1 c_b2 c_b3 c_b4 f_b0 f_b1 f_b2 f_b3 f_b4 l_b
    replace r_i := Lib.hid (r_i.out.keep hb)
    replace r_b := Lib.hid (r_b.out.keep hb)
    replace BB := Lib.hid (below_next BB.out hb)
    clear hb
    obtain ⟨c_i0, c_i1, c_i2, c_i3, f_i0, f_i1, f_i2, f_i3⟩ := reads4 r_i.out
    have l_i := r_i.out.lt
    obtain ⟨c_b0, c_b1, c_b2, c_b3, c_b4, f_b0, f_b1, f_b2, f_b3, f_b4⟩ := reads5 r_b.out
    have l_b := r_b.out.lt
    go_upto_region 7 with fail
    clear c_i0 c_i1 c_i2 c_i3 f_i0 f_i1 f_i2 f_i3 l_i c_b0 c_b1 c_b2 c_b3 c_b4 f_b0 f_b1 f_b2 f_b3 f_b4 l_b
    have d_out := Lib.hid (And.intro BB.out.size (And.intro r_i.out.lt (And.intro r_b.out.lt (True.intro))))
    obtain ⟨hb, r_out⟩ := laid w3 (Array.replicate c (Value.int .u8 0)) 5
    replace r_i := Lib.hid (r_i.out.keep hb)
    replace r_b := Lib.hid (r_b.out.keep hb)
    replace BB := Lib.hid (below_next BB.out hb)
    replace r_out := Lib.hid r_out
    clear hb
    generalize w3.alloc (.cells (Array.replicate c (Value.int .u8 0)) 5) = w4 at *
    generalize w3.heap.size = g_out at *
    obtain ⟨c_i0, c_i1, c_i2, c_i3, f_i0, f_i1, f_i2, f_i3⟩ := reads4 r_i.out
    have l_i := r_i.out.lt
    obtain ⟨c_b0, c_b1, c_b2, c_b3, c_b4, f_b0, f_b1, f_b2, f_b3, f_b4⟩ := reads5 r_b.out
    have l_b := r_b.out.lt
    have HS := Lib.hid (color_cells (g := w.heap.size + 1) (w := w4) (c := c) r_b.out)
    have hgo := d_out.out.1
    go_wp2_with fail
    rw [copy_all w4 g_out c (([c0, c1, c2, c3].take c).map (Value.int .u8)) ⟨w.heap.size + 1, 1, none⟩ 4 4 r_out.out (by simp; omega) (by omega) HS.out one_u8]
    clear c_i0 c_i1 c_i2 c_i3 f_i0 f_i1 f_i2 f_i3 l_i c_b0 c_b1 c_b2 c_b3 c_b4 f_b0 f_b1 f_b2 f_b3 f_b4 l_b
    have hb := below_row w4 g_out (([c0, c1, c2, c3].take c).map (Value.int .u8)) hgo BB.out
    have hr := row_set w4 g_out (([c0, c1, c2, c3].take c).map (Value.int .u8)) r_out.out
    clear HS r_i r_b r_out BB
    generalize World.setRow w4 g_out (([c0, c1, c2, c3].take c).map (Value.int .u8)).toArray = w8 at *
    go_wp2_with fail
    refine bodyPost_ret (v := .tuple #[.slice (some ⟨g_out, 0, none⟩) c c, .int .i64 0]) (by unfold results; simp only [Try.results38]; go_simp) rfl ?_
    exact ⟨_, rfl, hb, hgo, hr⟩
  · rcases oy : bOk m y H with _ | _
    · clear hb
      rw [ox] at CX
      rw [oy] at CY
      clear ox oy
      go_enter Try.func38, Try.ntmps38
      go_wp2_with fail
      have BB := start2 w #[.int .i64 W, .int .i64 H, .int .i64 c, .slice A n cap] IT #[.int .i64 m, .int .u8 c0, .int .u8 c1, .int .u8 c2, .int .u8 c3] RT
      obtain ⟨BB, hsz, r_i, r_b⟩ := BB
      generalize ((w.alloc (.cells #[.int .i64 W, .int .i64 H, .int .i64 c, .slice A n cap] IT)).alloc (.cells #[.int .i64 m, .int .u8 c0, .int .u8 c1, .int .u8 c2, .int .u8 c3] RT)) = w0 at *
      replace BB := Lib.hid BB
      replace r_i := Lib.hid r_i
      replace r_b := Lib.hid r_b
      clear hsz
      refine (CK.out _).mono ?_
      rintro e w1 ⟨rfl, hb⟩
      replace r_i := Lib.hid (r_i.out.keep hb)
      replace r_b := Lib.hid (r_b.out.keep hb)
      replace BB := Lib.hid (below_next BB.out hb)
      clear hb
      obtain ⟨c_i0, c_i1, c_i2, c_i3, f_i0, f_i1, f_i2, f_i3⟩ := reads4 r_i.out
      have l_i := r_i.out.lt
      obtain ⟨c_b0, c_b1, c_b2, c_b3, c_b4, f_b0, f_b1, f_b2, f_b3, f_b4⟩ := reads5 r_b.out
      have l_b := r_b.out.lt
      go_wp2_with fail
      refine (CX.out _).mono ?_
      rintro e w2 ⟨rfl, hb⟩
      clear c_i0 c_i1 c_i2 c_i3 f_i0 f_i1 f_i2 f_i3 l_i c_b0 c_b1 c_b2 c_b3 c_b4 f_b0 f_b1 f_b2 f_b3 f_b4 l_b
      replace r_i := Lib.hid (r_i.out.keep hb)
      replace r_b := Lib.hid (r_b.out.keep hb)
      replace BB := Lib.hid (below_next BB.out hb)
      clear hb
      obtain ⟨c_i0, c_i1, c_i2, c_i3, f_i0, f_i1, f_i2, f_i3⟩ := reads4 r_i.out
      have l_i := r_i.out.lt
      obtain ⟨c_b0, c_b1, c_b2, c_b3, c_b4, f_b0, f_b1, f_b2, f_b3, f_b4⟩ := reads5 r_b.out
      have l_b := r_b.out.lt
      go_wp2_with fail
      refine (CY.out _).mono ?_
      rintro e w3 ⟨rfl, hb⟩
      clear c_i0 c_i1 c_i2 c_i3 f_i0 f_i1 f_i2 f_i3 l_i c_b0 c_b1 c_b2 c_b3 c_b4 f_b0 f_b1 f_b2 f_b3 f_b4 l_b
      replace r_i := Lib.hid (r_i.out.keep hb)
      replace r_b := Lib.hid (r_b.out.keep hb)
      replace BB := Lib.hid (below_next BB.out hb)
      clear hb
      obtain ⟨c_i0, c_i1, c_i2, c_i3, f_i0, f_i1, f_i2, f_i3⟩ := reads4 r_i.out
      have l_i := r_i.out.lt
      obtain ⟨c_b0, c_b1, c_b2, c_b3, c_b4, f_b0, f_b1, f_b2, f_b3, f_b4⟩ := reads5 r_b.out
      have l_b := r_b.out.lt
      go_upto_region 7 with fail
      clear c_i0 c_i1 c_i2 c_i3 f_i0 f_i1 f_i2 f_i3 l_i c_b0 c_b1 c_b2 c_b3 c_b4 f_b0 f_b1 f_b2 f_b3 f_b4 l_b
      have d_out := Lib.hid (And.intro BB.out.size (And.intro r_i.out.lt (And.intro r_b.out.lt (True.intro))))
      obtain ⟨hb, r_out⟩ := laid w3 (Array.replicate c (Value.int .u8 0)) 5
      replace r_i := Lib.hid (r_i.out.keep hb)
      replace r_b := Lib.hid (r_b.out.keep hb)
      replace BB := Lib.hid (below_next BB.out hb)
      replace r_out := Lib.hid r_out
      clear hb
      generalize w3.alloc (.cells (Array.replicate c (Value.int .u8 0)) 5) = w4 at *
      generalize w3.heap.size = g_out at *
      obtain ⟨c_i0, c_i1, c_i2, c_i3, f_i0, f_i1, f_i2, f_i3⟩ := reads4 r_i.out
      have l_i := r_i.out.lt
      obtain ⟨c_b0, c_b1, c_b2, c_b3, c_b4, f_b0, f_b1, f_b2, f_b3, f_b4⟩ := reads5 r_b.out
      have l_b := r_b.out.lt
      have HS := Lib.hid (color_cells (g := w.heap.size + 1) (w := w4) (c := c) r_b.out)
      have hgo := d_out.out.1
      go_wp2_with fail
      rw [copy_all w4 g_out c (([c0, c1, c2, c3].take c).map (Value.int .u8)) ⟨w.heap.size + 1, 1, none⟩ 4 4 r_out.out (by simp; omega) (by omega) HS.out one_u8]
      clear c_i0 c_i1 c_i2 c_i3 f_i0 f_i1 f_i2 f_i3 l_i c_b0 c_b1 c_b2 c_b3 c_b4 f_b0 f_b1 f_b2 f_b3 f_b4 l_b
      have hb := below_row w4 g_out (([c0, c1, c2, c3].take c).map (Value.int .u8)) hgo BB.out
      have hr := row_set w4 g_out (([c0, c1, c2, c3].take c).map (Value.int .u8)) r_out.out
      clear HS r_i r_b r_out BB
      generalize World.setRow w4 g_out (([c0, c1, c2, c3].take c).map (Value.int .u8)).toArray = w8 at *
      go_wp2_with fail
      refine bodyPost_ret (v := .tuple #[.slice (some ⟨g_out, 0, none⟩) c c, .int .i64 0]) (by unfold results; simp only [Try.results38]; go_simp) rfl ?_
      exact ⟨_, rfl, hb, hgo, hr⟩
    · exact absurd ⟨ox, oy⟩ hb

theorem addr_add (b o j : Nat) : (⟨b, o, none⟩ : Addr).add j = ⟨b, o + j, none⟩ := by
  unfold Addr.add; split
  · rename_i h; subst h; rfl
  · rfl
theorem pix_cells {w : World} {b o k c : Nat} {zs : List Int} (h : ∀ i, i < zs.length → w.cell? ⟨b, o + i, none⟩ = some (.int .u8 (zs.getD i 0))) :
    ∀ (j : Nat) (v : Value), (((zs.drop k).take c).map (Value.int .u8))[j]? = some v → w.cell? ((⟨b, o + k, none⟩ : Addr).add j) = some v := by
  intro j v hj
  rw [List.getElem?_map, List.getElem?_take] at hj
  split at hj
  · rw [List.getElem?_drop] at hj
    by_cases hk : k + j < zs.length
    · rw [List.getElem?_eq_getElem hk] at hj
      simp at hj
      subst hj
      rw [addr_add, Nat.add_assoc, h _ hk]
      simp [List.getD, hk]
    · rw [List.getElem?_eq_none (by omega)] at hj; simp at hj
  · simp at hj
theorem place_in {X Y W H C : Int} (hC : C = 1 ∨ C = 3 ∨ C = 4) (hX : 0 ≤ X ∧ X < W) (hY : 0 ≤ Y ∧ Y < H) (hW : W ≤ 32768) (hH : H ≤ 32768) :
    (0 ≤ Y * W ∧ Y * W ≤ 1073741824) ∧ (0 ≤ Y * W + X ∧ Y * W + X ≤ 1073774592) ∧ 0 ≤ (Y * W + X) * C ∧ (Y * W + X) * C + C ≤ W * H * C ∧ (Y * W + X) * C ≤ 4295098368 := by
  have h0 : 0 ≤ Y * W := Int.mul_nonneg hY.1 (by omega)
  have h1 : Y * W ≤ (H - 1) * W := Int.mul_le_mul_of_nonneg_right (by omega) (by omega)
  have h2 : (H - 1) * W = W * H - W := by rw [Int.sub_mul, Int.mul_comm H W]; omega
  have h3 : W * H ≤ 32768 * 32768 := Int.mul_le_mul (by omega) (by omega) (by omega) (by omega)
  generalize Y * W = p at *
  generalize W * H = q at *
  rcases hC with rfl | rfl | rfl <;> omega

set_option maxRecDepth 100000 in
set_option maxHeartbeats 4000000 in
theorem bpixel_within (W H m c0 c1 c2 c3 x y : Int) (c pb po cap : Nat) (zs : List Int) (hW : I64 W) (hH : I64 H) (hm : I64 m) (hx : I64 x) (hy : I64 y) (h : ibC W H c m zs.length = 0) (hcap : zs.length ≤ cap) (hcap' : (cap : Int) ≤ 9223372036854775807) (hb : bOk m x W = true ∧ bOk m y H = true) (w : World)
    (hlt : pb < w.heap.size) (hp : ∀ i, i < zs.length → w.cell? ⟨pb, po + i, none⟩ = some (.int .u8 (zs.getD i 0))) :
    Calls Try.prog 38 #[imv W H c (.slice (some ⟨pb, po, none⟩) zs.length cap), brv m c0 c1 c2 c3, .int .i64 x, .int .i64 y] w fun e w' => ∃ g, e = .returned (.tuple #[.slice (some ⟨g, 0, none⟩) c c, .int .i64 0]) ∧ Below w.heap.size w w' ∧ w.heap.size ≤ g ∧ BRow w' g ((zs.drop ((bI m y H * W + bI m x W) * c).toNat).take c) := by
  obtain ⟨-, -, hC, hW1, hH1, q0, q1, hn⟩ := ibC_zero h
  have bX := bI_bounds (mode := m) (i := x) (n := W) (by omega)
  have bY := bI_bounds (mode := m) (i := y) (n := H) (by omega)
  obtain ⟨r1, r2, r3, r4, r5⟩ := place_in hC bX bY (by omega) (by omega)
  have CK := Lib.hid (fun w => bcheck2 W H c m c0 c1 c2 c3 (some ⟨pb, po, none⟩) zs.length cap w)
  have CX := Lib.hid (fun w => bindex_any m x W hm hx hW w)
  have CY := Lib.hid (fun w => bindex_any m y H hm hy hH w)
  have MK := mk_bytes c (by omega)
  rw [h] at CK
  rw [hb.1] at CX
  rw [hb.2] at CY
  clear h hm hx hy hW hH hb
  generalize bI m x W = X at *
  generalize bI m y H = Y at *
  obtain ⟨P1, hP1⟩ : ∃ P, P = Y * W := ⟨_, rfl⟩
  have e1 : wrap64 (Y * W) = P1 := by rw [hP1]; exact wr_in (by omega) (by omega)
  rw [← hP1] at r1 r2 r3 r4 r5 ⊢
  obtain ⟨P2, hP2⟩ : ∃ P, P = P1 + X := ⟨_, rfl⟩
  have e2 : wrap64 (P1 + X) = P2 := by rw [hP2]; exact wr_in (by omega) (by omega)
  rw [← hP2] at r2 r3 r4 r5 ⊢
  obtain ⟨k, hk⟩ : ∃ k : Nat, (k : Int) = P2 * c := ⟨(P2 * c).toNat, Int.toNat_of_nonneg r3⟩
  have e3 : wrap64 (P2 * c) = (k : Int) := by rw [hk]; exact wr_in (by omega) (by omega)
  rw [← hk] at r3 r4 r5 ⊢
  rw [Int.toNat_natCast]
  have k0 : (0 : Int) ≤ (k : Int) := by omega
  have k1 : (k : Int) ≤ (zs.length : Int) := by omega
  have k2 : k + c ≤ zs.length := by omega
  have k3 : k ≤ zs.length := by omega
  have k4 : ¬ k = cap := by omega
  have k5 : ¬ cap = k := by omega
  have k6 : ¬ (k : Int) = (cap : Int) := by omega
  have hlen : ((zs.drop k).take c).length = c := by rw [List.length_take, List.length_drop]; omega
  have HL := Lib.hid hlen
  have HP := Lib.hid hp
  have hlt := Lib.hid hlt
  clear hlen hp hC hW1 hH1 q0 q1 hn bX bY r1 r2 r4 hk hP1 hP2
  go_enter Try.func38, Try.ntmps38
  go_wp2_with fail
  have BB := start2 w #[.int .i64 W, .int .i64 H, .int .i64 c, .slice (some ⟨pb, po, none⟩) zs.length cap] IT #[.int .i64 m, .int .u8 c0, .int .u8 c1, .int .u8 c2, .int .u8 c3] RT
  obtain ⟨BB, hsz, r_i, r_b⟩ := BB
  generalize ((w.alloc (.cells #[.int .i64 W, .int .i64 H, .int .i64 c, .slice (some ⟨pb, po, none⟩) zs.length cap] IT)).alloc (.cells #[.int .i64 m, .int .u8 c0, .int .u8 c1, .int .u8 c2, .int .u8 c3] RT)) = w0 at *
  replace BB := Lib.hid BB
  replace r_i := Lib.hid r_i
  replace r_b := Lib.hid r_b
  clear hsz
  refine (CK.out _).mono ?_
  rintro e w1 ⟨rfl, hb⟩
  replace r_i := Lib.hid (r_i.out.keep hb)
  replace r_b := Lib.hid (r_b.out.keep hb)
  replace BB := Lib.hid (below_next BB.out hb)
  clear hb
  obtain ⟨c_i0, c_i1, c_i2, c_i3, f_i0, f_i1, f_i2, f_i3⟩ := reads4 r_i.out
  have l_i := r_i.out.lt
  obtain ⟨c_b0, c_b1, c_b2, c_b3, c_b4, f_b0, f_b1, f_b2, f_b3, f_b4⟩ := reads5 r_b.out
  have l_b := r_b.out.lt
  go_wp2_with fail
  refine (CX.out _).mono ?_
  rintro e w2 ⟨rfl, hb⟩
  clear c_i0 c_i1 c_i2 c_i3 f_i0 f_i1 f_i2 f_i3 l_i c_b0 c_b1 c_b2 c_b3 c_b4 f_b0 f_b1 f_b2 f_b3 f_b4 l_b
  replace r_i := Lib.hid (r_i.out.keep hb)
  replace r_b := Lib.hid (r_b.out.keep hb)
  replace BB := Lib.hid (below_next BB.out hb)
  clear hb
  obtain ⟨c_i0, c_i1, c_i2, c_i3, f_i0, f_i1, f_i2, f_i3⟩ := reads4 r_i.out
  have l_i := r_i.out.lt
  obtain ⟨c_b0, c_b1, c_b2, c_b3, c_b4, f_b0, f_b1, f_b2, f_b3, f_b4⟩ := reads5 r_b.out
  have l_b := r_b.out.lt
  go_wp2_with fail
  refine (CY.out _).mono ?_
  rintro e w3 ⟨rfl, hb⟩
  clear c_i0 c_i1 c_i2 c_i3 f_i0 f_i1 f_i2 f_i3 l_i c_b0 c_b1 c_b2 c_b3 c_b4 f_b0 f_b1 f_b2 f_b3 f_b4 l_b
  replace r_i := Lib.hid (r_i.out.keep hb)
  replace r_b := Lib.hid (r_b.out.keep hb)
  replace BB := Lib.hid (below_next BB.out hb)
  clear hb
  obtain ⟨c_i0, c_i1, c_i2, c_i3, f_i0, f_i1, f_i2, f_i3⟩ := reads4 r_i.out
  have l_i := r_i.out.lt
  obtain ⟨c_b0, c_b1, c_b2, c_b3, c_b4, f_b0, f_b1, f_b2, f_b3, f_b4⟩ := reads5 r_b.out
  have l_b := r_b.out.lt
  go_upto_region 7 with fail
  clear c_i0 c_i1 c_i2 c_i3 f_i0 f_i1 f_i2 f_i3 l_i c_b0 c_b1 c_b2 c_b3 c_b4 f_b0 f_b1 f_b2 f_b3 f_b4 l_b
  have d_out := Lib.hid (And.intro BB.out.size (And.intro r_i.out.lt (And.intro r_b.out.lt (True.intro))))
  obtain ⟨hb, r_out⟩ := laid w3 (Array.replicate c (Value.int .u8 0)) 5
  replace r_i := Lib.hid (r_i.out.keep hb)
  replace r_b := Lib.hid (r_b.out.keep hb)
  replace BB := Lib.hid (below_next BB.out hb)
  replace r_out := Lib.hid r_out
  clear hb
  generalize w3.alloc (.cells (Array.replicate c (Value.int .u8 0)) 5) = w4 at *
  generalize w3.heap.size = g_out at *
  obtain ⟨c_i0, c_i1, c_i2, c_i3, f_i0, f_i1, f_i2, f_i3⟩ := reads4 r_i.out
  have l_i := r_i.out.lt
  obtain ⟨c_b0, c_b1, c_b2, c_b3, c_b4, f_b0, f_b1, f_b2, f_b3, f_b4⟩ := reads5 r_b.out
  have l_b := r_b.out.lt
  have HS := Lib.hid (pix_cells (w := w4) (b := pb) (o := po) (k := k) (c := c) (zs := zs) (fun i hi => (BB.out.cell (p := ⟨pb, po + i, none⟩) hlt.out).trans (HP.out i hi)))
  have hgo := d_out.out.1
  have kc : c ≤ zs.length - k := by omega
  generalize hLL : (zs.drop k).take c = L at *
  generalize zs.length = n at *
  replace hLL := Lib.hid hLL
  clear HP
  go_wp2_with fail
  rw [copy_all w4 g_out c (L.map (Value.int .u8)) ⟨pb, po + k, none⟩ (n - k) (cap - k) r_out.out (by simpa using HL.out) (by omega) HS.out one_u8]
  clear c_i0 c_i1 c_i2 c_i3 f_i0 f_i1 f_i2 f_i3 l_i c_b0 c_b1 c_b2 c_b3 c_b4 f_b0 f_b1 f_b2 f_b3 f_b4 l_b
  have hb := below_row w4 g_out (L.map (Value.int .u8)) hgo BB.out
  have hr := row_set w4 g_out (L.map (Value.int .u8)) r_out.out
  clear HS r_i r_b r_out BB
  generalize World.setRow w4 g_out (L.map (Value.int .u8)).toArray = w8 at *
  go_wp2_with fail
  refine bodyPost_ret (v := .tuple #[.slice (some ⟨g_out, 0, none⟩) c c, .int .i64 0]) (by unfold results; simp only [Try.results38]; go_simp) rfl ?_
  exact ⟨_, rfl, hb, hgo, by rw [hLL.out]; exact hr⟩

/-- An image that came in. -/
structure IMG (w : World) (s : Value) (W H C : Int) (zs : List Int) : Prop where
  iw : I64 W
  ih : I64 H
  ic : I64 C
  ib : BS w s zs
theorem bpixel (W H C m c0 c1 c2 c3 x y : Int) (s : Value) (zs : List Int) (w : World) (hi : IMG w s W H C zs) (hm : I64 m) (hx : I64 x) (hy : I64 y) (h : ibC W H C m zs.length = 0) :
    Calls Try.prog 38 #[imv W H C s, brv m c0 c1 c2 c3, .int .i64 x, .int .i64 y] w (GivePx W H C m x y [c0, c1, c2, c3] zs w) := by
  obtain ⟨hW, hH, hC, hb⟩ := hi
  have hz := ibC_zero h
  obtain ⟨-, -, hC', hW1, hH1, q0, q1, hn⟩ := hz
  obtain ⟨c, rfl⟩ : ∃ c : Nat, C = (c : Int) := ⟨C.toNat, by omega⟩
  have hne : zs ≠ [] := by
    rintro rfl
    simp at hn
    generalize W * H = p at *
    rcases hC' with e | e | e <;> rw [e] at hn <;> omega
  obtain ⟨b, off, cap, rfl, k1, k2, k3, k4⟩ := hb.some hne
  by_cases hk : bOk m x W = true ∧ bOk m y H = true
  · refine (bpixel_within W H m c0 c1 c2 c3 x y c b off cap zs hW hH hm hx hy h k1 k2 hk w k3 k4).mono ?_
    rintro e w' ⟨g, rfl, h1, h2, h3⟩
    refine ⟨g, c, rfl, rfl, h1, h2, ?_⟩
    unfold pixL
    rw [if_pos hk, Int.toNat_natCast]
    exact h3
  · refine (bpixel_beyond W H m c0 c1 c2 c3 x y c _ zs.length cap hW hH hm hx hy (by omega) h hk w).mono ?_
    rintro e w' ⟨g, rfl, h1, h2, h3⟩
    refine ⟨g, c, rfl, rfl, h1, h2, ?_⟩
    unfold pixL
    rw [if_neg hk, Int.toNat_natCast]
    exact h3
/-- The pixel has as many bytes as the image has channels. -/
theorem pixL_len {W H C m x y : Int} {cl zs : List Int} (h : ibC W H C m zs.length = 0) (hc : cl.length = 4) : ((pixL W H C m x y cl zs).length : Int) = C := by
  obtain ⟨-, -, hC, hW1, hH1, q0, q1, hn⟩ := ibC_zero h
  unfold pixL
  split
  · have bX := bI_bounds (mode := m) (i := x) (n := W) (by omega)
    have bY := bI_bounds (mode := m) (i := y) (n := H) (by omega)
    obtain ⟨r1, r2, r3, r4, r5⟩ := place_in hC bX bY (by omega) (by omega)
    rw [List.length_take, List.length_drop]
    omega
  · rw [List.length_take]; omega
theorem pixL_byte {W H C m x y : Int} {cl zs : List Int} (hz : ∀ z ∈ zs, 0 ≤ z ∧ z ≤ 255) (hc : ∀ z ∈ cl, 0 ≤ z ∧ z ≤ 255) : ∀ z ∈ pixL W H C m x y cl zs, 0 ≤ z ∧ z ≤ 255 := by
  intro z h
  unfold pixL at h
  split at h
  · exact hz _ (List.mem_of_mem_drop (List.mem_of_mem_take h))
  · exact hc _ (List.mem_of_mem_take h)
theorem BS.all {w : World} {v : Value} {zs : List Int} (h : BS w v zs) : ∀ z ∈ zs, 0 ≤ z ∧ z ≤ 255 := by
  obtain ⟨A, cap, -, -, -, h3, -⟩ := h; exact h3

end Go.Proofs.Ytnklbnphiokpiaa

set_option linter.unusedVariables false
set_option linter.unusedSimpArgs false
namespace Go.Proofs.Ytnklbnphiokpiaa
open Go.RowKit
theorem IMG.below {w w1 : World} {s : Value} {W H C : Int} {zs : List Int} (h : IMG w s W H C zs) (hb : Below w.heap.size w w1) : IMG w1 s W H C zs := ⟨h.iw, h.ih, h.ic, h.ib.below hb⟩

set_option maxRecDepth 100000 in
set_option maxHeartbeats 4000000 in
theorem rplace (W H X Y k : Int) (c n cap : Nat) (A : Option Addr) (h : imC W H c n = 0) (hX : 0 ≤ X ∧ X < W) (hY : 0 ≤ Y ∧ Y < H) (hk : 0 ≤ k ∧ k < c) (w : World) :
    Calls Try.prog 81 #[imv W H c (.slice A n cap), .int .i64 X, .int .i64 Y, .int .i64 k] w fun e w' => e = .returned (.int .i64 ((Y * W + X) * c + k)) ∧ Below w.heap.size w w' := by
  have h2 : fitC W H c = 0 := by
    have h' := h
    unfold imC at h'
    split at h'
    · assumption
    · exact absurd h' ‹_›
  obtain ⟨hC, hW1, hH1, q0, q1⟩ := fitC_zero h2
  obtain ⟨r1, r2, r3, r4, r5⟩ := place_in hC hX hY (by omega) (by omega)
  have CK := Lib.hid (fun w => rcheck07 W H c A n cap w)
  rw [h] at CK
  have e1 : wrap64 (Y * W) = Y * W := wr_in (by omega) (by omega)
  have e2 : wrap64 (Y * W + X) = Y * W + X := wr_in (by omega) (by omega)
  have e3 : wrap64 ((Y * W + X) * c) = (Y * W + X) * c := wr_in (by omega) (by omega)
  have e4 : wrap64 ((Y * W + X) * c + k) = (Y * W + X) * c + k := wr_in (by omega) (by omega)
  have F := Lib.hid (And.intro e1 (And.intro e2 (And.intro e3 e4)))
  have d1 : decide (X < 0) = false := decide_eq_false (by omega)
  have d2 : decide (X ≥ W) = false := decide_eq_false (by omega)
  have d3 : decide (Y < 0) = false := decide_eq_false (by omega)
  have d4 : decide (Y ≥ H) = false := decide_eq_false (by omega)
  have d5 : decide (k < 0) = false := decide_eq_false (by omega)
  have d6 : decide (k ≥ c) = false := decide_eq_false (by omega)
  clear h h2 hC hW1 hH1 q0 q1 r1 r2 r3 r4 r5 hX hY hk e1 e2 e3 e4
  go_enter Try.func81, Try.ntmps81
  go_wp2_with fail
  have BB := start1 w #[.int .i64 W, .int .i64 H, .int .i64 c, .slice A n cap] IT
  obtain ⟨BB, hsz, r_m⟩ := BB
  generalize (w.alloc (.cells #[.int .i64 W, .int .i64 H, .int .i64 c, .slice A n cap] IT)) = w0 at *
  replace BB := Lib.hid BB
  replace r_m := Lib.hid r_m
  clear hsz
  refine (CK.out _).mono ?_
  rintro e w1 ⟨rfl, hb⟩
  replace r_m := Lib.hid (r_m.out.keep hb)
  replace BB := Lib.hid (below_next BB.out hb)
  clear hb
  obtain ⟨c_m0, c_m1, c_m2, c_m3, f_m0, f_m1, f_m2, f_m3⟩ := reads4 r_m.out
  have l_m := r_m.out.lt
  go_wp2_with fail
  go_ret
  exact ⟨ret_int (by
    show wrap64 (wrap64 (wrap64 (wrap64 (Y * W) + X) * c) + k) = _
    rw [F.out.1, F.out.2.1, F.out.2.2.1, F.out.2.2.2]), BB.out⟩

set_option maxRecDepth 100000 in
set_option maxHeartbeats 4000000 in
theorem r8at_beyond (W H m c0 c1 c2 c3 x y : Int) (c k n cap : Nat) (A : Option Addr) (hW : I64 W) (hH : I64 H) (hm : I64 m) (hx : I64 x) (hy : I64 y) (hk : k < 4) (hb : ¬ (bOk m x W = true ∧ bOk m y H = true)) (w : World) :
    Calls Try.prog 41 #[imv W H c (.slice A n cap), brv m c0 c1 c2 c3, .int .i64 x, .int .i64 y, .int .i64 (k : Int)] w fun e w' => e = .returned (.int .u8 ([c0, c1, c2, c3].getD k 0)) ∧ Below w.heap.size w w' := by
  have CX := Lib.hid (fun w => dindex_any m x W hm hx hW w)
  have CY := Lib.hid (fun w => dindex_any m y H hm hy hH w)
  clear hm hx hy hW hH
  generalize bI m x W = X at *
  generalize bI m y H = Y at *
  rcases ox : bOk m x W with _ | _
  · clear hb
    rw [ox] at CX
    generalize bOk m y H = oy at *
    clear ox
    match k, hk with
    | 0, _ =>
      go_enter Try.func41, Try.ntmps41
      go_wp2_with fail
      have BB := start2 w #[.int .i64 W, .int .i64 H, .int .i64 c, .slice A n cap] IT #[.int .i64 m, .int .u8 c0, .int .u8 c1, .int .u8 c2, .int .u8 c3] RT
      obtain ⟨BB, hsz, r_i, r_b⟩ := BB
      generalize ((w.alloc (.cells #[.int .i64 W, .int .i64 H, .int .i64 c, .slice A n cap] IT)).alloc (.cells #[.int .i64 m, .int .u8 c0, .int .u8 c1, .int .u8 c2, .int .u8 c3] RT)) = w0 at *
      replace BB := Lib.hid BB
      replace r_i := Lib.hid r_i
      replace r_b := Lib.hid r_b
      clear hsz
      obtain ⟨c_i0, c_i1, c_i2, c_i3, f_i0, f_i1, f_i2, f_i3⟩ := reads4 r_i.out
      have l_i := r_i.out.lt
      obtain ⟨c_b0, c_b1, c_b2, c_b3, c_b4, f_b0, f_b1, f_b2, f_b3, f_b4⟩ := reads5 r_b.out
      have l_b := r_b.out.lt
      go_wp2_with fail
      refine (CX.out _).mono ?_
      rintro e w1 ⟨rfl, hb⟩
      clear c_i0 c_i1 c_i2 c_i3 f_i0 f_i1 f_i2 f_i3 l_i c_b0 c_b1 c_b2 c_b3 c_b4 f_b0 f_b1 f_b2 f_b3 f_b4 l_b
      replace r_i := Lib.hid (r_i.out.keep hb)
      replace r_b := Lib.hid (r_b.out.keep hb)
      replace BB := Lib.hid (below_next BB.out hb)
      clear hb
      obtain ⟨c_i0, c_i1, c_i2, c_i3, f_i0, f_i1, f_i2, f_i3⟩ := reads4 r_i.out
      have l_i := r_i.out.lt
      obtain ⟨c_b0, c_b1, c_b2, c_b3, c_b4, f_b0, f_b1, f_b2, f_b3, f_b4⟩ := reads5 r_b.out
      have l_b := r_b.out.lt
      go_wp2_with fail
      refine (CY.out _).mono ?_
      rintro e w2 ⟨rfl, hb⟩
      clear c_i0 c_i1 c_i2 c_i3 f_i0 f_i1 f_i2 f_i3 l_i c_b0 c_b1 c_b2 c_b3 c_b4 f_b0 f_b1 f_b2 f_b3 f_b4 l_b
      replace r_i := Lib.hid (r_i.out.keep hb)
      replace r_b := Lib.hid (r_b.out.keep hb)
      replace BB := Lib.hid (below_next BB.out hb)
      clear hb
      obtain ⟨c_i0, c_i1, c_i2, c_i3, f_i0, f_i1, f_i2, f_i3⟩ := reads4 r_i.out
      have l_i := r_i.out.lt
      obtain ⟨c_b0, c_b1, c_b2, c_b3, c_b4, f_b0, f_b1, f_b2, f_b3, f_b4⟩ := reads5 r_b.out
      have l_b := r_b.out.lt
      go_wp2_with fail
      go_ret
      exact ⟨rfl, BB.out⟩
    | 1, _ =>
      go_enter Try.func41, Try.ntmps41
      go_wp2_with fail
      have BB := start2 w #[.int .i64 W, .int .i64 H, .int .i64 c, .slice A n cap] IT #[.int .i64 m, .int .u8 c0, .int .u8 c1, .int .u8 c2, .int .u8 c3] RT
      obtain ⟨BB, hsz, r_i, r_b⟩ := BB
      generalize ((w.alloc (.cells #[.int .i64 W, .int .i64 H, .int .i64 c, .slice A n cap] IT)).alloc (.cells #[.int .i64 m, .int .u8 c0, .int .u8 c1, .int .u8 c2, .int .u8 c3] RT)) = w0 at *
      replace BB := Lib.hid BB
      replace r_i := Lib.hid r_i
      replace r_b := Lib.hid r_b
      clear hsz
      obtain ⟨c_i0, c_i1, c_i2, c_i3, f_i0, f_i1, f_i2, f_i3⟩ := reads4 r_i.out
      have l_i := r_i.out.lt
      obtain ⟨c_b0, c_b1, c_b2, c_b3, c_b4, f_b0, f_b1, f_b2, f_b3, f_b4⟩ := reads5 r_b.out
      have l_b := r_b.out.lt
      go_wp2_with fail
      refine (CX.out _).mono ?_
      rintro e w1 ⟨rfl, hb⟩
      clear c_i0 c_i1 c_i2 c_i3 f_i0 f_i1 f_i2 f_i3 l_i c_b0 c_b1 c_b2 c_b3 c_b4 f_b0 f_b1 f_b2 f_b3 f_b4 l_b
      replace r_i := Lib.hid (r_i.out.keep hb)
      replace r_b := Lib.hid (r_b.out.keep hb)
      replace BB := Lib.hid (below_next BB.out hb)
      clear hb
      obtain ⟨c_i0, c_i1, c_i2, c_i3, f_i0, f_i1, f_i2, f_i3⟩ := reads4 r_i.out
      have l_i := r_i.out.lt
      obtain ⟨c_b0, c_b1, c_b2, c_b3, c_b4, f_b0, f_b1, f_b2, f_b3, f_b4⟩ := reads5 r_b.out
      have l_b := r_b.out.lt
      go_wp2_with fail
      refine (CY.out _).mono ?_
      rintro e w2 ⟨rfl, hb⟩
      clear c_i0 c_i1 c_i2 c_i3 f_i0 f_i1 f_i2 f_i3 l_i c_b0 c_b1 c_b2 c_b3 c_b4 f_b0 f_b1 f_b2 f_b3 f_b4 l_b
      replace r_i := Lib.hid (r_i.out.keep hb)
      replace r_b := Lib.hid (r_b.out.keep hb)
      replace BB := Lib.hid (below_next BB.out hb)
      clear hb
      obtain ⟨c_i0, c_i1, c_i2, c_i3, f_i0, f_i1, f_i2, f_i3⟩ := reads4 r_i.out
      have l_i := r_i.out.lt
      obtain ⟨c_b0, c_b1, c_b2, c_b3, c_b4, f_b0, f_b1, f_b2, f_b3, f_b4⟩ := reads5 r_b.out
      have l_b := r_b.out.lt
      go_wp2_with fail
      go_ret
      exact ⟨rfl, BB.out⟩
    | 2, _ =>
      go_enter Try.func41, Try.ntmps41
      go_wp2_with fail
      have BB := start2 w #[.int .i64 W, .int .i64 H, .int .i64 c, .slice A n cap] IT #[.int .i64 m, .int .u8 c0, .int .u8 c1, .int .u8 c2, .int .u8 c3] RT
      obtain ⟨BB, hsz, r_i, r_b⟩ := BB
      generalize ((w.alloc (.cells #[.int .i64 W, .int .i64 H, .int .i64 c, .slice A n cap] IT)).alloc (.cells #[.int .i64 m, .int .u8 c0, .int .u8 c1, .int .u8 c2, .int .u8 c3] RT)) = w0 at *
      replace BB := Lib.hid BB
      replace r_i := Lib.hid r_i
      replace r_b := Lib.hid r_b
      clear hsz
      obtain ⟨c_i0, c_i1, c_i2, c_i3, f_i0, f_i1, f_i2, f_i3⟩ := reads4 r_i.out
      have l_i := r_i.out.lt
      obtain ⟨c_b0, c_b1, c_b2, c_b3, c_b4, f_b0, f_b1, f_b2, f_b3, f_b4⟩ := reads5 r_b.out
      have l_b := r_b.out.lt
      go_wp2_with fail
      refine (CX.out _).mono ?_
      rintro e w1 ⟨rfl, hb⟩
      clear c_i0 c_i1 c_i2 c_i3 f_i0 f_i1 f_i2 f_i3 l_i c_b0 c_b1 c_b2 c_b3 c_b4 f_b0 f_b1 f_b2 f_b3 f_b4 l_b
      replace r_i := Lib.hid (r_i.out.keep hb)
      replace r_b := Lib.hid (r_b.out.keep hb)
      replace BB := Lib.hid (below_next BB.out hb)
      clear hb
      obtain ⟨c_i0, c_i1, c_i2, c_i3, f_i0, f_i1, f_i2, f_i3⟩ := reads4 r_i.out
      have l_i := r_i.out.lt
      obtain ⟨c_b0, c_b1, c_b2, c_b3, c_b4, f_b0, f_b1, f_b2, f_b3, f_b4⟩ := reads5 r_b.out
      have l_b := r_b.out.lt
      go_wp2_with fail
      refine (CY.out _).mono ?_
      rintro e w2 ⟨rfl, hb⟩
      clear c_i0 c_i1 c_i2 c_i3 f_i0 f_i1 f_i2 f_i3 l_i c_b0 c_b1 c_b2 c_b3 c_b4 f_b0 f_b1 f_b2 f_b3 f_b4 l_b
      replace r_i := Lib.hid (r_i.out.keep hb)
      replace r_b := Lib.hid (r_b.out.keep hb)
      replace BB := Lib.hid (below_next BB.out hb)
      clear hb
      obtain ⟨c_i0, c_i1, c_i2, c_i3, f_i0, f_i1, f_i2, f_i3⟩ := reads4 r_i.out
      have l_i := r_i.out.lt
      obtain ⟨c_b0, c_b1, c_b2, c_b3, c_b4, f_b0, f_b1, f_b2, f_b3, f_b4⟩ := reads5 r_b.out
      have l_b := r_b.out.lt
      go_wp2_with fail
      go_ret
      exact ⟨rfl, BB.out⟩
    | 3, _ =>
      go_enter Try.func41, Try.ntmps41
      go_wp2_with fail
      have BB := start2 w #[.int .i64 W, .int .i64 H, .int .i64 c, .slice A n cap] IT #[.int .i64 m, .int .u8 c0, .int .u8 c1, .int .u8 c2, .int .u8 c3] RT
      obtain ⟨BB, hsz, r_i, r_b⟩ := BB
      generalize ((w.alloc (.cells #[.int .i64 W, .int .i64 H, .int .i64 c, .slice A n cap] IT)).alloc (.cells #[.int .i64 m, .int .u8 c0, .int .u8 c1, .int .u8 c2, .int .u8 c3] RT)) = w0 at *
      replace BB := Lib.hid BB
      replace r_i := Lib.hid r_i
      replace r_b := Lib.hid r_b
      clear hsz
      obtain ⟨c_i0, c_i1, c_i2, c_i3, f_i0, f_i1, f_i2, f_i3⟩ := reads4 r_i.out
      have l_i := r_i.out.lt
      obtain ⟨c_b0, c_b1, c_b2, c_b3, c_b4, f_b0, f_b1, f_b2, f_b3, f_b4⟩ := reads5 r_b.out
      have l_b := r_b.out.lt
      go_wp2_with fail
      refine (CX.out _).mono ?_
      rintro e w1 ⟨rfl, hb⟩
      clear c_i0 c_i1 c_i2 c_i3 f_i0 f_i1 f_i2 f_i3 l_i c_b0 c_b1 c_b2 c_b3 c_b4 f_b0 f_b1 f_b2 f_b3 f_b4 l_b
      replace r_i := Lib.hid (r_i.out.keep hb)
      replace r_b := Lib.hid (r_b.out.keep hb)
      replace BB := Lib.hid (below_next BB.out hb)
      clear hb
      obtain ⟨c_i0, c_i1, c_i2, c_i3, f_i0, f_i1, f_i2, f_i3⟩ := reads4 r_i.out
      have l_i := r_i.out.lt
      obtain ⟨c_b0, c_b1, c_b2, c_b3, c_b4, f_b0, f_b1, f_b2, f_b3, f_b4⟩ := reads5 r_b.out
      have l_b := r_b.out.lt
      go_wp2_with fail
      refine (CY.out _).mono ?_
      rintro e w2 ⟨rfl, hb⟩
      clear c_i0 c_i1 c_i2 c_i3 f_i0 f_i1 f_i2 f_i3 l_i c_b0 c_b1 c_b2 c_b3 c_b4 f_b0 f_b1 f_b2 f_b3 f_b4 l_b
      replace r_i := Lib.hid (r_i.out.keep hb)
      replace r_b := Lib.hid (r_b.out.keep hb)
      replace BB := Lib.hid (below_next BB.out hb)
      clear hb
      obtain ⟨c_i0, c_i1, c_i2, c_i3, f_i0, f_i1, f_i2, f_i3⟩ := reads4 r_i.out
      have l_i := r_i.out.lt
      obtain ⟨c_b0, c_b1, c_b2, c_b3, c_b4, f_b0, f_b1, f_b2, f_b3, f_b4⟩ := reads5 r_b.out
      have l_b := r_b.out.lt
      go_wp2_with fail
      go_ret
      exact ⟨rfl, BB.out⟩
  · rcases oy : bOk m y H with _ | _
    · clear hb
      rw [ox] at CX
      rw [oy] at CY
      clear ox oy
      match k, hk with
      | 0, _ =>
        go_enter Try.func41, Try.ntmps41
        go_wp2_with fail
        have BB := start2 w #[.int .i64 W, .int .i64 H, .int .i64 c, .slice A n cap] IT #[.int .i64 m, .int .u8 c0, .int .u8 c1, .int .u8 c2, .int .u8 c3] RT
        obtain ⟨BB, hsz, r_i, r_b⟩ := BB
        generalize ((w.alloc (.cells #[.int .i64 W, .int .i64 H, .int .i64 c, .slice A n cap] IT)).alloc (.cells #[.int .i64 m, .int .u8 c0, .int .u8 c1, .int .u8 c2, .int .u8 c3] RT)) = w0 at *
        replace BB := Lib.hid BB
        replace r_i := Lib.hid r_i
        replace r_b := Lib.hid r_b
        clear hsz
        obtain ⟨c_i0, c_i1, c_i2, c_i3, f_i0, f_i1, f_i2, f_i3⟩ := reads4 r_i.out
        have l_i := r_i.out.lt
        obtain ⟨c_b0, c_b1, c_b2, c_b3, c_b4, f_b0, f_b1, f_b2, f_b3, f_b4⟩ := reads5 r_b.out
        have l_b := r_b.out.lt
        go_wp2_with fail
        refine (CX.out _).mono ?_
        rintro e w1 ⟨rfl, hb⟩
        clear c_i0 c_i1 c_i2 c_i3 f_i0 f_i1 f_i2 f_i3 l_i c_b0 c_b1 c_b2 c_b3 c_b4 f_b0 f_b1 f_b2 f_b3 f_b4 l_b
        replace r_i := Lib.hid (r_i.out.keep hb)
        replace r_b := Lib.hid (r_b.out.keep hb)
        replace BB := Lib.hid (below_next BB.out hb)
        clear hb
        obtain ⟨c_i0, c_i1, c_i2, c_i3, f_i0, f_i1, f_i2, f_i3⟩ := reads4 r_i.out
        have l_i := r_i.out.lt
        obtain ⟨c_b0, c_b1, c_b2, c_b3, c_b4, f_b0, f_b1, f_b2, f_b3, f_b4⟩ := reads5 r_b.out
        have l_b := r_b.out.lt
        go_wp2_with fail
        refine (CY.out _).mono ?_
        rintro e w2 ⟨rfl, hb⟩
        clear c_i0 c_i1 c_i2 c_i3 f_i0 f_i1 f_i2 f_i3 l_i c_b0 c_b1 c_b2 c_b3 c_b4 f_b0 f_b1 f_b2 f_b3 f_b4 l_b
        replace r_i := Lib.hid (r_i.out.keep hb)
        replace r_b := Lib.hid (r_b.out.keep hb)
        replace BB := Lib.hid (below_next BB.out hb)
        clear hb
        obtain ⟨c_i0, c_i1, c_i2, c_i3, f_i0, f_i1, f_i2, f_i3⟩ := reads4 r_i.out
        have l_i := r_i.out.lt
        obtain ⟨c_b0, c_b1, c_b2, c_b3, c_b4, f_b0, f_b1, f_b2, f_b3, f_b4⟩ := reads5 r_b.out
        have l_b := r_b.out.lt
        go_wp2_with fail
        go_ret
        exact ⟨rfl, BB.out⟩
      | 1, _ =>
        go_enter Try.func41, Try.ntmps41
        go_wp2_with fail
        have BB := start2 w #[.int .i64 W, .int .i64 H, .int .i64 c, .slice A n cap] IT #[.int .i64 m, .int .u8 c0, .int .u8 c1, .int .u8 c2, .int .u8 c3] RT
        obtain ⟨BB, hsz, r_i, r_b⟩ := BB
        generalize ((w.alloc (.cells #[.int .i64 W, .int .i64 H, .int .i64 c, .slice A n cap] IT)).alloc (.cells #[.int .i64 m, .int .u8 c0, .int .u8 c1, .int .u8 c2, .int .u8 c3] RT)) = w0 at *
        replace BB := Lib.hid BB
        replace r_i := Lib.hid r_i
        replace r_b := Lib.hid r_b
        clear hsz
        obtain ⟨c_i0, c_i1, c_i2, c_i3, f_i0, f_i1, f_i2, f_i3⟩ := reads4 r_i.out
        have l_i := r_i.out.lt
        obtain ⟨c_b0, c_b1, c_b2, c_b3, c_b4, f_b0, f_b1, f_b2, f_b3, f_b4⟩ := reads5 r_b.out
        have l_b := r_b.out.lt
        go_wp2_with fail
        refine (CX.out _).mono ?_
        rintro e w1 ⟨rfl, hb⟩
        clear c_i0 c_i1 c_i2 c_i3 f_i0 f_i1 f_i2 f_i3 l_i c_b0 c_b1 c_b2 c_b3 c_b4 f_b0 f_b1 f_b2 f_b3 f_b4 l_b
        replace r_i := Lib.hid (r_i.out.keep hb)
        replace r_b := Lib.hid (r_b.out.keep hb)
        replace BB := Lib.hid (below_next BB.out hb)
        clear hb
        obtain ⟨c_i0, c_i1, c_i2, c_i3, f_i0, f_i1, f_i2, f_i3⟩ := reads4 r_i.out
        have l_i := r_i.out.lt
        obtain ⟨c_b0, c_b1, c_b2, c_b3, c_b4, f_b0, f_b1, f_b2, f_b3, f_b4⟩ := reads5 r_b.out
        have l_b := r_b.out.lt
        go_wp2_with fail
        refine (CY.out _).mono ?_
        rintro e w2 ⟨rfl, hb⟩
        clear c_i0 c_i1 c_i2 c_i3 f_i0 f_i1 f_i2 f_i3 l_i c_b0 c_b1 c_b2 c_b3 c_b4 f_b0 f_b1 f_b2 f_b3 f_b4 l_b
        replace r_i := Lib.hid (r_i.out.keep hb)
        replace r_b := Lib.hid (r_b.out.keep hb)
        replace BB := Lib.hid (below_next BB.out hb)
        clear hb
        obtain ⟨c_i0, c_i1, c_i2, c_i3, f_i0, f_i1, f_i2, f_i3⟩ := reads4 r_i.out
        have l_i := r_i.out.lt
        obtain ⟨c_b0, c_b1, c_b2, c_b3, c_b4, f_b0, f_b1, f_b2, f_b3, f_b4⟩ := reads5 r_b.out
        have l_b := r_b.out.lt
        go_wp2_with fail
        go_ret
        exact ⟨rfl, BB.out⟩
      | 2, _ =>
        go_enter Try.func41, Try.ntmps41
        go_wp2_with fail
        have BB := start2 w #[.int .i64 W, .int .i64 H, .int .i64 c, .slice A n cap] IT #[.int .i64 m, .int .u8 c0, .int .u8 c1, .int .u8 c2, .int .u8 c3] RT
        obtain ⟨BB, hsz, r_i, r_b⟩ := BB
        generalize ((w.alloc (.cells #[.int .i64 W, .int .i64 H, .int .i64 c, .slice A n cap] IT)).alloc (.cells #[.int .i64 m, .int .u8 c0, .int .u8 c1, .int .u8 c2, .int .u8 c3] RT)) = w0 at *
        replace BB := Lib.hid BB
        replace r_i := Lib.hid r_i
        replace r_b := Lib.hid r_b
        clear hsz
        obtain ⟨c_i0, c_i1, c_i2, c_i3, f_i0, f_i1, f_i2, f_i3⟩ := reads4 r_i.out
        have l_i := r_i.out.lt
        obtain ⟨c_b0, c_b1, c_b2, c_b3, c_b4, f_b0, f_b1, f_b2, f_b3, f_b4⟩ := reads5 r_b.out
        have l_b := r_b.out.lt
        go_wp2_with fail
        refine (CX.out _).mono ?_
        rintro e w1 ⟨rfl, hb⟩
        clear c_i0 c_i1 c_i2 c_i3 f_i0 f_i1 f_i2 f_i3 l_i c_b0 c_b1 c_b2 c_b3 c_b4 f_b0 f_b1 f_b2 f_b3 f_b4 l_b
        replace r_i := Lib.hid (r_i.out.keep hb)
        replace r_b := Lib.hid (r_b.out.keep hb)
        replace BB := Lib.hid (below_next BB.out hb)
        clear hb
        obtain ⟨c_i0, c_i1, c_i2, c_i3, f_i0, f_i1, f_i2, f_i3⟩ := reads4 r_i.out
        have l_i := r_i.out.lt
        obtain ⟨c_b0, c_b1, c_b2, c_b3, c_b4, f_b0, f_b1, f_b2, f_b3, f_b4⟩ := reads5 r_b.out
        have l_b := r_b.out.lt
        go_wp2_with fail
        refine (CY.out _).mono ?_
        rintro e w2 ⟨rfl, hb⟩
        clear c_i0 c_i1 c_i2 c_i3 f_i0 f_i1 f_i2 f_i3 l_i c_b0 c_b1 c_b2 c_b3 c_b4 f_b0 f_b1 f_b2 f_b3 f_b4 l_b
        replace r_i := Lib.hid (r_i.out.keep hb)
        replace r_b := Lib.hid (r_b.out.keep hb)
        replace BB := Lib.hid (below_next BB.out hb)
        clear hb
        obtain ⟨c_i0, c_i1, c_i2, c_i3, f_i0, f_i1, f_i2, f_i3⟩ := reads4 r_i.out
        have l_i := r_i.out.lt
        obtain ⟨c_b0, c_b1, c_b2, c_b3, c_b4, f_b0, f_b1, f_b2, f_b3, f_b4⟩ := reads5 r_b.out
        have l_b := r_b.out.lt
        go_wp2_with fail
        go_ret
        exact ⟨rfl, BB.out⟩
      | 3, _ =>
        go_enter Try.func41, Try.ntmps41
        go_wp2_with fail
        have BB := start2 w #[.int .i64 W, .int .i64 H, .int .i64 c, .slice A n cap] IT #[.int .i64 m, .int .u8 c0, .int .u8 c1, .int .u8 c2, .int .u8 c3] RT
        obtain ⟨BB, hsz, r_i, r_b⟩ := BB
        generalize ((w.alloc (.cells #[.int .i64 W, .int .i64 H, .int .i64 c, .slice A n cap] IT)).alloc (.cells #[.int .i64 m, .int .u8 c0, .int .u8 c1, .int .u8 c2, .int .u8 c3] RT)) = w0 at *
        replace BB := Lib.hid BB
        replace r_i := Lib.hid r_i
        replace r_b := Lib.hid r_b
        clear hsz
        obtain ⟨c_i0, c_i1, c_i2, c_i3, f_i0, f_i1, f_i2, f_i3⟩ := reads4 r_i.out
        have l_i := r_i.out.lt
        obtain ⟨c_b0, c_b1, c_b2, c_b3, c_b4, f_b0, f_b1, f_b2, f_b3, f_b4⟩ := reads5 r_b.out
        have l_b := r_b.out.lt
        go_wp2_with fail
        refine (CX.out _).mono ?_
        rintro e w1 ⟨rfl, hb⟩
        clear c_i0 c_i1 c_i2 c_i3 f_i0 f_i1 f_i2 f_i3 l_i c_b0 c_b1 c_b2 c_b3 c_b4 f_b0 f_b1 f_b2 f_b3 f_b4 l_b
        replace r_i := Lib.hid (r_i.out.keep hb)
        replace r_b := Lib.hid (r_b.out.keep hb)
        replace BB := Lib.hid (below_next BB.out hb)
        clear hb
        obtain ⟨c_i0, c_i1, c_i2, c_i3, f_i0, f_i1, f_i2, f_i3⟩ := reads4 r_i.out
        have l_i := r_i.out.lt
        obtain ⟨c_b0, c_b1, c_b2, c_b3, c_b4, f_b0, f_b1, f_b2, f_b3, f_b4⟩ := reads5 r_b.out
        have l_b := r_b.out.lt
        go_wp2_with fail
        refine (CY.out _).mono ?_
        rintro e w2 ⟨rfl, hb⟩
        clear c_i0 c_i1 c_i2 c_i3 f_i0 f_i1 f_i2 f_i3 l_i c_b0 c_b1 c_b2 c_b3 c_b4 f_b0 f_b1 f_b2 f_b3 f_b4 l_b
        replace r_i := Lib.hid (r_i.out.keep hb)
        replace r_b := Lib.hid (r_b.out.keep hb)
        replace BB := Lib.hid (below_next BB.out hb)
        clear hb
        obtain ⟨c_i0, c_i1, c_i2, c_i3, f_i0, f_i1, f_i2, f_i3⟩ := reads4 r_i.out
        have l_i := r_i.out.lt
        obtain ⟨c_b0, c_b1, c_b2, c_b3, c_b4, f_b0, f_b1, f_b2, f_b3, f_b4⟩ := reads5 r_b.out
        have l_b := r_b.out.lt
        go_wp2_with fail
        go_ret
        exact ⟨rfl, BB.out⟩
    · exact absurd ⟨ox, oy⟩ hb

set_option maxRecDepth 100000 in
set_option maxHeartbeats 8000000 in
theorem r8at_within (W H m c0 c1 c2 c3 x y : Int) (c k pb po cap : Nat) (zs : List Int) (hW : I64 W) (hH : I64 H) (hm : I64 m) (hx : I64 x) (hy : I64 y) (hk : k < c) (h : ibC W H c m zs.length = 0) (hcap : zs.length ≤ cap) (hcap' : (cap : Int) ≤ 9223372036854775807) (hb : bOk m x W = true ∧ bOk m y H = true) (w : World)
    (hlt : pb < w.heap.size) (hp : ∀ i, i < zs.length → w.cell? ⟨pb, po + i, none⟩ = some (.int .u8 (zs.getD i 0))) :
    Calls Try.prog 41 #[imv W H c (.slice (some ⟨pb, po, none⟩) zs.length cap), brv m c0 c1 c2 c3, .int .i64 x, .int .i64 y, .int .i64 (k : Int)] w fun e w' => e = .returned (.int .u8 (zs.getD (((bI m y H * W + bI m x W) * c).toNat + k) 0)) ∧ Below w.heap.size w w' := by
  obtain ⟨h0, -, hC, hW1, hH1, q0, q1, hn⟩ := ibC_zero h
  have bX := bI_bounds (mode := m) (i := x) (n := W) (by omega)
  have bY := bI_bounds (mode := m) (i := y) (n := H) (by omega)
  obtain ⟨r1, r2, r3, r4, r5⟩ := place_in hC bX bY (by omega) (by omega)
  have CP := Lib.hid (fun w => rplace W H (bI m x W) (bI m y H) k c zs.length cap (some ⟨pb, po, none⟩) h0 bX bY ⟨by omega, by omega⟩ w)
  have CX := Lib.hid (fun w => dindex_any m x W hm hx hW w)
  have CY := Lib.hid (fun w => dindex_any m y H hm hy hH w)
  rw [hb.1] at CX
  rw [hb.2] at CY
  obtain ⟨q, hq⟩ : ∃ q : Nat, (q : Int) = (bI m y H * W + bI m x W) * c + k := ⟨((bI m y H * W + bI m x W) * c + k).toNat, Int.toNat_of_nonneg (by omega)⟩
  rw [← hq] at CP
  have hqe : ((bI m y H * W + bI m x W) * c).toNat + k = q := by omega
  rw [hqe]
  have k0 : (0 : Int) ≤ (q : Int) := by omega
  have k1 : (q : Int) < (zs.length : Int) := by omega
  have hcell := hp q (by omega)
  clear h h0 hm hx hy hW hH hb hp hC hW1 hH1 q0 q1 hn r1 r2 r3 r4 r5 hqe
  generalize bI m x W = X at *
  generalize bI m y H = Y at *
  generalize zs.getD q 0 = R at *
  generalize zs.length = n at *
  clear hq bX bY
  have KC := Lib.hid (fun (w9 : World) (h : Below w.heap.size w w9) => (h.cell (p := ⟨pb, po + q, none⟩) hlt).trans hcell)
  clear hcell
  go_enter Try.func41, Try.ntmps41
  go_wp2_with fail
  have BB := start2 w #[.int .i64 W, .int .i64 H, .int .i64 c, .slice (some ⟨pb, po, none⟩) n cap] IT #[.int .i64 m, .int .u8 c0, .int .u8 c1, .int .u8 c2, .int .u8 c3] RT
  obtain ⟨BB, hsz, r_i, r_b⟩ := BB
  generalize ((w.alloc (.cells #[.int .i64 W, .int .i64 H, .int .i64 c, .slice (some ⟨pb, po, none⟩) n cap] IT)).alloc (.cells #[.int .i64 m, .int .u8 c0, .int .u8 c1, .int .u8 c2, .int .u8 c3] RT)) = w0 at *
  replace BB := Lib.hid BB
  replace r_i := Lib.hid r_i
  replace r_b := Lib.hid r_b
  clear hsz
  obtain ⟨c_i0, c_i1, c_i2, c_i3, f_i0, f_i1, f_i2, f_i3⟩ := reads4 r_i.out
  have l_i := r_i.out.lt
  obtain ⟨c_b0, c_b1, c_b2, c_b3, c_b4, f_b0, f_b1, f_b2, f_b3, f_b4⟩ := reads5 r_b.out
  have l_b := r_b.out.lt
  go_wp2_with fail
  refine (CX.out _).mono ?_
  rintro e w1 ⟨rfl, hb⟩
  clear c_i0 c_i1 c_i2 c_i3 f_i0 f_i1 f_i2 f_i3 l_i c_b0 c_b1 c_b2 c_b3 c_b4 f_b0 f_b1 f_b2 f_b3 f_b4 l_b
  replace r_i := Lib.hid (r_i.out.keep hb)
  replace r_b := Lib.hid (r_b.out.keep hb)
  replace BB := Lib.hid (below_next BB.out hb)
  clear hb
  obtain ⟨c_i0, c_i1, c_i2, c_i3, f_i0, f_i1, f_i2, f_i3⟩ := reads4 r_i.out
  have l_i := r_i.out.lt
  obtain ⟨c_b0, c_b1, c_b2, c_b3, c_b4, f_b0, f_b1, f_b2, f_b3, f_b4⟩ := reads5 r_b.out
  have l_b := r_b.out.lt
  go_wp2_with fail
  refine (CY.out _).mono ?_
  rintro e w2 ⟨rfl, hb⟩
  clear c_i0 c_i1 c_i2 c_i3 f_i0 f_i1 f_i2 f_i3 l_i c_b0 c_b1 c_b2 c_b3 c_b4 f_b0 f_b1 f_b2 f_b3 f_b4 l_b
  replace r_i := Lib.hid (r_i.out.keep hb)
  replace r_b := Lib.hid (r_b.out.keep hb)
  replace BB := Lib.hid (below_next BB.out hb)
  clear hb
  obtain ⟨c_i0, c_i1, c_i2, c_i3, f_i0, f_i1, f_i2, f_i3⟩ := reads4 r_i.out
  have l_i := r_i.out.lt
  obtain ⟨c_b0, c_b1, c_b2, c_b3, c_b4, f_b0, f_b1, f_b2, f_b3, f_b4⟩ := reads5 r_b.out
  have l_b := r_b.out.lt
  go_wp2_with fail
  clear c_i0 c_i1 c_i2 c_i3 f_i0 f_i1 f_i2 f_i3 l_i c_b0 c_b1 c_b2 c_b3 c_b4 f_b0 f_b1 f_b2 f_b3 f_b4 l_b
  have KK := Lib.hid (fun (w9 : World) (h : Below w2.heap.size w2 w9) => (⟨cells4 (r_i.out.keep h), KC.out _ (below_next BB.out h)⟩ : (w9.cell? ⟨w.heap.size, 0, none⟩ = some (.int .i64 W) ∧ w9.cell? ⟨w.heap.size, 1, none⟩ = some (.int .i64 H) ∧ w9.cell? ⟨w.heap.size, 2, none⟩ = some (.int .i64 c) ∧ w9.cell? ⟨w.heap.size, 3, none⟩ = some (.slice (some ⟨pb, po, none⟩) n cap)) ∧ (w9.cell? ⟨pb, po + q, none⟩ = some (.int .u8 R))))
  have K0 := KK.out w2 (Below.refl _ _)
  have KD := KK.out w2.drew (below_drew (Below.refl _ _))
  go_region_held3 (fun w9 => (w9.cell? ⟨w.heap.size, 0, none⟩ = some (.int .i64 W) ∧ w9.cell? ⟨w.heap.size, 1, none⟩ = some (.int .i64 H) ∧ w9.cell? ⟨w.heap.size, 2, none⟩ = some (.int .i64 c) ∧ w9.cell? ⟨w.heap.size, 3, none⟩ = some (.slice (some ⟨pb, po, none⟩) n cap)) ∧ (w9.cell? ⟨pb, po + q, none⟩ = some (.int .u8 R)))
      (first | with_reducible exact KD | with_reducible exact K0 | with_reducible exact K_w3)
      (first
        | (go_at_call 81
           refine (CP.out _).mono ?_
           rintro e w3 ⟨rfl, hb⟩
           have B_w3 := Lib.hid (reg_next (w0 := w2) (by repeat (first | with_reducible exact Below.refl _ _ | with_reducible apply below_drew | with_reducible apply below_new)) hb)
           have K_w3 := KK.out _ B_w3.out
           clear hb))
  clear KK K0 KD K_w3
  replace r_i := Lib.hid (r_i.out.keep B_w3.out)
  replace r_b := Lib.hid (r_b.out.keep B_w3.out)
  replace BB := Lib.hid (below_next BB.out B_w3.out)
  clear B_w3
  go_wp2_with fail
  go_ret
  exact ⟨rfl, BB.out⟩

/-- A channel of the pixel. -/
theorem r8at (W H C m c0 c1 c2 c3 x y : Int) (k : Nat) (s : Value) (zs : List Int) (w : World) (hi : IMG w s W H C zs) (hm : I64 m) (hx : I64 x) (hy : I64 y) (h : ibC W H C m zs.length = 0) (hk : (k : Int) < C) :
    Calls Try.prog 41 #[imv W H C s, brv m c0 c1 c2 c3, .int .i64 x, .int .i64 y, .int .i64 (k : Int)] w fun e w' => e = .returned (.int .u8 ((pixL W H C m x y [c0, c1, c2, c3] zs).getD k 0)) ∧ Below w.heap.size w w' := by
  obtain ⟨hW, hH, hC, hb⟩ := hi
  obtain ⟨-, -, hC', hW1, hH1, q0, q1, hn⟩ := ibC_zero h
  obtain ⟨c, rfl⟩ : ∃ c : Nat, C = (c : Int) := ⟨C.toNat, by omega⟩
  have hne : zs ≠ [] := by
    rintro rfl
    simp at hn
    generalize W * H = p at *
    rcases hC' with e | e | e <;> rw [e] at hn <;> omega
  obtain ⟨b, off, cap, rfl, k1, k2, k3, k4⟩ := hb.some hne
  have hkc : k < c := by omega
  by_cases hk2 : bOk m x W = true ∧ bOk m y H = true
  · refine (r8at_within W H m c0 c1 c2 c3 x y c k b off cap zs hW hH hm hx hy hkc h k1 k2 hk2 w k3 k4).mono ?_
    rintro e w' ⟨rfl, h1⟩
    refine ⟨?_, h1⟩
    unfold pixL
    rw [if_pos hk2, Int.toNat_natCast]
    refine ret_int ?_
    simp only [List.getD_eq_getElem?_getD, List.getElem?_take, if_pos hkc, List.getElem?_drop]
  · refine (r8at_beyond W H m c0 c1 c2 c3 x y c k zs.length cap _ hW hH hm hx hy (by omega) hk2 w).mono ?_
    rintro e w' ⟨rfl, h1⟩
    refine ⟨?_, h1⟩
    unfold pixL
    rw [if_neg hk2, Int.toNat_natCast]
    refine ret_int ?_
    simp only [List.getD_eq_getElem?_getD, List.getElem?_take, if_pos hkc]

end Go.Proofs.Ytnklbnphiokpiaa
