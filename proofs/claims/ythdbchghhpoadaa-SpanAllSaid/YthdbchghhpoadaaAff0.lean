/- Contracts of the affine maps: in, det, Check. -/
import Derived.Test.YthdbchghhpoadaaJA
import Derived.Test.YthdbchghhpoadaaJC
set_option linter.unusedVariables false
namespace Go.Proofs.Ythdbchghhpoadaa
open Go.RowKit
theorem afin (x m : Int) (hm : 0 ≤ m) (hm' : m ≤ 9223372036854775807) (w : World) : Calls Try.prog 69 #[.int .i64 x, .int .i64 m] w fun e w' => e = .returned (.bool (inI x m)) ∧ w = w' := by
  have E1 : wrap64 (-m) = -m := wr_in (by omega) (by omega)
  rcases dec_both (x ≥ -m) with ⟨h, hd⟩ | ⟨h, hd⟩
  · rcases dec_both (x ≤ m) with ⟨h', hd'⟩ | ⟨h', hd'⟩
    · have H := Lib.hid (show inI x m = true from decide_eq_true ⟨h, h'⟩)
      clear h h' hm hm'
      go_enter Try.func69, Try.ntmps69
      go_wp2
      go_ret
      exact ⟨ret_bool H.out.symm, rfl⟩
    · have H := Lib.hid (show inI x m = false from decide_eq_false (fun k => h' k.2))
      clear h h' hm hm'
      go_enter Try.func69, Try.ntmps69
      go_wp2
      go_ret
      exact ⟨ret_bool H.out.symm, rfl⟩
  · have H := Lib.hid (show inI x m = false from decide_eq_false (fun k => h k.1))
    clear h hm hm'
    go_enter Try.func69, Try.ntmps69
    go_wp2
    go_ret
    exact ⟨ret_bool H.out.symm, rfl⟩

abbrev AT : TypeId := 101
def detI (c0 c1 c3 c4 : Int) : Int := c0 * c4 - c1 * c3
/-- The code of a map's numbers. -/
def afC (zs : List Int) : Int :=
  match zs with
  | [c0, c1, c2, c3, c4, c5] => if inI c0 16777216 = true ∧ inI c1 16777216 = true ∧ inI c2 2147483648 = true ∧ inI c3 16777216 = true ∧ inI c4 16777216 = true ∧ inI c5 2147483648 = true then (if detI c0 c1 c3 c4 = 0 then 40 else 0) else 11
  | _ => 12
theorem afC_len {zs : List Int} (h : zs.length ≠ 6) : afC zs = 12 := by
  unfold afC; split
  · simp at h
  · rfl
theorem list6 {zs : List Int} (h : zs.length = 6) : ∃ c0 c1 c2 c3 c4 c5, zs = [c0, c1, c2, c3, c4, c5] := by
  match zs, h with
  | [c0, c1, c2, c3, c4, c5], _ => exact ⟨c0, c1, c2, c3, c4, c5, rfl⟩
/-- A map's numbers, each as it may be. -/
structure AM (c0 c1 c2 c3 c4 c5 : Int) : Prop where
  a : -16777216 ≤ c0 ∧ c0 ≤ 16777216
  b : -16777216 ≤ c1 ∧ c1 ≤ 16777216
  c : -2147483648 ≤ c2 ∧ c2 ≤ 2147483648
  d : -16777216 ≤ c3 ∧ c3 ≤ 16777216
  e : -16777216 ≤ c4 ∧ c4 ≤ 16777216
  f : -2147483648 ≤ c5 ∧ c5 ≤ 2147483648
  det : detI c0 c1 c3 c4 ≠ 0
theorem afC_zero {zs : List Int} (h : afC zs = 0) : ∃ c0 c1 c2 c3 c4 c5, zs = [c0, c1, c2, c3, c4, c5] ∧ AM c0 c1 c2 c3 c4 c5 := by
  unfold afC at h
  split at h
  · split at h
    · rename_i h'
      split at h
      · omega
      · rename_i hd
        exact ⟨_, _, _, _, _, _, rfl, ⟨inI_iff.1 h'.1, inI_iff.1 h'.2.1, inI_iff.1 h'.2.2.1, inI_iff.1 h'.2.2.2.1, inI_iff.1 h'.2.2.2.2.1, inI_iff.1 h'.2.2.2.2.2, hd⟩⟩
    · omega
  · omega
theorem det_in {c0 c1 c3 c4 : Int} (h0 : -16777216 ≤ c0 ∧ c0 ≤ 16777216) (h1 : -16777216 ≤ c1 ∧ c1 ≤ 16777216) (h3 : -16777216 ≤ c3 ∧ c3 ≤ 16777216) (h4 : -16777216 ≤ c4 ∧ c4 ≤ 16777216) :
    (-281474976710656 ≤ c0 * c4 ∧ c0 * c4 ≤ 281474976710656) ∧ (-281474976710656 ≤ c1 * c3 ∧ c1 * c3 ≤ 281474976710656) ∧ (-562949953421312 ≤ detI c0 c1 c3 c4 ∧ detI c0 c1 c3 c4 ≤ 562949953421312) := by
  have m1 := mul_in h0 h4
  have m2 := mul_in h1 h3
  unfold detI; omega

abbrev S6 (b off : Nat) (c0 c1 c2 c3 c4 c5 : Int) (w9 : World) : Prop := w9.cell? ⟨b, off, none⟩ = some (.int .i64 c0) ∧ w9.cell? ⟨b, off + 1, none⟩ = some (.int .i64 c1) ∧ w9.cell? ⟨b, off + 2, none⟩ = some (.int .i64 c2) ∧ w9.cell? ⟨b, off + 3, none⟩ = some (.int .i64 c3) ∧ w9.cell? ⟨b, off + 4, none⟩ = some (.int .i64 c4) ∧ w9.cell? ⟨b, off + 5, none⟩ = some (.int .i64 c5)
theorem IS.six {w : World} {v : Value} {c0 c1 c2 c3 c4 c5 : Int} (h : IS w v [c0, c1, c2, c3, c4, c5]) : ∃ b off cap, v = .slice (.some ⟨b, off, none⟩) 6 cap ∧ 6 ≤ cap ∧ (cap : Int) ≤ 9223372036854775807 ∧ b < w.heap.size ∧ S6 b off c0 c1 c2 c3 c4 c5 w := by
  obtain ⟨b, off, cap, rfl, h1, h2, h3, hc⟩ := h.some (by simp)
  have k0 := hc 0 (by simp); have k1 := hc 1 (by simp); have k2 := hc 2 (by simp); have k3 := hc 3 (by simp); have k4 := hc 4 (by simp); have k5 := hc 5 (by simp)
  simp only [List.getD_cons_zero, List.getD_cons_succ, Nat.add_zero] at k0 k1 k2 k3 k4 k5
  exact ⟨b, off, cap, rfl, by simpa using h1, h2, h3, k0, k1, k2, k3, k4, k5⟩
theorem S6.keep {b off : Nat} {c0 c1 c2 c3 c4 c5 : Int} {w w9 : World} (h : S6 b off c0 c1 c2 c3 c4 c5 w) (hlt : b < w.heap.size) (hb : Below w.heap.size w w9) : S6 b off c0 c1 c2 c3 c4 c5 w9 :=
  ⟨(hb.cell (p := ⟨b, off, none⟩) hlt).trans h.1, (hb.cell (p := ⟨b, off + 1, none⟩) hlt).trans h.2.1, (hb.cell (p := ⟨b, off + 2, none⟩) hlt).trans h.2.2.1, (hb.cell (p := ⟨b, off + 3, none⟩) hlt).trans h.2.2.2.1, (hb.cell (p := ⟨b, off + 4, none⟩) hlt).trans h.2.2.2.2.1, (hb.cell (p := ⟨b, off + 5, none⟩) hlt).trans h.2.2.2.2.2⟩

set_option maxRecDepth 100000 in
set_option maxHeartbeats 2000000 in
theorem afdet (v : Value) (c0 c1 c2 c3 c4 c5 : Int) (h0 : -16777216 ≤ c0 ∧ c0 ≤ 16777216) (h1 : -16777216 ≤ c1 ∧ c1 ≤ 16777216) (h3 : -16777216 ≤ c3 ∧ c3 ≤ 16777216) (h4 : -16777216 ≤ c4 ∧ c4 ≤ 16777216) (w : World) (hv : IS w v [c0, c1, c2, c3, c4, c5]) :
    Calls Try.prog 59 #[v] w fun e w' => e = .returned (.int .i64 (detI c0 c1 c3 c4)) ∧ ∃ m, w' = w.drewN m := by
  obtain ⟨m1, m2, m3⟩ := det_in h0 h1 h3 h4
  have HD := Lib.hid (show detI c0 c1 c3 c4 = c0 * c4 - c1 * c3 from rfl)
  have e1 : IntKind.i64.wrap (c0 * c4) = c0 * c4 := iw (by omega)
  have e2 : IntKind.i64.wrap (c1 * c3) = c1 * c3 := iw (by omega)
  have e3 : IntKind.i64.wrap (c0 * c4 - c1 * c3) = c0 * c4 - c1 * c3 := iw (by omega)
  obtain ⟨b, off, cap, rfl, hcap, h2, hlt, k0, k1, k2, k3, k4, k5⟩ := hv.six
  clear hv h0 h1 h3 h4 m1 m2 m3
  generalize detI c0 c1 c3 c4 = D at *
  go_enter Try.func59, Try.ntmps59
  go_wp2_with fail
  go_quiet (fail)
  go_wp2_with fail
  go_ret
  exact ⟨ret_int (by rw [HD.out]), _, rfl⟩

theorem lim0 (w : World) : (Instr.index 116 (.agg #[.int .i64 16777216, .int .i64 16777216, .int .i64 2147483648, .int .i64 16777216, .int .i64 16777216, .int .i64 2147483648]) (.int .i64 0)).run Try.prog w = .ok (.int .i64 16777216) w := by kernel_rfl
theorem lim1 (w : World) : (Instr.index 116 (.agg #[.int .i64 16777216, .int .i64 16777216, .int .i64 2147483648, .int .i64 16777216, .int .i64 16777216, .int .i64 2147483648]) (.int .i64 1)).run Try.prog w = .ok (.int .i64 16777216) w := by kernel_rfl
theorem lim2 (w : World) : (Instr.index 116 (.agg #[.int .i64 16777216, .int .i64 16777216, .int .i64 2147483648, .int .i64 16777216, .int .i64 16777216, .int .i64 2147483648]) (.int .i64 2)).run Try.prog w = .ok (.int .i64 2147483648) w := by kernel_rfl
theorem lim3 (w : World) : (Instr.index 116 (.agg #[.int .i64 16777216, .int .i64 16777216, .int .i64 2147483648, .int .i64 16777216, .int .i64 16777216, .int .i64 2147483648]) (.int .i64 3)).run Try.prog w = .ok (.int .i64 16777216) w := by kernel_rfl
theorem lim4 (w : World) : (Instr.index 116 (.agg #[.int .i64 16777216, .int .i64 16777216, .int .i64 2147483648, .int .i64 16777216, .int .i64 16777216, .int .i64 2147483648]) (.int .i64 4)).run Try.prog w = .ok (.int .i64 16777216) w := by kernel_rfl
theorem lim5 (w : World) : (Instr.index 116 (.agg #[.int .i64 16777216, .int .i64 16777216, .int .i64 2147483648, .int .i64 16777216, .int .i64 16777216, .int .i64 2147483648]) (.int .i64 5)).run Try.prog w = .ok (.int .i64 2147483648) w := by kernel_rfl
set_option maxRecDepth 100000 in
set_option maxHeartbeats 8000000 in
theorem afcheck (v : Value) (zs : List Int) (w : World) (hv : IS w v zs) : Calls Try.prog 37 #[v] w fun e w' => e = .returned (.int .i64 (afC zs)) ∧ ∃ m, w' = w.drewN m := by
  have hl := hv.len
  by_cases h6 : zs.length = 6
  · obtain ⟨c0, c1, c2, c3, c4, c5, rfl⟩ := list6 h6
    have CD := Lib.hid (fun h0 h1 h3 h4 => afdet v c0 c1 c2 c3 c4 c5 h0 h1 h3 h4 w hv)
    obtain ⟨b, off, cap, rfl, hcap, h2, hlt, k0, k1, k2, k3, k4, k5⟩ := hv.six
    have CI := Lib.hid (fun x w => afin x 16777216 (by omega) (by omega) w)
    have CJ := Lib.hid (fun x w => afin x 2147483648 (by omega) (by omega) w)
    have HS : Hid (afC [c0, c1, c2, c3, c4, c5] = if inI c0 16777216 = true ∧ inI c1 16777216 = true ∧ inI c2 2147483648 = true ∧ inI c3 16777216 = true ∧ inI c4 16777216 = true ∧ inI c5 2147483648 = true then (if detI c0 c1 c3 c4 = 0 then 40 else 0) else 11) := rfl
    clear hv h6 hl
    generalize afC [c0, c1, c2, c3, c4, c5] = C at *
    go_enter Try.func37, Try.ntmps37
    go_wp2_with fail
    go_loop [3, 4, 9] (fun _ _ i => i = .int .i64 0 ∨ i = .int .i64 1 ∧ inI c0 16777216 = true ∨ i = .int .i64 2 ∧ inI c0 16777216 = true ∧ inI c1 16777216 = true ∨ i = .int .i64 3 ∧ inI c0 16777216 = true ∧ inI c1 16777216 = true ∧ inI c2 2147483648 = true ∨ i = .int .i64 4 ∧ inI c0 16777216 = true ∧ inI c1 16777216 = true ∧ inI c2 2147483648 = true ∧ inI c3 16777216 = true ∨ i = .int .i64 5 ∧ inI c0 16777216 = true ∧ inI c1 16777216 = true ∧ inI c2 2147483648 = true ∧ inI c3 16777216 = true ∧ inI c4 16777216 = true ∨ i = .int .i64 6 ∧ inI c0 16777216 = true ∧ inI c1 16777216 = true ∧ inI c2 2147483648 = true ∧ inI c3 16777216 = true ∧ inI c4 16777216 = true ∧ inI c5 2147483648 = true) (fun _ _ i => 6 - (intOf i).toNat)
    case atStart => exact .inl rfl
    case round =>
      rcases hrel with rfl | ⟨rfl, q0⟩ | ⟨rfl, q0, q1⟩ | ⟨rfl, q0, q1, q2⟩ | ⟨rfl, q0, q1, q2, q3⟩ | ⟨rfl, q0, q1, q2, q3, q4⟩ | ⟨rfl, q0, q1, q2, q3, q4, q5⟩
      · have J := lim0
        rcases hb : inI c0 16777216 with _ | _
        · have H : Hid (C = 11) := by have := HS.out; show _ = _; rw [this, hb]; simp
          clear HS CD
          go_wp2_with fail
          refine (CI.out _ _).mono ?_; rintro e w9 ⟨rfl, rfl⟩
          rw [hb]
          go_wp2_with fail
          go_ret
          exact ⟨ret_int H.out.symm, 0, rfl⟩
        · clear HS CD
          go_wp2_with fail
          refine (CI.out _ _).mono ?_; rintro e w9 ⟨rfl, rfl⟩
          rw [hb]
          go_wp2_with fail
          go_round
          case rel => simp [*]
          case measure => simp [intOf]
      · have J := lim1
        rcases hb : inI c1 16777216 with _ | _
        · have H : Hid (C = 11) := by have := HS.out; show _ = _; rw [this, hb]; simp
          clear HS CD
          go_wp2_with fail
          refine (CI.out _ _).mono ?_; rintro e w9 ⟨rfl, rfl⟩
          rw [hb]
          go_wp2_with fail
          go_ret
          exact ⟨ret_int H.out.symm, 0, rfl⟩
        · clear HS CD
          go_wp2_with fail
          refine (CI.out _ _).mono ?_; rintro e w9 ⟨rfl, rfl⟩
          rw [hb]
          go_wp2_with fail
          go_round
          case rel => simp [*]
          case measure => simp [intOf]
      · have J := lim2
        rcases hb : inI c2 2147483648 with _ | _
        · have H : Hid (C = 11) := by have := HS.out; show _ = _; rw [this, hb]; simp
          clear HS CD
          go_wp2_with fail
          refine (CJ.out _ _).mono ?_; rintro e w9 ⟨rfl, rfl⟩
          rw [hb]
          go_wp2_with fail
          go_ret
          exact ⟨ret_int H.out.symm, 0, rfl⟩
        · clear HS CD
          go_wp2_with fail
          refine (CJ.out _ _).mono ?_; rintro e w9 ⟨rfl, rfl⟩
          rw [hb]
          go_wp2_with fail
          go_round
          case rel => simp [*]
          case measure => simp [intOf]
      · have J := lim3
        rcases hb : inI c3 16777216 with _ | _
        · have H : Hid (C = 11) := by have := HS.out; show _ = _; rw [this, hb]; simp
          clear HS CD
          go_wp2_with fail
          refine (CI.out _ _).mono ?_; rintro e w9 ⟨rfl, rfl⟩
          rw [hb]
          go_wp2_with fail
          go_ret
          exact ⟨ret_int H.out.symm, 0, rfl⟩
        · clear HS CD
          go_wp2_with fail
          refine (CI.out _ _).mono ?_; rintro e w9 ⟨rfl, rfl⟩
          rw [hb]
          go_wp2_with fail
          go_round
          case rel => simp [*]
          case measure => simp [intOf]
      · have J := lim4
        rcases hb : inI c4 16777216 with _ | _
        · have H : Hid (C = 11) := by have := HS.out; show _ = _; rw [this, hb]; simp
          clear HS CD
          go_wp2_with fail
          refine (CI.out _ _).mono ?_; rintro e w9 ⟨rfl, rfl⟩
          rw [hb]
          go_wp2_with fail
          go_ret
          exact ⟨ret_int H.out.symm, 0, rfl⟩
        · clear HS CD
          go_wp2_with fail
          refine (CI.out _ _).mono ?_; rintro e w9 ⟨rfl, rfl⟩
          rw [hb]
          go_wp2_with fail
          go_round
          case rel => simp [*]
          case measure => simp [intOf]
      · have J := lim5
        rcases hb : inI c5 2147483648 with _ | _
        · have H : Hid (C = 11) := by have := HS.out; show _ = _; rw [this, hb]; simp
          clear HS CD
          go_wp2_with fail
          refine (CJ.out _ _).mono ?_; rintro e w9 ⟨rfl, rfl⟩
          rw [hb]
          go_wp2_with fail
          go_ret
          exact ⟨ret_int H.out.symm, 0, rfl⟩
        · clear HS CD
          go_wp2_with fail
          refine (CJ.out _ _).mono ?_; rintro e w9 ⟨rfl, rfl⟩
          rw [hb]
          go_wp2_with fail
          go_round
          case rel => simp [*]
          case measure => simp [intOf]
      · have H0 := HS.out.trans (if_pos ⟨q0, q1, q2, q3, q4, q5⟩)
        replace CD := Lib.hid (CD.out (inI_iff.1 q0) (inI_iff.1 q1) (inI_iff.1 q3) (inI_iff.1 q4))
        clear HS CI CJ q0 q1 q2 q3 q4 q5
        rcases hd : (detI c0 c1 c3 c4 == 0) with _ | _
        · have H := Lib.hid (H0.trans (if_neg (by simpa using hd)))
          clear H0
          generalize detI c0 c1 c3 c4 = D at *
          go_wp2_with fail
          refine CD.out.mono ?_; rintro e w9 ⟨rfl, m, rfl⟩
          go_wp2_with fail
          go_ret
          exact ⟨ret_int H.out.symm, _, rfl⟩
        · have H := Lib.hid (H0.trans (if_pos (by simpa using hd)))
          clear H0
          generalize detI c0 c1 c3 c4 = D at *
          go_wp2_with fail
          refine CD.out.mono ?_; rintro e w9 ⟨rfl, m, rfl⟩
          go_wp2_with fail
          go_ret
          exact ⟨ret_int H.out.symm, _, rfl⟩
  · have HL := Lib.hid (afC_len h6)
    obtain ⟨A, cap, rfl⟩ := hv.form
    have hn : (zs.length : Int) ≠ 6 := by omega
    clear hv h6
    generalize afC zs = C at *
    generalize zs.length = n at *
    go_enter Try.func37, Try.ntmps37
    go_wp2
    go_ret
    exact ⟨ret_int HL.out.symm, 0, rfl⟩

end Go.Proofs.Ythdbchghhpoadaa
