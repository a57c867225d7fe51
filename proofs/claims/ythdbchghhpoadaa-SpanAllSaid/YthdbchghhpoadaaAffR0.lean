/- Contracts of the document's affine maps: Det, Check. -/
import Derived.Test.YthdbchghhpoadaaAff0
set_option linter.unusedVariables false
namespace Go.Proofs.Ythdbchghhpoadaa
open Go.RowKit

set_option maxRecDepth 100000 in
set_option maxHeartbeats 2000000 in
theorem rdet18 (v : Value) (c0 c1 c2 c3 c4 c5 : Int) (h0 : -16777216 ≤ c0 ∧ c0 ≤ 16777216) (h1 : -16777216 ≤ c1 ∧ c1 ≤ 16777216) (h3 : -16777216 ≤ c3 ∧ c3 ≤ 16777216) (h4 : -16777216 ≤ c4 ∧ c4 ≤ 16777216) (w : World) (hv : IS w v [c0, c1, c2, c3, c4, c5]) :
    Calls Try.prog 63 #[v] w fun e w' => e = .returned (.int .i64 (detI c0 c1 c3 c4)) ∧ ∃ m, w' = w.drewN m := by
  obtain ⟨m1, m2, m3⟩ := det_in h0 h1 h3 h4
  have HD := Lib.hid (show detI c0 c1 c3 c4 = c0 * c4 - c1 * c3 from rfl)
  have e1 : IntKind.i64.wrap (c0 * c4) = c0 * c4 := iw (by omega)
  have e2 : IntKind.i64.wrap (c1 * c3) = c1 * c3 := iw (by omega)
  have e3 : IntKind.i64.wrap (c0 * c4 - c1 * c3) = c0 * c4 - c1 * c3 := iw (by omega)
  obtain ⟨b, off, cap, rfl, hcap, h2, hlt, k0, k1, k2, k3, k4, k5⟩ := hv.six
  clear hv h0 h1 h3 h4 m1 m2 m3
  generalize detI c0 c1 c3 c4 = D at *
  go_enter Try.func63, Try.ntmps63
  go_wp2_with fail
  go_quiet (fail)
  go_wp2_with fail
  go_ret
  exact ⟨ret_int (by rw [HD.out]), _, rfl⟩

set_option maxRecDepth 100000 in
set_option maxHeartbeats 8000000 in
theorem rcheck18 (v : Value) (zs : List Int) (w : World) (hv : IS w v zs) : Calls Try.prog 31 #[v] w fun e w' => e = .returned (.int .i64 (afC zs)) ∧ ∃ m, w' = w.drewN m := by
  have hl := hv.len
  by_cases h6 : zs.length = 6
  · obtain ⟨c0, c1, c2, c3, c4, c5, rfl⟩ := list6 h6
    have CD := Lib.hid (fun h0 h1 h3 h4 => rdet18 v c0 c1 c2 c3 c4 c5 h0 h1 h3 h4 w hv)
    obtain ⟨b, off, cap, rfl, hcap, h2, hlt, k0, k1, k2, k3, k4, k5⟩ := hv.six
    have CI := Lib.hid (fun x w => rin x 16777216 (by omega) (by omega) w)
    have CJ := Lib.hid (fun x w => rin x 2147483648 (by omega) (by omega) w)
    have HS : Hid (afC [c0, c1, c2, c3, c4, c5] = if inI c0 16777216 = true ∧ inI c1 16777216 = true ∧ inI c2 2147483648 = true ∧ inI c3 16777216 = true ∧ inI c4 16777216 = true ∧ inI c5 2147483648 = true then (if detI c0 c1 c3 c4 = 0 then 40 else 0) else 11) := rfl
    clear hv h6 hl
    generalize afC [c0, c1, c2, c3, c4, c5] = C at *
    go_enter Try.func31, Try.ntmps31
    go_wp2_with fail
    go_loop [3, 4] (fun i _ => i = .int .i64 0 ∨ i = .int .i64 1 ∧ inI c0 16777216 = true ∨ i = .int .i64 2 ∧ inI c0 16777216 = true ∧ inI c1 16777216 = true ∨ i = .int .i64 3 ∧ inI c0 16777216 = true ∧ inI c1 16777216 = true ∧ inI c2 2147483648 = true ∨ i = .int .i64 4 ∧ inI c0 16777216 = true ∧ inI c1 16777216 = true ∧ inI c2 2147483648 = true ∧ inI c3 16777216 = true ∨ i = .int .i64 5 ∧ inI c0 16777216 = true ∧ inI c1 16777216 = true ∧ inI c2 2147483648 = true ∧ inI c3 16777216 = true ∧ inI c4 16777216 = true ∨ i = .int .i64 6 ∧ inI c0 16777216 = true ∧ inI c1 16777216 = true ∧ inI c2 2147483648 = true ∧ inI c3 16777216 = true ∧ inI c4 16777216 = true ∧ inI c5 2147483648 = true) (fun i _ => 6 - (intOf i).toNat)
    case atStart => exact .inl rfl
    case round =>
      rcases hrel with rfl | ⟨rfl, q0⟩ | ⟨rfl, q0, q1⟩ | ⟨rfl, q0, q1, q2⟩ | ⟨rfl, q0, q1, q2, q3⟩ | ⟨rfl, q0, q1, q2, q3, q4⟩ | ⟨rfl, q0, q1, q2, q3, q4, q5⟩
      · rcases hb : inI c0 16777216 with _ | _
        · have H : Hid (C = 11) := by have := HS.out; show _ = _; rw [this, hb]; simp
          clear HS CD
          go_wp2_with fail
          refine (CI.out _ _).mono ?_; rintro e w9 ⟨rfl, rfl⟩
          rw [hb]
          go_wp2_with fail
          go_ret
          exact ⟨ret_int H.out.symm, 0, rfl⟩
        · clear HS CD
          go_wp2_with fail
          refine (CI.out _ _).mono ?_; rintro e w9 ⟨rfl, rfl⟩
          rw [hb]
          go_wp2_with fail
          go_round
          case rel => simp [*]
          case measure => simp [intOf]
      · rcases hb : inI c1 16777216 with _ | _
        · have H : Hid (C = 11) := by have := HS.out; show _ = _; rw [this, hb]; simp
          clear HS CD
          go_wp2_with fail
          refine (CI.out _ _).mono ?_; rintro e w9 ⟨rfl, rfl⟩
          rw [hb]
          go_wp2_with fail
          go_ret
          exact ⟨ret_int H.out.symm, 0, rfl⟩
        · clear HS CD
          go_wp2_with fail
          refine (CI.out _ _).mono ?_; rintro e w9 ⟨rfl, rfl⟩
          rw [hb]
          go_wp2_with fail
          go_round
          case rel => simp [*]
          case measure => simp [intOf]
      · rcases hb : inI c2 2147483648 with _ | _
        · have H : Hid (C = 11) := by have := HS.out; show _ = _; rw [this, hb]; simp
          clear HS CD
          go_wp2_with fail
          refine (CJ.out _ _).mono ?_; rintro e w9 ⟨rfl, rfl⟩
          rw [hb]
          go_wp2_with fail
          go_ret
          exact ⟨ret_int H.out.symm, 0, rfl⟩
        · clear HS CD
          go_wp2_with fail
          refine (CJ.out _ _).mono ?_; rintro e w9 ⟨rfl, rfl⟩
          rw [hb]
          go_wp2_with fail
          go_round
          case rel => simp [*]
          case measure => simp [intOf]
      · rcases hb : inI c3 16777216 with _ | _
        · have H : Hid (C = 11) := by have := HS.out; show _ = _; rw [this, hb]; simp
          clear HS CD
          go_wp2_with fail
          refine (CI.out _ _).mono ?_; rintro e w9 ⟨rfl, rfl⟩
          rw [hb]
          go_wp2_with fail
          go_ret
          exact ⟨ret_int H.out.symm, 0, rfl⟩
        · clear HS CD
          go_wp2_with fail
          refine (CI.out _ _).mono ?_; rintro e w9 ⟨rfl, rfl⟩
          rw [hb]
          go_wp2_with fail
          go_round
          case rel => simp [*]
          case measure => simp [intOf]
      · rcases hb : inI c4 16777216 with _ | _
        · have H : Hid (C = 11) := by have := HS.out; show _ = _; rw [this, hb]; simp
          clear HS CD
          go_wp2_with fail
          refine (CI.out _ _).mono ?_; rintro e w9 ⟨rfl, rfl⟩
          rw [hb]
          go_wp2_with fail
          go_ret
          exact ⟨ret_int H.out.symm, 0, rfl⟩
        · clear HS CD
          go_wp2_with fail
          refine (CI.out _ _).mono ?_; rintro e w9 ⟨rfl, rfl⟩
          rw [hb]
          go_wp2_with fail
          go_round
          case rel => simp [*]
          case measure => simp [intOf]
      · rcases hb : inI c5 2147483648 with _ | _
        · have H : Hid (C = 11) := by have := HS.out; show _ = _; rw [this, hb]; simp
          clear HS CD
          go_wp2_with fail
          refine (CJ.out _ _).mono ?_; rintro e w9 ⟨rfl, rfl⟩
          rw [hb]
          go_wp2_with fail
          go_ret
          exact ⟨ret_int H.out.symm, 0, rfl⟩
        · clear HS CD
          go_wp2_with fail
          refine (CJ.out _ _).mono ?_; rintro e w9 ⟨rfl, rfl⟩
          rw [hb]
          go_wp2_with fail
          go_round
          case rel => simp [*]
          case measure => simp [intOf]
      · have H0 := HS.out.trans (if_pos ⟨q0, q1, q2, q3, q4, q5⟩)
        replace CD := Lib.hid (CD.out (inI_iff.1 q0) (inI_iff.1 q1) (inI_iff.1 q3) (inI_iff.1 q4))
        clear HS CI CJ q0 q1 q2 q3 q4 q5
        rcases hd : (detI c0 c1 c3 c4 == 0) with _ | _
        · have H := Lib.hid (H0.trans (if_neg (by simpa using hd)))
          clear H0
          generalize detI c0 c1 c3 c4 = D at *
          go_wp2_with fail
          refine CD.out.mono ?_; rintro e w9 ⟨rfl, m, rfl⟩
          go_wp2_with fail
          go_ret
          exact ⟨ret_int H.out.symm, _, rfl⟩
        · have H := Lib.hid (H0.trans (if_pos (by simpa using hd)))
          clear H0
          generalize detI c0 c1 c3 c4 = D at *
          go_wp2_with fail
          refine CD.out.mono ?_; rintro e w9 ⟨rfl, m, rfl⟩
          go_wp2_with fail
          go_ret
          exact ⟨ret_int H.out.symm, _, rfl⟩
  · have HL := Lib.hid (afC_len h6)
    obtain ⟨A, cap, rfl⟩ := hv.form
    have hn : (zs.length : Int) ≠ 6 := by omega
    clear hv h6
    generalize afC zs = C at *
    generalize zs.length = n at *
    go_enter Try.func31, Try.ntmps31
    go_wp2
    go_ret
    exact ⟨ret_int HL.out.symm, 0, rfl⟩

end Go.Proofs.Ythdbchghhpoadaa
