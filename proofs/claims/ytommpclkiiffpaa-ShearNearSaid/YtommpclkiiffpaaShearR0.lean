/- Contract of Quarter; of the document's Nearest, plain, Bounds, Pixel, Check of the slants. -/
import Derived.Test.YtommpclkiiffpaaShear4
set_option linter.unusedVariables false
namespace Go.Proofs.Ytommpclkiiffpaa
open Go.RowKit

/-- Four numbers laid anew. -/
def GiveQr (a b : Int) (w : World) (e : Ending) (w' : World) : Prop := ∃ g, e = .returned (.slice (some ⟨g, 0, none⟩) 4 4) ∧ Below w.heap.size w w' ∧ AtB w' g #[.int .i64 a, .int .i64 b, .int .i64 0, .int .i64 0] 2
theorem quarter1 (w : World) : Calls Try.prog 28 #[.int .i64 1] w (GiveQr (-65536) 65536 w) := by
  go_enter Try.func28, Try.ntmps28
  go_wp2
  go_ret
  exact ⟨_, rfl, below_new (Below.refl _ _) _, new_at _ _ _⟩
theorem quarter3 (w : World) : Calls Try.prog 28 #[.int .i64 3] w (GiveQr 65536 (-65536) w) := by
  go_enter Try.func28, Try.ntmps28
  go_wp2
  go_ret
  exact ⟨_, rfl, below_new (Below.refl _ _) _, new_at _ _ _⟩
theorem info_i64 : (Try.prog.info? 2).map (fun i => (i.zero, i.size, i.bytes)) = some (some (.int .i64 0), 1, 8) := by kernel_rfl
theorem make4 (w : World) : (Instr.makeSlice 51 (.int .i64 4) (.int .i64 4)).run Try.prog w = .ok (.slice (some ⟨w.heap.size, 0, none⟩) 4 4) (w.alloc (.cells #[.int .i64 0, .int .i64 0, .int .i64 0, .int .i64 0] 2)) := by
  obtain ⟨i, hi, he⟩ := Option.map_eq_some_iff.1 info_i64
  simp only [Prod.mk.injEq] at he
  obtain ⟨hz, hs, hb⟩ := he
  have h := run_make (P := Try.prog) w 51 2 i _ Try.underlying51 hi hz .i64 .i64 4 4 (by omega) (by omega) (by rw [hb]; omega) (by omega)
  rw [hs] at h
  have hc : madeCells (Value.int .i64 0).cells (Int.toNat 4 * 1) = #[.int .i64 0, .int .i64 0, .int .i64 0, .int .i64 0] := by kernel_rfl
  rw [hc] at h
  exact h
set_option maxRecDepth 100000 in
theorem quarter0 (w : World) : Calls Try.prog 28 #[.int .i64 0] w (GiveQr 0 0 w) := by
  have M := make4 w
  go_enter Try.func28, Try.ntmps28
  go_wp2
  go_ret
  exact ⟨_, rfl, below_new (Below.refl _ _) _, new_at _ _ _⟩
theorem quarter_none (q : Int) (h0 : q ≠ 0) (h1 : q ≠ 1) (h3 : q ≠ 3) (w : World) : Calls Try.prog 28 #[.int .i64 q] w fun e w' => e = .returned (.slice none 0 0) ∧ w = w' := by
  have e0 : (q == 0) = false := by simpa using h0
  have e1 : (q == 1) = false := by simpa using h1
  have e3 : (q == 3) = false := by simpa using h3
  go_enter Try.func28, Try.ntmps28
  go_wp2
  go_ret
  exact ⟨rfl, rfl⟩

theorem rnearest (p d : Int) (hp : -1152921504606846976 ≤ p ∧ p ≤ 1152921504606846976) (hd : 1 ≤ d) (hd' : d ≤ 65536) (w : World) : Calls Try.prog 40 #[.int .i64 p, .int .i64 d] w fun e w' => e = .returned (.int .i64 ((2 * p + d) / (2 * d))) ∧ w = w' := by
  have e1 : wrap64 (2 * p) = 2 * p := ww (by omega)
  have e2 : wrap64 (2 * p + d) = 2 * p + d := ww (by omega)
  have e3 : wrap64 (2 * d) = 2 * d := ww (by omega)
  have C := Lib.hid (fun w => rdown (2 * p + d) (2 * d) ⟨by omega, by omega⟩ (by omega) (by omega) w)
  clear hp hd hd'
  go_enter Try.func40, Try.ntmps40
  go_wp2_with fail
  have BB : Hid (Below w.heap.size w w) := Below.refl _ _
  refine (C.out _).mono ?_
  rintro e w9 ⟨rfl, rfl⟩
  go_wp2_with fail
  go_ret
  exact ⟨rfl, rfl⟩

theorem rplain (x : Int) (h : -262144 ≤ x ∧ x ≤ 262144) (w : World) : Calls Try.prog 71 #[.int .i64 x] w fun e w' => e = .returned (.int .i64 (x.natAbs : Int)) ∧ w = w' := by
  have e1 : wrap64 (-x) = -x := ww (by omega)
  rcases dec_both (x < -x) with ⟨k, kd⟩ | ⟨k, kd⟩
  · have H := Lib.hid (show (x.natAbs : Int) = -x by omega)
    clear h
    go_enter Try.func71, Try.ntmps71
    go_wp2
    go_ret
    exact ⟨ret_int H.out.symm, rfl⟩
  · have H := Lib.hid (show (x.natAbs : Int) = x by omega)
    clear h
    go_enter Try.func71, Try.ntmps71
    go_wp2
    go_ret
    exact ⟨ret_int H.out.symm, rfl⟩

set_option maxRecDepth 100000 in
set_option maxHeartbeats 4000000 in
theorem rbounds (v : Value) (a b cx cy : Int) (hM : SM a b cx cy) (w : World) (hv : IS w v [a, b, cx, cy]) :
    Calls Try.prog 38 #[v] w fun e w' => e = .returned (.tuple #[.int .i64 (bndX a b), .int .i64 (bndY b)]) ∧ w = w' := by
  obtain ⟨bk, off, cap, rfl, hcap, h2, hlt, k0, k1, k2, k3⟩ := hv.four
  obtain ⟨ha, hb, hx, hy⟩ := hM
  have C1 := Lib.hid (fun w => rplain a ha w)
  have C2 := Lib.hid (fun w => rplain b hb w)
  have H1 : Hid (bndX a b = 65536 + ((a.natAbs : Int) * (65536 + (b.natAbs : Int)) + 131071) / 131072) := rfl
  have H2 : Hid (bndY b = 32768 + ((b.natAbs : Int) + 1) / 2) := rfl
  have n0 : 0 ≤ (a.natAbs : Int) ∧ (a.natAbs : Int) ≤ 262144 := by omega
  have n1 : 0 ≤ (b.natAbs : Int) ∧ (b.natAbs : Int) ≤ 262144 := by omega
  generalize (a.natAbs : Int) = A at *
  generalize (b.natAbs : Int) = B at *
  have m1 := mul_in (a := A) (A := 262144) (b := 65536 + B) (B := 327680) (by omega) (by omega)
  have m0 : 0 ≤ A * (65536 + B) := Int.mul_nonneg (by omega) (by omega)
  have e1 : wrap64 (65536 + B) = 65536 + B := ww (by omega)
  have e2 : wrap64 (A * (65536 + B)) = A * (65536 + B) := ww (by omega)
  have e3 : wrap64 (A * (65536 + B) + 131071) = A * (65536 + B) + 131071 := ww (by omega)
  have t1 : (A * (65536 + B) + 131071).tdiv 131072 = (A * (65536 + B) + 131071) / 131072 := tdiv_pos (by omega)
  have t2 : (B + 1).tdiv 2 = (B + 1) / 2 := tdiv_pos (by omega)
  have e4 : wrap64 (B + 1) = B + 1 := ww (by omega)
  have e7 : wrap64 ((B + 1) / 2) = (B + 1) / 2 := ww (by omega)
  have e8 : wrap64 ((A * (65536 + B) + 131071) / 131072) = (A * (65536 + B) + 131071) / 131072 := by
    generalize A * (65536 + B) = P at *
    exact ww (by omega)
  have e5 : wrap64 (65536 + (A * (65536 + B) + 131071) / 131072) = 65536 + (A * (65536 + B) + 131071) / 131072 := by
    generalize A * (65536 + B) = P at *
    exact ww (by omega)
  have e6 : wrap64 (32768 + (B + 1) / 2) = 32768 + (B + 1) / 2 := ww (by omega)
  clear hv ha hb hx hy m1 m0 n0 n1
  go_enter Try.func38, Try.ntmps38
  go_wp2_with fail
  have BB : Hid (Below w.heap.size w w) := Below.refl _ _
  refine (C1.out _).mono ?_
  rintro e w9 ⟨rfl, rfl⟩
  go_wp2_with fail
  refine (C2.out _).mono ?_
  rintro e w9 ⟨rfl, rfl⟩
  go_wp2_with fail
  refine bodyPost_ret (v := .tuple #[.int .i64 (65536 + (A * (65536 + B) + 131071) / 131072), .int .i64 (32768 + (B + 1) / 2)]) (by unfold results; simp only [Try.results38]; go_simp) rfl ?_
  exact ⟨by rw [H1.out, H2.out], rfl⟩

theorem slant_near (k y : Int) : (2 * (k * y) + 65536) / (2 * 65536) = slant k y := by unfold slant; omega

set_option maxRecDepth 100000 in
set_option maxHeartbeats 8000000 in
theorem rpixel (v : Value) (a b cx cy x y : Int) (hM : SM a b cx cy) (hx' : -1073709056 ≤ x ∧ x ≤ 1073709056) (hy' : -1073709056 ≤ y ∧ y ≤ 1073709056) (w : World) (hv : IS w v [a, b, cx, cy]) :
    Calls Try.prog 39 #[v, .int .i64 x, .int .i64 y] w fun e w' => e = .returned (.tuple #[.int .i64 (shX2 a b (x - cx) (y - cy) + cx), .int .i64 (shY1 a b (x - cx) (y - cy) + cy)]) ∧ ∃ m, w' = w.drewN m := by
  obtain ⟨bk, off, cap, rfl, hcap, h2, hlt, k0, k1, k2, k3⟩ := hv.four
  obtain ⟨ha, hb, hx, hy⟩ := hM
  have e1 : wrap64 (x - cx) = x - cx := ww (by omega)
  have e2 : wrap64 (y - cy) = y - cy := ww (by omega)
  obtain ⟨f1, f2, f3⟩ := sh_facts (x0 := x - cx) (y0 := y - cy) ha hb (by omega) (by omega)
  have m1 := mul_in ha (b := y - cy) (B := 1073741824) (by omega)
  have m2 := mul_in hb f1
  have m3 := mul_in ha f2
  have e3 : wrap64 (a * (y - cy)) = a * (y - cy) := ww (by omega)
  have C1 := Lib.hid (fun w => rnearest (a * (y - cy)) 65536 (by omega) (by omega) (by omega) w)
  have C2 := Lib.hid (fun w => rnearest (b * shX1 a (x - cx) (y - cy)) 65536 (by omega) (by omega) (by omega) w)
  have C3 := Lib.hid (fun w => rnearest (a * shY1 a b (x - cx) (y - cy)) 65536 (by omega) (by omega) (by omega) w)
  rw [slant_near] at C1 C2 C3
  have r1 : x - cx + slant a (y - cy) = shX1 a (x - cx) (y - cy) := rfl
  have r2 : y - cy + slant b (shX1 a (x - cx) (y - cy)) = shY1 a b (x - cx) (y - cy) := rfl
  have r3 : shX1 a (x - cx) (y - cy) + slant a (shY1 a b (x - cx) (y - cy)) = shX2 a b (x - cx) (y - cy) := rfl
  have e4 : wrap64 (shX1 a (x - cx) (y - cy)) = shX1 a (x - cx) (y - cy) := ww (by omega)
  have e5 : wrap64 (shY1 a b (x - cx) (y - cy)) = shY1 a b (x - cx) (y - cy) := ww (by omega)
  have e6 : wrap64 (shX2 a b (x - cx) (y - cy)) = shX2 a b (x - cx) (y - cy) := ww (by omega)
  have e7 : wrap64 (b * shX1 a (x - cx) (y - cy)) = b * shX1 a (x - cx) (y - cy) := ww (by omega)
  have e8 : wrap64 (a * shY1 a b (x - cx) (y - cy)) = a * shY1 a b (x - cx) (y - cy) := ww (by omega)
  have e9 : wrap64 (shX2 a b (x - cx) (y - cy) + cx) = shX2 a b (x - cx) (y - cy) + cx := ww (by omega)
  have e10 : wrap64 (shY1 a b (x - cx) (y - cy) + cy) = shY1 a b (x - cx) (y - cy) + cy := ww (by omega)
  clear hv ha hb hx hy f1 f2 f3 m1 m2 m3
  go_enter Try.func39, Try.ntmps39
  go_wp2_with fail
  refine (C1.out _).mono ?_; rintro e w9 ⟨rfl, rfl⟩
  go_wp2_with fail
  refine (C2.out _).mono ?_; rintro e w9 ⟨rfl, rfl⟩
  go_wp2_with fail
  refine (C3.out _).mono ?_; rintro e w9 ⟨rfl, rfl⟩
  go_wp2_with fail
  go_quiet (fail)
  go_wp2_with fail
  refine bodyPost_ret (v := .tuple #[.int .i64 (shX2 a b (x - cx) (y - cy) + cx), .int .i64 (shY1 a b (x - cx) (y - cy) + cy)]) (by unfold results; simp only [Try.results39]; go_simp) rfl ?_
  exact ⟨rfl, _, rfl⟩

set_option maxRecDepth 100000 in
set_option maxHeartbeats 4000000 in
theorem rshcheck (v : Value) (zs : List Int) (w : World) (hv : IS w v zs) : Calls Try.prog 35 #[v] w fun e w' => e = .returned (.int .i64 (shC zs)) ∧ w = w' := by
  have hl := hv.len
  by_cases h4 : zs.length = 4
  · obtain ⟨c0, c1, c2, c3, rfl⟩ := list4 h4
    obtain ⟨b, off, cap, rfl, hcap, h2, hlt, k0, k1, k2, k3⟩ := hv.four
    have CI := Lib.hid (fun x w => rin x 262144 (by omega) (by omega) w)
    have CJ := Lib.hid (fun x w => rin x 32768 (by omega) (by omega) w)
    have HS : Hid (shC [c0, c1, c2, c3] = if inI c0 262144 = true ∧ inI c1 262144 = true ∧ inI c2 32768 = true ∧ inI c3 32768 = true then 0 else 11) := rfl
    clear hv h4 hl
    generalize shC [c0, c1, c2, c3] = C at *
    go_enter Try.func35, Try.ntmps35
    go_wp2_with fail
    go_loop [3, 4] (fun i _ => i = .int .i64 0 ∨ i = .int .i64 1 ∧ inI c0 262144 = true ∨ i = .int .i64 2 ∧ inI c0 262144 = true ∧ inI c1 262144 = true ∨ i = .int .i64 3 ∧ inI c0 262144 = true ∧ inI c1 262144 = true ∧ inI c2 32768 = true ∨ i = .int .i64 4 ∧ inI c0 262144 = true ∧ inI c1 262144 = true ∧ inI c2 32768 = true ∧ inI c3 32768 = true) (fun i _ => 4 - (intOf i).toNat)
    case atStart => exact .inl rfl
    case round =>
      rcases hrel with rfl | ⟨rfl, q0⟩ | ⟨rfl, q0, q1⟩ | ⟨rfl, q0, q1, q2⟩ | ⟨rfl, q0, q1, q2, q3⟩
      · skip
        rcases hb : inI c0 262144 with _ | _
        · have H : Hid (C = 11) := by have := HS.out; show _ = _; rw [this, hb]; simp
          clear HS
          go_wp2_with fail
          refine (CI.out _ _).mono ?_; rintro e w9 ⟨rfl, rfl⟩
          rw [hb]
          go_wp2_with fail
          go_ret
          exact ⟨ret_int H.out.symm, rfl⟩
        · clear HS
          go_wp2_with fail
          refine (CI.out _ _).mono ?_; rintro e w9 ⟨rfl, rfl⟩
          rw [hb]
          go_wp2_with fail
          go_round
          case rel => simp [*]
          case measure => simp [intOf]
      · skip
        rcases hb : inI c1 262144 with _ | _
        · have H : Hid (C = 11) := by have := HS.out; show _ = _; rw [this, hb]; simp
          clear HS
          go_wp2_with fail
          refine (CI.out _ _).mono ?_; rintro e w9 ⟨rfl, rfl⟩
          rw [hb]
          go_wp2_with fail
          go_ret
          exact ⟨ret_int H.out.symm, rfl⟩
        · clear HS
          go_wp2_with fail
          refine (CI.out _ _).mono ?_; rintro e w9 ⟨rfl, rfl⟩
          rw [hb]
          go_wp2_with fail
          go_round
          case rel => simp [*]
          case measure => simp [intOf]
      · skip
        rcases hb : inI c2 32768 with _ | _
        · have H : Hid (C = 11) := by have := HS.out; show _ = _; rw [this, hb]; simp
          clear HS
          go_wp2_with fail
          refine (CJ.out _ _).mono ?_; rintro e w9 ⟨rfl, rfl⟩
          rw [hb]
          go_wp2_with fail
          go_ret
          exact ⟨ret_int H.out.symm, rfl⟩
        · clear HS
          go_wp2_with fail
          refine (CJ.out _ _).mono ?_; rintro e w9 ⟨rfl, rfl⟩
          rw [hb]
          go_wp2_with fail
          go_round
          case rel => simp [*]
          case measure => simp [intOf]
      · skip
        rcases hb : inI c3 32768 with _ | _
        · have H : Hid (C = 11) := by have := HS.out; show _ = _; rw [this, hb]; simp
          clear HS
          go_wp2_with fail
          refine (CJ.out _ _).mono ?_; rintro e w9 ⟨rfl, rfl⟩
          rw [hb]
          go_wp2_with fail
          go_ret
          exact ⟨ret_int H.out.symm, rfl⟩
        · clear HS
          go_wp2_with fail
          refine (CJ.out _ _).mono ?_; rintro e w9 ⟨rfl, rfl⟩
          rw [hb]
          go_wp2_with fail
          go_round
          case rel => simp [*]
          case measure => simp [intOf]
      · have H : Hid (C = 0) := HS.out.trans (if_pos ⟨q0, q1, q2, q3⟩)
        clear HS
        go_wp2_with fail
        go_ret
        exact ⟨ret_int H.out.symm, rfl⟩
  · have HL := Lib.hid (shC_len h4)
    obtain ⟨A, cap, rfl⟩ := hv.form
    have hn : (zs.length : Int) ≠ 4 := by omega
    clear hv h4
    generalize shC zs = C at *
    generalize zs.length = n at *
    go_enter Try.func35, Try.ntmps35
    go_wp2
    go_ret
    exact ⟨ret_int HL.out.symm, rfl⟩

end Go.Proofs.Ytommpclkiiffpaa
