/- The walk of CubicBy. -/
import Derived.Test.YtnklbnphiokpiaaCu3
set_option linter.unusedVariables false
set_option linter.unusedSimpArgs false
namespace Go.Proofs.Ytnklbnphiokpiaa
open Go.RowKit
abbrev A30 : TypeId := 74
set_option maxRecDepth 100000 in
set_option maxHeartbeats 4000000 in
theorem get30 (g n cap : Nat) (sA : Option Addr) (fx fy : Int) (X Y : Nat) (hX : X < 4) (hY : Y < 4) (hx : -1073741824 ≤ fx ∧ fx ≤ 1073741824) (hy : -1073741824 ≤ fy ∧ fy ≤ 1073741824) (w : World) (hg : AtB w g #[.slice sA n cap, .int .i64 fx, .int .i64 fy, .bool false] A30) :
    Calls Try.prog 43 #[.pointer (some ⟨g, 0, none⟩), .int .i64 (fx - 1 + X), .int .i64 (fy - 1 + Y)] w fun e w' => e = .returned (if X = 2 then .slice none 0 0 else .slice sA n cap) ∧ Below w.heap.size w w' := by
  have c0 : w.cell? ⟨g, 0, none⟩ = some (.slice sA n cap) := hg.cell 0 rfl
  have c1 : w.cell? ⟨g, 1, none⟩ = some (.int .i64 fx) := hg.cell 1 rfl
  have c2 : w.cell? ⟨g, 2, none⟩ = some (.int .i64 fy) := hg.cell 2 rfl
  have hlt := hg.lt
  obtain ⟨x, ex⟩ : ∃ x, x = fx - 1 + (X : Int) := ⟨_, rfl⟩
  obtain ⟨y, ey⟩ : ∃ y, y = fy - 1 + (Y : Int) := ⟨_, rfl⟩
  rw [← ex, ← ey]
  obtain ⟨a, ea⟩ : ∃ a, a = fx - 1 := ⟨_, rfl⟩
  obtain ⟨b, eb⟩ : ∃ a, a = fx + 2 := ⟨_, rfl⟩
  obtain ⟨c, ec⟩ : ∃ a, a = fy - 1 := ⟨_, rfl⟩
  obtain ⟨d, ed⟩ : ∃ a, a = fy + 2 := ⟨_, rfl⟩
  obtain ⟨m, em⟩ : ∃ a, a = fx + 1 := ⟨_, rfl⟩
  have wa : IntKind.i64.wrap (fx - 1) = a := by rw [ea]; exact iw (by omega)
  have wb : IntKind.i64.wrap (fx + 2) = b := by rw [eb]; exact iw (by omega)
  have wc : IntKind.i64.wrap (fy - 1) = c := by rw [ec]; exact iw (by omega)
  have wd : IntKind.i64.wrap (fy + 2) = d := by rw [ed]; exact iw (by omega)
  have wm : IntKind.i64.wrap (fx + 1) = m := by rw [em]; exact iw (by omega)
  have d1 : decide (x < a) = false := decide_eq_false (by omega)
  have d2 : decide (x > b) = false := decide_eq_false (by omega)
  have d3 : decide (y < c) = false := decide_eq_false (by omega)
  have d4 : decide (y > d) = false := decide_eq_false (by omega)
  have n1 : ¬ x < a := by omega
  have n2 : ¬ b < x := by omega
  have n3 : ¬ y < c := by omega
  have n4 : ¬ d < y := by omega
  by_cases h2 : X = 2
  · rw [if_pos h2]
    obtain rfl : x = m := by omega
    clear ex ey ea eb ec ed em hX hY hx hy h2 hg
    go_enter Try.func43, Try.ntmps43
    go_wp2
    go_ret
    exact ⟨rfl, Below.refl _ _⟩
  · rw [if_neg h2]
    have dd : decide (x = m) = false := decide_eq_false (by omega)
    have dn : ¬ x = m := by omega
    clear ex ey ea eb ec ed em hX hY hx hy h2 hg
    go_enter Try.func43, Try.ntmps43
    go_wp2
    go_ret
    exact ⟨rfl, Below.refl _ _⟩
set_option maxRecDepth 100000 in
set_option maxHeartbeats 16000000 in
theorem ylook30 (cp : Value) (Lf : Nat → List Int) (u v : Int) (hu : inB u 70368744177664 = true) (hv : inB v 70368744177664 = true) (w : World)
    (C : ∀ X Y : Nat, X < 4 → Y < 4 → ∀ w1, Below w.heap.size w w1 → Calls Try.prog 43 #[cp, .int .i64 (u / 65536 - 1 + X), .int .i64 (v / 65536 - 1 + Y)] w1 (GiveGet2 w (Lf (Y * 4 + X)) w1)) :
    Calls Try.prog 83 #[.func (.func 43) #[cp] #[], .int .i64 u, .int .i64 v] w
      (GiveLook16 Lf (cw0 (u % 65536 / 256)) (cw1 (u % 65536 / 256)) (cw2 (u % 65536 / 256)) (cw3 (u % 65536 / 256)) (cw0 (v % 65536 / 256)) (cw1 (v % 65536 / 256)) (cw2 (v % 65536 / 256)) (cw3 (v % 65536 / 256)) w) := by
  obtain ⟨u0, u1⟩ := inB_iff.1 hu
  obtain ⟨v0, v1⟩ := inB_iff.1 hv
  have SU := Lib.hid (fun w => wsplit u w)
  have SV := Lib.hid (fun w => wsplit v w)
  have LU := Lib.hid (fun w => wCubic_in (u % 65536 / 256) (by omega) (by omega) w)
  have LV := Lib.hid (fun w => wCubic_in (v % 65536 / 256) (by omega) (by omega) w)
  have bi : -1073741824 ≤ u / 65536 ∧ u / 65536 ≤ 1073741824 := by omega
  have bk : -1073741824 ≤ v / 65536 ∧ v / 65536 ≤ 1073741824 := by omega
  clear hu hv u0 u1 v0 v1
  generalize u / 65536 = i at *
  generalize v / 65536 = k at *
  generalize u % 65536 = f at *
  generalize v % 65536 = g at *
  generalize hfc : f / 256 = fc at *
  generalize hgc : g / 256 = gc at *
  generalize cw0 fc = x0 at *
  generalize cw1 fc = x1 at *
  generalize cw2 fc = x2 at *
  generalize cw3 fc = x3 at *
  generalize cw0 gc = y0 at *
  generalize cw1 gc = y1 at *
  generalize cw2 gc = y2 at *
  generalize cw3 gc = y3 at *
  obtain ⟨i', hi'⟩ : ∃ i', i' = i - 1 := ⟨_, rfl⟩
  obtain ⟨k', hk'⟩ : ∃ k', k' = k - 1 := ⟨_, rfl⟩
  have ei : IntKind.i64.wrap (i - 1) = i' := by rw [hi']; exact iw (by omega)
  have ek : IntKind.i64.wrap (k - 1) = k' := by rw [hk']; exact iw (by omega)
  have C := Lib.hid (show ∀ X Y : Nat, X < 4 → Y < 4 → ∀ w1, Below w.heap.size w w1 → Calls Try.prog 43 #[cp, .int .i64 (i' + X), .int .i64 (k' + Y)] w1 (GiveGet2 w (Lf (Y * 4 + X)) w1) by rw [hi', hk']; exact C)
  have bi' : -1073741825 ≤ i' ∧ i' ≤ 1073741824 := by omega
  have bk' : -1073741825 ≤ k' ∧ k' ≤ 1073741824 := by omega
  clear hi' hk' bi bk
  go_enter Try.func83, Try.ntmps83
  go_wp2_with fail
  have BB := start1 w #[.slice none 0 0, .slice none 0 0, .slice none 0 0, .slice none 0 0, .slice none 0 0, .slice none 0 0, .slice none 0 0, .slice none 0 0, .slice none 0 0, .slice none 0 0, .slice none 0 0, .slice none 0 0, .slice none 0 0, .slice none 0 0, .slice none 0 0, .slice none 0 0, .int .i64 0, .int .i64 0, .int .i64 0, .int .i64 0, .int .i64 0, .int .i64 0, .int .i64 0, .int .i64 0] CAT
  obtain ⟨BB, hsz, r_res⟩ := BB
  generalize (w.alloc (.cells #[.slice none 0 0, .slice none 0 0, .slice none 0 0, .slice none 0 0, .slice none 0 0, .slice none 0 0, .slice none 0 0, .slice none 0 0, .slice none 0 0, .slice none 0 0, .slice none 0 0, .slice none 0 0, .slice none 0 0, .slice none 0 0, .slice none 0 0, .slice none 0 0, .int .i64 0, .int .i64 0, .int .i64 0, .int .i64 0, .int .i64 0, .int .i64 0, .int .i64 0, .int .i64 0] CAT)) = w0 at *
  replace BB := Lib.hid BB
  replace r_res := Lib.hid r_res
  clear hsz
  refine (SU.out _).mono ?_
  rintro e w9 ⟨rfl, rfl⟩
  go_wp2_with fail
  refine (SV.out _).mono ?_
  rintro e w9 ⟨rfl, rfl⟩
  go_wp2_with fail
  have d_a := Lib.hid (And.intro BB.out.size (And.intro r_res.out.lt (True.intro)))
  obtain ⟨hb, r_a⟩ := laid w0 #[.slice none 0 0, .slice none 0 0, .slice none 0 0, .slice none 0 0, .slice none 0 0, .slice none 0 0, .slice none 0 0, .slice none 0 0, .slice none 0 0, .slice none 0 0, .slice none 0 0, .slice none 0 0, .slice none 0 0, .slice none 0 0, .slice none 0 0, .slice none 0 0, .int .i64 0, .int .i64 0, .int .i64 0, .int .i64 0, .int .i64 0, .int .i64 0, .int .i64 0, .int .i64 0] CAT
  replace r_res := Lib.hid (r_res.out.keep hb)
  replace BB := Lib.hid (below_next BB.out hb)
  replace r_a := Lib.hid r_a
  clear hb
  generalize w0.alloc (.cells #[.slice none 0 0, .slice none 0 0, .slice none 0 0, .slice none 0 0, .slice none 0 0, .slice none 0 0, .slice none 0 0, .slice none 0 0, .slice none 0 0, .slice none 0 0, .slice none 0 0, .slice none 0 0, .slice none 0 0, .slice none 0 0, .slice none 0 0, .slice none 0 0, .int .i64 0, .int .i64 0, .int .i64 0, .int .i64 0, .int .i64 0, .int .i64 0, .int .i64 0, .int .i64 0] CAT) = w1 at *
  generalize w0.heap.size = g_a at *
  refine (LU.out _).mono ?_
  rintro e w2 ⟨rfl, hb⟩
  replace r_res := Lib.hid (r_res.out.keep hb)
  replace r_a := Lib.hid (r_a.out.keep hb)
  replace BB := Lib.hid (below_next BB.out hb)
  clear hb
  obtain ⟨c_a0, c_a1, c_a2, c_a3, c_a4, c_a5, c_a6, c_a7, c_a8, c_a9, c_a10, c_a11, c_a12, c_a13, c_a14, c_a15, c_a16, c_a17, c_a18, c_a19, c_a20, c_a21, c_a22, c_a23, f_a0, f_a1, f_a2, f_a3, f_a4, f_a5, f_a6, f_a7, f_a8, f_a9, f_a10, f_a11, f_a12, f_a13, f_a14, f_a15, f_a16, f_a17, f_a18, f_a19, f_a20, f_a21, f_a22, f_a23⟩ := reads24 r_a.out
  have l_a := r_a.out.lt
  go_upto_region 5 with fail
  clear c_a0 c_a1 c_a2 c_a3 c_a4 c_a5 c_a6 c_a7 c_a8 c_a9 c_a10 c_a11 c_a12 c_a13 c_a14 c_a15 c_a16 c_a17 c_a18 c_a19 c_a20 c_a21 c_a22 c_a23 f_a0 f_a1 f_a2 f_a3 f_a4 f_a5 f_a6 f_a7 f_a8 f_a9 f_a10 f_a11 f_a12 f_a13 f_a14 f_a15 f_a16 f_a17 f_a18 f_a19 f_a20 f_a21 f_a22 f_a23 l_a
  replace r_res := Lib.hid ((((r_res.out.far (p := g_a) (by have dd_a := d_a.out; omega) 16 (.int .i64 x0)).far (p := g_a) (by have dd_a := d_a.out; omega) 17 (.int .i64 x1)).far (p := g_a) (by have dd_a := d_a.out; omega) 18 (.int .i64 x2)).far (p := g_a) (by have dd_a := d_a.out; omega) 19 (.int .i64 x3))
  replace r_a := Lib.hid (show AtB ((((w2.setCell ⟨g_a, 16, none⟩ (.int .i64 x0)).setCell ⟨g_a, 17, none⟩ (.int .i64 x1)).setCell ⟨g_a, 18, none⟩ (.int .i64 x2)).setCell ⟨g_a, 19, none⟩ (.int .i64 x3)) (g_a) #[.slice none 0 0, .slice none 0 0, .slice none 0 0, .slice none 0 0, .slice none 0 0, .slice none 0 0, .slice none 0 0, .slice none 0 0, .slice none 0 0, .slice none 0 0, .slice none 0 0, .slice none 0 0, .slice none 0 0, .slice none 0 0, .slice none 0 0, .slice none 0 0, .int .i64 x0, .int .i64 x1, .int .i64 x2, .int .i64 x3, .int .i64 0, .int .i64 0, .int .i64 0, .int .i64 0] CAT from by have k := ((((r_a.out.set_n 16 (.int .i64 x0)).set_n 17 (.int .i64 x1)).set_n 18 (.int .i64 x2)).set_n 19 (.int .i64 x3)); simpa using k)
  replace BB := Lib.hid (below_set (below_set (below_set (below_set BB.out (b := g_a) (o := 16) (by have dd := d_a.out; omega) (.int .i64 x0)) (b := g_a) (o := 17) (by have dd := d_a.out; omega) (.int .i64 x1)) (b := g_a) (o := 18) (by have dd := d_a.out; omega) (.int .i64 x2)) (b := g_a) (o := 19) (by have dd := d_a.out; omega) (.int .i64 x3))
  generalize ((((w2.setCell ⟨g_a, 16, none⟩ (.int .i64 x0)).setCell ⟨g_a, 17, none⟩ (.int .i64 x1)).setCell ⟨g_a, 18, none⟩ (.int .i64 x2)).setCell ⟨g_a, 19, none⟩ (.int .i64 x3)) = w3 at *
  go_wp2_with fail
  refine (LV.out _).mono ?_
  rintro e w4 ⟨rfl, hb⟩
  replace r_res := Lib.hid (r_res.out.keep hb)
  replace r_a := Lib.hid (r_a.out.keep hb)
  replace BB := Lib.hid (below_next BB.out hb)
  clear hb
  obtain ⟨c_a0, c_a1, c_a2, c_a3, c_a4, c_a5, c_a6, c_a7, c_a8, c_a9, c_a10, c_a11, c_a12, c_a13, c_a14, c_a15, c_a16, c_a17, c_a18, c_a19, c_a20, c_a21, c_a22, c_a23, f_a0, f_a1, f_a2, f_a3, f_a4, f_a5, f_a6, f_a7, f_a8, f_a9, f_a10, f_a11, f_a12, f_a13, f_a14, f_a15, f_a16, f_a17, f_a18, f_a19, f_a20, f_a21, f_a22, f_a23⟩ := reads24 r_a.out
  have l_a := r_a.out.lt
  go_upto_region 6 with fail
  clear c_a0 c_a1 c_a2 c_a3 c_a4 c_a5 c_a6 c_a7 c_a8 c_a9 c_a10 c_a11 c_a12 c_a13 c_a14 c_a15 c_a16 c_a17 c_a18 c_a19 c_a20 c_a21 c_a22 c_a23 f_a0 f_a1 f_a2 f_a3 f_a4 f_a5 f_a6 f_a7 f_a8 f_a9 f_a10 f_a11 f_a12 f_a13 f_a14 f_a15 f_a16 f_a17 f_a18 f_a19 f_a20 f_a21 f_a22 f_a23 l_a
  replace r_res := Lib.hid ((((r_res.out.far (p := g_a) (by have dd_a := d_a.out; omega) 20 (.int .i64 y0)).far (p := g_a) (by have dd_a := d_a.out; omega) 21 (.int .i64 y1)).far (p := g_a) (by have dd_a := d_a.out; omega) 22 (.int .i64 y2)).far (p := g_a) (by have dd_a := d_a.out; omega) 23 (.int .i64 y3))
  replace r_a := Lib.hid (show AtB ((((w4.setCell ⟨g_a, 20, none⟩ (.int .i64 y0)).setCell ⟨g_a, 21, none⟩ (.int .i64 y1)).setCell ⟨g_a, 22, none⟩ (.int .i64 y2)).setCell ⟨g_a, 23, none⟩ (.int .i64 y3)) (g_a) #[.slice none 0 0, .slice none 0 0, .slice none 0 0, .slice none 0 0, .slice none 0 0, .slice none 0 0, .slice none 0 0, .slice none 0 0, .slice none 0 0, .slice none 0 0, .slice none 0 0, .slice none 0 0, .slice none 0 0, .slice none 0 0, .slice none 0 0, .slice none 0 0, .int .i64 x0, .int .i64 x1, .int .i64 x2, .int .i64 x3, .int .i64 y0, .int .i64 y1, .int .i64 y2, .int .i64 y3] CAT from by have k := ((((r_a.out.set_n 20 (.int .i64 y0)).set_n 21 (.int .i64 y1)).set_n 22 (.int .i64 y2)).set_n 23 (.int .i64 y3)); simpa using k)
  replace BB := Lib.hid (below_set (below_set (below_set (below_set BB.out (b := g_a) (o := 20) (by have dd := d_a.out; omega) (.int .i64 y0)) (b := g_a) (o := 21) (by have dd := d_a.out; omega) (.int .i64 y1)) (b := g_a) (o := 22) (by have dd := d_a.out; omega) (.int .i64 y2)) (b := g_a) (o := 23) (by have dd := d_a.out; omega) (.int .i64 y3))
  generalize ((((w4.setCell ⟨g_a, 20, none⟩ (.int .i64 y0)).setCell ⟨g_a, 21, none⟩ (.int .i64 y1)).setCell ⟨g_a, 22, none⟩ (.int .i64 y2)).setCell ⟨g_a, 23, none⟩ (.int .i64 y3)) = w5 at *
  go_wp2_with fail
  have h_a := Lib.hid (show LookR w5 w.heap.size g_a [] Lf [.int .i64 x0, .int .i64 x1, .int .i64 x2, .int .i64 x3, .int .i64 y0, .int .i64 y1, .int .i64 y2, .int .i64 y3] from ⟨by rw [lookL_nil]; exact r_a.out, by simp, fun i hi => absurd hi (by simp)⟩)
  clear r_a
  go_loopw [12, 13, 38, 41] (fun _ _ iy _ wr => ∃ (Y : Nat) (S : List Value), Y ≤ 4 ∧ iy = .int .i64 Y ∧ Hid (S.length = Y * 4) ∧ Hid (LookR wr w.heap.size g_a S Lf [.int .i64 x0, .int .i64 x1, .int .i64 x2, .int .i64 x3, .int .i64 y0, .int .i64 y1, .int .i64 y2, .int .i64 y3] ∧ AtB wr w.heap.size #[.slice none 0 0, .slice none 0 0, .slice none 0 0, .slice none 0 0, .slice none 0 0, .slice none 0 0, .slice none 0 0, .slice none 0 0, .slice none 0 0, .slice none 0 0, .slice none 0 0, .slice none 0 0, .slice none 0 0, .slice none 0 0, .slice none 0 0, .slice none 0 0, .int .i64 0, .int .i64 0, .int .i64 0, .int .i64 0, .int .i64 0, .int .i64 0, .int .i64 0, .int .i64 0] CAT ∧ Below w.heap.size w wr)) (fun _ _ iy _ _ => 4 - (intOf iy).toNat)
  case atStart => exact ⟨0, [], by omega, rfl, rfl, ⟨h_a.out, r_res.out, BB.out⟩⟩
  case round =>
    clear h_a r_res BB
    obtain ⟨Y, S, hY, rfl, hS, hinv⟩ := hrel
    obtain ⟨h_a, r_res, BB⟩ := hinv.out
    replace h_a := Lib.hid h_a; replace r_res := Lib.hid r_res; replace BB := Lib.hid BB
    clear hinv
    by_cases hlt : Y < 4
    · have ly0 : (0 : Int) ≤ (Y : Int) := by omega
      have ly1 : (Y : Int) < 4 := by omega
      go_wp2_with fail
      go_loopw [13, 41] (fun _ ix wr => ∃ (X : Nat) (S : List Value), X ≤ 4 ∧ ix = .int .i64 X ∧ Hid (S.length = Y * 4 + X) ∧ Hid (LookR wr w.heap.size g_a S Lf [.int .i64 x0, .int .i64 x1, .int .i64 x2, .int .i64 x3, .int .i64 y0, .int .i64 y1, .int .i64 y2, .int .i64 y3] ∧ AtB wr w.heap.size #[.slice none 0 0, .slice none 0 0, .slice none 0 0, .slice none 0 0, .slice none 0 0, .slice none 0 0, .slice none 0 0, .slice none 0 0, .slice none 0 0, .slice none 0 0, .slice none 0 0, .slice none 0 0, .slice none 0 0, .slice none 0 0, .slice none 0 0, .slice none 0 0, .int .i64 0, .int .i64 0, .int .i64 0, .int .i64 0, .int .i64 0, .int .i64 0, .int .i64 0, .int .i64 0] CAT ∧ Below w.heap.size w wr)) (fun _ ix _ => 4 - (intOf ix).toNat)
      case atStart => exact ⟨0, S, by omega, rfl, by show _ = _; rw [hS.out]; rfl, ⟨h_a.out, r_res.out, BB.out⟩⟩
      case round =>
        clear h_a r_res BB hS S
        obtain ⟨X, S, hX, rfl, hS, hinv⟩ := hrel
        obtain ⟨h_a, r_res, BB⟩ := hinv.out
        replace h_a := Lib.hid h_a; replace r_res := Lib.hid r_res; replace BB := Lib.hid BB
        clear hinv
        by_cases hlx : X < 4
        · have lx0 : (0 : Int) ≤ (X : Int) := by omega
          have lx1 : (X : Int) < 4 := by omega
          have CJ := C.out X Y hlx hlt
          obtain ⟨X', hX'⟩ : ∃ X', X' = i' + (X : Int) := ⟨_, rfl⟩
          obtain ⟨Y', hY'⟩ : ∃ Y', Y' = k' + (Y : Int) := ⟨_, rfl⟩
          rw [← hX', ← hY'] at CJ
          have eX : IntKind.i64.wrap (i' + (X : Int)) = X' := by rw [hX']; exact iw (by omega)
          have eY : IntKind.i64.wrap (k' + (Y : Int)) = Y' := by rw [hY']; exact iw (by omega)
          have CJ := Lib.hid CJ
          clear hX' hY' C
          have hl16 : S.length < 16 := by have := hS.out; omega
          have hlt0 := h_a.out.1.lt
          have KA := Lib.hid (fun (w9 : World) (hb9 : Below wr.heap.size wr w9) => And.intro ((h_a.out.below hb9).cell hl16) ((h_a.out.below hb9).1.fr S.length))
          rw [hS.out] at KA
          have CJ := Lib.hid (fun w9 (hb : Below wr.heap.size wr w9) => CJ.out w9 (below_next BB.out hb))
          go_wp2_with fail
          have KK := Lib.hid (fun (w9 : World) (h : Below wr.heap.size wr w9) => (KA.out _ h : (w9.cell? ⟨g_a, Y * 4 + X, none⟩ = some (.slice none 0 0) ∧ w9.frozen? ⟨g_a, Y * 4 + X, none⟩ = false)))
          have K0 := KK.out wr (Below.refl _ _)
          have KD := KK.out wr.drew (below_drew (Below.refl _ _))
          refine AnyG.begin_ (fun w9 => (w9.cell? ⟨g_a, Y * 4 + X, none⟩ = some (.slice none 0 0) ∧ w9.frozen? ⟨g_a, Y * 4 + X, none⟩ = false)) 15 (by kernel_rfl) ?_
          refine AnyG.take (i := 0) (v := ?_) rfl (by kernel_rfl) (by kernel_rfl) (by kernel_rfl) (fun _ _ _ h => h) (by kernel_rfl) (by kernel_rfl) (Or.inl ⟨by rfl, ?_⟩) (by assumption) ?_
          rotate_left
          · intro w9 hSw; (try dsimp only at hSw); go_simp <;> with_reducible rfl
          try simp only [Act.put, List.getElem_toArray, List.getElem_cons_zero, List.getElem_cons_succ, List.setIfInBounds_toArray, List.set_cons_zero, List.set_cons_succ]
          refine AnyG.take (i := 1) (v := ?_) rfl (by kernel_rfl) (by kernel_rfl) (by kernel_rfl) (fun _ _ _ h => h) (by kernel_rfl) (by kernel_rfl) (Or.inl ⟨by rfl, ?_⟩) (by assumption) ?_
          rotate_left
          · intro w9 hSw; (try dsimp only at hSw); go_simp <;> with_reducible rfl
          try simp only [Act.put, List.getElem_toArray, List.getElem_cons_zero, List.getElem_cons_succ, List.setIfInBounds_toArray, List.set_cons_zero, List.set_cons_succ]
          refine AnyG.take (i := 2) (v := ?_) rfl (by kernel_rfl) (by kernel_rfl) (by kernel_rfl) (fun _ _ _ h => h) (by kernel_rfl) (by kernel_rfl) (Or.inl ⟨by rfl, ?_⟩) (by assumption) ?_
          rotate_left
          · intro w9 hSw; (try dsimp only at hSw); go_simp <;> with_reducible rfl
          try simp only [Act.put, List.getElem_toArray, List.getElem_cons_zero, List.getElem_cons_succ, List.setIfInBounds_toArray, List.set_cons_zero, List.set_cons_succ]
          refine AnyG.take (i := 3) (v := ?_) rfl (by kernel_rfl) (by kernel_rfl) (by kernel_rfl) (fun _ _ _ h => h) (by kernel_rfl) (by kernel_rfl) (Or.inl ⟨by rfl, ?_⟩) (by assumption) ?_
          rotate_left
          · intro w9 hSw; (try dsimp only at hSw); go_simp <;> with_reducible rfl
          try simp only [Act.put, List.getElem_toArray, List.getElem_cons_zero, List.getElem_cons_succ, List.setIfInBounds_toArray, List.set_cons_zero, List.set_cons_succ]
          refine AnyG.take (i := 4) (v := ?_) rfl (by kernel_rfl) (by kernel_rfl) (by kernel_rfl) (fun _ _ _ h => h) (by kernel_rfl) (by kernel_rfl) (Or.inl ⟨by rfl, ?_⟩) (by assumption) ?_
          rotate_left
          · intro w9 hSw; (try dsimp only at hSw); go_simp <;> with_reducible rfl
          try simp only [Act.put, List.getElem_toArray, List.getElem_cons_zero, List.getElem_cons_succ, List.setIfInBounds_toArray, List.set_cons_zero, List.set_cons_succ]
          refine AnyG.take (i := 5) (v := ?_) rfl (by kernel_rfl) (by kernel_rfl) (by kernel_rfl) (fun _ _ _ h => h) (by kernel_rfl) (by kernel_rfl) (Or.inl ⟨by rfl, ?_⟩) (by assumption) ?_
          rotate_left
          · intro w9 hSw; (try dsimp only at hSw); go_simp <;> with_reducible rfl
          try simp only [Act.put, List.getElem_toArray, List.getElem_cons_zero, List.getElem_cons_succ, List.setIfInBounds_toArray, List.set_cons_zero, List.set_cons_succ]
          refine AnyG.take (i := 6) (v := ?_) rfl (by kernel_rfl) (by kernel_rfl) (by kernel_rfl) (fun _ _ _ h => h) (by kernel_rfl) (by kernel_rfl) (Or.inl ⟨by rfl, ?_⟩) (by assumption) ?_
          rotate_left
          · intro w9 hSw; (try dsimp only at hSw); go_simp <;> with_reducible rfl
          try simp only [Act.put, List.getElem_toArray, List.getElem_cons_zero, List.getElem_cons_succ, List.setIfInBounds_toArray, List.set_cons_zero, List.set_cons_succ]
          refine AnyG.take (i := 7) (v := ?_) rfl (by kernel_rfl) (by kernel_rfl) (by kernel_rfl) (fun _ _ _ h => h) (by kernel_rfl) (by kernel_rfl) (Or.inl ⟨by rfl, ?_⟩) (by assumption) ?_
          rotate_left
          · intro w9 hSw; (try dsimp only at hSw); go_simp <;> with_reducible rfl
          try simp only [Act.put, List.getElem_toArray, List.getElem_cons_zero, List.getElem_cons_succ, List.setIfInBounds_toArray, List.set_cons_zero, List.set_cons_succ]
          refine AnyG.take (i := 8) (v := ?_) rfl (by kernel_rfl) (by kernel_rfl) (by kernel_rfl) (fun _ _ _ h => h) (by kernel_rfl) (by kernel_rfl) (Or.inl ⟨by rfl, ?_⟩) (by assumption) ?_
          rotate_left
          · intro w9 hSw; (try dsimp only at hSw); go_simp <;> with_reducible rfl
          try simp only [Act.put, List.getElem_toArray, List.getElem_cons_zero, List.getElem_cons_succ, List.setIfInBounds_toArray, List.set_cons_zero, List.set_cons_succ]
          refine AnyG.take (i := 9) (v := ?_) rfl (by kernel_rfl) (by kernel_rfl) (by kernel_rfl) (fun _ _ _ h => h) (by kernel_rfl) (by kernel_rfl) (Or.inl ⟨by rfl, ?_⟩) (by assumption) ?_
          rotate_left
          · intro w9 hSw; (try dsimp only at hSw); go_simp <;> with_reducible rfl
          try simp only [Act.put, List.getElem_toArray, List.getElem_cons_zero, List.getElem_cons_succ, List.setIfInBounds_toArray, List.set_cons_zero, List.set_cons_succ]
          refine AnyG.take (i := 10) (v := ?_) rfl (by kernel_rfl) (by kernel_rfl) (by kernel_rfl) (fun _ _ _ h => h) (by kernel_rfl) (by kernel_rfl) (Or.inl ⟨by rfl, ?_⟩) (by assumption) ?_
          rotate_left
          · intro w9 hSw; (try dsimp only at hSw); go_simp <;> with_reducible rfl
          try simp only [Act.put, List.getElem_toArray, List.getElem_cons_zero, List.getElem_cons_succ, List.setIfInBounds_toArray, List.set_cons_zero, List.set_cons_succ]
          refine AnyG.take (i := 12) (v := ?_) rfl (by kernel_rfl) (by kernel_rfl) (by kernel_rfl) (fun _ _ _ h => h) (by kernel_rfl) (by kernel_rfl) (Or.inl ⟨by rfl, ?_⟩) (by assumption) ?_
          rotate_left
          · intro w9 hSw; (try dsimp only at hSw); go_simp <;> with_reducible rfl
          try simp only [Act.put, List.getElem_toArray, List.getElem_cons_zero, List.getElem_cons_succ, List.setIfInBounds_toArray, List.set_cons_zero, List.set_cons_succ]
          refine AnyG.take (i := 13) (v := ?_) rfl (by kernel_rfl) (by kernel_rfl) (by kernel_rfl) (fun _ _ _ h => h) (by kernel_rfl) (by kernel_rfl) (Or.inl ⟨by rfl, ?_⟩) (by assumption) ?_
          rotate_left
          · intro w9 hSw; (try dsimp only at hSw); go_simp <;> with_reducible rfl
          try simp only [Act.put, List.getElem_toArray, List.getElem_cons_zero, List.getElem_cons_succ, List.setIfInBounds_toArray, List.set_cons_zero, List.set_cons_succ]
          refine AnyG.step (i := 11) (by kernel_rfl) rfl (fun K hK => ?_)
          go_simp
          go_at_call 43
          refine (CJ.out _ ?_).mono ?_
          · repeat (first | with_reducible exact Below.refl _ _ | with_reducible apply below_drew | with_reducible apply below_new)
          rintro e w6 ⟨A, n, p, rfl, hb, hs, ha⟩
          have B_w6 := Lib.hid (reg_next (w0 := wr) (by repeat (first | with_reducible exact Below.refl _ _ | with_reducible apply below_drew | with_reducible apply below_new)) hb)
          have K_w6 := KK.out _ B_w6.out
          clear hb
          refine hK.out _ _ (fun _ => K_w6) (fun hHeld => ?_)
          replace hHeld := hHeld (by decide)
          clear hK
          try simp only [Act.put, List.getElem_toArray, List.getElem_cons_zero, List.getElem_cons_succ, List.setIfInBounds_toArray, List.set_cons_zero, List.set_cons_succ]
          refine AnyG.take (i := 14) (v := ?_) rfl (by kernel_rfl) (by kernel_rfl) (by kernel_rfl) (fun _ _ _ h => h) (by kernel_rfl) (by kernel_rfl) (Or.inl ⟨by rfl, ?_⟩) (by assumption) ?_
          rotate_left
          · intro w9 hSw; (try dsimp only at hSw); go_simp <;> with_reducible rfl
          try simp only [Act.put, List.getElem_toArray, List.getElem_cons_zero, List.getElem_cons_succ, List.setIfInBounds_toArray, List.set_cons_zero, List.set_cons_succ]
          refine AnyG.step (i := 15) (by kernel_rfl) rfl (fun K hK => ?_)
          go_simp
          refine hK.out _ _ (fun h => absurd h (by decide)) (fun _ => ?_)
          clear hK
          try simp only [Act.put, List.getElem_toArray, List.getElem_cons_zero, List.getElem_cons_succ, List.setIfInBounds_toArray, List.set_cons_zero, List.set_cons_succ]
          refine AnyG.done (by kernel_rfl) ?_ _
          clear KK K0 KD K_w6
          replace r_res := Lib.hid (r_res.out.keep B_w6.out)
          replace h_a := Lib.hid (LookR.below h_a.out B_w6.out)
          replace BB := Lib.hid (below_next BB.out B_w6.out)
          clear B_w6
          have h_v := Lib.hid (GiveGet2.sb (g := g_a) hs ha d_a.out.1 (by simpa using hlt0))
          have HN := h_a.out.set hl16 (v := .slice A n p) (by rw [hS.out]; exact h_v.out)
          rw [hS.out] at HN
          replace HN := Lib.hid HN
          have HR := Lib.hid (r_res.out.far (p := g_a) (by have := d_a.out; omega) (Y * 4 + X) (.slice A n p))
          have HB := Lib.hid (below_set BB.out (b := g_a) (o := Y * 4 + X) d_a.out.1 (.slice A n p))
          have hSn : Hid ((S ++ [Value.slice A n p]).length = Y * 4 + (X + 1)) := by show _ = _; rw [List.length_append, List.length_singleton, hS.out]; omega
          clear hs ha h_a r_res BB
          go_wp2_with fail
          go_roundw
          case rel => exact ⟨X + 1, S ++ [.slice A n p], by omega, by go_num, hSn, ⟨HN.out, HR.out, HB.out⟩⟩
          case measure => simp [intOf]; omega
        · obtain rfl : X = 4 := by omega
          go_wp2_with fail
          go_roundw
          case rel => exact ⟨Y + 1, S, by omega, by go_num, by show _ = _; rw [hS.out]; omega, ⟨h_a.out, r_res.out, BB.out⟩⟩
          case measure => simp [intOf]; omega
    · obtain rfl : Y = 4 := by omega
      obtain ⟨s0, s1, s2, s3, s4, s5, s6, s7, s8, s9, s10, s11, s12, s13, s14, s15, rfl⟩ := list16 (show S.length = 16 by rw [hS.out])
      have h_s := Lib.hid (show AllS wr w.heap.size g_a [s0, s1, s2, s3, s4, s5, s6, s7, s8, s9, s10, s11, s12, s13, s14, s15] Lf from h_a.out.2.2)
      have r_a := Lib.hid (show AtB wr g_a #[s0, s1, s2, s3, s4, s5, s6, s7, s8, s9, s10, s11, s12, s13, s14, s15, .int .i64 x0, .int .i64 x1, .int .i64 x2, .int .i64 x3, .int .i64 y0, .int .i64 y1, .int .i64 y2, .int .i64 y3] CAT from by have h := h_a.out.1; rw [lookL_all] at h; exact h)
      obtain ⟨A0, p0, rfl⟩ := (show BS wr s0 (Lf 0) from (h_s.out 0 (by simp)).1).form
      generalize (Lf 0).length = n0 at *
      obtain ⟨A1, p1, rfl⟩ := (show BS wr s1 (Lf 1) from (h_s.out 1 (by simp)).1).form
      generalize (Lf 1).length = n1 at *
      obtain ⟨A2, p2, rfl⟩ := (show BS wr s2 (Lf 2) from (h_s.out 2 (by simp)).1).form
      generalize (Lf 2).length = n2 at *
      obtain ⟨A3, p3, rfl⟩ := (show BS wr s3 (Lf 3) from (h_s.out 3 (by simp)).1).form
      generalize (Lf 3).length = n3 at *
      obtain ⟨A4, p4, rfl⟩ := (show BS wr s4 (Lf 4) from (h_s.out 4 (by simp)).1).form
      generalize (Lf 4).length = n4 at *
      obtain ⟨A5, p5, rfl⟩ := (show BS wr s5 (Lf 5) from (h_s.out 5 (by simp)).1).form
      generalize (Lf 5).length = n5 at *
      obtain ⟨A6, p6, rfl⟩ := (show BS wr s6 (Lf 6) from (h_s.out 6 (by simp)).1).form
      generalize (Lf 6).length = n6 at *
      obtain ⟨A7, p7, rfl⟩ := (show BS wr s7 (Lf 7) from (h_s.out 7 (by simp)).1).form
      generalize (Lf 7).length = n7 at *
      obtain ⟨A8, p8, rfl⟩ := (show BS wr s8 (Lf 8) from (h_s.out 8 (by simp)).1).form
      generalize (Lf 8).length = n8 at *
      obtain ⟨A9, p9, rfl⟩ := (show BS wr s9 (Lf 9) from (h_s.out 9 (by simp)).1).form
      generalize (Lf 9).length = n9 at *
      obtain ⟨A10, p10, rfl⟩ := (show BS wr s10 (Lf 10) from (h_s.out 10 (by simp)).1).form
      generalize (Lf 10).length = n10 at *
      obtain ⟨A11, p11, rfl⟩ := (show BS wr s11 (Lf 11) from (h_s.out 11 (by simp)).1).form
      generalize (Lf 11).length = n11 at *
      obtain ⟨A12, p12, rfl⟩ := (show BS wr s12 (Lf 12) from (h_s.out 12 (by simp)).1).form
      generalize (Lf 12).length = n12 at *
      obtain ⟨A13, p13, rfl⟩ := (show BS wr s13 (Lf 13) from (h_s.out 13 (by simp)).1).form
      generalize (Lf 13).length = n13 at *
      obtain ⟨A14, p14, rfl⟩ := (show BS wr s14 (Lf 14) from (h_s.out 14 (by simp)).1).form
      generalize (Lf 14).length = n14 at *
      obtain ⟨A15, p15, rfl⟩ := (show BS wr s15 (Lf 15) from (h_s.out 15 (by simp)).1).form
      generalize (Lf 15).length = n15 at *
      clear h_a hS
      go_upto_region 15 with fail
      refine wp_region_lit ?_
      refine wpList_load_row rfl CAT (.tmp 11) rfl g_a rfl CAT _ (0, 0) _ r_a.out Try.underlying110 rfl (by kernel_rfl) ?_
      refine wpList_store_row rfl CAT (.tmp 6) (.tmp 61) rfl w.heap.size _ rfl rfl CAT _ r_res.out (by kernel_rfl) rfl (by kernel_rfl) ?_
      refine wpList_nil ?_
      have R1 := setRow_heap wr w.heap.size _ #[.slice A0 n0 p0, .slice A1 n1 p1, .slice A2 n2 p2, .slice A3 n3 p3, .slice A4 n4 p4, .slice A5 n5 p5, .slice A6 n6 p6, .slice A7 n7 p7, .slice A8 n8 p8, .slice A9 n9 p9, .slice A10 n10 p10, .slice A11 n11 p11, .slice A12 n12 p12, .slice A13 n13 p13, .slice A14 n14 p14, .slice A15 n15 p15, .int .i64 x0, .int .i64 x1, .int .i64 x2, .int .i64 x3, .int .i64 y0, .int .i64 y1, .int .i64 y2, .int .i64 y3] CAT (0, 0) r_res.out
      have HB := Lib.hid (below_setRow BB.out (Nat.le_refl w.heap.size) #[.slice A0 n0 p0, .slice A1 n1 p1, .slice A2 n2 p2, .slice A3 n3 p3, .slice A4 n4 p4, .slice A5 n5 p5, .slice A6 n6 p6, .slice A7 n7 p7, .slice A8 n8 p8, .slice A9 n9 p9, .slice A10 n10 p10, .slice A11 n11 p11, .slice A12 n12 p12, .slice A13 n13 p13, .slice A14 n14 p14, .slice A15 n15 p15, .int .i64 x0, .int .i64 x1, .int .i64 x2, .int .i64 x3, .int .i64 y0, .int .i64 y1, .int .i64 y2, .int .i64 y3])
      have HS := Lib.hid (h_s.out.row #[.slice A0 n0 p0, .slice A1 n1 p1, .slice A2 n2 p2, .slice A3 n3 p3, .slice A4 n4 p4, .slice A5 n5 p5, .slice A6 n6 p6, .slice A7 n7 p7, .slice A8 n8 p8, .slice A9 n9 p9, .slice A10 n10 p10, .slice A11 n11 p11, .slice A12 n12 p12, .slice A13 n13 p13, .slice A14 n14 p14, .slice A15 n15 p15, .int .i64 x0, .int .i64 x1, .int .i64 x2, .int .i64 x3, .int .i64 y0, .int .i64 y1, .int .i64 y2, .int .i64 y3])
      clear h_s r_a r_res BB
      generalize wr.setRow w.heap.size #[.slice A0 n0 p0, .slice A1 n1 p1, .slice A2 n2 p2, .slice A3 n3 p3, .slice A4 n4 p4, .slice A5 n5 p5, .slice A6 n6 p6, .slice A7 n7 p7, .slice A8 n8 p8, .slice A9 n9 p9, .slice A10 n10 p10, .slice A11 n11 p11, .slice A12 n12 p12, .slice A13 n13 p13, .slice A14 n14 p14, .slice A15 n15 p15, .int .i64 x0, .int .i64 x1, .int .i64 x2, .int .i64 x3, .int .i64 y0, .int .i64 y1, .int .i64 y2, .int .i64 y3] = w9 at *
      go_wp2_with fail
      refine bodyPost_ret (v := .agg #[.slice A0 n0 p0, .slice A1 n1 p1, .slice A2 n2 p2, .slice A3 n3 p3, .slice A4 n4 p4, .slice A5 n5 p5, .slice A6 n6 p6, .slice A7 n7 p7, .slice A8 n8 p8, .slice A9 n9 p9, .slice A10 n10 p10, .slice A11 n11 p11, .slice A12 n12 p12, .slice A13 n13 p13, .slice A14 n14 p14, .slice A15 n15 p15, .int .i64 x0, .int .i64 x1, .int .i64 x2, .int .i64 x3, .int .i64 y0, .int .i64 y1, .int .i64 y2, .int .i64 y3]) (results_cell_row rfl _ _ w.heap.size CAT _ (0, 0) _ rfl R1 Try.underlying110 rfl (by kernel_rfl)) rfl ?_
      refine ⟨_, _, _, _, _, _, _, _, _, _, _, _, _, _, _, _, rfl, HB.out, ?_⟩
      exact ⟨HS.out 0 (by simp), HS.out 1 (by simp), HS.out 2 (by simp), HS.out 3 (by simp), HS.out 4 (by simp), HS.out 5 (by simp), HS.out 6 (by simp), HS.out 7 (by simp), HS.out 8 (by simp), HS.out 9 (by simp), HS.out 10 (by simp), HS.out 11 (by simp), HS.out 12 (by simp), HS.out 13 (by simp), HS.out 14 (by simp), HS.out 15 (by simp)⟩
set_option maxRecDepth 100000 in
set_option maxHeartbeats 16000000 in
theorem yby30 (cp : Value) (c : Nat) (hc : 1 ≤ c ∧ c ≤ 1000) (Lf : Nat → List Int) (u v : Int) (hu : inB u 70368744177664 = true) (hv : inB v 70368744177664 = true) (w : World)
    (C : ∀ X Y : Nat, X < 4 → Y < 4 → ∀ w1, Below w.heap.size w w1 → Calls Try.prog 43 #[cp, .int .i64 (u / 65536 - 1 + X), .int .i64 (v / 65536 - 1 + Y)] w1 (GiveGet2 w (Lf (Y * 4 + X)) w1)) :
    Calls Try.prog 42 #[.func (.func 43) #[cp] #[], .int .i64 (c : Int), .int .i64 u, .int .i64 v] w (GiveRow (cubRow Lf (cw0 (u % 65536 / 256)) (cw1 (u % 65536 / 256)) (cw2 (u % 65536 / 256)) (cw3 (u % 65536 / 256)) (cw0 (v % 65536 / 256)) (cw1 (v % 65536 / 256)) (cw2 (v % 65536 / 256)) (cw3 (v % 65536 / 256)) c) w) := by
  have CI := Lib.hid (fun x w => cub_in x w)
  have FN := func_some
  have CL := Lib.hid (fun w1 (hb : Below w.heap.size w w1) => ylook30 cp Lf u v hu hv w1 (fun X Y hX hY w2 h2 => (C X Y hX hY w2 (hb.trans (Below.less h2 hb.size))).mono fun e w' h => GiveGet2.up h hb))
  have MK := mk_bytes c (by omega)
  have hc1 : decide ((c : Int) < 1) = false := decide_eq_false (by omega)
  have hx := Lib.hid (cw_ok (t := u % 65536 / 256) (by omega) (by omega))
  have hy := Lib.hid (cw_ok (t := v % 65536 / 256) (by omega) (by omega))
  unfold cubRow
  generalize cw0 (u % 65536 / 256) = x0 at *
  generalize cw1 (u % 65536 / 256) = x1 at *
  generalize cw2 (u % 65536 / 256) = x2 at *
  generalize cw3 (u % 65536 / 256) = x3 at *
  generalize cw0 (v % 65536 / 256) = y0 at *
  generalize cw1 (v % 65536 / 256) = y1 at *
  generalize cw2 (v % 65536 / 256) = y2 at *
  generalize cw3 (v % 65536 / 256) = y3 at *
  obtain ⟨F, hF⟩ : ∃ F, F = cubAt Lf x0 x1 x2 x3 y0 y1 y2 y3 := ⟨_, rfl⟩
  replace hF := Lib.hid hF
  rw [← hF.out]
  have hFk := Lib.hid (fun k => congrFun hF.out k)
  replace hu := Lib.hid hu; replace hv := Lib.hid hv
  clear C hF
  go_enter Try.func42, Try.ntmps42
  go_wp2_with fail
  have BB : Hid (Below w.heap.size w w) := Below.refl _ _
  refine (CI.out _ _).mono ?_
  rintro e w9 ⟨rfl, rfl⟩
  rw [hu.out]
  go_wp2_with fail
  refine (CI.out _ _).mono ?_
  rintro e w9 ⟨rfl, rfl⟩
  rw [hv.out]
  go_wp2_with fail
  refine (CL.out _ BB.out).mono ?_
  rintro e w1 ⟨S0, S1, S2, S3, S4, S5, S6, S7, S8, S9, S10, S11, S12, S13, S14, S15, rfl, hb, s0, s1, s2, s3, s4, s5, s6, s7, s8, s9, s10, s11, s12, s13, s14, s15⟩
  replace BB := Lib.hid (below_next BB.out hb)
  clear hb
  obtain ⟨A0, p0, rfl⟩ := s0.form
  generalize (Lf 0).length = n0 at *
  obtain ⟨A1, p1, rfl⟩ := s1.form
  generalize (Lf 1).length = n1 at *
  obtain ⟨A2, p2, rfl⟩ := s2.form
  generalize (Lf 2).length = n2 at *
  obtain ⟨A3, p3, rfl⟩ := s3.form
  generalize (Lf 3).length = n3 at *
  obtain ⟨A4, p4, rfl⟩ := s4.form
  generalize (Lf 4).length = n4 at *
  obtain ⟨A5, p5, rfl⟩ := s5.form
  generalize (Lf 5).length = n5 at *
  obtain ⟨A6, p6, rfl⟩ := s6.form
  generalize (Lf 6).length = n6 at *
  obtain ⟨A7, p7, rfl⟩ := s7.form
  generalize (Lf 7).length = n7 at *
  obtain ⟨A8, p8, rfl⟩ := s8.form
  generalize (Lf 8).length = n8 at *
  obtain ⟨A9, p9, rfl⟩ := s9.form
  generalize (Lf 9).length = n9 at *
  obtain ⟨A10, p10, rfl⟩ := s10.form
  generalize (Lf 10).length = n10 at *
  obtain ⟨A11, p11, rfl⟩ := s11.form
  generalize (Lf 11).length = n11 at *
  obtain ⟨A12, p12, rfl⟩ := s12.form
  generalize (Lf 12).length = n12 at *
  obtain ⟨A13, p13, rfl⟩ := s13.form
  generalize (Lf 13).length = n13 at *
  obtain ⟨A14, p14, rfl⟩ := s14.form
  generalize (Lf 14).length = n14 at *
  obtain ⟨A15, p15, rfl⟩ := s15.form
  generalize (Lf 15).length = n15 at *
  have CC := Lib.hid (fun k w9 (hb : Below w1.heap.size w1 w9) (hk : k ≤ 1000) => cchannel_v (.slice A0 n0 p0) (.slice A1 n1 p1) (.slice A2 n2 p2) (.slice A3 n3 p3) (.slice A4 n4 p4) (.slice A5 n5 p5) (.slice A6 n6 p6) (.slice A7 n7 p7) (.slice A8 n8 p8) (.slice A9 n9 p9) (.slice A10 n10 p10) (.slice A11 n11 p11) (.slice A12 n12 p12) (.slice A13 n13 p13) (.slice A14 n14 p14) (.slice A15 n15 p15) Lf x0 x1 x2 x3 y0 y1 y2 y3 k w1 ⟨s0, s1, s2, s3, s4, s5, s6, s7, s8, s9, s10, s11, s12, s13, s14, s15⟩ hx.out hy.out hk w9 hb)
  clear s0 s1 s2 s3 s4 s5 s6 s7 s8 s9 s10 s11 s12 s13 s14 s15 CL CI hu hv
  obtain ⟨W0, hW0⟩ : ∃ W0, W0 = w1 := ⟨_, rfl⟩
  rw [← hW0] at CC
  have h_w := Lib.hid (show Below W0.heap.size W0 w1 by rw [hW0]; exact Below.refl _ _)
  have CC := Lib.hid (show ∀ (k : Nat) w9, Below W0.heap.size W0 w9 → k ≤ 1000 → Calls Try.prog 84 #[.agg #[.slice A0 n0 p0, .slice A1 n1 p1, .slice A2 n2 p2, .slice A3 n3 p3, .slice A4 n4 p4, .slice A5 n5 p5, .slice A6 n6 p6, .slice A7 n7 p7, .slice A8 n8 p8, .slice A9 n9 p9, .slice A10 n10 p10, .slice A11 n11 p11, .slice A12 n12 p12, .slice A13 n13 p13, .slice A14 n14 p14, .slice A15 n15 p15, .int .i64 x0, .int .i64 x1, .int .i64 x2, .int .i64 x3, .int .i64 y0, .int .i64 y1, .int .i64 y2, .int .i64 y3], .int .i64 (k : Int)] w9 (fun e w' => e = .returned (.int .u8 (F k)) ∧ Below w9.heap.size w9 w') from fun k w9 hb hk => by rw [hFk.out k]; exact CC.out k w9 hb hk)
  have hg0 : W0.heap.size = w1.heap.size := by rw [hW0]
  clear hFk hx hy hW0
  have hcz : (#[.slice A0 n0 p0, .slice A1 n1 p1, .slice A2 n2 p2, .slice A3 n3 p3, .slice A4 n4 p4, .slice A5 n5 p5, .slice A6 n6 p6, .slice A7 n7 p7, .slice A8 n8 p8, .slice A9 n9 p9, .slice A10 n10 p10, .slice A11 n11 p11, .slice A12 n12 p12, .slice A13 n13 p13, .slice A14 n14 p14, .slice A15 n15 p15, .int .i64 x0, .int .i64 x1, .int .i64 x2, .int .i64 x3, .int .i64 y0, .int .i64 y1, .int .i64 y2, .int .i64 y3] : Array Value).size = 24 := rfl
  have hc1c : (#[.slice A0 n0 p0, .slice A1 n1 p1, .slice A2 n2 p2, .slice A3 n3 p3, .slice A4 n4 p4, .slice A5 n5 p5, .slice A6 n6 p6, .slice A7 n7 p7, .slice A8 n8 p8, .slice A9 n9 p9, .slice A10 n10 p10, .slice A11 n11 p11, .slice A12 n12 p12, .slice A13 n13 p13, .slice A14 n14 p14, .slice A15 n15 p15, .int .i64 x0, .int .i64 x1, .int .i64 x2, .int .i64 x3, .int .i64 y0, .int .i64 y1, .int .i64 y2, .int .i64 y3] : Array Value).all (·.oneCell') = true := by kernel_rfl
  generalize (#[.slice A0 n0 p0, .slice A1 n1 p1, .slice A2 n2 p2, .slice A3 n3 p3, .slice A4 n4 p4, .slice A5 n5 p5, .slice A6 n6 p6, .slice A7 n7 p7, .slice A8 n8 p8, .slice A9 n9 p9, .slice A10 n10 p10, .slice A11 n11 p11, .slice A12 n12 p12, .slice A13 n13 p13, .slice A14 n14 p14, .slice A15 n15 p15, .int .i64 x0, .int .i64 x1, .int .i64 x2, .int .i64 x3, .int .i64 y0, .int .i64 y1, .int .i64 y2, .int .i64 y3] : Array Value) = cs at *
  have ST1 := store_new w1 #[.slice none 0 0, .slice none 0 0, .slice none 0 0, .slice none 0 0, .slice none 0 0, .slice none 0 0, .slice none 0 0, .slice none 0 0, .slice none 0 0, .slice none 0 0, .slice none 0 0, .slice none 0 0, .slice none 0 0, .slice none 0 0, .slice none 0 0, .slice none 0 0, .int .i64 0, .int .i64 0, .int .i64 0, .int .i64 0, .int .i64 0, .int .i64 0, .int .i64 0, .int .i64 0] cs (by rw [hcz]; kernel_rfl) (by rw [hcz]; rfl) hc1c
  have ST2 := store_new2 w1 #[.slice none 0 0, .slice none 0 0, .slice none 0 0, .slice none 0 0, .slice none 0 0, .slice none 0 0, .slice none 0 0, .slice none 0 0, .slice none 0 0, .slice none 0 0, .slice none 0 0, .slice none 0 0, .slice none 0 0, .slice none 0 0, .slice none 0 0, .slice none 0 0, .int .i64 0, .int .i64 0, .int .i64 0, .int .i64 0, .int .i64 0, .int .i64 0, .int .i64 0, .int .i64 0] cs (by rw [hcz]; kernel_rfl) (by rw [hcz]; rfl) hc1c
  go_upto_region 4 with fail
  have d_a := Lib.hid (And.intro BB.out.size (True.intro))
  obtain ⟨hb, r_a⟩ := laid w1 cs CAT
  replace h_w := Lib.hid (Below.fol h_w.out hb)
  replace BB := Lib.hid (below_next BB.out hb)
  replace r_a := Lib.hid r_a
  clear hb
  generalize w1.alloc (.cells cs CAT) = w2 at *
  generalize w1.heap.size = g_a at *
  go_wp2_with fail
  have d_out := Lib.hid (And.intro BB.out.size (And.intro r_a.out.lt (True.intro)))
  obtain ⟨hb, r_out⟩ := laid w2 (Array.replicate c (Value.int .u8 0)) 5
  replace r_a := Lib.hid (r_a.out.keep hb)
  replace h_w := Lib.hid (Below.fol h_w.out hb)
  replace BB := Lib.hid (below_next BB.out hb)
  replace r_out := Lib.hid r_out
  clear hb
  generalize w2.alloc (.cells (Array.replicate c (Value.int .u8 0)) 5) = w3 at *
  generalize w2.heap.size = g_out at *
  have hg : W0.heap.size ≤ g_out := by have := d_out.out; have := d_a.out; omega
  have hga : W0.heap.size ≤ g_a := by have := d_a.out; omega
  have h_r := Lib.hid (show BRow w3 g_out (lrow F c 0) by unfold BRow; rw [lrow_zero]; simpa using r_out.out)
  have hgw : w.heap.size ≤ g_out := d_out.out.1
  clear hg0 hc1 FN MK r_out
  go_wp2_with fail
  go_loopw [11, 36] (fun _ i wr => ∃ k : Nat, k ≤ c ∧ i = .int .i64 k ∧ Hid (BRow wr g_out (lrow F c k) ∧ AtB wr g_a cs CAT ∧ Below w.heap.size w wr ∧ Below W0.heap.size W0 wr)) (fun _ i _ => c - (intOf i).toNat)
  case atStart => exact ⟨0, by omega, rfl, ⟨h_r.out, r_a.out, BB.out, h_w.out⟩⟩
  case round =>
    clear h_r r_a BB h_w
    obtain ⟨k, hk, rfl, hinv⟩ := hrel
    obtain ⟨h_r, r_a, BB, h_w⟩ := hinv.out
    replace h_r := Lib.hid h_r; replace r_a := Lib.hid r_a; replace BB := Lib.hid BB; replace h_w := Lib.hid h_w
    clear hinv
    by_cases hlt : k < c
    · have k0 : (0 : Int) ≤ (k : Int) := by omega
      have k1 : (k : Int) < (c : Int) := by omega
      go_wp2_with (refine wpList_load_row rfl CAT _ rfl g_a rfl CAT _ (0, 0) _ r_a.out Try.underlying110 rfl (by rw [hcz]; kernel_rfl) ?_)
      refine (CC.out k _ h_w.out (by omega)).mono ?_
      rintro e w4 ⟨rfl, hb⟩
      replace r_a := Lib.hid (r_a.out.keep hb)
      replace h_r := Lib.hid (BRow.keep h_r.out hb)
      replace h_w := Lib.hid (Below.fol h_w.out hb)
      replace BB := Lib.hid (below_next BB.out hb)
      clear hb
      have cz := row_at h_r.out (by rw [lrow_len]; exact hlt)
      have fz := AtB.fr h_r.out k
      generalize (lrow F c k).getD k 0 = zz at cz
      go_wp2_with fail
      go_roundw
      case rel =>
        refine ⟨k + 1, by omega, by go_num, ⟨?_, r_a.out.far (p := g_out) (by have := d_out.out; omega) _ _, below_set BB.out hgw _, below_set h_w.out hg _⟩⟩
        rw [← lrow_set hlt]
        exact BRow.set h_r.out k (F k)
      case measure => simp [intOf]; omega
    · obtain rfl : k = c := by omega
      go_wp2_with fail
      go_ret
      refine ⟨g_out, ?_, BB.out, hgw, ?_⟩
      · simp
      · rw [← lrow_all]; exact h_r.out
set_option maxRecDepth 100000 in
set_option maxHeartbeats 4000000 in
theorem zby_lt (f : Value) (c u v : Int) (h : c < 1) (w : World) :
    Calls Try.prog 42 #[f, .int .i64 c, .int .i64 u, .int .i64 v] w fun e w' => e = .returned (.slice none 0 0) ∧ Below w.heap.size w w' := by
  have hc1 : decide (c < 1) = true := decide_eq_true h
  go_enter Try.func42, Try.ntmps42
  go_wp2_with fail
  have BB : Hid (Below w.heap.size w w) := Below.refl _ _
  go_wp2_with fail
  go_ret
  exact ⟨rfl, BB.out⟩
set_option maxRecDepth 100000 in
set_option maxHeartbeats 4000000 in
theorem zby_nil (c u v : Int) (h : 1 ≤ c) (w : World) :
    Calls Try.prog 42 #[.nilFunc, .int .i64 c, .int .i64 u, .int .i64 v] w fun e w' => e = .returned (.slice none 0 0) ∧ Below w.heap.size w w' := by
  have hc1 : decide (c < 1) = false := decide_eq_false (by omega)
  have FN0 := func_nil
  go_enter Try.func42, Try.ntmps42
  go_wp2_with fail
  have BB : Hid (Below w.heap.size w w) := Below.refl _ _
  go_wp2_with fail
  go_ret
  exact ⟨rfl, BB.out⟩
set_option maxRecDepth 100000 in
set_option maxHeartbeats 4000000 in
theorem zby_out (K : Nat) (a : Value) (c u v : Int) (h : 1 ≤ c) (hin : (inB u 70368744177664 && inB v 70368744177664) = false) (w : World) :
    Calls Try.prog 42 #[.func (.func K) #[a] #[], .int .i64 c, .int .i64 u, .int .i64 v] w fun e w' => e = .returned (.slice none 0 0) ∧ Below w.heap.size w w' := by
  have hc1 : decide (c < 1) = false := decide_eq_false (by omega)
  have FN := func_some
  have CI := Lib.hid (fun x w => cub_in x w)
  rcases hu : inB u 70368744177664 with _ | _
  · replace hu := Lib.hid hu
    go_enter Try.func42, Try.ntmps42
    go_wp2_with fail
    have BB : Hid (Below w.heap.size w w) := Below.refl _ _
    refine (CI.out _ _).mono ?_
    rintro e w9 ⟨rfl, rfl⟩
    rw [hu.out]
    go_wp2_with fail
    go_ret
    exact ⟨rfl, BB.out⟩
  · have hv : inB v 70368744177664 = false := by rw [hu] at hin; simpa using hin
    replace hu := Lib.hid hu
    replace hv := Lib.hid hv
    go_enter Try.func42, Try.ntmps42
    go_wp2_with fail
    have BB : Hid (Below w.heap.size w w) := Below.refl _ _
    refine (CI.out _ _).mono ?_
    rintro e w9 ⟨rfl, rfl⟩
    rw [hu.out]
    go_wp2_with fail
    refine (CI.out _ _).mono ?_
    rintro e w9 ⟨rfl, rfl⟩
    rw [hv.out]
    go_wp2_with fail
    go_ret
    exact ⟨rfl, BB.out⟩

/-- Four rows by four, one of each none. -/
def quadL (s : Value) : Nat → List Value
  | 0 => []
  | j + 1 => quadL s j ++ [s, s, .slice none 0 0, s]
theorem quad_len (s : Value) : ∀ j, (quadL s j).length = 4 * j
  | 0 => rfl
  | j + 1 => by unfold quadL; rw [List.length_append, quad_len s j]; simp; omega
def pickL (L : List Int) (i : Nat) : List Int := if i % 4 = 2 then [] else L
def pickS (s : Value) (i : Nat) : Value := if i % 4 = 2 then .slice none 0 0 else s
theorem quad_at (s : Value) : ∀ i, i < 16 → (quadL s 4)[i]? = some (pickS s i) := by
  intro i hi
  match i, hi with
  | 0, _ => rfl
  | 1, _ => rfl
  | 2, _ => rfl
  | 3, _ => rfl
  | 4, _ => rfl
  | 5, _ => rfl
  | 6, _ => rfl
  | 7, _ => rfl
  | 8, _ => rfl
  | 9, _ => rfl
  | 10, _ => rfl
  | 11, _ => rfl
  | 12, _ => rfl
  | 13, _ => rfl
  | 14, _ => rfl
  | 15, _ => rfl
  | n + 16, hi => exact absurd hi (by omega)
theorem four_new (w : World) (a b c d : Value) (t : TypeId) : ∀ j u, [a, b, c, d][j]? = some u → (w.alloc (.cells #[a, b, c, d] t)).cell? ((⟨w.heap.size, 0, none⟩ : Addr).add j) = some u := by
  intro j u hj
  have h : AtB (w.alloc (.cells #[a, b, c, d] t)) w.heap.size #[a, b, c, d] t := new_at w _ _
  match j, hj with
  | 0, hj => simp at hj; subst hj; exact h.cell 0 rfl
  | 1, hj => simp at hj; subst hj; exact h.cell 1 rfl
  | 2, hj => simp at hj; subst hj; exact h.cell 2 rfl
  | 3, hj => simp at hj; subst hj; exact h.cell 3 rfl
  | n + 4, hj => simp at hj
theorem four_cell (A : Option Addr) (n cap : Nat) : ∀ u ∈ [Value.slice A n cap, .slice A n cap, .slice none 0 0, .slice A n cap], u.oneCell' = true := by
  intro u hu
  simp only [List.mem_cons, List.not_mem_nil, or_false] at hu
  rcases hu with rfl | rfl | rfl | rfl <;> rfl
theorem own_four {w1 : World} {base j : Nat} {v1 s : Value} (h : w1.ownsRow base 33 1 v1 (4 * j + 4) (quadL s j ++ [s, s, .slice none 0 0, s])) : w1.ownsRow base 33 1 v1 (4 * (j + 1)) (quadL s (j + 1)) := h
set_option maxRecDepth 100000 in
set_option maxHeartbeats 4000000 in
theorem cubicBy_many (n u v : Int) (A : Option Addr) (l cap : Nat) (h : 50 < n ∨ 50 < l) (w : World) :
    Calls Try.prog 8 #[.int .i64 n, .agg #[.int .i64 u, .int .i64 v], .slice A l cap] w fun e w' => e = .returned (.bool true) ∧ Below w.heap.size w w' := by
  by_cases h1 : 50 < n
  · skip
    go_enter Try.func8, Try.ntmps8
    go_wp2_with fail
    have BB := start1 w #[.int .i64 u, .int .i64 v] P2T
    obtain ⟨BB, hsz, r_p⟩ := BB
    generalize (w.alloc (.cells #[.int .i64 u, .int .i64 v] P2T)) = w0 at *
    replace BB := Lib.hid BB
    replace r_p := Lib.hid r_p
    clear hsz
    go_ret
    exact ⟨rfl, BB.out⟩
  · have h2 : (50 : Int) < (l : Int) := by omega
    go_enter Try.func8, Try.ntmps8
    go_wp2_with fail
    have BB := start1 w #[.int .i64 u, .int .i64 v] P2T
    obtain ⟨BB, hsz, r_p⟩ := BB
    generalize (w.alloc (.cells #[.int .i64 u, .int .i64 v] P2T)) = w0 at *
    replace BB := Lib.hid BB
    replace r_p := Lib.hid r_p
    clear hsz
    go_ret
    exact ⟨rfl, BB.out⟩
set_option maxRecDepth 100000 in
set_option maxHeartbeats 4000000 in
theorem cubicBy_less (n u v : Int) (hu : I64 u) (hv : I64 v) (A : Option Addr) (l cap : Nat) (h : n < 1) (hl : l ≤ 50) (w : World) :
    Calls Try.prog 8 #[.int .i64 n, .agg #[.int .i64 u, .int .i64 v], .slice A l cap] w fun e w' => e = .returned (.bool true) ∧ Below w.heap.size w w' := by
  have h1 : ¬ 50 < n := by omega
  have h2 : ¬ (50 : Int) < (l : Int) := by omega
  have CA := Lib.hid (fun f w => zby_lt f n u v h w)
  have CL := Lib.hid (fun w => cubic_alive w)
  have SU := Lib.hid (fun w => rsplit u hu w)
  have SV := Lib.hid (fun w => rsplit v hv w)
  generalize u / 65536 = fx at *
  generalize v / 65536 = fy at *
  generalize u % 65536 = fu at *
  generalize v % 65536 = fv at *
  go_enter Try.func8, Try.ntmps8
  go_wp2_with fail
  have BB := start1 w #[.int .i64 u, .int .i64 v] P2T
  obtain ⟨BB, hsz, r_p⟩ := BB
  generalize (w.alloc (.cells #[.int .i64 u, .int .i64 v] P2T)) = w0 at *
  replace BB := Lib.hid BB
  replace r_p := Lib.hid r_p
  clear hsz
  refine (SU.out _).mono ?_
  rintro e w9 ⟨rfl, rfl⟩
  obtain ⟨c_p0, c_p1, f_p0, f_p1⟩ := reads2 r_p.out
  have l_p := r_p.out.lt
  go_wp2_with fail
  refine (SV.out _).mono ?_
  rintro e w9 ⟨rfl, rfl⟩
  go_upto_region 6 with fail
  go_wp2_with fail
  clear c_p0 c_p1 f_p0 f_p1 l_p
  have d_a := Lib.hid (And.intro BB.out.size (And.intro r_p.out.lt (True.intro)))
  obtain ⟨hb, r_a⟩ := laid w0 #[.slice A l cap, .int .i64 fx, .int .i64 fy, .bool false] A30
  replace r_p := Lib.hid (r_p.out.keep hb)
  replace BB := Lib.hid (below_next BB.out hb)
  replace r_a := Lib.hid r_a
  clear hb
  generalize w0.alloc (.cells #[.slice A l cap, .int .i64 fx, .int .i64 fy, .bool false] A30) = w1 at *
  generalize w0.heap.size = g_a at *
  refine (CA.out _ _).mono ?_
  rintro e w2 ⟨rfl, hb⟩
  replace r_p := Lib.hid (r_p.out.keep hb)
  replace r_a := Lib.hid (r_a.out.keep hb)
  replace BB := Lib.hid (below_next BB.out hb)
  clear hb
  obtain ⟨c_p0, c_p1, f_p0, f_p1⟩ := reads2 r_p.out
  have l_p := r_p.out.lt
  go_wp2_with fail
  refine (CA.out _ _).mono ?_
  rintro e w3 ⟨rfl, hb⟩
  clear c_p0 c_p1 f_p0 f_p1 l_p
  replace r_p := Lib.hid (r_p.out.keep hb)
  replace r_a := Lib.hid (r_a.out.keep hb)
  replace BB := Lib.hid (below_next BB.out hb)
  clear hb
  obtain ⟨c_a0, c_a1, c_a2, c_a3, f_a0, f_a1, f_a2, f_a3⟩ := reads4 r_a.out
  have l_a := r_a.out.lt
  obtain ⟨c_p0, c_p1, f_p0, f_p1⟩ := reads2 r_p.out
  have l_p := r_p.out.lt
  go_wp2_with fail
  refine (CL.out _).mono ?_
  rintro e w9 ⟨rfl, rfl⟩
  go_wp2_with fail
  go_ret
  exact ⟨rfl, BB.out⟩
set_option maxRecDepth 100000 in
set_option maxHeartbeats 4000000 in
theorem cubicBy_out (n u v : Int) (hu : I64 u) (hv : I64 v) (A : Option Addr) (l cap : Nat) (h : 1 ≤ n) (hn : n ≤ 50) (hl : l ≤ 50) (hin : (inB u 70368744177664 && inB v 70368744177664) = false) (w : World) :
    Calls Try.prog 8 #[.int .i64 n, .agg #[.int .i64 u, .int .i64 v], .slice A l cap] w fun e w' => e = .returned (.bool true) ∧ Below w.heap.size w w' := by
  have h1 : ¬ 50 < n := by omega
  have h2 : ¬ (50 : Int) < (l : Int) := by omega
  have h3 : decide (n < 1) = false := decide_eq_false (by omega)
  have CA := Lib.hid (fun K a w => zby_out K a n u v h hin w)
  have CN := Lib.hid (fun w => zby_nil n u v h w)
  have CR := Lib.hid (fun w => right_any u v w)
  replace hin := Lib.hid hin
  have CL := Lib.hid (fun w => cubic_alive w)
  have SU := Lib.hid (fun w => rsplit u hu w)
  have SV := Lib.hid (fun w => rsplit v hv w)
  generalize u / 65536 = fx at *
  generalize v / 65536 = fy at *
  generalize u % 65536 = fu at *
  generalize v % 65536 = fv at *
  go_enter Try.func8, Try.ntmps8
  go_wp2_with fail
  have BB := start1 w #[.int .i64 u, .int .i64 v] P2T
  obtain ⟨BB, hsz, r_p⟩ := BB
  generalize (w.alloc (.cells #[.int .i64 u, .int .i64 v] P2T)) = w0 at *
  replace BB := Lib.hid BB
  replace r_p := Lib.hid r_p
  clear hsz
  refine (SU.out _).mono ?_
  rintro e w9 ⟨rfl, rfl⟩
  obtain ⟨c_p0, c_p1, f_p0, f_p1⟩ := reads2 r_p.out
  have l_p := r_p.out.lt
  go_wp2_with fail
  refine (SV.out _).mono ?_
  rintro e w9 ⟨rfl, rfl⟩
  go_upto_region 6 with fail
  go_wp2_with fail
  clear c_p0 c_p1 f_p0 f_p1 l_p
  have d_a := Lib.hid (And.intro BB.out.size (And.intro r_p.out.lt (True.intro)))
  obtain ⟨hb, r_a⟩ := laid w0 #[.slice A l cap, .int .i64 fx, .int .i64 fy, .bool false] A30
  replace r_p := Lib.hid (r_p.out.keep hb)
  replace BB := Lib.hid (below_next BB.out hb)
  replace r_a := Lib.hid r_a
  clear hb
  generalize w0.alloc (.cells #[.slice A l cap, .int .i64 fx, .int .i64 fy, .bool false] A30) = w1 at *
  generalize w0.heap.size = g_a at *
  refine (CA.out _ _ _).mono ?_
  rintro e w2 ⟨rfl, hb⟩
  replace r_p := Lib.hid (r_p.out.keep hb)
  replace r_a := Lib.hid (r_a.out.keep hb)
  replace BB := Lib.hid (below_next BB.out hb)
  clear hb
  obtain ⟨c_p0, c_p1, f_p0, f_p1⟩ := reads2 r_p.out
  have l_p := r_p.out.lt
  go_wp2_with fail
  refine (CN.out _).mono ?_
  rintro e w3 ⟨rfl, hb⟩
  clear c_p0 c_p1 f_p0 f_p1 l_p
  replace r_p := Lib.hid (r_p.out.keep hb)
  replace r_a := Lib.hid (r_a.out.keep hb)
  replace BB := Lib.hid (below_next BB.out hb)
  clear hb
  obtain ⟨c_a0, c_a1, c_a2, c_a3, f_a0, f_a1, f_a2, f_a3⟩ := reads4 r_a.out
  have l_a := r_a.out.lt
  obtain ⟨c_p0, c_p1, f_p0, f_p1⟩ := reads2 r_p.out
  have l_p := r_p.out.lt
  go_wp2_with fail
  refine (CR.out _).mono ?_
  rintro e w9 ⟨rfl, rfl⟩
  rw [hin.out]
  go_wp2_with fail
  refine (CL.out _).mono ?_
  rintro e w9 ⟨rfl, rfl⟩
  go_wp2_with fail
  go_ret
  exact ⟨rfl, BB.out⟩
set_option maxRecDepth 100000 in
set_option maxHeartbeats 8000000 in
theorem cubicBy_ok (c : Nat) (u v : Int) (hu : I64 u) (hv : I64 v) (A : Option Addr) (cap l : Nat) (L : List Int) (hll : l = L.length) (hc : 1 ≤ c ∧ c ≤ 50) (hl : l ≤ 50) (hin : (inB u 70368744177664 && inB v 70368744177664) = true) (w : World) (hs : BS w (.slice A l cap) L) :
    Calls Try.prog 8 #[.int .i64 (c : Int), .agg #[.int .i64 u, .int .i64 v], .slice A l cap] w fun e w' => e = .returned (.bool true) ∧ Below w.heap.size w w' := by
  have h1 : ¬ 50 < (c : Int) := by omega
  have h2 : ¬ (50 : Int) < (l : Int) := by omega
  have h3 : decide ((c : Int) < 1) = false := decide_eq_false (by omega)
  have hin2 := hin
  rw [Bool.and_eq_true] at hin2
  obtain ⟨u0, u1⟩ := inB_iff.1 hin2.1
  obtain ⟨v0, v1⟩ := inB_iff.1 hin2.2
  have hblk : ∀ w1 : World, Below w.heap.size w w1 → L ≠ [] → ∀ a, A = some a → a.block < w1.heap.size := fun w1 hb hL a ea => by
    obtain ⟨b', off', cap3, e2, -, -, hlt2, -⟩ := hs.some hL
    simp only [Value.slice.injEq] at e2
    rw [e2.1] at ea
    simp only [Option.some.injEq] at ea
    rw [← ea]
    exact Nat.lt_of_lt_of_le hlt2 hb.size
  have hnil : ∀ w : World, BS w (.slice none 0 0) [] := fun w => ⟨none, 0, rfl, by simp, by simp, by simp, fun h => absurd rfl h⟩
  have hfx : -1073741824 ≤ u / 65536 ∧ u / 65536 ≤ 1073741824 := by omega
  have hfy : -1073741824 ≤ v / 65536 ∧ v / 65536 ≤ 1073741824 := by omega
  have hpick : ∀ X Y : Nat, X < 4 → pickL L (Y * 4 + X) = if X = 2 then [] else L := fun X Y hX => by
    unfold pickL; rw [show (Y * 4 + X) % 4 = X by omega]
  have hc1000 : 1 ≤ c ∧ c ≤ 1000 := ⟨hc.1, by omega⟩
  have CB := Lib.hid (fun g w0 (hb0 : Below w.heap.size w w0) (hg : AtB w0 g #[.slice A l cap, .int .i64 (u / 65536), .int .i64 (v / 65536), .bool false] A30) =>
    yby30 (.pointer (some ⟨g, 0, none⟩)) c hc1000 (pickL L) u v hin2.1 hin2.2 w0
      (fun X Y hX hY w1 hb => (get30 g l cap A (u / 65536) (v / 65536) X Y hX hY hfx hfy w1 (hg.keep hb)).mono (fun e w' h => by
        obtain ⟨rfl, hb1⟩ := h
        rw [hpick X Y hX]
        by_cases h2 : X = 2
        · rw [if_pos h2, if_pos h2]
          exact ⟨none, 0, 0, rfl, hb1, hnil _, fun hL => absurd rfl hL⟩
        · rw [if_neg h2, if_neg h2]
          exact ⟨A, l, cap, rfl, hb1, (hs.below (hb0.trans (Below.less hb hb0.size))).below hb1, fun hL a ea => .inl (hblk w0 hb0 hL a ea)⟩)))
  have CN := Lib.hid (fun w => zby_nil c u v (by omega) w)
  have CR := Lib.hid (fun w => right_any u v w)
  have CF := Lib.hid (fun w => rcub (u % 65536 / 256) (by omega) (by omega) w)
  have CG := Lib.hid (fun w => rcub (v % 65536 / 256) (by omega) (by omega) w)
  have hcx := cw_ok (t := u % 65536 / 256) (by omega) (by omega)
  have hcy := cw_ok (t := v % 65536 / 256) (by omega) (by omega)
  have CP := Lib.hid (fun w => pow_any 50 (by omega) w)
  rw [show ((2 : Int) ^ 50) = 1125899906842624 from by decide] at CP
  have hby : ∀ i k, 0 ≤ (pickL L i).getD k 0 ∧ (pickL L i).getD k 0 ≤ 255 := fun i k => by
    unfold pickL
    split
    · simp
    · exact hs.bytes k
  have CM := Lib.hid (fun rb rcap wb hb o w hR ha hbb ho => mixg16 rb rcap wb hb c (pickS (.slice A l cap)) (pickL L) _ _ _ _ _ _ _ _ hcx hcy (by omega) hby o w hR ha hbb ho)
  have CS := Lib.hid (fun u v zs w hu hv => rsame u v zs w hu hv)
  have CL := Lib.hid (fun w => cubic_alive w)
  have HRow : Hid (∀ w9 g, Below w.heap.size w w9 → g < w9.heap.size → (∀ i, i < 16 → w9.cell? ⟨g, 0 + i, none⟩ = (quadL (.slice A l cap) 4)[i]?) → RowsAt w9 g 16 (pickS (.slice A l cap)) (pickL L)) := fun w9 g hb hg hcells => by
    refine ⟨hg, fun i hi => by rw [hcells i hi, quad_at _ i hi], fun i hi => ?_⟩
    unfold pickS pickL
    split
    · exact hnil _
    · exact hs.below hb
  replace hs := Lib.hid hs
  replace hin := Lib.hid hin
  replace hll := Lib.hid hll
  clear hin2 hblk hnil hc1000 hpick hby hcx hcy
  obtain ⟨i0, hi0, hz0, hz1, hz2⟩ := info_parts info_sl
  have bfu : 0 ≤ u % 65536 ∧ u % 65536 < 65536 := by omega
  have bfv : 0 ≤ v % 65536 ∧ v % 65536 < 65536 := by omega
  clear u0 u1 v0 v1 hfx hfy
  have SU := Lib.hid (fun w => rsplit u hu w)
  have SV := Lib.hid (fun w => rsplit v hv w)
  generalize u / 65536 = fx at *
  generalize v / 65536 = fy at *
  generalize u % 65536 = fu at *
  generalize v % 65536 = fv at *
  have qu : fu.tdiv 256 = fu / 256 := Int.tdiv_eq_ediv_of_nonneg (by omega)
  have qv : fv.tdiv 256 = fv / 256 := Int.tdiv_eq_ediv_of_nonneg (by omega)
  have wqu : IntKind.i64.wrap (fu / 256) = fu / 256 := iw ⟨by omega, by omega⟩
  have wqv : IntKind.i64.wrap (fv / 256) = fv / 256 := iw ⟨by omega, by omega⟩
  clear bfu bfv
  generalize fu / 256 = tu at *
  generalize fv / 256 = tv at *
  generalize cw0 tu = x0 at *
  generalize cw1 tu = x1 at *
  generalize cw2 tu = x2 at *
  generalize cw3 tu = x3 at *
  generalize cw0 tv = y0 at *
  generalize cw1 tv = y1 at *
  generalize cw2 tv = y2 at *
  generalize cw3 tv = y3 at *
  have hlen := Lib.hid (cubRow_len (pickL L) x0 x1 x2 x3 y0 y1 y2 y3 c)
  have hbyt := Lib.hid (cubRow_byte (pickL L) x0 x1 x2 x3 y0 y1 y2 y3 c)
  generalize cubRow (pickL L) x0 x1 x2 x3 y0 y1 y2 y3 c = R at *
  go_enter Try.func8, Try.ntmps8
  go_wp2_with fail
  have BB := start1 w #[.int .i64 u, .int .i64 v] P2T
  obtain ⟨BB, hsz, r_p⟩ := BB
  generalize (w.alloc (.cells #[.int .i64 u, .int .i64 v] P2T)) = w0 at *
  replace BB := Lib.hid BB
  replace r_p := Lib.hid r_p
  clear hsz
  refine (SU.out _).mono ?_
  rintro e w9 ⟨rfl, rfl⟩
  obtain ⟨c_p0, c_p1, f_p0, f_p1⟩ := reads2 r_p.out
  have l_p := r_p.out.lt
  go_wp2_with fail
  refine (SV.out _).mono ?_
  rintro e w9 ⟨rfl, rfl⟩
  go_upto_region 6 with fail
  go_wp2_with fail
  clear c_p0 c_p1 f_p0 f_p1 l_p
  have d_a := Lib.hid (And.intro BB.out.size (And.intro r_p.out.lt (True.intro)))
  obtain ⟨hb, r_a⟩ := laid w0 #[.slice A l cap, .int .i64 fx, .int .i64 fy, .bool false] A30
  replace r_p := Lib.hid (r_p.out.keep hb)
  replace BB := Lib.hid (below_next BB.out hb)
  replace r_a := Lib.hid r_a
  clear hb
  generalize w0.alloc (.cells #[.slice A l cap, .int .i64 fx, .int .i64 fy, .bool false] A30) = w1 at *
  generalize w0.heap.size = g_a at *
  refine (CB.out g_a _ BB.out r_a.out).mono ?_
  rintro e w2 ⟨o, rfl, hb, ho, hr⟩
  replace r_p := Lib.hid (r_p.out.keep hb)
  replace r_a := Lib.hid (r_a.out.keep hb)
  replace BB := Lib.hid (below_next BB.out hb)
  clear hb
  have h_o := Lib.hid (show BS w2 (.slice (some ⟨o, 0, none⟩) R.length R.length) R from hr.bs hbyt.out (by have := hlen.out; omega))
  rw [hlen.out] at h_o
  rw [hlen.out]
  obtain ⟨c_p0, c_p1, f_p0, f_p1⟩ := reads2 r_p.out
  have l_p := r_p.out.lt
  go_wp2_with fail
  refine (CN.out _).mono ?_
  rintro e w3 ⟨rfl, hb⟩
  clear c_p0 c_p1 f_p0 f_p1 l_p
  replace r_p := Lib.hid (r_p.out.keep hb)
  replace r_a := Lib.hid (r_a.out.keep hb)
  replace h_o := Lib.hid (BS.below h_o.out hb)
  replace BB := Lib.hid (below_next BB.out hb)
  clear hb
  obtain ⟨c_a0, c_a1, c_a2, c_a3, f_a0, f_a1, f_a2, f_a3⟩ := reads4 r_a.out
  have l_a := r_a.out.lt
  obtain ⟨c_p0, c_p1, f_p0, f_p1⟩ := reads2 r_p.out
  have l_p := r_p.out.lt
  go_wp2_with fail
  refine (CR.out _).mono ?_
  rintro e w9 ⟨rfl, rfl⟩
  rw [hin.out]
  go_wp2_with fail
  clear c_a0 c_a1 c_a2 c_a3 f_a0 f_a1 f_a2 f_a3 l_a c_p0 c_p1 f_p0 f_p1 l_p
  clear r_a r_p
  obtain ⟨W0, hW0⟩ : ∃ W0, W0 = w3 := ⟨_, rfl⟩
  have h_w := Lib.hid (show Below W0.heap.size W0 w3 by rw [hW0]; exact Below.refl _ _)
  have BB0 := Lib.hid (show Below w.heap.size w W0 by rw [hW0]; exact BB.out)
  have h_o0 := Lib.hid (show BS W0 (.slice (some ⟨o, 0, none⟩) c c) R by rw [hW0]; exact h_o.out)
  clear hW0 h_o BB
  go_loopw [13, 14] (fun v i wr => ∃ j : Nat, j ≤ 4 ∧ i = .int .i64 j ∧ Hid (wr.ownsRow W0.heap.size 33 1 v (4 * j) (quadL (.slice A l cap) j) ∧ Below W0.heap.size W0 wr)) (fun _ i _ => 4 - (intOf i).toNat)
  case atStart => exact ⟨0, by omega, rfl, ⟨World.ownsRow_nil _ _ _ _, h_w.out⟩⟩
  case round =>
    clear h_w
    obtain ⟨j, hj, rfl, hinv⟩ := hrel
    obtain ⟨HO, h_w⟩ := hinv.out
    replace HO := Lib.hid HO; replace h_w := Lib.hid h_w
    clear hinv
    have hws := h_w.out.size
    by_cases hlt : j < 4
    · have j1 : (j : Int) < 4 := by omega
      go_wp2_with (first | (at_builtin; refine wpList_append_own _ rfl (.tmp 82) (.tmp 86) 75 rfl W0.heap.size 33 i0 (.slice none 0 0) 1 24 Try.underlying75 hi0 hz0 hz1 hz2 rfl (by decide) _ _ _ rfl (HO.out.alloc _) ⟨wr.heap.size, 0, none⟩ 4 4 [.slice A l cap, .slice A l cap, .slice none 0 0, .slice A l cap] rfl rfl (four_new _ _ _ _ _ _) (four_cell _ _ _) (by unfold maxLen; omega) (by omega) (by simp; omega) ?_))
      intro v' w8 hown' hgrow _
      have HB1 := Lib.hid (below_app h_w.out HO.out hgrow)
      have HO1 := Lib.hid (own_four hown')
      clear hown' hgrow
      go_wp2_with fail
      go_roundw
      case rel => exact ⟨j + 1, by omega, by go_num, ⟨HO1.out, HB1.out⟩⟩
      case measure => simp [intOf]; omega
    · obtain rfl : j = 4 := by omega
      obtain ⟨gl, capl, rfl, hgl, hcl⟩ := own_cells HO.out (by omega)
      have BB := Lib.hid (below_next BB0.out h_w.out)
      have h_l := Lib.hid (HRow.out _ _ BB.out hgl hcl)
      have h_o := Lib.hid (h_o0.out.below h_w.out)
      clear HO hcl hgl h_w BB0 h_o0
      go_wp2_with fail
      refine (CF.out _).mono ?_
      rintro e w4 ⟨gf, rfl, hb, h_f⟩
      replace h_l := Lib.hid (RowsAt.below h_l.out hb)
      replace h_o := Lib.hid (BS.below h_o.out hb)
      replace BB := Lib.hid (below_next BB.out hb)
      clear hb
      replace h_f := Lib.hid h_f
      go_wp2_with fail
      refine (CG.out _).mono ?_
      rintro e w5 ⟨gg, rfl, hb, h_g⟩
      replace h_l := Lib.hid (RowsAt.below h_l.out hb)
      replace h_o := Lib.hid (BS.below h_o.out hb)
      replace h_f := Lib.hid (FourAt.below h_f.out hb)
      replace BB := Lib.hid (below_next BB.out hb)
      clear hb
      replace h_g := Lib.hid h_g
      go_wp2_with fail
      refine (CP.out _).mono ?_
      rintro e w6 ⟨v_p50, rfl, hb, h_p50⟩
      obtain ⟨A_p50, n_p50, cap_p50, rfl, -⟩ := id h_p50.form
      replace h_p50 := Lib.hid h_p50
      replace h_l := Lib.hid (RowsAt.below h_l.out hb)
      replace h_o := Lib.hid (BS.below h_o.out hb)
      replace h_f := Lib.hid (FourAt.below h_f.out hb)
      replace h_g := Lib.hid (FourAt.below h_g.out hb)
      replace BB := Lib.hid (below_next BB.out hb)
      clear hb
      go_wp2_with fail
      refine (CM.out _ _ _ _ _ _ h_l.out h_f.out h_g.out h_p50.out).mono ?_
      rintro e w7 ⟨rq, rfl, hb, h_q⟩
      replace h_p50 := Lib.hid (h_p50.out.below hb)
      replace h_l := Lib.hid (RowsAt.below h_l.out hb)
      replace h_o := Lib.hid (BS.below h_o.out hb)
      replace h_f := Lib.hid (FourAt.below h_f.out hb)
      replace h_g := Lib.hid (FourAt.below h_g.out hb)
      replace BB := Lib.hid (below_next BB.out hb)
      clear hb
      replace h_q := Lib.hid h_q
      go_wp2_with fail
      refine (CS.out _ _ _ _ h_o.out h_q.out).mono ?_
      rintro e w9 ⟨rfl, rfl⟩
      go_wp2_with fail
      refine (CL.out _).mono ?_
      rintro e w9 ⟨rfl, rfl⟩
      go_wp2_with fail
      go_ret
      exact ⟨rfl, BB.out⟩
theorem cubicBy_any (n u v : Int) (hu : I64 u) (hv : I64 v) (s : Value) (L : List Int) (w : World) (hs : BS w s L) :
    Calls Try.prog 8 #[.int .i64 n, .agg #[.int .i64 u, .int .i64 v], s] w fun e w' => e = .returned (.bool true) ∧ Below w.heap.size w w' := by
  obtain ⟨A, cap, rfl⟩ := hs.form
  by_cases h : 50 < n ∨ 50 < L.length
  · exact cubicBy_many n u v A _ cap h w
  · by_cases h1 : n < 1
    · exact cubicBy_less n u v hu hv A _ cap h1 (by omega) w
    · cases hin : inB u 70368744177664 && inB v 70368744177664
      · exact cubicBy_out n u v hu hv A _ cap (by omega) (by omega) (by omega) hin w
      · obtain ⟨c, rfl⟩ : ∃ c : Nat, n = (c : Int) := ⟨n.toNat, by omega⟩
        exact cubicBy_ok c u v hu hv A cap _ L rfl (by omega) (by omega) hin w hs
end Go.Proofs.Ytnklbnphiokpiaa
