/- Contract of cubic.look. -/
import Derived.Test.YtnklbnphiokpiaaCu1
set_option linter.unusedVariables false
set_option linter.unusedSimpArgs false
namespace Go.Proofs.Ytnklbnphiokpiaa
open Go.RowKit
/-- Sixteen rows of pixels, the first ones laid, and weights behind them. -/
def lookL (S K : List Value) : List Value := (S ++ List.replicate (16 - S.length) (.slice none 0 0)) ++ K
def LookR (w : World) (r g : Nat) (S : List Value) (Lf : Nat → List Int) (K : List Value) : Prop := AtB w g (lookL S K).toArray CAT ∧ S.length ≤ 16 ∧ ∀ i, i < S.length → SB2 w (S.getD i (.slice none 0 0)) (Lf i) g r
theorem lookL_nil (k0 k1 k2 k3 k4 k5 k6 k7 : Value) : lookL [] [k0, k1, k2, k3, k4, k5, k6, k7] = [.slice none 0 0, .slice none 0 0, .slice none 0 0, .slice none 0 0, .slice none 0 0, .slice none 0 0, .slice none 0 0, .slice none 0 0, .slice none 0 0, .slice none 0 0, .slice none 0 0, .slice none 0 0, .slice none 0 0, .slice none 0 0, .slice none 0 0, .slice none 0 0, k0, k1, k2, k3, k4, k5, k6, k7] := rfl
theorem lookL_all (s0 s1 s2 s3 s4 s5 s6 s7 s8 s9 s10 s11 s12 s13 s14 s15 k0 k1 k2 k3 k4 k5 k6 k7 : Value) : lookL [s0, s1, s2, s3, s4, s5, s6, s7, s8, s9, s10, s11, s12, s13, s14, s15] [k0, k1, k2, k3, k4, k5, k6, k7] = [s0, s1, s2, s3, s4, s5, s6, s7, s8, s9, s10, s11, s12, s13, s14, s15, k0, k1, k2, k3, k4, k5, k6, k7] := rfl
theorem LookR.below {w w1 : World} {r g : Nat} {S : List Value} {Lf : Nat → List Int} {K : List Value} (h : LookR w r g S Lf K) (hb : Below w.heap.size w w1) : LookR w1 r g S Lf K := ⟨h.1.keep hb, h.2.1, fun i hi => (h.2.2 i hi).below hb⟩
theorem lookL_set {S K : List Value} {v : Value} (h : S.length < 16) : (lookL S K).set S.length v = lookL (S ++ [v]) K := by
  unfold lookL
  rw [List.length_append, List.length_singleton]
  obtain ⟨m, hm⟩ : ∃ m, 16 - S.length = m + 1 := ⟨15 - S.length, by omega⟩
  rw [hm, show 16 - (S.length + 1) = m by omega, List.replicate_succ]
  simp [List.set_append]
theorem LookR.set {w : World} {r g : Nat} {S : List Value} {Lf : Nat → List Int} {K : List Value} {v : Value} (h : LookR w r g S Lf K) (hl : S.length < 16) (hv : SB2 w v (Lf S.length) g r) : LookR (w.setCell ⟨g, S.length, none⟩ v) r g (S ++ [v]) Lf K := by
  refine ⟨?_, by simp; omega, fun i hi => ?_⟩
  · have k := h.1.set_n S.length v
    rw [List.setIfInBounds_toArray, lookL_set hl] at k
    exact k
  · rw [List.length_append, List.length_singleton] at hi
    by_cases h1 : i < S.length
    · have e : (S ++ [v]).getD i (.slice none 0 0) = S.getD i (.slice none 0 0) := by simp [List.getD, List.getElem?_append_left h1]
      rw [e]; exact (h.2.2 i h1).set _ _
    · obtain rfl : i = S.length := by omega
      have e : (S ++ [v]).getD S.length (.slice none 0 0) = v := by simp [List.getD]
      rw [e]; exact hv.set _ _
theorem LookR.cell {w : World} {r g : Nat} {S : List Value} {Lf : Nat → List Int} {K : List Value} (h : LookR w r g S Lf K) (hl : S.length < 16) : w.cell? ⟨g, S.length, none⟩ = some (.slice none 0 0) := by
  refine h.1.cell S.length ?_
  obtain ⟨m, hm⟩ : ∃ m, 16 - S.length = m + 1 := ⟨15 - S.length, by omega⟩
  unfold lookL
  rw [hm, List.replicate_succ]
  simp
theorem list16 {S : List Value} (h : S.length = 16) : ∃ s0 s1 s2 s3 s4 s5 s6 s7 s8 s9 s10 s11 s12 s13 s14 s15, S = [s0, s1, s2, s3, s4, s5, s6, s7, s8, s9, s10, s11, s12, s13, s14, s15] := by
  match S, h with
  | [s0, s1, s2, s3, s4, s5, s6, s7, s8, s9, s10, s11, s12, s13, s14, s15], _ => exact ⟨_, _, _, _, _, _, _, _, _, _, _, _, _, _, _, _, rfl⟩
/-- Rows that are told, none of them in the blocks g and r. -/
def AllS (w : World) (r g : Nat) (S : List Value) (Lf : Nat → List Int) : Prop := ∀ i, i < S.length → SB2 w (S.getD i (.slice none 0 0)) (Lf i) g r
theorem AllS.below {w w1 : World} {r g : Nat} {S : List Value} {Lf : Nat → List Int} (h : AllS w r g S Lf) (hb : Below w.heap.size w w1) : AllS w1 r g S Lf := fun i hi => (h i hi).below hb
theorem AllS.setr {w : World} {r g : Nat} {S : List Value} {Lf : Nat → List Int} (h : AllS w r g S Lf) (o : Nat) (u : Value) : AllS (w.setCell ⟨r, o, none⟩ u) r g S Lf := fun i hi => (h i hi).setr o u
theorem AllS.setAll {r g : Nat} {S : List Value} {Lf : Nat → List Int} : ∀ {w : World} (h : AllS w r g S Lf) (vs : List Value) (k : Nat), AllS (setFrom w r k vs) r g S Lf
  | _, h, [], _ => h
  | _, h, v :: vs, k => AllS.setAll (h.setr k v) vs (k + 1)
theorem bs_row_far {w : World} {s : Value} {L : List Int} {g : Nat} (h : BS w s L) (h2 : L ≠ [] → ∀ a n cap, s = .slice (some a) n cap → a.block ≠ g) (cs : Array Value) : BS (w.setRow g cs) s L := by
  obtain ⟨A, cap, rfl, h1, h3, h5, h4⟩ := h
  refine ⟨A, cap, rfl, h1, h3, h5, fun hz => ?_⟩
  obtain ⟨b, off, rfl, hlt, hc⟩ := h4 hz
  have hne := h2 hz ⟨b, off, none⟩ L.length cap rfl
  refine ⟨b, off, rfl, by simpa [World.setRow] using hlt, fun i hi => ?_⟩
  rw [← hc i hi]
  exact cell_setRow_other w g cs ⟨b, off + i, none⟩ hne
theorem AllS.row {w : World} {r g : Nat} {S : List Value} {Lf : Nat → List Int} (h : AllS w r g S Lf) (cs : Array Value) : ∀ i, i < S.length → BS (w.setRow r cs) (S.getD i (.slice none 0 0)) (Lf i) := fun i hi => bs_row_far (h i hi).1 (fun hL a n c e => ((h i hi).2 hL a n c e).2) cs
def GiveLook16 (Lf : Nat → List Int) (x0 x1 x2 x3 y0 y1 y2 y3 : Int) (w : World) (e : Ending) (w' : World) : Prop :=
  ∃ S0 S1 S2 S3 S4 S5 S6 S7 S8 S9 S10 S11 S12 S13 S14 S15, e = .returned (.agg #[S0, S1, S2, S3, S4, S5, S6, S7, S8, S9, S10, S11, S12, S13, S14, S15, .int .i64 x0, .int .i64 x1, .int .i64 x2, .int .i64 x3, .int .i64 y0, .int .i64 y1, .int .i64 y2, .int .i64 y3]) ∧ Below w.heap.size w w' ∧ BS w' S0 (Lf 0) ∧ BS w' S1 (Lf 1) ∧ BS w' S2 (Lf 2) ∧ BS w' S3 (Lf 3) ∧ BS w' S4 (Lf 4) ∧ BS w' S5 (Lf 5) ∧ BS w' S6 (Lf 6) ∧ BS w' S7 (Lf 7) ∧ BS w' S8 (Lf 8) ∧ BS w' S9 (Lf 9) ∧ BS w' S10 (Lf 10) ∧ BS w' S11 (Lf 11) ∧ BS w' S12 (Lf 12) ∧ BS w' S13 (Lf 13) ∧ BS w' S14 (Lf 14) ∧ BS w' S15 (Lf 15)
set_option maxRecDepth 100000 in
set_option maxHeartbeats 16000000 in
theorem zlook (cp : Value) (Lf : Nat → List Int) (u v : Int) (hu : inB u 70368744177664 = true) (hv : inB v 70368744177664 = true) (w : World)
    (C : ∀ X Y : Nat, X < 4 → Y < 4 → ∀ w1, Below w.heap.size w w1 → Calls Try.prog 86 #[cp, .int .i64 (u / 65536 - 1 + X), .int .i64 (v / 65536 - 1 + Y)] w1 (GiveGet2 w (Lf (Y * 4 + X)) w1)) :
    Calls Try.prog 83 #[.func (.func 86) #[cp] #[], .int .i64 u, .int .i64 v] w
      (GiveLook16 Lf (cw0 (u % 65536 / 256)) (cw1 (u % 65536 / 256)) (cw2 (u % 65536 / 256)) (cw3 (u % 65536 / 256)) (cw0 (v % 65536 / 256)) (cw1 (v % 65536 / 256)) (cw2 (v % 65536 / 256)) (cw3 (v % 65536 / 256)) w) := by
  obtain ⟨u0, u1⟩ := inB_iff.1 hu
  obtain ⟨v0, v1⟩ := inB_iff.1 hv
  have SU := Lib.hid (fun w => wsplit u w)
  have SV := Lib.hid (fun w => wsplit v w)
  have LU := Lib.hid (fun w => wCubic_in (u % 65536 / 256) (by omega) (by omega) w)
  have LV := Lib.hid (fun w => wCubic_in (v % 65536 / 256) (by omega) (by omega) w)
  have bi : -1073741824 ≤ u / 65536 ∧ u / 65536 ≤ 1073741824 := by omega
  have bk : -1073741824 ≤ v / 65536 ∧ v / 65536 ≤ 1073741824 := by omega
  clear hu hv u0 u1 v0 v1
  generalize u / 65536 = i at *
  generalize v / 65536 = k at *
  generalize u % 65536 = f at *
  generalize v % 65536 = g at *
  generalize hfc : f / 256 = fc at *
  generalize hgc : g / 256 = gc at *
  generalize cw0 fc = x0 at *
  generalize cw1 fc = x1 at *
  generalize cw2 fc = x2 at *
  generalize cw3 fc = x3 at *
  generalize cw0 gc = y0 at *
  generalize cw1 gc = y1 at *
  generalize cw2 gc = y2 at *
  generalize cw3 gc = y3 at *
  obtain ⟨i', hi'⟩ : ∃ i', i' = i - 1 := ⟨_, rfl⟩
  obtain ⟨k', hk'⟩ : ∃ k', k' = k - 1 := ⟨_, rfl⟩
  have ei : IntKind.i64.wrap (i - 1) = i' := by rw [hi']; exact iw (by omega)
  have ek : IntKind.i64.wrap (k - 1) = k' := by rw [hk']; exact iw (by omega)
  have C := Lib.hid (show ∀ X Y : Nat, X < 4 → Y < 4 → ∀ w1, Below w.heap.size w w1 → Calls Try.prog 86 #[cp, .int .i64 (i' + X), .int .i64 (k' + Y)] w1 (GiveGet2 w (Lf (Y * 4 + X)) w1) by rw [hi', hk']; exact C)
  have bi' : -1073741825 ≤ i' ∧ i' ≤ 1073741824 := by omega
  have bk' : -1073741825 ≤ k' ∧ k' ≤ 1073741824 := by omega
  clear hi' hk' bi bk
  go_enter Try.func83, Try.ntmps83
  go_wp2_with fail
  have BB := start1 w #[.slice none 0 0, .slice none 0 0, .slice none 0 0, .slice none 0 0, .slice none 0 0, .slice none 0 0, .slice none 0 0, .slice none 0 0, .slice none 0 0, .slice none 0 0, .slice none 0 0, .slice none 0 0, .slice none 0 0, .slice none 0 0, .slice none 0 0, .slice none 0 0, .int .i64 0, .int .i64 0, .int .i64 0, .int .i64 0, .int .i64 0, .int .i64 0, .int .i64 0, .int .i64 0] CAT
  obtain ⟨BB, hsz, r_res⟩ := BB
  generalize (w.alloc (.cells #[.slice none 0 0, .slice none 0 0, .slice none 0 0, .slice none 0 0, .slice none 0 0, .slice none 0 0, .slice none 0 0, .slice none 0 0, .slice none 0 0, .slice none 0 0, .slice none 0 0, .slice none 0 0, .slice none 0 0, .slice none 0 0, .slice none 0 0, .slice none 0 0, .int .i64 0, .int .i64 0, .int .i64 0, .int .i64 0, .int .i64 0, .int .i64 0, .int .i64 0, .int .i64 0] CAT)) = w0 at *
  replace BB := Lib.hid BB
  replace r_res := Lib.hid r_res
  clear hsz
  refine (SU.out _).mono ?_
  rintro e w9 ⟨rfl, rfl⟩
  go_wp2_with fail
  refine (SV.out _).mono ?_
  rintro e w9 ⟨rfl, rfl⟩
  go_wp2_with fail
  have d_a := Lib.hid (And.intro BB.out.size (And.intro r_res.out.lt (True.intro)))
  obtain ⟨hb, r_a⟩ := laid w0 #[.slice none 0 0, .slice none 0 0, .slice none 0 0, .slice none 0 0, .slice none 0 0, .slice none 0 0, .slice none 0 0, .slice none 0 0, .slice none 0 0, .slice none 0 0, .slice none 0 0, .slice none 0 0, .slice none 0 0, .slice none 0 0, .slice none 0 0, .slice none 0 0, .int .i64 0, .int .i64 0, .int .i64 0, .int .i64 0, .int .i64 0, .int .i64 0, .int .i64 0, .int .i64 0] CAT
  replace r_res := Lib.hid (r_res.out.keep hb)
  replace BB := Lib.hid (below_next BB.out hb)
  replace r_a := Lib.hid r_a
  clear hb
  generalize w0.alloc (.cells #[.slice none 0 0, .slice none 0 0, .slice none 0 0, .slice none 0 0, .slice none 0 0, .slice none 0 0, .slice none 0 0, .slice none 0 0, .slice none 0 0, .slice none 0 0, .slice none 0 0, .slice none 0 0, .slice none 0 0, .slice none 0 0, .slice none 0 0, .slice none 0 0, .int .i64 0, .int .i64 0, .int .i64 0, .int .i64 0, .int .i64 0, .int .i64 0, .int .i64 0, .int .i64 0] CAT) = w1 at *
  generalize w0.heap.size = g_a at *
  refine (LU.out _).mono ?_
  rintro e w2 ⟨rfl, hb⟩
  replace r_res := Lib.hid (r_res.out.keep hb)
  replace r_a := Lib.hid (r_a.out.keep hb)
  replace BB := Lib.hid (below_next BB.out hb)
  clear hb
  obtain ⟨c_a0, c_a1, c_a2, c_a3, c_a4, c_a5, c_a6, c_a7, c_a8, c_a9, c_a10, c_a11, c_a12, c_a13, c_a14, c_a15, c_a16, c_a17, c_a18, c_a19, c_a20, c_a21, c_a22, c_a23, f_a0, f_a1, f_a2, f_a3, f_a4, f_a5, f_a6, f_a7, f_a8, f_a9, f_a10, f_a11, f_a12, f_a13, f_a14, f_a15, f_a16, f_a17, f_a18, f_a19, f_a20, f_a21, f_a22, f_a23⟩ := reads24 r_a.out
  have l_a := r_a.out.lt
  go_upto_region 5 with fail
  clear c_a0 c_a1 c_a2 c_a3 c_a4 c_a5 c_a6 c_a7 c_a8 c_a9 c_a10 c_a11 c_a12 c_a13 c_a14 c_a15 c_a16 c_a17 c_a18 c_a19 c_a20 c_a21 c_a22 c_a23 f_a0 f_a1 f_a2 f_a3 f_a4 f_a5 f_a6 f_a7 f_a8 f_a9 f_a10 f_a11 f_a12 f_a13 f_a14 f_a15 f_a16 f_a17 f_a18 f_a19 f_a20 f_a21 f_a22 f_a23 l_a
  replace r_res := Lib.hid ((((r_res.out.far (p := g_a) (by have dd_a := d_a.out; omega) 16 (.int .i64 x0)).far (p := g_a) (by have dd_a := d_a.out; omega) 17 (.int .i64 x1)).far (p := g_a) (by have dd_a := d_a.out; omega) 18 (.int .i64 x2)).far (p := g_a) (by have dd_a := d_a.out; omega) 19 (.int .i64 x3))
  replace r_a := Lib.hid (show AtB ((((w2.setCell ⟨g_a, 16, none⟩ (.int .i64 x0)).setCell ⟨g_a, 17, none⟩ (.int .i64 x1)).setCell ⟨g_a, 18, none⟩ (.int .i64 x2)).setCell ⟨g_a, 19, none⟩ (.int .i64 x3)) (g_a) #[.slice none 0 0, .slice none 0 0, .slice none 0 0, .slice none 0 0, .slice none 0 0, .slice none 0 0, .slice none 0 0, .slice none 0 0, .slice none 0 0, .slice none 0 0, .slice none 0 0, .slice none 0 0, .slice none 0 0, .slice none 0 0, .slice none 0 0, .slice none 0 0, .int .i64 x0, .int .i64 x1, .int .i64 x2, .int .i64 x3, .int .i64 0, .int .i64 0, .int .i64 0, .int .i64 0] CAT from by have k := ((((r_a.out.set_n 16 (.int .i64 x0)).set_n 17 (.int .i64 x1)).set_n 18 (.int .i64 x2)).set_n 19 (.int .i64 x3)); simpa using k)
  replace BB := Lib.hid (below_set (below_set (below_set (below_set BB.out (b := g_a) (o := 16) (by have dd := d_a.out; omega) (.int .i64 x0)) (b := g_a) (o := 17) (by have dd := d_a.out; omega) (.int .i64 x1)) (b := g_a) (o := 18) (by have dd := d_a.out; omega) (.int .i64 x2)) (b := g_a) (o := 19) (by have dd := d_a.out; omega) (.int .i64 x3))
  generalize ((((w2.setCell ⟨g_a, 16, none⟩ (.int .i64 x0)).setCell ⟨g_a, 17, none⟩ (.int .i64 x1)).setCell ⟨g_a, 18, none⟩ (.int .i64 x2)).setCell ⟨g_a, 19, none⟩ (.int .i64 x3)) = w3 at *
  go_wp2_with fail
  refine (LV.out _).mono ?_
  rintro e w4 ⟨rfl, hb⟩
  replace r_res := Lib.hid (r_res.out.keep hb)
  replace r_a := Lib.hid (r_a.out.keep hb)
  replace BB := Lib.hid (below_next BB.out hb)
  clear hb
  obtain ⟨c_a0, c_a1, c_a2, c_a3, c_a4, c_a5, c_a6, c_a7, c_a8, c_a9, c_a10, c_a11, c_a12, c_a13, c_a14, c_a15, c_a16, c_a17, c_a18, c_a19, c_a20, c_a21, c_a22, c_a23, f_a0, f_a1, f_a2, f_a3, f_a4, f_a5, f_a6, f_a7, f_a8, f_a9, f_a10, f_a11, f_a12, f_a13, f_a14, f_a15, f_a16, f_a17, f_a18, f_a19, f_a20, f_a21, f_a22, f_a23⟩ := reads24 r_a.out
  have l_a := r_a.out.lt
  go_upto_region 6 with fail
  clear c_a0 c_a1 c_a2 c_a3 c_a4 c_a5 c_a6 c_a7 c_a8 c_a9 c_a10 c_a11 c_a12 c_a13 c_a14 c_a15 c_a16 c_a17 c_a18 c_a19 c_a20 c_a21 c_a22 c_a23 f_a0 f_a1 f_a2 f_a3 f_a4 f_a5 f_a6 f_a7 f_a8 f_a9 f_a10 f_a11 f_a12 f_a13 f_a14 f_a15 f_a16 f_a17 f_a18 f_a19 f_a20 f_a21 f_a22 f_a23 l_a
  replace r_res := Lib.hid ((((r_res.out.far (p := g_a) (by have dd_a := d_a.out; omega) 20 (.int .i64 y0)).far (p := g_a) (by have dd_a := d_a.out; omega) 21 (.int .i64 y1)).far (p := g_a) (by have dd_a := d_a.out; omega) 22 (.int .i64 y2)).far (p := g_a) (by have dd_a := d_a.out; omega) 23 (.int .i64 y3))
  replace r_a := Lib.hid (show AtB ((((w4.setCell ⟨g_a, 20, none⟩ (.int .i64 y0)).setCell ⟨g_a, 21, none⟩ (.int .i64 y1)).setCell ⟨g_a, 22, none⟩ (.int .i64 y2)).setCell ⟨g_a, 23, none⟩ (.int .i64 y3)) (g_a) #[.slice none 0 0, .slice none 0 0, .slice none 0 0, .slice none 0 0, .slice none 0 0, .slice none 0 0, .slice none 0 0, .slice none 0 0, .slice none 0 0, .slice none 0 0, .slice none 0 0, .slice none 0 0, .slice none 0 0, .slice none 0 0, .slice none 0 0, .slice none 0 0, .int .i64 x0, .int .i64 x1, .int .i64 x2, .int .i64 x3, .int .i64 y0, .int .i64 y1, .int .i64 y2, .int .i64 y3] CAT from by have k := ((((r_a.out.set_n 20 (.int .i64 y0)).set_n 21 (.int .i64 y1)).set_n 22 (.int .i64 y2)).set_n 23 (.int .i64 y3)); simpa using k)
  replace BB := Lib.hid (below_set (below_set (below_set (below_set BB.out (b := g_a) (o := 20) (by have dd := d_a.out; omega) (.int .i64 y0)) (b := g_a) (o := 21) (by have dd := d_a.out; omega) (.int .i64 y1)) (b := g_a) (o := 22) (by have dd := d_a.out; omega) (.int .i64 y2)) (b := g_a) (o := 23) (by have dd := d_a.out; omega) (.int .i64 y3))
  generalize ((((w4.setCell ⟨g_a, 20, none⟩ (.int .i64 y0)).setCell ⟨g_a, 21, none⟩ (.int .i64 y1)).setCell ⟨g_a, 22, none⟩ (.int .i64 y2)).setCell ⟨g_a, 23, none⟩ (.int .i64 y3)) = w5 at *
  go_wp2_with fail
  have h_a := Lib.hid (show LookR w5 w.heap.size g_a [] Lf [.int .i64 x0, .int .i64 x1, .int .i64 x2, .int .i64 x3, .int .i64 y0, .int .i64 y1, .int .i64 y2, .int .i64 y3] from ⟨by rw [lookL_nil]; exact r_a.out, by simp, fun i hi => absurd hi (by simp)⟩)
  clear r_a
  go_loopw [12, 13, 38, 41] (fun _ _ iy _ wr => ∃ (Y : Nat) (S : List Value), Y ≤ 4 ∧ iy = .int .i64 Y ∧ Hid (S.length = Y * 4) ∧ Hid (LookR wr w.heap.size g_a S Lf [.int .i64 x0, .int .i64 x1, .int .i64 x2, .int .i64 x3, .int .i64 y0, .int .i64 y1, .int .i64 y2, .int .i64 y3] ∧ AtB wr w.heap.size #[.slice none 0 0, .slice none 0 0, .slice none 0 0, .slice none 0 0, .slice none 0 0, .slice none 0 0, .slice none 0 0, .slice none 0 0, .slice none 0 0, .slice none 0 0, .slice none 0 0, .slice none 0 0, .slice none 0 0, .slice none 0 0, .slice none 0 0, .slice none 0 0, .int .i64 0, .int .i64 0, .int .i64 0, .int .i64 0, .int .i64 0, .int .i64 0, .int .i64 0, .int .i64 0] CAT ∧ Below w.heap.size w wr)) (fun _ _ iy _ _ => 4 - (intOf iy).toNat)
  case atStart => exact ⟨0, [], by omega, rfl, rfl, ⟨h_a.out, r_res.out, BB.out⟩⟩
  case round =>
    clear h_a r_res BB
    obtain ⟨Y, S, hY, rfl, hS, hinv⟩ := hrel
    obtain ⟨h_a, r_res, BB⟩ := hinv.out
    replace h_a := Lib.hid h_a; replace r_res := Lib.hid r_res; replace BB := Lib.hid BB
    clear hinv
    by_cases hlt : Y < 4
    · have ly0 : (0 : Int) ≤ (Y : Int) := by omega
      have ly1 : (Y : Int) < 4 := by omega
      go_wp2_with fail
      go_loopw [13, 41] (fun _ ix wr => ∃ (X : Nat) (S : List Value), X ≤ 4 ∧ ix = .int .i64 X ∧ Hid (S.length = Y * 4 + X) ∧ Hid (LookR wr w.heap.size g_a S Lf [.int .i64 x0, .int .i64 x1, .int .i64 x2, .int .i64 x3, .int .i64 y0, .int .i64 y1, .int .i64 y2, .int .i64 y3] ∧ AtB wr w.heap.size #[.slice none 0 0, .slice none 0 0, .slice none 0 0, .slice none 0 0, .slice none 0 0, .slice none 0 0, .slice none 0 0, .slice none 0 0, .slice none 0 0, .slice none 0 0, .slice none 0 0, .slice none 0 0, .slice none 0 0, .slice none 0 0, .slice none 0 0, .slice none 0 0, .int .i64 0, .int .i64 0, .int .i64 0, .int .i64 0, .int .i64 0, .int .i64 0, .int .i64 0, .int .i64 0] CAT ∧ Below w.heap.size w wr)) (fun _ ix _ => 4 - (intOf ix).toNat)
      case atStart => exact ⟨0, S, by omega, rfl, by show _ = _; rw [hS.out]; rfl, ⟨h_a.out, r_res.out, BB.out⟩⟩
      case round =>
        clear h_a r_res BB hS S
        obtain ⟨X, S, hX, rfl, hS, hinv⟩ := hrel
        obtain ⟨h_a, r_res, BB⟩ := hinv.out
        replace h_a := Lib.hid h_a; replace r_res := Lib.hid r_res; replace BB := Lib.hid BB
        clear hinv
        by_cases hlx : X < 4
        · have lx0 : (0 : Int) ≤ (X : Int) := by omega
          have lx1 : (X : Int) < 4 := by omega
          have CJ := C.out X Y hlx hlt
          obtain ⟨X', hX'⟩ : ∃ X', X' = i' + (X : Int) := ⟨_, rfl⟩
          obtain ⟨Y', hY'⟩ : ∃ Y', Y' = k' + (Y : Int) := ⟨_, rfl⟩
          rw [← hX', ← hY'] at CJ
          have eX : IntKind.i64.wrap (i' + (X : Int)) = X' := by rw [hX']; exact iw (by omega)
          have eY : IntKind.i64.wrap (k' + (Y : Int)) = Y' := by rw [hY']; exact iw (by omega)
          have CJ := Lib.hid CJ
          clear hX' hY' C
          have hl16 : S.length < 16 := by have := hS.out; omega
          have hlt0 := h_a.out.1.lt
          have KA := Lib.hid (fun (w9 : World) (hb9 : Below wr.heap.size wr w9) => And.intro ((h_a.out.below hb9).cell hl16) ((h_a.out.below hb9).1.fr S.length))
          rw [hS.out] at KA
          have CJ := Lib.hid (fun w9 (hb : Below wr.heap.size wr w9) => CJ.out w9 (below_next BB.out hb))
          go_wp2_with fail
          have KK := Lib.hid (fun (w9 : World) (h : Below wr.heap.size wr w9) => (KA.out _ h : (w9.cell? ⟨g_a, Y * 4 + X, none⟩ = some (.slice none 0 0) ∧ w9.frozen? ⟨g_a, Y * 4 + X, none⟩ = false)))
          have K0 := KK.out wr (Below.refl _ _)
          have KD := KK.out wr.drew (below_drew (Below.refl _ _))
          refine AnyG.begin_ (fun w9 => (w9.cell? ⟨g_a, Y * 4 + X, none⟩ = some (.slice none 0 0) ∧ w9.frozen? ⟨g_a, Y * 4 + X, none⟩ = false)) 15 (by kernel_rfl) ?_
          refine AnyG.take (i := 0) (v := ?_) rfl (by kernel_rfl) (by kernel_rfl) (by kernel_rfl) (fun _ _ _ h => h) (by kernel_rfl) (by kernel_rfl) (Or.inl ⟨by rfl, ?_⟩) (by assumption) ?_
          rotate_left
          · intro w9 hSw; (try dsimp only at hSw); go_simp <;> with_reducible rfl
          try simp only [Act.put, List.getElem_toArray, List.getElem_cons_zero, List.getElem_cons_succ, List.setIfInBounds_toArray, List.set_cons_zero, List.set_cons_succ]
          refine AnyG.take (i := 1) (v := ?_) rfl (by kernel_rfl) (by kernel_rfl) (by kernel_rfl) (fun _ _ _ h => h) (by kernel_rfl) (by kernel_rfl) (Or.inl ⟨by rfl, ?_⟩) (by assumption) ?_
          rotate_left
          · intro w9 hSw; (try dsimp only at hSw); go_simp <;> with_reducible rfl
          try simp only [Act.put, List.getElem_toArray, List.getElem_cons_zero, List.getElem_cons_succ, List.setIfInBounds_toArray, List.set_cons_zero, List.set_cons_succ]
          refine AnyG.take (i := 2) (v := ?_) rfl (by kernel_rfl) (by kernel_rfl) (by kernel_rfl) (fun _ _ _ h => h) (by kernel_rfl) (by kernel_rfl) (Or.inl ⟨by rfl, ?_⟩) (by assumption) ?_
          rotate_left
          · intro w9 hSw; (try dsimp only at hSw); go_simp <;> with_reducible rfl
          try simp only [Act.put, List.getElem_toArray, List.getElem_cons_zero, List.getElem_cons_succ, List.setIfInBounds_toArray, List.set_cons_zero, List.set_cons_succ]
          refine AnyG.take (i := 3) (v := ?_) rfl (by kernel_rfl) (by kernel_rfl) (by kernel_rfl) (fun _ _ _ h => h) (by kernel_rfl) (by kernel_rfl) (Or.inl ⟨by rfl, ?_⟩) (by assumption) ?_
          rotate_left
          · intro w9 hSw; (try dsimp only at hSw); go_simp <;> with_reducible rfl
          try simp only [Act.put, List.getElem_toArray, List.getElem_cons_zero, List.getElem_cons_succ, List.setIfInBounds_toArray, List.set_cons_zero, List.set_cons_succ]
          refine AnyG.take (i := 4) (v := ?_) rfl (by kernel_rfl) (by kernel_rfl) (by kernel_rfl) (fun _ _ _ h => h) (by kernel_rfl) (by kernel_rfl) (Or.inl ⟨by rfl, ?_⟩) (by assumption) ?_
          rotate_left
          · intro w9 hSw; (try dsimp only at hSw); go_simp <;> with_reducible rfl
          try simp only [Act.put, List.getElem_toArray, List.getElem_cons_zero, List.getElem_cons_succ, List.setIfInBounds_toArray, List.set_cons_zero, List.set_cons_succ]
          refine AnyG.take (i := 5) (v := ?_) rfl (by kernel_rfl) (by kernel_rfl) (by kernel_rfl) (fun _ _ _ h => h) (by kernel_rfl) (by kernel_rfl) (Or.inl ⟨by rfl, ?_⟩) (by assumption) ?_
          rotate_left
          · intro w9 hSw; (try dsimp only at hSw); go_simp <;> with_reducible rfl
          try simp only [Act.put, List.getElem_toArray, List.getElem_cons_zero, List.getElem_cons_succ, List.setIfInBounds_toArray, List.set_cons_zero, List.set_cons_succ]
          refine AnyG.take (i := 6) (v := ?_) rfl (by kernel_rfl) (by kernel_rfl) (by kernel_rfl) (fun _ _ _ h => h) (by kernel_rfl) (by kernel_rfl) (Or.inl ⟨by rfl, ?_⟩) (by assumption) ?_
          rotate_left
          · intro w9 hSw; (try dsimp only at hSw); go_simp <;> with_reducible rfl
          try simp only [Act.put, List.getElem_toArray, List.getElem_cons_zero, List.getElem_cons_succ, List.setIfInBounds_toArray, List.set_cons_zero, List.set_cons_succ]
          refine AnyG.take (i := 7) (v := ?_) rfl (by kernel_rfl) (by kernel_rfl) (by kernel_rfl) (fun _ _ _ h => h) (by kernel_rfl) (by kernel_rfl) (Or.inl ⟨by rfl, ?_⟩) (by assumption) ?_
          rotate_left
          · intro w9 hSw; (try dsimp only at hSw); go_simp <;> with_reducible rfl
          try simp only [Act.put, List.getElem_toArray, List.getElem_cons_zero, List.getElem_cons_succ, List.setIfInBounds_toArray, List.set_cons_zero, List.set_cons_succ]
          refine AnyG.take (i := 8) (v := ?_) rfl (by kernel_rfl) (by kernel_rfl) (by kernel_rfl) (fun _ _ _ h => h) (by kernel_rfl) (by kernel_rfl) (Or.inl ⟨by rfl, ?_⟩) (by assumption) ?_
          rotate_left
          · intro w9 hSw; (try dsimp only at hSw); go_simp <;> with_reducible rfl
          try simp only [Act.put, List.getElem_toArray, List.getElem_cons_zero, List.getElem_cons_succ, List.setIfInBounds_toArray, List.set_cons_zero, List.set_cons_succ]
          refine AnyG.take (i := 9) (v := ?_) rfl (by kernel_rfl) (by kernel_rfl) (by kernel_rfl) (fun _ _ _ h => h) (by kernel_rfl) (by kernel_rfl) (Or.inl ⟨by rfl, ?_⟩) (by assumption) ?_
          rotate_left
          · intro w9 hSw; (try dsimp only at hSw); go_simp <;> with_reducible rfl
          try simp only [Act.put, List.getElem_toArray, List.getElem_cons_zero, List.getElem_cons_succ, List.setIfInBounds_toArray, List.set_cons_zero, List.set_cons_succ]
          refine AnyG.take (i := 10) (v := ?_) rfl (by kernel_rfl) (by kernel_rfl) (by kernel_rfl) (fun _ _ _ h => h) (by kernel_rfl) (by kernel_rfl) (Or.inl ⟨by rfl, ?_⟩) (by assumption) ?_
          rotate_left
          · intro w9 hSw; (try dsimp only at hSw); go_simp <;> with_reducible rfl
          try simp only [Act.put, List.getElem_toArray, List.getElem_cons_zero, List.getElem_cons_succ, List.setIfInBounds_toArray, List.set_cons_zero, List.set_cons_succ]
          refine AnyG.take (i := 12) (v := ?_) rfl (by kernel_rfl) (by kernel_rfl) (by kernel_rfl) (fun _ _ _ h => h) (by kernel_rfl) (by kernel_rfl) (Or.inl ⟨by rfl, ?_⟩) (by assumption) ?_
          rotate_left
          · intro w9 hSw; (try dsimp only at hSw); go_simp <;> with_reducible rfl
          try simp only [Act.put, List.getElem_toArray, List.getElem_cons_zero, List.getElem_cons_succ, List.setIfInBounds_toArray, List.set_cons_zero, List.set_cons_succ]
          refine AnyG.take (i := 13) (v := ?_) rfl (by kernel_rfl) (by kernel_rfl) (by kernel_rfl) (fun _ _ _ h => h) (by kernel_rfl) (by kernel_rfl) (Or.inl ⟨by rfl, ?_⟩) (by assumption) ?_
          rotate_left
          · intro w9 hSw; (try dsimp only at hSw); go_simp <;> with_reducible rfl
          try simp only [Act.put, List.getElem_toArray, List.getElem_cons_zero, List.getElem_cons_succ, List.setIfInBounds_toArray, List.set_cons_zero, List.set_cons_succ]
          refine AnyG.step (i := 11) (by kernel_rfl) rfl (fun K hK => ?_)
          go_simp
          go_at_call 86
          refine (CJ.out _ ?_).mono ?_
          · repeat (first | with_reducible exact Below.refl _ _ | with_reducible apply below_drew | with_reducible apply below_new)
          rintro e w6 ⟨A, n, p, rfl, hb, hs, ha⟩
          have B_w6 := Lib.hid (reg_next (w0 := wr) (by repeat (first | with_reducible exact Below.refl _ _ | with_reducible apply below_drew | with_reducible apply below_new)) hb)
          have K_w6 := KK.out _ B_w6.out
          clear hb
          refine hK.out _ _ (fun _ => K_w6) (fun hHeld => ?_)
          replace hHeld := hHeld (by decide)
          clear hK
          try simp only [Act.put, List.getElem_toArray, List.getElem_cons_zero, List.getElem_cons_succ, List.setIfInBounds_toArray, List.set_cons_zero, List.set_cons_succ]
          refine AnyG.take (i := 14) (v := ?_) rfl (by kernel_rfl) (by kernel_rfl) (by kernel_rfl) (fun _ _ _ h => h) (by kernel_rfl) (by kernel_rfl) (Or.inl ⟨by rfl, ?_⟩) (by assumption) ?_
          rotate_left
          · intro w9 hSw; (try dsimp only at hSw); go_simp <;> with_reducible rfl
          try simp only [Act.put, List.getElem_toArray, List.getElem_cons_zero, List.getElem_cons_succ, List.setIfInBounds_toArray, List.set_cons_zero, List.set_cons_succ]
          refine AnyG.step (i := 15) (by kernel_rfl) rfl (fun K hK => ?_)
          go_simp
          refine hK.out _ _ (fun h => absurd h (by decide)) (fun _ => ?_)
          clear hK
          try simp only [Act.put, List.getElem_toArray, List.getElem_cons_zero, List.getElem_cons_succ, List.setIfInBounds_toArray, List.set_cons_zero, List.set_cons_succ]
          refine AnyG.done (by kernel_rfl) ?_ _
          clear KK K0 KD K_w6
          replace r_res := Lib.hid (r_res.out.keep B_w6.out)
          replace h_a := Lib.hid (LookR.below h_a.out B_w6.out)
          replace BB := Lib.hid (below_next BB.out B_w6.out)
          clear B_w6
          have h_v := Lib.hid (GiveGet2.sb (g := g_a) hs ha d_a.out.1 (by simpa using hlt0))
          have HN := h_a.out.set hl16 (v := .slice A n p) (by rw [hS.out]; exact h_v.out)
          rw [hS.out] at HN
          replace HN := Lib.hid HN
          have HR := Lib.hid (r_res.out.far (p := g_a) (by have := d_a.out; omega) (Y * 4 + X) (.slice A n p))
          have HB := Lib.hid (below_set BB.out (b := g_a) (o := Y * 4 + X) d_a.out.1 (.slice A n p))
          have hSn : Hid ((S ++ [Value.slice A n p]).length = Y * 4 + (X + 1)) := by show _ = _; rw [List.length_append, List.length_singleton, hS.out]; omega
          clear hs ha h_a r_res BB
          go_wp2_with fail
          go_roundw
          case rel => exact ⟨X + 1, S ++ [.slice A n p], by omega, by go_num, hSn, ⟨HN.out, HR.out, HB.out⟩⟩
          case measure => simp [intOf]; omega
        · obtain rfl : X = 4 := by omega
          go_wp2_with fail
          go_roundw
          case rel => exact ⟨Y + 1, S, by omega, by go_num, by show _ = _; rw [hS.out]; omega, ⟨h_a.out, r_res.out, BB.out⟩⟩
          case measure => simp [intOf]; omega
    · obtain rfl : Y = 4 := by omega
      obtain ⟨s0, s1, s2, s3, s4, s5, s6, s7, s8, s9, s10, s11, s12, s13, s14, s15, rfl⟩ := list16 (show S.length = 16 by rw [hS.out])
      have h_s := Lib.hid (show AllS wr w.heap.size g_a [s0, s1, s2, s3, s4, s5, s6, s7, s8, s9, s10, s11, s12, s13, s14, s15] Lf from h_a.out.2.2)
      have r_a := Lib.hid (show AtB wr g_a #[s0, s1, s2, s3, s4, s5, s6, s7, s8, s9, s10, s11, s12, s13, s14, s15, .int .i64 x0, .int .i64 x1, .int .i64 x2, .int .i64 x3, .int .i64 y0, .int .i64 y1, .int .i64 y2, .int .i64 y3] CAT from by have h := h_a.out.1; rw [lookL_all] at h; exact h)
      obtain ⟨A0, p0, rfl⟩ := (show BS wr s0 (Lf 0) from (h_s.out 0 (by simp)).1).form
      generalize (Lf 0).length = n0 at *
      obtain ⟨A1, p1, rfl⟩ := (show BS wr s1 (Lf 1) from (h_s.out 1 (by simp)).1).form
      generalize (Lf 1).length = n1 at *
      obtain ⟨A2, p2, rfl⟩ := (show BS wr s2 (Lf 2) from (h_s.out 2 (by simp)).1).form
      generalize (Lf 2).length = n2 at *
      obtain ⟨A3, p3, rfl⟩ := (show BS wr s3 (Lf 3) from (h_s.out 3 (by simp)).1).form
      generalize (Lf 3).length = n3 at *
      obtain ⟨A4, p4, rfl⟩ := (show BS wr s4 (Lf 4) from (h_s.out 4 (by simp)).1).form
      generalize (Lf 4).length = n4 at *
      obtain ⟨A5, p5, rfl⟩ := (show BS wr s5 (Lf 5) from (h_s.out 5 (by simp)).1).form
      generalize (Lf 5).length = n5 at *
      obtain ⟨A6, p6, rfl⟩ := (show BS wr s6 (Lf 6) from (h_s.out 6 (by simp)).1).form
      generalize (Lf 6).length = n6 at *
      obtain ⟨A7, p7, rfl⟩ := (show BS wr s7 (Lf 7) from (h_s.out 7 (by simp)).1).form
      generalize (Lf 7).length = n7 at *
      obtain ⟨A8, p8, rfl⟩ := (show BS wr s8 (Lf 8) from (h_s.out 8 (by simp)).1).form
      generalize (Lf 8).length = n8 at *
      obtain ⟨A9, p9, rfl⟩ := (show BS wr s9 (Lf 9) from (h_s.out 9 (by simp)).1).form
      generalize (Lf 9).length = n9 at *
      obtain ⟨A10, p10, rfl⟩ := (show BS wr s10 (Lf 10) from (h_s.out 10 (by simp)).1).form
      generalize (Lf 10).length = n10 at *
      obtain ⟨A11, p11, rfl⟩ := (show BS wr s11 (Lf 11) from (h_s.out 11 (by simp)).1).form
      generalize (Lf 11).length = n11 at *
      obtain ⟨A12, p12, rfl⟩ := (show BS wr s12 (Lf 12) from (h_s.out 12 (by simp)).1).form
      generalize (Lf 12).length = n12 at *
      obtain ⟨A13, p13, rfl⟩ := (show BS wr s13 (Lf 13) from (h_s.out 13 (by simp)).1).form
      generalize (Lf 13).length = n13 at *
      obtain ⟨A14, p14, rfl⟩ := (show BS wr s14 (Lf 14) from (h_s.out 14 (by simp)).1).form
      generalize (Lf 14).length = n14 at *
      obtain ⟨A15, p15, rfl⟩ := (show BS wr s15 (Lf 15) from (h_s.out 15 (by simp)).1).form
      generalize (Lf 15).length = n15 at *
      clear h_a hS
      go_upto_region 15 with fail
      refine wp_region_lit ?_
      refine wpList_load_row rfl CAT (.tmp 11) rfl g_a rfl CAT _ (0, 0) _ r_a.out Try.underlying110 rfl (by kernel_rfl) ?_
      refine wpList_store_row rfl CAT (.tmp 6) (.tmp 61) rfl w.heap.size _ rfl rfl CAT _ r_res.out (by kernel_rfl) rfl (by kernel_rfl) ?_
      refine wpList_nil ?_
      have R1 := setRow_heap wr w.heap.size _ #[.slice A0 n0 p0, .slice A1 n1 p1, .slice A2 n2 p2, .slice A3 n3 p3, .slice A4 n4 p4, .slice A5 n5 p5, .slice A6 n6 p6, .slice A7 n7 p7, .slice A8 n8 p8, .slice A9 n9 p9, .slice A10 n10 p10, .slice A11 n11 p11, .slice A12 n12 p12, .slice A13 n13 p13, .slice A14 n14 p14, .slice A15 n15 p15, .int .i64 x0, .int .i64 x1, .int .i64 x2, .int .i64 x3, .int .i64 y0, .int .i64 y1, .int .i64 y2, .int .i64 y3] CAT (0, 0) r_res.out
      have HB := Lib.hid (below_setRow BB.out (Nat.le_refl w.heap.size) #[.slice A0 n0 p0, .slice A1 n1 p1, .slice A2 n2 p2, .slice A3 n3 p3, .slice A4 n4 p4, .slice A5 n5 p5, .slice A6 n6 p6, .slice A7 n7 p7, .slice A8 n8 p8, .slice A9 n9 p9, .slice A10 n10 p10, .slice A11 n11 p11, .slice A12 n12 p12, .slice A13 n13 p13, .slice A14 n14 p14, .slice A15 n15 p15, .int .i64 x0, .int .i64 x1, .int .i64 x2, .int .i64 x3, .int .i64 y0, .int .i64 y1, .int .i64 y2, .int .i64 y3])
      have HS := Lib.hid (h_s.out.row #[.slice A0 n0 p0, .slice A1 n1 p1, .slice A2 n2 p2, .slice A3 n3 p3, .slice A4 n4 p4, .slice A5 n5 p5, .slice A6 n6 p6, .slice A7 n7 p7, .slice A8 n8 p8, .slice A9 n9 p9, .slice A10 n10 p10, .slice A11 n11 p11, .slice A12 n12 p12, .slice A13 n13 p13, .slice A14 n14 p14, .slice A15 n15 p15, .int .i64 x0, .int .i64 x1, .int .i64 x2, .int .i64 x3, .int .i64 y0, .int .i64 y1, .int .i64 y2, .int .i64 y3])
      clear h_s r_a r_res BB
      generalize wr.setRow w.heap.size #[.slice A0 n0 p0, .slice A1 n1 p1, .slice A2 n2 p2, .slice A3 n3 p3, .slice A4 n4 p4, .slice A5 n5 p5, .slice A6 n6 p6, .slice A7 n7 p7, .slice A8 n8 p8, .slice A9 n9 p9, .slice A10 n10 p10, .slice A11 n11 p11, .slice A12 n12 p12, .slice A13 n13 p13, .slice A14 n14 p14, .slice A15 n15 p15, .int .i64 x0, .int .i64 x1, .int .i64 x2, .int .i64 x3, .int .i64 y0, .int .i64 y1, .int .i64 y2, .int .i64 y3] = w9 at *
      go_wp2_with fail
      refine bodyPost_ret (v := .agg #[.slice A0 n0 p0, .slice A1 n1 p1, .slice A2 n2 p2, .slice A3 n3 p3, .slice A4 n4 p4, .slice A5 n5 p5, .slice A6 n6 p6, .slice A7 n7 p7, .slice A8 n8 p8, .slice A9 n9 p9, .slice A10 n10 p10, .slice A11 n11 p11, .slice A12 n12 p12, .slice A13 n13 p13, .slice A14 n14 p14, .slice A15 n15 p15, .int .i64 x0, .int .i64 x1, .int .i64 x2, .int .i64 x3, .int .i64 y0, .int .i64 y1, .int .i64 y2, .int .i64 y3]) (results_cell_row rfl _ _ w.heap.size CAT _ (0, 0) _ rfl R1 Try.underlying110 rfl (by kernel_rfl)) rfl ?_
      refine ⟨_, _, _, _, _, _, _, _, _, _, _, _, _, _, _, _, rfl, HB.out, ?_⟩
      exact ⟨HS.out 0 (by simp), HS.out 1 (by simp), HS.out 2 (by simp), HS.out 3 (by simp), HS.out 4 (by simp), HS.out 5 (by simp), HS.out 6 (by simp), HS.out 7 (by simp), HS.out 8 (by simp), HS.out 9 (by simp), HS.out 10 (by simp), HS.out 11 (by simp), HS.out 12 (by simp), HS.out 13 (by simp), HS.out 14 (by simp), HS.out 15 (by simp)⟩
end Go.Proofs.Ytnklbnphiokpiaa
