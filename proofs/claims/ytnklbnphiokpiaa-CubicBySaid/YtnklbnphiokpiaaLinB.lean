/- What law 29 asks for a pixel. | Contracts of linear.By with what law 29 asks for. | ref27.Linear, and ref29.Mix of four pixels. | The walk of LinearBy. -/
import Derived.Test.YtnklbnphiokpiaaLnR
import Derived.Test.YtnklbnphiokpiaaRegG
import Derived.Test.YtnklbnphiokpiaaMix
set_option linter.unusedVariables false
set_option linter.unusedSimpArgs false
namespace Go.Proofs.Ytnklbnphiokpiaa
open Go.RowKit
abbrev A29 : TypeId := 82
set_option maxRecDepth 100000 in
set_option maxHeartbeats 4000000 in
theorem get29 (g n cap : Nat) (sA : Option Addr) (L : List Int) (fx fy dx dy : Int) (hx : -1073741824 ≤ fx ∧ fx ≤ 1073741824) (hy : -1073741824 ≤ fy ∧ fy ≤ 1073741824) (hd : (dx = 0 ∨ dx = 1) ∧ (dy = 0 ∨ dy = 1)) (w : World) (hg : AtB w g #[.slice sA n cap, .int .i64 fx, .int .i64 fy, .bool false] A29) :
    Calls Try.prog 53 #[.pointer (some ⟨g, 0, none⟩), .int .i64 (fx + dx), .int .i64 (fy + dy)] w fun e w' => e = .returned (if dx = 0 then .slice sA n cap else .slice none 0 0) ∧ Below w.heap.size w w' := by
  have c0 : w.cell? ⟨g, 0, none⟩ = some (.slice sA n cap) := hg.cell 0 rfl
  have c1 : w.cell? ⟨g, 1, none⟩ = some (.int .i64 fx) := hg.cell 1 rfl
  have c2 : w.cell? ⟨g, 2, none⟩ = some (.int .i64 fy) := hg.cell 2 rfl
  have hlt := hg.lt
  have d1 : decide (fx + dx < fx) = false := decide_eq_false (by omega)
  have d2 : decide (fx + dx > fx + 1) = false := decide_eq_false (by omega)
  have d3 : decide (fy + dy < fy) = false := decide_eq_false (by omega)
  have d4 : decide (fy + dy > fy + 1) = false := decide_eq_false (by omega)
  obtain ⟨X, hX⟩ : ∃ X, X = fx + dx := ⟨_, rfl⟩
  obtain ⟨Y, hY⟩ : ∃ Y, Y = fy + dy := ⟨_, rfl⟩
  obtain ⟨X1, hX1⟩ : ∃ X, X = fx + 1 := ⟨_, rfl⟩
  obtain ⟨Y1, hY1⟩ : ∃ X, X = fy + 1 := ⟨_, rfl⟩
  rw [← hX] at d1 d2 ⊢
  rw [← hY] at d3 d4 ⊢
  rw [← hX1] at d2
  rw [← hY1] at d4
  have e1 : IntKind.i64.wrap (fx + 1) = X1 := by rw [hX1]; exact iw (by omega)
  have e2 : IntKind.i64.wrap (fy + 1) = Y1 := by rw [hY1]; exact iw (by omega)
  rcases hd.1 with rfl | rfl
  · have dd : decide (X = X1) = false := decide_eq_false (by omega)
    have dn : ¬ X = X1 := by omega
    clear hX hY hX1 hY1 hx hy hd
    go_enter Try.func53, Try.ntmps53
    go_wp2
    go_ret
    exact ⟨rfl, Below.refl _ _⟩
  · obtain rfl : X = X1 := by omega
    clear hX hY hX1 hY1 hx hy hd
    go_enter Try.func53, Try.ntmps53
    go_wp2
    go_ret
    exact ⟨rfl, Below.refl _ _⟩
end Go.Proofs.Ytnklbnphiokpiaa

set_option linter.unusedVariables false
set_option linter.unusedSimpArgs false
namespace Go.Proofs.Ytnklbnphiokpiaa
open Go.RowKit
def SB2 (w : World) (s : Value) (L : List Int) (g r : Nat) : Prop := BS w s L ∧ (L ≠ [] → ∀ a n cap, s = .slice (some a) n cap → a.block ≠ g ∧ a.block ≠ r)
theorem SB2.below {w w1 : World} {s : Value} {L : List Int} {g r : Nat} (h : SB2 w s L g r) (hb : Below w.heap.size w w1) : SB2 w1 s L g r := ⟨BS.below h.1 hb, h.2⟩
theorem bs_set_far2 {w : World} {s : Value} {L : List Int} {g : Nat} (h : BS w s L) (h2 : L ≠ [] → ∀ a n cap, s = .slice (some a) n cap → a.block ≠ g) (o : Nat) (u : Value) : BS (w.setCell ⟨g, o, none⟩ u) s L := by
  obtain ⟨A, cap, rfl, h1, h3, h5, h4⟩ := h
  refine ⟨A, cap, rfl, h1, h3, h5, fun hz => ?_⟩
  obtain ⟨b, off, rfl, hlt, hc⟩ := h4 hz
  have hne := h2 hz ⟨b, off, none⟩ L.length cap rfl
  refine ⟨b, off, rfl, by simpa using hlt, fun i hi => ?_⟩
  rw [← hc i hi]
  have hh := Below.heap_setCell w ⟨g, o, none⟩ u b hne
  simp only [World.cell?]
  rw [hh]
theorem SB2.set {w : World} {s : Value} {L : List Int} {g r : Nat} (h : SB2 w s L g r) (o : Nat) (u : Value) : SB2 (w.setCell ⟨g, o, none⟩ u) s L g r := ⟨bs_set_far2 h.1 (fun hL a n c e => (h.2 hL a n c e).1) o u, h.2⟩
theorem SB2.setr {w : World} {s : Value} {L : List Int} {g r : Nat} (h : SB2 w s L g r) (o : Nat) (u : Value) : SB2 (w.setCell ⟨r, o, none⟩ u) s L g r := ⟨bs_set_far2 h.1 (fun hL a n c e => (h.2 hL a n c e).2) o u, h.2⟩
/-- What is asked for a pixel answers with bytes, in old memory or in new one. -/
def GiveGet2 (w0 : World) (L : List Int) (w : World) (e : Ending) (w' : World) : Prop := ∃ A n cap, e = .returned (.slice A n cap) ∧ Below w.heap.size w w' ∧ BS w' (.slice A n cap) L ∧ (L ≠ [] → ∀ a, A = some a → a.block < w0.heap.size ∨ w.heap.size ≤ a.block)
theorem GiveGet2.sb {w0 w w' : World} {L : List Int} {A : Option Addr} {n cap g : Nat} (h : BS w' (.slice A n cap) L) (ha : L ≠ [] → ∀ a, A = some a → a.block < w0.heap.size ∨ w.heap.size ≤ a.block) (h0 : w0.heap.size ≤ g) (h1 : g < w.heap.size) : SB2 w' (.slice A n cap) L g w0.heap.size := by
  refine ⟨h, fun hL a n' cap' e => ?_⟩
  simp only [Value.slice.injEq] at e
  have := ha hL a e.1
  omega
theorem GiveGet2.up {w w0 w1 w2 : World} {L : List Int} {e : Ending} (h : GiveGet2 w L w1 e w2) (hb : Below w.heap.size w w0) : GiveGet2 w0 L w1 e w2 := by
  obtain ⟨A, n, cap, h1, h2, h3, h4⟩ := h
  refine ⟨A, n, cap, h1, h2, h3, fun hL a e => ?_⟩
  have := hb.size
  have := h4 hL a e
  omega
set_option maxRecDepth 100000 in
set_option maxHeartbeats 16000000 in
theorem ylook (cp : Value) (L0 L1 L2 L3 : List Int) (u v : Int) (hu : inB u 70368744177664 = true) (hv : inB v 70368744177664 = true) (w : World)
    (C0 : ∀ w1, Below w.heap.size w w1 → Calls Try.prog 53 #[cp, .int .i64 (u / 65536), .int .i64 (v / 65536)] w1 (GiveGet2 w L0 w1))
    (C1 : ∀ w1, Below w.heap.size w w1 → Calls Try.prog 53 #[cp, .int .i64 (u / 65536 + 1), .int .i64 (v / 65536)] w1 (GiveGet2 w L1 w1))
    (C2 : ∀ w1, Below w.heap.size w w1 → Calls Try.prog 53 #[cp, .int .i64 (u / 65536), .int .i64 (v / 65536 + 1)] w1 (GiveGet2 w L2 w1))
    (C3 : ∀ w1, Below w.heap.size w w1 → Calls Try.prog 53 #[cp, .int .i64 (u / 65536 + 1), .int .i64 (v / 65536 + 1)] w1 (GiveGet2 w L3 w1)) :
    Calls Try.prog 88 #[.func (.func 53) #[cp] #[], .int .i64 u, .int .i64 v] w
      (GiveLook L0 L1 L2 L3 ((65536 - u % 65536) * (65536 - v % 65536)) (u % 65536 * (65536 - v % 65536)) ((65536 - u % 65536) * (v % 65536)) (u % 65536 * (v % 65536)) w) := by
  obtain ⟨u0, u1⟩ := inB_iff.1 hu
  obtain ⟨v0, v1⟩ := inB_iff.1 hv
  have SU := Lib.hid (fun w => wsplit u w)
  have SV := Lib.hid (fun w => wsplit v w)
  have LU := Lib.hid (fun w => wlinear_in (u % 65536) (by omega) (by omega) w)
  have LV := Lib.hid (fun w => wlinear_in (v % 65536) (by omega) (by omega) w)
  have bi : -1073741824 ≤ u / 65536 ∧ u / 65536 ≤ 1073741824 := by omega
  have bk : -1073741824 ≤ v / 65536 ∧ v / 65536 ≤ 1073741824 := by omega
  have bf : 0 ≤ u % 65536 ∧ u % 65536 ≤ 65536 := by omega
  have bg : 0 ≤ v % 65536 ∧ v % 65536 ≤ 65536 := by omega
  clear hu hv u0 u1 v0 v1
  generalize u / 65536 = i at *
  generalize v / 65536 = k at *
  generalize u % 65536 = f at *
  generalize v % 65536 = g at *
  obtain ⟨f', hf'⟩ : ∃ f', f' = 65536 - f := ⟨_, rfl⟩
  obtain ⟨g', hg'⟩ : ∃ g', g' = 65536 - g := ⟨_, rfl⟩
  rw [← hf'] at LU ⊢
  rw [← hg'] at LV ⊢
  have m0 := mul_in (show -65536 ≤ f' ∧ f' ≤ 65536 by omega) (show -65536 ≤ g' ∧ g' ≤ 65536 by omega)
  have m1 := mul_in (show -65536 ≤ f ∧ f ≤ 65536 by omega) (show -65536 ≤ g' ∧ g' ≤ 65536 by omega)
  have m2 := mul_in (show -65536 ≤ f' ∧ f' ≤ 65536 by omega) (show -65536 ≤ g ∧ g ≤ 65536 by omega)
  have m3 := mul_in (show -65536 ≤ f ∧ f ≤ 65536 by omega) (show -65536 ≤ g ∧ g ≤ 65536 by omega)
  have e0 : IntKind.i64.wrap (f' * g') = f' * g' := iw (by omega)
  have e1 : IntKind.i64.wrap (f * g') = f * g' := iw (by omega)
  have e2 : IntKind.i64.wrap (f' * g) = f' * g := iw (by omega)
  have e3 : IntKind.i64.wrap (f * g) = f * g := iw (by omega)
  have C0 := Lib.hid C0; have C1 := Lib.hid C1; have C2 := Lib.hid C2; have C3 := Lib.hid C3
  clear hf' hg' m0 m1 m2 m3 bf bg
  have hq0 : IntKind.i64.wrap 0 = 0 := by decide
  have hq1 : IntKind.i64.wrap 1 = 1 := by decide
  go_enter Try.func88, Try.ntmps88
  go_wp2_with fail
  have BB := start1 w #[.slice none 0 0, .slice none 0 0, .slice none 0 0, .slice none 0 0, .int .i64 0, .int .i64 0, .int .i64 0, .int .i64 0] ART
  obtain ⟨BB, hsz, r_res⟩ := BB
  generalize (w.alloc (.cells #[.slice none 0 0, .slice none 0 0, .slice none 0 0, .slice none 0 0, .int .i64 0, .int .i64 0, .int .i64 0, .int .i64 0] ART)) = w0 at *
  replace BB := Lib.hid BB
  replace r_res := Lib.hid r_res
  clear hsz
  refine (SU.out _).mono ?_
  rintro e w9 ⟨rfl, rfl⟩
  go_wp2_with fail
  refine (SV.out _).mono ?_
  rintro e w9 ⟨rfl, rfl⟩
  go_wp2_with fail
  refine (LU.out _).mono ?_
  rintro e w1 ⟨rfl, hb⟩
  replace r_res := Lib.hid (r_res.out.keep hb)
  replace BB := Lib.hid (below_next BB.out hb)
  clear hb
  go_wp2_with fail
  have d_x := Lib.hid (And.intro BB.out.size (And.intro r_res.out.lt (True.intro)))
  obtain ⟨hb, r_x⟩ := laid w1 #[.int .i64 f', .int .i64 f] P2T
  replace r_res := Lib.hid (r_res.out.keep hb)
  replace BB := Lib.hid (below_next BB.out hb)
  replace r_x := Lib.hid r_x
  clear hb
  generalize w1.alloc (.cells #[.int .i64 f', .int .i64 f] P2T) = w2 at *
  generalize w1.heap.size = g_x at *
  refine (LV.out _).mono ?_
  rintro e w3 ⟨rfl, hb⟩
  replace r_res := Lib.hid (r_res.out.keep hb)
  replace r_x := Lib.hid (r_x.out.keep hb)
  replace BB := Lib.hid (below_next BB.out hb)
  clear hb
  go_upto_region 5 with fail
  have d_y := Lib.hid (And.intro BB.out.size (And.intro r_res.out.lt (And.intro r_x.out.lt (True.intro))))
  obtain ⟨hb, r_y⟩ := laid w3 #[.int .i64 g', .int .i64 g] P2T
  replace r_res := Lib.hid (r_res.out.keep hb)
  replace r_x := Lib.hid (r_x.out.keep hb)
  replace BB := Lib.hid (below_next BB.out hb)
  replace r_y := Lib.hid r_y
  clear hb
  generalize w3.alloc (.cells #[.int .i64 g', .int .i64 g] P2T) = w4 at *
  generalize w3.heap.size = g_y at *
  go_wp2_with fail
  have d_a := Lib.hid (And.intro BB.out.size (And.intro r_res.out.lt (And.intro r_x.out.lt (And.intro r_y.out.lt (True.intro)))))
  obtain ⟨hb, r_a⟩ := laid w4 #[.slice none 0 0, .slice none 0 0, .slice none 0 0, .slice none 0 0, .int .i64 0, .int .i64 0, .int .i64 0, .int .i64 0] ART
  replace r_res := Lib.hid (r_res.out.keep hb)
  replace r_x := Lib.hid (r_x.out.keep hb)
  replace r_y := Lib.hid (r_y.out.keep hb)
  replace BB := Lib.hid (below_next BB.out hb)
  replace r_a := Lib.hid r_a
  clear hb
  generalize w4.alloc (.cells #[.slice none 0 0, .slice none 0 0, .slice none 0 0, .slice none 0 0, .int .i64 0, .int .i64 0, .int .i64 0, .int .i64 0] ART) = w5 at *
  generalize w4.heap.size = g_a at *
  have hsz := Lib.hid r_a.out.lt
  refine wp_loop_rounds 5 ?_
  rw [rounds_succ]
  go_wp2_with fail
  refine (C0.out _ BB.out).mono ?_
  rintro e w6 ⟨A0, n0, p0, rfl, hb, hs, ha⟩
  replace r_res := Lib.hid (r_res.out.keep hb)
  replace r_x := Lib.hid (r_x.out.keep hb)
  replace r_y := Lib.hid (r_y.out.keep hb)
  replace r_a := Lib.hid (r_a.out.keep hb)
  replace BB := Lib.hid (below_next BB.out hb)
  clear hb
  have h_s0 := Lib.hid (GiveGet2.sb (g := g_a) hs ha d_a.out.1 hsz.out)
  clear hs ha hsz
  obtain ⟨c_a0, c_a1, c_a2, c_a3, c_a4, c_a5, c_a6, c_a7, f_a0, f_a1, f_a2, f_a3, f_a4, f_a5, f_a6, f_a7⟩ := reads8 r_a.out
  have l_a := r_a.out.lt
  go_upto_region 10 with fail
  clear c_a0 c_a1 c_a2 c_a3 c_a4 c_a5 c_a6 c_a7 f_a0 f_a1 f_a2 f_a3 f_a4 f_a5 f_a6 f_a7 l_a
  replace r_res := Lib.hid (r_res.out.far (p := g_a) (by have dd_a := d_a.out; omega) 0 (.slice A0 n0 p0))
  replace r_x := Lib.hid (r_x.out.far (p := g_a) (by have dd_x := d_x.out; have dd_a := d_a.out; omega) 0 (.slice A0 n0 p0))
  replace r_y := Lib.hid (r_y.out.far (p := g_a) (by have dd_y := d_y.out; have dd_a := d_a.out; omega) 0 (.slice A0 n0 p0))
  replace r_a := Lib.hid (show AtB (w6.setCell ⟨g_a, 0, none⟩ (.slice A0 n0 p0)) (g_a) #[.slice A0 n0 p0, .slice none 0 0, .slice none 0 0, .slice none 0 0, .int .i64 0, .int .i64 0, .int .i64 0, .int .i64 0] ART from by have k := (r_a.out.set_n 0 (.slice A0 n0 p0)); simpa using k)
  replace BB := Lib.hid (below_set BB.out (b := g_a) (o := 0) (by have dd := d_a.out; omega) (.slice A0 n0 p0))
  replace h_s0 := Lib.hid (SB2.set h_s0.out 0 (.slice A0 n0 p0))
  generalize (w6.setCell ⟨g_a, 0, none⟩ (.slice A0 n0 p0)) = w7 at *
  have KK := Lib.hid (fun (w9 : World) (h : Below w7.heap.size w7 w9) => (⟨cells2 (r_x.out.keep h), cells2 (r_y.out.keep h)⟩ : (w9.cell? ⟨g_x, 0, none⟩ = some (.int .i64 f') ∧ w9.cell? ⟨g_x, 1, none⟩ = some (.int .i64 f)) ∧ (w9.cell? ⟨g_y, 0, none⟩ = some (.int .i64 g') ∧ w9.cell? ⟨g_y, 1, none⟩ = some (.int .i64 g))))
  have K0 := KK.out w7 (Below.refl _ _)
  have KD := KK.out w7.drew (below_drew (Below.refl _ _))
  obtain ⟨rc_a0, rc_a1, rc_a2, rc_a3, rc_a4, rc_a5, rc_a6, rc_a7, rf_a0, rf_a1, rf_a2, rf_a3, rf_a4, rf_a5, rf_a6, rf_a7⟩ := reads8 r_a.out
  have rl_a := r_a.out.lt
  refine AnyG.begin_ (fun w9 => (w9.cell? ⟨g_x, 0, none⟩ = some (.int .i64 f') ∧ w9.cell? ⟨g_x, 1, none⟩ = some (.int .i64 f)) ∧ (w9.cell? ⟨g_y, 0, none⟩ = some (.int .i64 g') ∧ w9.cell? ⟨g_y, 1, none⟩ = some (.int .i64 g))) 12 (by kernel_rfl) ?_
  refine AnyG.take (i := 0) (v := ?_) rfl (by kernel_rfl) (by kernel_rfl) (by kernel_rfl) (fun _ _ _ h => h) (by kernel_rfl) (by kernel_rfl) (Or.inl ⟨by rfl, ?_⟩) (by assumption) ?_
  rotate_left
  · intro w9 hSw; (try dsimp only at hSw); go_simp <;> with_reducible rfl
  try simp only [Act.put, List.getElem_toArray, List.getElem_cons_zero, List.getElem_cons_succ, List.setIfInBounds_toArray, List.set_cons_zero, List.set_cons_succ]
  refine AnyG.take (i := 1) (v := ?_) rfl (by kernel_rfl) (by kernel_rfl) (by kernel_rfl) (fun _ _ _ h => h) (by kernel_rfl) (by kernel_rfl) (Or.inl ⟨by rfl, ?_⟩) (by assumption) ?_
  rotate_left
  · intro w9 hSw; (try dsimp only at hSw); go_simp <;> with_reducible rfl
  try simp only [Act.put, List.getElem_toArray, List.getElem_cons_zero, List.getElem_cons_succ, List.setIfInBounds_toArray, List.set_cons_zero, List.set_cons_succ]
  refine AnyG.take (i := 2) (v := ?_) rfl (by kernel_rfl) (by kernel_rfl) (by kernel_rfl) (fun _ _ _ h => h) (by kernel_rfl) (by kernel_rfl) (Or.inl ⟨by rfl, ?_⟩) (by assumption) ?_
  rotate_left
  · intro w9 hSw; (try dsimp only at hSw); go_simp <;> with_reducible rfl
  try simp only [Act.put, List.getElem_toArray, List.getElem_cons_zero, List.getElem_cons_succ, List.setIfInBounds_toArray, List.set_cons_zero, List.set_cons_succ]
  refine AnyG.take (i := 3) (v := ?_) rfl (by kernel_rfl) (by kernel_rfl) (by kernel_rfl) (fun _ _ _ h => h) (by kernel_rfl) (by kernel_rfl) (Or.inl ⟨by rfl, ?_⟩) (by assumption) ?_
  rotate_left
  · intro w9 hSw; (try dsimp only at hSw); go_simp <;> with_reducible rfl
  try simp only [Act.put, List.getElem_toArray, List.getElem_cons_zero, List.getElem_cons_succ, List.setIfInBounds_toArray, List.set_cons_zero, List.set_cons_succ]
  refine AnyG.take (i := 4) (v := ?_) rfl (by kernel_rfl) (by kernel_rfl) (by kernel_rfl) (fun _ _ _ h => h) (by kernel_rfl) (by kernel_rfl) (Or.inl ⟨by rfl, ?_⟩) (by assumption) ?_
  rotate_left
  · intro w9 hSw; (try dsimp only at hSw); go_simp <;> with_reducible rfl
  try simp only [Act.put, List.getElem_toArray, List.getElem_cons_zero, List.getElem_cons_succ, List.setIfInBounds_toArray, List.set_cons_zero, List.set_cons_succ]
  refine AnyG.take (i := 5) (v := ?_) rfl (by kernel_rfl) (by kernel_rfl) (by kernel_rfl) (fun _ _ _ h => h) (by kernel_rfl) (by kernel_rfl) (Or.inl ⟨by rfl, ?_⟩) (by assumption) ?_
  rotate_left
  · intro w9 hSw; (try dsimp only at hSw); go_simp <;> with_reducible rfl
  try simp only [Act.put, List.getElem_toArray, List.getElem_cons_zero, List.getElem_cons_succ, List.setIfInBounds_toArray, List.set_cons_zero, List.set_cons_succ]
  refine AnyG.take (i := 6) (v := ?_) rfl (by kernel_rfl) (by kernel_rfl) (by kernel_rfl) (fun _ _ _ h => h) (by kernel_rfl) (by kernel_rfl) (Or.inl ⟨by rfl, ?_⟩) (by assumption) ?_
  rotate_left
  · intro w9 hSw; (try dsimp only at hSw); go_simp <;> with_reducible rfl
  try simp only [Act.put, List.getElem_toArray, List.getElem_cons_zero, List.getElem_cons_succ, List.setIfInBounds_toArray, List.set_cons_zero, List.set_cons_succ]
  refine AnyG.take (i := 7) (v := ?_) rfl (by kernel_rfl) (by kernel_rfl) (by kernel_rfl) (fun _ _ _ h => h) (by kernel_rfl) (by kernel_rfl) (Or.inl ⟨by rfl, ?_⟩) (by assumption) ?_
  rotate_left
  · intro w9 hSw; (try dsimp only at hSw); go_simp <;> with_reducible rfl
  try simp only [Act.put, List.getElem_toArray, List.getElem_cons_zero, List.getElem_cons_succ, List.setIfInBounds_toArray, List.set_cons_zero, List.set_cons_succ]
  refine AnyG.take (i := 8) (v := ?_) rfl (by kernel_rfl) (by kernel_rfl) (by kernel_rfl) (fun _ _ _ h => h) (by kernel_rfl) (by kernel_rfl) (Or.inl ⟨by rfl, ?_⟩) (by assumption) ?_
  rotate_left
  · intro w9 hSw; (try dsimp only at hSw); go_simp <;> with_reducible rfl
  try simp only [Act.put, List.getElem_toArray, List.getElem_cons_zero, List.getElem_cons_succ, List.setIfInBounds_toArray, List.set_cons_zero, List.set_cons_succ]
  refine AnyG.take (i := 9) (v := ?_) rfl (by kernel_rfl) (by kernel_rfl) (by kernel_rfl) (fun _ _ _ h => h) (by kernel_rfl) (by kernel_rfl) (Or.inl ⟨by rfl, ?_⟩) (by assumption) ?_
  rotate_left
  · intro w9 hSw; (try dsimp only at hSw); go_simp <;> with_reducible rfl
  try simp only [Act.put, List.getElem_toArray, List.getElem_cons_zero, List.getElem_cons_succ, List.setIfInBounds_toArray, List.set_cons_zero, List.set_cons_succ]
  refine AnyG.take (i := 10) (v := ?_) rfl (by kernel_rfl) (by kernel_rfl) (by kernel_rfl) (fun _ _ _ h => h) (by kernel_rfl) (by kernel_rfl) (Or.inl ⟨by rfl, ?_⟩) (by assumption) ?_
  rotate_left
  · intro w9 hSw; (try dsimp only at hSw); go_simp <;> with_reducible rfl
  try simp only [Act.put, List.getElem_toArray, List.getElem_cons_zero, List.getElem_cons_succ, List.setIfInBounds_toArray, List.set_cons_zero, List.set_cons_succ]
  refine AnyG.take (i := 11) (v := ?_) rfl (by kernel_rfl) (by kernel_rfl) (by kernel_rfl) (fun _ _ _ h => h) (by kernel_rfl) (by kernel_rfl) (Or.inl ⟨by rfl, ?_⟩) (by assumption) ?_
  rotate_left
  · intro w9 hSw; (try dsimp only at hSw); go_simp <;> with_reducible rfl
  try simp only [Act.put, List.getElem_toArray, List.getElem_cons_zero, List.getElem_cons_succ, List.setIfInBounds_toArray, List.set_cons_zero, List.set_cons_succ]
  refine AnyG.step (i := 12) (by kernel_rfl) rfl (fun K hK => ?_)
  go_simp
  refine hK.out _ _ (fun h => absurd h (by decide)) (fun _ => ?_)
  clear hK
  try simp only [Act.put, List.getElem_toArray, List.getElem_cons_zero, List.getElem_cons_succ, List.setIfInBounds_toArray, List.set_cons_zero, List.set_cons_succ]
  refine AnyG.done (by kernel_rfl) ?_ _
  clear KK K0 KD
  clear rc_a0 rc_a1 rc_a2 rc_a3 rc_a4 rc_a5 rc_a6 rc_a7 rf_a0 rf_a1 rf_a2 rf_a3 rf_a4 rf_a5 rf_a6 rf_a7 rl_a
  replace r_res := Lib.hid (r_res.out.far (p := g_a) (by have dd_a := d_a.out; omega) 4 (.int .i64 (f' * g')))
  replace r_x := Lib.hid (r_x.out.far (p := g_a) (by have dd_x := d_x.out; have dd_a := d_a.out; omega) 4 (.int .i64 (f' * g')))
  replace r_y := Lib.hid (r_y.out.far (p := g_a) (by have dd_y := d_y.out; have dd_a := d_a.out; omega) 4 (.int .i64 (f' * g')))
  replace r_a := Lib.hid (show AtB (w7.setCell ⟨g_a, 4, none⟩ (.int .i64 (f' * g'))) (g_a) #[.slice A0 n0 p0, .slice none 0 0, .slice none 0 0, .slice none 0 0, .int .i64 (f' * g'), .int .i64 0, .int .i64 0, .int .i64 0] ART from by have k := (r_a.out.set_n 4 (.int .i64 (f' * g'))); simpa using k)
  replace BB := Lib.hid (below_set BB.out (b := g_a) (o := 4) (by have dd := d_a.out; omega) (.int .i64 (f' * g')))
  replace h_s0 := Lib.hid (SB2.set h_s0.out 4 (.int .i64 (f' * g')))
  generalize (w7.setCell ⟨g_a, 4, none⟩ (.int .i64 (f' * g'))) = w8 at *
  have hb := below_drew (Below.refl w8.heap.size w8)
  generalize w8.drew = w10 at *
  replace r_res := Lib.hid (r_res.out.keep hb)
  replace r_x := Lib.hid (r_x.out.keep hb)
  replace r_y := Lib.hid (r_y.out.keep hb)
  replace r_a := Lib.hid (r_a.out.keep hb)
  replace h_s0 := Lib.hid (SB2.below h_s0.out hb)
  replace BB := Lib.hid (below_next BB.out hb)
  clear hb
  have hsz := Lib.hid r_a.out.lt
  go_wp2_with fail
  rw [rounds_succ]
  go_wp2_with fail
  refine (C1.out _ BB.out).mono ?_
  rintro e w11 ⟨A1, n1, p1, rfl, hb, hs, ha⟩
  replace r_res := Lib.hid (r_res.out.keep hb)
  replace r_x := Lib.hid (r_x.out.keep hb)
  replace r_y := Lib.hid (r_y.out.keep hb)
  replace r_a := Lib.hid (r_a.out.keep hb)
  replace h_s0 := Lib.hid (SB2.below h_s0.out hb)
  replace BB := Lib.hid (below_next BB.out hb)
  clear hb
  have h_s1 := Lib.hid (GiveGet2.sb (g := g_a) hs ha d_a.out.1 hsz.out)
  clear hs ha hsz
  obtain ⟨c_a0, c_a1, c_a2, c_a3, c_a4, c_a5, c_a6, c_a7, f_a0, f_a1, f_a2, f_a3, f_a4, f_a5, f_a6, f_a7⟩ := reads8 r_a.out
  have l_a := r_a.out.lt
  go_upto_region 10 with fail
  clear c_a0 c_a1 c_a2 c_a3 c_a4 c_a5 c_a6 c_a7 f_a0 f_a1 f_a2 f_a3 f_a4 f_a5 f_a6 f_a7 l_a
  replace r_res := Lib.hid (r_res.out.far (p := g_a) (by have dd_a := d_a.out; omega) 1 (.slice A1 n1 p1))
  replace r_x := Lib.hid (r_x.out.far (p := g_a) (by have dd_x := d_x.out; have dd_a := d_a.out; omega) 1 (.slice A1 n1 p1))
  replace r_y := Lib.hid (r_y.out.far (p := g_a) (by have dd_y := d_y.out; have dd_a := d_a.out; omega) 1 (.slice A1 n1 p1))
  replace r_a := Lib.hid (show AtB (w11.setCell ⟨g_a, 1, none⟩ (.slice A1 n1 p1)) (g_a) #[.slice A0 n0 p0, .slice A1 n1 p1, .slice none 0 0, .slice none 0 0, .int .i64 (f' * g'), .int .i64 0, .int .i64 0, .int .i64 0] ART from by have k := (r_a.out.set_n 1 (.slice A1 n1 p1)); simpa using k)
  replace BB := Lib.hid (below_set BB.out (b := g_a) (o := 1) (by have dd := d_a.out; omega) (.slice A1 n1 p1))
  replace h_s0 := Lib.hid (SB2.set h_s0.out 1 (.slice A1 n1 p1))
  replace h_s1 := Lib.hid (SB2.set h_s1.out 1 (.slice A1 n1 p1))
  generalize (w11.setCell ⟨g_a, 1, none⟩ (.slice A1 n1 p1)) = w12 at *
  have KK := Lib.hid (fun (w9 : World) (h : Below w12.heap.size w12 w9) => (⟨cells2 (r_x.out.keep h), cells2 (r_y.out.keep h)⟩ : (w9.cell? ⟨g_x, 0, none⟩ = some (.int .i64 f') ∧ w9.cell? ⟨g_x, 1, none⟩ = some (.int .i64 f)) ∧ (w9.cell? ⟨g_y, 0, none⟩ = some (.int .i64 g') ∧ w9.cell? ⟨g_y, 1, none⟩ = some (.int .i64 g))))
  have K0 := KK.out w12 (Below.refl _ _)
  have KD := KK.out w12.drew (below_drew (Below.refl _ _))
  obtain ⟨rc_a0, rc_a1, rc_a2, rc_a3, rc_a4, rc_a5, rc_a6, rc_a7, rf_a0, rf_a1, rf_a2, rf_a3, rf_a4, rf_a5, rf_a6, rf_a7⟩ := reads8 r_a.out
  have rl_a := r_a.out.lt
  refine AnyG.begin_ (fun w9 => (w9.cell? ⟨g_x, 0, none⟩ = some (.int .i64 f') ∧ w9.cell? ⟨g_x, 1, none⟩ = some (.int .i64 f)) ∧ (w9.cell? ⟨g_y, 0, none⟩ = some (.int .i64 g') ∧ w9.cell? ⟨g_y, 1, none⟩ = some (.int .i64 g))) 12 (by kernel_rfl) ?_
  refine AnyG.take (i := 0) (v := ?_) rfl (by kernel_rfl) (by kernel_rfl) (by kernel_rfl) (fun _ _ _ h => h) (by kernel_rfl) (by kernel_rfl) (Or.inl ⟨by rfl, ?_⟩) (by assumption) ?_
  rotate_left
  · intro w9 hSw; (try dsimp only at hSw); go_simp <;> with_reducible rfl
  try simp only [Act.put, List.getElem_toArray, List.getElem_cons_zero, List.getElem_cons_succ, List.setIfInBounds_toArray, List.set_cons_zero, List.set_cons_succ]
  refine AnyG.take (i := 1) (v := ?_) rfl (by kernel_rfl) (by kernel_rfl) (by kernel_rfl) (fun _ _ _ h => h) (by kernel_rfl) (by kernel_rfl) (Or.inl ⟨by rfl, ?_⟩) (by assumption) ?_
  rotate_left
  · intro w9 hSw; (try dsimp only at hSw); go_simp <;> with_reducible rfl
  try simp only [Act.put, List.getElem_toArray, List.getElem_cons_zero, List.getElem_cons_succ, List.setIfInBounds_toArray, List.set_cons_zero, List.set_cons_succ]
  refine AnyG.take (i := 2) (v := ?_) rfl (by kernel_rfl) (by kernel_rfl) (by kernel_rfl) (fun _ _ _ h => h) (by kernel_rfl) (by kernel_rfl) (Or.inl ⟨by rfl, ?_⟩) (by assumption) ?_
  rotate_left
  · intro w9 hSw; (try dsimp only at hSw); go_simp <;> with_reducible rfl
  try simp only [Act.put, List.getElem_toArray, List.getElem_cons_zero, List.getElem_cons_succ, List.setIfInBounds_toArray, List.set_cons_zero, List.set_cons_succ]
  refine AnyG.take (i := 3) (v := ?_) rfl (by kernel_rfl) (by kernel_rfl) (by kernel_rfl) (fun _ _ _ h => h) (by kernel_rfl) (by kernel_rfl) (Or.inl ⟨by rfl, ?_⟩) (by assumption) ?_
  rotate_left
  · intro w9 hSw; (try dsimp only at hSw); go_simp <;> with_reducible rfl
  try simp only [Act.put, List.getElem_toArray, List.getElem_cons_zero, List.getElem_cons_succ, List.setIfInBounds_toArray, List.set_cons_zero, List.set_cons_succ]
  refine AnyG.take (i := 4) (v := ?_) rfl (by kernel_rfl) (by kernel_rfl) (by kernel_rfl) (fun _ _ _ h => h) (by kernel_rfl) (by kernel_rfl) (Or.inl ⟨by rfl, ?_⟩) (by assumption) ?_
  rotate_left
  · intro w9 hSw; (try dsimp only at hSw); go_simp <;> with_reducible rfl
  try simp only [Act.put, List.getElem_toArray, List.getElem_cons_zero, List.getElem_cons_succ, List.setIfInBounds_toArray, List.set_cons_zero, List.set_cons_succ]
  refine AnyG.take (i := 5) (v := ?_) rfl (by kernel_rfl) (by kernel_rfl) (by kernel_rfl) (fun _ _ _ h => h) (by kernel_rfl) (by kernel_rfl) (Or.inl ⟨by rfl, ?_⟩) (by assumption) ?_
  rotate_left
  · intro w9 hSw; (try dsimp only at hSw); go_simp <;> with_reducible rfl
  try simp only [Act.put, List.getElem_toArray, List.getElem_cons_zero, List.getElem_cons_succ, List.setIfInBounds_toArray, List.set_cons_zero, List.set_cons_succ]
  refine AnyG.take (i := 6) (v := ?_) rfl (by kernel_rfl) (by kernel_rfl) (by kernel_rfl) (fun _ _ _ h => h) (by kernel_rfl) (by kernel_rfl) (Or.inl ⟨by rfl, ?_⟩) (by assumption) ?_
  rotate_left
  · intro w9 hSw; (try dsimp only at hSw); go_simp <;> with_reducible rfl
  try simp only [Act.put, List.getElem_toArray, List.getElem_cons_zero, List.getElem_cons_succ, List.setIfInBounds_toArray, List.set_cons_zero, List.set_cons_succ]
  refine AnyG.take (i := 7) (v := ?_) rfl (by kernel_rfl) (by kernel_rfl) (by kernel_rfl) (fun _ _ _ h => h) (by kernel_rfl) (by kernel_rfl) (Or.inl ⟨by rfl, ?_⟩) (by assumption) ?_
  rotate_left
  · intro w9 hSw; (try dsimp only at hSw); go_simp <;> with_reducible rfl
  try simp only [Act.put, List.getElem_toArray, List.getElem_cons_zero, List.getElem_cons_succ, List.setIfInBounds_toArray, List.set_cons_zero, List.set_cons_succ]
  refine AnyG.take (i := 8) (v := ?_) rfl (by kernel_rfl) (by kernel_rfl) (by kernel_rfl) (fun _ _ _ h => h) (by kernel_rfl) (by kernel_rfl) (Or.inl ⟨by rfl, ?_⟩) (by assumption) ?_
  rotate_left
  · intro w9 hSw; (try dsimp only at hSw); go_simp <;> with_reducible rfl
  try simp only [Act.put, List.getElem_toArray, List.getElem_cons_zero, List.getElem_cons_succ, List.setIfInBounds_toArray, List.set_cons_zero, List.set_cons_succ]
  refine AnyG.take (i := 9) (v := ?_) rfl (by kernel_rfl) (by kernel_rfl) (by kernel_rfl) (fun _ _ _ h => h) (by kernel_rfl) (by kernel_rfl) (Or.inl ⟨by rfl, ?_⟩) (by assumption) ?_
  rotate_left
  · intro w9 hSw; (try dsimp only at hSw); go_simp <;> with_reducible rfl
  try simp only [Act.put, List.getElem_toArray, List.getElem_cons_zero, List.getElem_cons_succ, List.setIfInBounds_toArray, List.set_cons_zero, List.set_cons_succ]
  refine AnyG.take (i := 10) (v := ?_) rfl (by kernel_rfl) (by kernel_rfl) (by kernel_rfl) (fun _ _ _ h => h) (by kernel_rfl) (by kernel_rfl) (Or.inl ⟨by rfl, ?_⟩) (by assumption) ?_
  rotate_left
  · intro w9 hSw; (try dsimp only at hSw); go_simp <;> with_reducible rfl
  try simp only [Act.put, List.getElem_toArray, List.getElem_cons_zero, List.getElem_cons_succ, List.setIfInBounds_toArray, List.set_cons_zero, List.set_cons_succ]
  refine AnyG.take (i := 11) (v := ?_) rfl (by kernel_rfl) (by kernel_rfl) (by kernel_rfl) (fun _ _ _ h => h) (by kernel_rfl) (by kernel_rfl) (Or.inl ⟨by rfl, ?_⟩) (by assumption) ?_
  rotate_left
  · intro w9 hSw; (try dsimp only at hSw); go_simp <;> with_reducible rfl
  try simp only [Act.put, List.getElem_toArray, List.getElem_cons_zero, List.getElem_cons_succ, List.setIfInBounds_toArray, List.set_cons_zero, List.set_cons_succ]
  refine AnyG.step (i := 12) (by kernel_rfl) rfl (fun K hK => ?_)
  go_simp
  refine hK.out _ _ (fun h => absurd h (by decide)) (fun _ => ?_)
  clear hK
  try simp only [Act.put, List.getElem_toArray, List.getElem_cons_zero, List.getElem_cons_succ, List.setIfInBounds_toArray, List.set_cons_zero, List.set_cons_succ]
  refine AnyG.done (by kernel_rfl) ?_ _
  clear KK K0 KD
  clear rc_a0 rc_a1 rc_a2 rc_a3 rc_a4 rc_a5 rc_a6 rc_a7 rf_a0 rf_a1 rf_a2 rf_a3 rf_a4 rf_a5 rf_a6 rf_a7 rl_a
  replace r_res := Lib.hid (r_res.out.far (p := g_a) (by have dd_a := d_a.out; omega) 5 (.int .i64 (f * g')))
  replace r_x := Lib.hid (r_x.out.far (p := g_a) (by have dd_x := d_x.out; have dd_a := d_a.out; omega) 5 (.int .i64 (f * g')))
  replace r_y := Lib.hid (r_y.out.far (p := g_a) (by have dd_y := d_y.out; have dd_a := d_a.out; omega) 5 (.int .i64 (f * g')))
  replace r_a := Lib.hid (show AtB (w12.setCell ⟨g_a, 5, none⟩ (.int .i64 (f * g'))) (g_a) #[.slice A0 n0 p0, .slice A1 n1 p1, .slice none 0 0, .slice none 0 0, .int .i64 (f' * g'), .int .i64 (f * g'), .int .i64 0, .int .i64 0] ART from by have k := (r_a.out.set_n 5 (.int .i64 (f * g'))); simpa using k)
  replace BB := Lib.hid (below_set BB.out (b := g_a) (o := 5) (by have dd := d_a.out; omega) (.int .i64 (f * g')))
  replace h_s0 := Lib.hid (SB2.set h_s0.out 5 (.int .i64 (f * g')))
  replace h_s1 := Lib.hid (SB2.set h_s1.out 5 (.int .i64 (f * g')))
  generalize (w12.setCell ⟨g_a, 5, none⟩ (.int .i64 (f * g'))) = w13 at *
  have hb := below_drew (Below.refl w13.heap.size w13)
  generalize w13.drew = w14 at *
  replace r_res := Lib.hid (r_res.out.keep hb)
  replace r_x := Lib.hid (r_x.out.keep hb)
  replace r_y := Lib.hid (r_y.out.keep hb)
  replace r_a := Lib.hid (r_a.out.keep hb)
  replace h_s0 := Lib.hid (SB2.below h_s0.out hb)
  replace h_s1 := Lib.hid (SB2.below h_s1.out hb)
  replace BB := Lib.hid (below_next BB.out hb)
  clear hb
  have hsz := Lib.hid r_a.out.lt
  go_wp2_with fail
  rw [rounds_succ]
  go_wp2_with fail
  refine (C2.out _ BB.out).mono ?_
  rintro e w15 ⟨A2, n2, p2, rfl, hb, hs, ha⟩
  replace r_res := Lib.hid (r_res.out.keep hb)
  replace r_x := Lib.hid (r_x.out.keep hb)
  replace r_y := Lib.hid (r_y.out.keep hb)
  replace r_a := Lib.hid (r_a.out.keep hb)
  replace h_s0 := Lib.hid (SB2.below h_s0.out hb)
  replace h_s1 := Lib.hid (SB2.below h_s1.out hb)
  replace BB := Lib.hid (below_next BB.out hb)
  clear hb
  have h_s2 := Lib.hid (GiveGet2.sb (g := g_a) hs ha d_a.out.1 hsz.out)
  clear hs ha hsz
  obtain ⟨c_a0, c_a1, c_a2, c_a3, c_a4, c_a5, c_a6, c_a7, f_a0, f_a1, f_a2, f_a3, f_a4, f_a5, f_a6, f_a7⟩ := reads8 r_a.out
  have l_a := r_a.out.lt
  go_upto_region 10 with fail
  clear c_a0 c_a1 c_a2 c_a3 c_a4 c_a5 c_a6 c_a7 f_a0 f_a1 f_a2 f_a3 f_a4 f_a5 f_a6 f_a7 l_a
  replace r_res := Lib.hid (r_res.out.far (p := g_a) (by have dd_a := d_a.out; omega) 2 (.slice A2 n2 p2))
  replace r_x := Lib.hid (r_x.out.far (p := g_a) (by have dd_x := d_x.out; have dd_a := d_a.out; omega) 2 (.slice A2 n2 p2))
  replace r_y := Lib.hid (r_y.out.far (p := g_a) (by have dd_y := d_y.out; have dd_a := d_a.out; omega) 2 (.slice A2 n2 p2))
  replace r_a := Lib.hid (show AtB (w15.setCell ⟨g_a, 2, none⟩ (.slice A2 n2 p2)) (g_a) #[.slice A0 n0 p0, .slice A1 n1 p1, .slice A2 n2 p2, .slice none 0 0, .int .i64 (f' * g'), .int .i64 (f * g'), .int .i64 0, .int .i64 0] ART from by have k := (r_a.out.set_n 2 (.slice A2 n2 p2)); simpa using k)
  replace BB := Lib.hid (below_set BB.out (b := g_a) (o := 2) (by have dd := d_a.out; omega) (.slice A2 n2 p2))
  replace h_s0 := Lib.hid (SB2.set h_s0.out 2 (.slice A2 n2 p2))
  replace h_s1 := Lib.hid (SB2.set h_s1.out 2 (.slice A2 n2 p2))
  replace h_s2 := Lib.hid (SB2.set h_s2.out 2 (.slice A2 n2 p2))
  generalize (w15.setCell ⟨g_a, 2, none⟩ (.slice A2 n2 p2)) = w16 at *
  have KK := Lib.hid (fun (w9 : World) (h : Below w16.heap.size w16 w9) => (⟨cells2 (r_x.out.keep h), cells2 (r_y.out.keep h)⟩ : (w9.cell? ⟨g_x, 0, none⟩ = some (.int .i64 f') ∧ w9.cell? ⟨g_x, 1, none⟩ = some (.int .i64 f)) ∧ (w9.cell? ⟨g_y, 0, none⟩ = some (.int .i64 g') ∧ w9.cell? ⟨g_y, 1, none⟩ = some (.int .i64 g))))
  have K0 := KK.out w16 (Below.refl _ _)
  have KD := KK.out w16.drew (below_drew (Below.refl _ _))
  obtain ⟨rc_a0, rc_a1, rc_a2, rc_a3, rc_a4, rc_a5, rc_a6, rc_a7, rf_a0, rf_a1, rf_a2, rf_a3, rf_a4, rf_a5, rf_a6, rf_a7⟩ := reads8 r_a.out
  have rl_a := r_a.out.lt
  refine AnyG.begin_ (fun w9 => (w9.cell? ⟨g_x, 0, none⟩ = some (.int .i64 f') ∧ w9.cell? ⟨g_x, 1, none⟩ = some (.int .i64 f)) ∧ (w9.cell? ⟨g_y, 0, none⟩ = some (.int .i64 g') ∧ w9.cell? ⟨g_y, 1, none⟩ = some (.int .i64 g))) 12 (by kernel_rfl) ?_
  refine AnyG.take (i := 0) (v := ?_) rfl (by kernel_rfl) (by kernel_rfl) (by kernel_rfl) (fun _ _ _ h => h) (by kernel_rfl) (by kernel_rfl) (Or.inl ⟨by rfl, ?_⟩) (by assumption) ?_
  rotate_left
  · intro w9 hSw; (try dsimp only at hSw); go_simp <;> with_reducible rfl
  try simp only [Act.put, List.getElem_toArray, List.getElem_cons_zero, List.getElem_cons_succ, List.setIfInBounds_toArray, List.set_cons_zero, List.set_cons_succ]
  refine AnyG.take (i := 1) (v := ?_) rfl (by kernel_rfl) (by kernel_rfl) (by kernel_rfl) (fun _ _ _ h => h) (by kernel_rfl) (by kernel_rfl) (Or.inl ⟨by rfl, ?_⟩) (by assumption) ?_
  rotate_left
  · intro w9 hSw; (try dsimp only at hSw); go_simp <;> with_reducible rfl
  try simp only [Act.put, List.getElem_toArray, List.getElem_cons_zero, List.getElem_cons_succ, List.setIfInBounds_toArray, List.set_cons_zero, List.set_cons_succ]
  refine AnyG.take (i := 2) (v := ?_) rfl (by kernel_rfl) (by kernel_rfl) (by kernel_rfl) (fun _ _ _ h => h) (by kernel_rfl) (by kernel_rfl) (Or.inl ⟨by rfl, ?_⟩) (by assumption) ?_
  rotate_left
  · intro w9 hSw; (try dsimp only at hSw); go_simp <;> with_reducible rfl
  try simp only [Act.put, List.getElem_toArray, List.getElem_cons_zero, List.getElem_cons_succ, List.setIfInBounds_toArray, List.set_cons_zero, List.set_cons_succ]
  refine AnyG.take (i := 3) (v := ?_) rfl (by kernel_rfl) (by kernel_rfl) (by kernel_rfl) (fun _ _ _ h => h) (by kernel_rfl) (by kernel_rfl) (Or.inl ⟨by rfl, ?_⟩) (by assumption) ?_
  rotate_left
  · intro w9 hSw; (try dsimp only at hSw); go_simp <;> with_reducible rfl
  try simp only [Act.put, List.getElem_toArray, List.getElem_cons_zero, List.getElem_cons_succ, List.setIfInBounds_toArray, List.set_cons_zero, List.set_cons_succ]
  refine AnyG.take (i := 4) (v := ?_) rfl (by kernel_rfl) (by kernel_rfl) (by kernel_rfl) (fun _ _ _ h => h) (by kernel_rfl) (by kernel_rfl) (Or.inl ⟨by rfl, ?_⟩) (by assumption) ?_
  rotate_left
  · intro w9 hSw; (try dsimp only at hSw); go_simp <;> with_reducible rfl
  try simp only [Act.put, List.getElem_toArray, List.getElem_cons_zero, List.getElem_cons_succ, List.setIfInBounds_toArray, List.set_cons_zero, List.set_cons_succ]
  refine AnyG.take (i := 5) (v := ?_) rfl (by kernel_rfl) (by kernel_rfl) (by kernel_rfl) (fun _ _ _ h => h) (by kernel_rfl) (by kernel_rfl) (Or.inl ⟨by rfl, ?_⟩) (by assumption) ?_
  rotate_left
  · intro w9 hSw; (try dsimp only at hSw); go_simp <;> with_reducible rfl
  try simp only [Act.put, List.getElem_toArray, List.getElem_cons_zero, List.getElem_cons_succ, List.setIfInBounds_toArray, List.set_cons_zero, List.set_cons_succ]
  refine AnyG.take (i := 6) (v := ?_) rfl (by kernel_rfl) (by kernel_rfl) (by kernel_rfl) (fun _ _ _ h => h) (by kernel_rfl) (by kernel_rfl) (Or.inl ⟨by rfl, ?_⟩) (by assumption) ?_
  rotate_left
  · intro w9 hSw; (try dsimp only at hSw); go_simp <;> with_reducible rfl
  try simp only [Act.put, List.getElem_toArray, List.getElem_cons_zero, List.getElem_cons_succ, List.setIfInBounds_toArray, List.set_cons_zero, List.set_cons_succ]
  refine AnyG.take (i := 7) (v := ?_) rfl (by kernel_rfl) (by kernel_rfl) (by kernel_rfl) (fun _ _ _ h => h) (by kernel_rfl) (by kernel_rfl) (Or.inl ⟨by rfl, ?_⟩) (by assumption) ?_
  rotate_left
  · intro w9 hSw; (try dsimp only at hSw); go_simp <;> with_reducible rfl
  try simp only [Act.put, List.getElem_toArray, List.getElem_cons_zero, List.getElem_cons_succ, List.setIfInBounds_toArray, List.set_cons_zero, List.set_cons_succ]
  refine AnyG.take (i := 8) (v := ?_) rfl (by kernel_rfl) (by kernel_rfl) (by kernel_rfl) (fun _ _ _ h => h) (by kernel_rfl) (by kernel_rfl) (Or.inl ⟨by rfl, ?_⟩) (by assumption) ?_
  rotate_left
  · intro w9 hSw; (try dsimp only at hSw); go_simp <;> with_reducible rfl
  try simp only [Act.put, List.getElem_toArray, List.getElem_cons_zero, List.getElem_cons_succ, List.setIfInBounds_toArray, List.set_cons_zero, List.set_cons_succ]
  refine AnyG.take (i := 9) (v := ?_) rfl (by kernel_rfl) (by kernel_rfl) (by kernel_rfl) (fun _ _ _ h => h) (by kernel_rfl) (by kernel_rfl) (Or.inl ⟨by rfl, ?_⟩) (by assumption) ?_
  rotate_left
  · intro w9 hSw; (try dsimp only at hSw); go_simp <;> with_reducible rfl
  try simp only [Act.put, List.getElem_toArray, List.getElem_cons_zero, List.getElem_cons_succ, List.setIfInBounds_toArray, List.set_cons_zero, List.set_cons_succ]
  refine AnyG.take (i := 10) (v := ?_) rfl (by kernel_rfl) (by kernel_rfl) (by kernel_rfl) (fun _ _ _ h => h) (by kernel_rfl) (by kernel_rfl) (Or.inl ⟨by rfl, ?_⟩) (by assumption) ?_
  rotate_left
  · intro w9 hSw; (try dsimp only at hSw); go_simp <;> with_reducible rfl
  try simp only [Act.put, List.getElem_toArray, List.getElem_cons_zero, List.getElem_cons_succ, List.setIfInBounds_toArray, List.set_cons_zero, List.set_cons_succ]
  refine AnyG.take (i := 11) (v := ?_) rfl (by kernel_rfl) (by kernel_rfl) (by kernel_rfl) (fun _ _ _ h => h) (by kernel_rfl) (by kernel_rfl) (Or.inl ⟨by rfl, ?_⟩) (by assumption) ?_
  rotate_left
  · intro w9 hSw; (try dsimp only at hSw); go_simp <;> with_reducible rfl
  try simp only [Act.put, List.getElem_toArray, List.getElem_cons_zero, List.getElem_cons_succ, List.setIfInBounds_toArray, List.set_cons_zero, List.set_cons_succ]
  refine AnyG.step (i := 12) (by kernel_rfl) rfl (fun K hK => ?_)
  go_simp
  refine hK.out _ _ (fun h => absurd h (by decide)) (fun _ => ?_)
  clear hK
  try simp only [Act.put, List.getElem_toArray, List.getElem_cons_zero, List.getElem_cons_succ, List.setIfInBounds_toArray, List.set_cons_zero, List.set_cons_succ]
  refine AnyG.done (by kernel_rfl) ?_ _
  clear KK K0 KD
  clear rc_a0 rc_a1 rc_a2 rc_a3 rc_a4 rc_a5 rc_a6 rc_a7 rf_a0 rf_a1 rf_a2 rf_a3 rf_a4 rf_a5 rf_a6 rf_a7 rl_a
  replace r_res := Lib.hid (r_res.out.far (p := g_a) (by have dd_a := d_a.out; omega) 6 (.int .i64 (f' * g)))
  replace r_x := Lib.hid (r_x.out.far (p := g_a) (by have dd_x := d_x.out; have dd_a := d_a.out; omega) 6 (.int .i64 (f' * g)))
  replace r_y := Lib.hid (r_y.out.far (p := g_a) (by have dd_y := d_y.out; have dd_a := d_a.out; omega) 6 (.int .i64 (f' * g)))
  replace r_a := Lib.hid (show AtB (w16.setCell ⟨g_a, 6, none⟩ (.int .i64 (f' * g))) (g_a) #[.slice A0 n0 p0, .slice A1 n1 p1, .slice A2 n2 p2, .slice none 0 0, .int .i64 (f' * g'), .int .i64 (f * g'), .int .i64 (f' * g), .int .i64 0] ART from by have k := (r_a.out.set_n 6 (.int .i64 (f' * g))); simpa using k)
  replace BB := Lib.hid (below_set BB.out (b := g_a) (o := 6) (by have dd := d_a.out; omega) (.int .i64 (f' * g)))
  replace h_s0 := Lib.hid (SB2.set h_s0.out 6 (.int .i64 (f' * g)))
  replace h_s1 := Lib.hid (SB2.set h_s1.out 6 (.int .i64 (f' * g)))
  replace h_s2 := Lib.hid (SB2.set h_s2.out 6 (.int .i64 (f' * g)))
  generalize (w16.setCell ⟨g_a, 6, none⟩ (.int .i64 (f' * g))) = w17 at *
  have hb := below_drew (Below.refl w17.heap.size w17)
  generalize w17.drew = w18 at *
  replace r_res := Lib.hid (r_res.out.keep hb)
  replace r_x := Lib.hid (r_x.out.keep hb)
  replace r_y := Lib.hid (r_y.out.keep hb)
  replace r_a := Lib.hid (r_a.out.keep hb)
  replace h_s0 := Lib.hid (SB2.below h_s0.out hb)
  replace h_s1 := Lib.hid (SB2.below h_s1.out hb)
  replace h_s2 := Lib.hid (SB2.below h_s2.out hb)
  replace BB := Lib.hid (below_next BB.out hb)
  clear hb
  have hsz := Lib.hid r_a.out.lt
  go_wp2_with fail
  rw [rounds_succ]
  go_wp2_with fail
  refine (C3.out _ BB.out).mono ?_
  rintro e w19 ⟨A3, n3, p3, rfl, hb, hs, ha⟩
  replace r_res := Lib.hid (r_res.out.keep hb)
  replace r_x := Lib.hid (r_x.out.keep hb)
  replace r_y := Lib.hid (r_y.out.keep hb)
  replace r_a := Lib.hid (r_a.out.keep hb)
  replace h_s0 := Lib.hid (SB2.below h_s0.out hb)
  replace h_s1 := Lib.hid (SB2.below h_s1.out hb)
  replace h_s2 := Lib.hid (SB2.below h_s2.out hb)
  replace BB := Lib.hid (below_next BB.out hb)
  clear hb
  have h_s3 := Lib.hid (GiveGet2.sb (g := g_a) hs ha d_a.out.1 hsz.out)
  clear hs ha hsz
  obtain ⟨c_a0, c_a1, c_a2, c_a3, c_a4, c_a5, c_a6, c_a7, f_a0, f_a1, f_a2, f_a3, f_a4, f_a5, f_a6, f_a7⟩ := reads8 r_a.out
  have l_a := r_a.out.lt
  go_upto_region 10 with fail
  clear c_a0 c_a1 c_a2 c_a3 c_a4 c_a5 c_a6 c_a7 f_a0 f_a1 f_a2 f_a3 f_a4 f_a5 f_a6 f_a7 l_a
  replace r_res := Lib.hid (r_res.out.far (p := g_a) (by have dd_a := d_a.out; omega) 3 (.slice A3 n3 p3))
  replace r_x := Lib.hid (r_x.out.far (p := g_a) (by have dd_x := d_x.out; have dd_a := d_a.out; omega) 3 (.slice A3 n3 p3))
  replace r_y := Lib.hid (r_y.out.far (p := g_a) (by have dd_y := d_y.out; have dd_a := d_a.out; omega) 3 (.slice A3 n3 p3))
  replace r_a := Lib.hid (show AtB (w19.setCell ⟨g_a, 3, none⟩ (.slice A3 n3 p3)) (g_a) #[.slice A0 n0 p0, .slice A1 n1 p1, .slice A2 n2 p2, .slice A3 n3 p3, .int .i64 (f' * g'), .int .i64 (f * g'), .int .i64 (f' * g), .int .i64 0] ART from by have k := (r_a.out.set_n 3 (.slice A3 n3 p3)); simpa using k)
  replace BB := Lib.hid (below_set BB.out (b := g_a) (o := 3) (by have dd := d_a.out; omega) (.slice A3 n3 p3))
  replace h_s0 := Lib.hid (SB2.set h_s0.out 3 (.slice A3 n3 p3))
  replace h_s1 := Lib.hid (SB2.set h_s1.out 3 (.slice A3 n3 p3))
  replace h_s2 := Lib.hid (SB2.set h_s2.out 3 (.slice A3 n3 p3))
  replace h_s3 := Lib.hid (SB2.set h_s3.out 3 (.slice A3 n3 p3))
  generalize (w19.setCell ⟨g_a, 3, none⟩ (.slice A3 n3 p3)) = w20 at *
  have KK := Lib.hid (fun (w9 : World) (h : Below w20.heap.size w20 w9) => (⟨cells2 (r_x.out.keep h), cells2 (r_y.out.keep h)⟩ : (w9.cell? ⟨g_x, 0, none⟩ = some (.int .i64 f') ∧ w9.cell? ⟨g_x, 1, none⟩ = some (.int .i64 f)) ∧ (w9.cell? ⟨g_y, 0, none⟩ = some (.int .i64 g') ∧ w9.cell? ⟨g_y, 1, none⟩ = some (.int .i64 g))))
  have K0 := KK.out w20 (Below.refl _ _)
  have KD := KK.out w20.drew (below_drew (Below.refl _ _))
  obtain ⟨rc_a0, rc_a1, rc_a2, rc_a3, rc_a4, rc_a5, rc_a6, rc_a7, rf_a0, rf_a1, rf_a2, rf_a3, rf_a4, rf_a5, rf_a6, rf_a7⟩ := reads8 r_a.out
  have rl_a := r_a.out.lt
  refine AnyG.begin_ (fun w9 => (w9.cell? ⟨g_x, 0, none⟩ = some (.int .i64 f') ∧ w9.cell? ⟨g_x, 1, none⟩ = some (.int .i64 f)) ∧ (w9.cell? ⟨g_y, 0, none⟩ = some (.int .i64 g') ∧ w9.cell? ⟨g_y, 1, none⟩ = some (.int .i64 g))) 12 (by kernel_rfl) ?_
  refine AnyG.take (i := 0) (v := ?_) rfl (by kernel_rfl) (by kernel_rfl) (by kernel_rfl) (fun _ _ _ h => h) (by kernel_rfl) (by kernel_rfl) (Or.inl ⟨by rfl, ?_⟩) (by assumption) ?_
  rotate_left
  · intro w9 hSw; (try dsimp only at hSw); go_simp <;> with_reducible rfl
  try simp only [Act.put, List.getElem_toArray, List.getElem_cons_zero, List.getElem_cons_succ, List.setIfInBounds_toArray, List.set_cons_zero, List.set_cons_succ]
  refine AnyG.take (i := 1) (v := ?_) rfl (by kernel_rfl) (by kernel_rfl) (by kernel_rfl) (fun _ _ _ h => h) (by kernel_rfl) (by kernel_rfl) (Or.inl ⟨by rfl, ?_⟩) (by assumption) ?_
  rotate_left
  · intro w9 hSw; (try dsimp only at hSw); go_simp <;> with_reducible rfl
  try simp only [Act.put, List.getElem_toArray, List.getElem_cons_zero, List.getElem_cons_succ, List.setIfInBounds_toArray, List.set_cons_zero, List.set_cons_succ]
  refine AnyG.take (i := 2) (v := ?_) rfl (by kernel_rfl) (by kernel_rfl) (by kernel_rfl) (fun _ _ _ h => h) (by kernel_rfl) (by kernel_rfl) (Or.inl ⟨by rfl, ?_⟩) (by assumption) ?_
  rotate_left
  · intro w9 hSw; (try dsimp only at hSw); go_simp <;> with_reducible rfl
  try simp only [Act.put, List.getElem_toArray, List.getElem_cons_zero, List.getElem_cons_succ, List.setIfInBounds_toArray, List.set_cons_zero, List.set_cons_succ]
  refine AnyG.take (i := 3) (v := ?_) rfl (by kernel_rfl) (by kernel_rfl) (by kernel_rfl) (fun _ _ _ h => h) (by kernel_rfl) (by kernel_rfl) (Or.inl ⟨by rfl, ?_⟩) (by assumption) ?_
  rotate_left
  · intro w9 hSw; (try dsimp only at hSw); go_simp <;> with_reducible rfl
  try simp only [Act.put, List.getElem_toArray, List.getElem_cons_zero, List.getElem_cons_succ, List.setIfInBounds_toArray, List.set_cons_zero, List.set_cons_succ]
  refine AnyG.take (i := 4) (v := ?_) rfl (by kernel_rfl) (by kernel_rfl) (by kernel_rfl) (fun _ _ _ h => h) (by kernel_rfl) (by kernel_rfl) (Or.inl ⟨by rfl, ?_⟩) (by assumption) ?_
  rotate_left
  · intro w9 hSw; (try dsimp only at hSw); go_simp <;> with_reducible rfl
  try simp only [Act.put, List.getElem_toArray, List.getElem_cons_zero, List.getElem_cons_succ, List.setIfInBounds_toArray, List.set_cons_zero, List.set_cons_succ]
  refine AnyG.take (i := 5) (v := ?_) rfl (by kernel_rfl) (by kernel_rfl) (by kernel_rfl) (fun _ _ _ h => h) (by kernel_rfl) (by kernel_rfl) (Or.inl ⟨by rfl, ?_⟩) (by assumption) ?_
  rotate_left
  · intro w9 hSw; (try dsimp only at hSw); go_simp <;> with_reducible rfl
  try simp only [Act.put, List.getElem_toArray, List.getElem_cons_zero, List.getElem_cons_succ, List.setIfInBounds_toArray, List.set_cons_zero, List.set_cons_succ]
  refine AnyG.take (i := 6) (v := ?_) rfl (by kernel_rfl) (by kernel_rfl) (by kernel_rfl) (fun _ _ _ h => h) (by kernel_rfl) (by kernel_rfl) (Or.inl ⟨by rfl, ?_⟩) (by assumption) ?_
  rotate_left
  · intro w9 hSw; (try dsimp only at hSw); go_simp <;> with_reducible rfl
  try simp only [Act.put, List.getElem_toArray, List.getElem_cons_zero, List.getElem_cons_succ, List.setIfInBounds_toArray, List.set_cons_zero, List.set_cons_succ]
  refine AnyG.take (i := 7) (v := ?_) rfl (by kernel_rfl) (by kernel_rfl) (by kernel_rfl) (fun _ _ _ h => h) (by kernel_rfl) (by kernel_rfl) (Or.inl ⟨by rfl, ?_⟩) (by assumption) ?_
  rotate_left
  · intro w9 hSw; (try dsimp only at hSw); go_simp <;> with_reducible rfl
  try simp only [Act.put, List.getElem_toArray, List.getElem_cons_zero, List.getElem_cons_succ, List.setIfInBounds_toArray, List.set_cons_zero, List.set_cons_succ]
  refine AnyG.take (i := 8) (v := ?_) rfl (by kernel_rfl) (by kernel_rfl) (by kernel_rfl) (fun _ _ _ h => h) (by kernel_rfl) (by kernel_rfl) (Or.inl ⟨by rfl, ?_⟩) (by assumption) ?_
  rotate_left
  · intro w9 hSw; (try dsimp only at hSw); go_simp <;> with_reducible rfl
  try simp only [Act.put, List.getElem_toArray, List.getElem_cons_zero, List.getElem_cons_succ, List.setIfInBounds_toArray, List.set_cons_zero, List.set_cons_succ]
  refine AnyG.take (i := 9) (v := ?_) rfl (by kernel_rfl) (by kernel_rfl) (by kernel_rfl) (fun _ _ _ h => h) (by kernel_rfl) (by kernel_rfl) (Or.inl ⟨by rfl, ?_⟩) (by assumption) ?_
  rotate_left
  · intro w9 hSw; (try dsimp only at hSw); go_simp <;> with_reducible rfl
  try simp only [Act.put, List.getElem_toArray, List.getElem_cons_zero, List.getElem_cons_succ, List.setIfInBounds_toArray, List.set_cons_zero, List.set_cons_succ]
  refine AnyG.take (i := 10) (v := ?_) rfl (by kernel_rfl) (by kernel_rfl) (by kernel_rfl) (fun _ _ _ h => h) (by kernel_rfl) (by kernel_rfl) (Or.inl ⟨by rfl, ?_⟩) (by assumption) ?_
  rotate_left
  · intro w9 hSw; (try dsimp only at hSw); go_simp <;> with_reducible rfl
  try simp only [Act.put, List.getElem_toArray, List.getElem_cons_zero, List.getElem_cons_succ, List.setIfInBounds_toArray, List.set_cons_zero, List.set_cons_succ]
  refine AnyG.take (i := 11) (v := ?_) rfl (by kernel_rfl) (by kernel_rfl) (by kernel_rfl) (fun _ _ _ h => h) (by kernel_rfl) (by kernel_rfl) (Or.inl ⟨by rfl, ?_⟩) (by assumption) ?_
  rotate_left
  · intro w9 hSw; (try dsimp only at hSw); go_simp <;> with_reducible rfl
  try simp only [Act.put, List.getElem_toArray, List.getElem_cons_zero, List.getElem_cons_succ, List.setIfInBounds_toArray, List.set_cons_zero, List.set_cons_succ]
  refine AnyG.step (i := 12) (by kernel_rfl) rfl (fun K hK => ?_)
  go_simp
  refine hK.out _ _ (fun h => absurd h (by decide)) (fun _ => ?_)
  clear hK
  try simp only [Act.put, List.getElem_toArray, List.getElem_cons_zero, List.getElem_cons_succ, List.setIfInBounds_toArray, List.set_cons_zero, List.set_cons_succ]
  refine AnyG.done (by kernel_rfl) ?_ _
  clear KK K0 KD
  clear rc_a0 rc_a1 rc_a2 rc_a3 rc_a4 rc_a5 rc_a6 rc_a7 rf_a0 rf_a1 rf_a2 rf_a3 rf_a4 rf_a5 rf_a6 rf_a7 rl_a
  replace r_res := Lib.hid (r_res.out.far (p := g_a) (by have dd_a := d_a.out; omega) 7 (.int .i64 (f * g)))
  replace r_x := Lib.hid (r_x.out.far (p := g_a) (by have dd_x := d_x.out; have dd_a := d_a.out; omega) 7 (.int .i64 (f * g)))
  replace r_y := Lib.hid (r_y.out.far (p := g_a) (by have dd_y := d_y.out; have dd_a := d_a.out; omega) 7 (.int .i64 (f * g)))
  replace r_a := Lib.hid (show AtB (w20.setCell ⟨g_a, 7, none⟩ (.int .i64 (f * g))) (g_a) #[.slice A0 n0 p0, .slice A1 n1 p1, .slice A2 n2 p2, .slice A3 n3 p3, .int .i64 (f' * g'), .int .i64 (f * g'), .int .i64 (f' * g), .int .i64 (f * g)] ART from by have k := (r_a.out.set_n 7 (.int .i64 (f * g))); simpa using k)
  replace BB := Lib.hid (below_set BB.out (b := g_a) (o := 7) (by have dd := d_a.out; omega) (.int .i64 (f * g)))
  replace h_s0 := Lib.hid (SB2.set h_s0.out 7 (.int .i64 (f * g)))
  replace h_s1 := Lib.hid (SB2.set h_s1.out 7 (.int .i64 (f * g)))
  replace h_s2 := Lib.hid (SB2.set h_s2.out 7 (.int .i64 (f * g)))
  replace h_s3 := Lib.hid (SB2.set h_s3.out 7 (.int .i64 (f * g)))
  generalize (w20.setCell ⟨g_a, 7, none⟩ (.int .i64 (f * g))) = w21 at *
  have hb := below_drew (Below.refl w21.heap.size w21)
  generalize w21.drew = w22 at *
  replace r_res := Lib.hid (r_res.out.keep hb)
  replace r_x := Lib.hid (r_x.out.keep hb)
  replace r_y := Lib.hid (r_y.out.keep hb)
  replace r_a := Lib.hid (r_a.out.keep hb)
  replace h_s0 := Lib.hid (SB2.below h_s0.out hb)
  replace h_s1 := Lib.hid (SB2.below h_s1.out hb)
  replace h_s2 := Lib.hid (SB2.below h_s2.out hb)
  replace h_s3 := Lib.hid (SB2.below h_s3.out hb)
  replace BB := Lib.hid (below_next BB.out hb)
  clear hb
  have hsz := Lib.hid r_a.out.lt
  go_wp2_with fail
  rw [rounds_succ]
  obtain ⟨c_a0, c_a1, c_a2, c_a3, c_a4, c_a5, c_a6, c_a7, f_a0, f_a1, f_a2, f_a3, f_a4, f_a5, f_a6, f_a7⟩ := reads8 r_a.out
  have l_a := r_a.out.lt
  obtain ⟨c_res0, c_res1, c_res2, c_res3, c_res4, c_res5, c_res6, c_res7, f_res0, f_res1, f_res2, f_res3, f_res4, f_res5, f_res6, f_res7⟩ := reads8 r_res.out
  have l_res := r_res.out.lt
  go_wp2_with fail
  clear c_a0 c_a1 c_a2 c_a3 c_a4 c_a5 c_a6 c_a7 f_a0 f_a1 f_a2 f_a3 f_a4 f_a5 f_a6 f_a7 l_a c_res0 c_res1 c_res2 c_res3 c_res4 c_res5 c_res6 c_res7 f_res0 f_res1 f_res2 f_res3 f_res4 f_res5 f_res6 f_res7 l_res
  replace r_res := Lib.hid (show AtB ((((((((w22.setCell ⟨w.heap.size, 0, none⟩ (.slice A0 n0 p0)).setCell ⟨w.heap.size, 1, none⟩ (.slice A1 n1 p1)).setCell ⟨w.heap.size, 2, none⟩ (.slice A2 n2 p2)).setCell ⟨w.heap.size, 3, none⟩ (.slice A3 n3 p3)).setCell ⟨w.heap.size, 4, none⟩ (.int .i64 (f' * g'))).setCell ⟨w.heap.size, 5, none⟩ (.int .i64 (f * g'))).setCell ⟨w.heap.size, 6, none⟩ (.int .i64 (f' * g))).setCell ⟨w.heap.size, 7, none⟩ (.int .i64 (f * g))) (w.heap.size) #[.slice A0 n0 p0, .slice A1 n1 p1, .slice A2 n2 p2, .slice A3 n3 p3, .int .i64 (f' * g'), .int .i64 (f * g'), .int .i64 (f' * g), .int .i64 (f * g)] ART from by have k := ((((((((r_res.out.set_n 0 (.slice A0 n0 p0)).set_n 1 (.slice A1 n1 p1)).set_n 2 (.slice A2 n2 p2)).set_n 3 (.slice A3 n3 p3)).set_n 4 (.int .i64 (f' * g'))).set_n 5 (.int .i64 (f * g'))).set_n 6 (.int .i64 (f' * g))).set_n 7 (.int .i64 (f * g))); simpa using k)
  replace r_x := Lib.hid ((((((((r_x.out.far (p := w.heap.size) (by have dd_x := d_x.out; omega) 0 (.slice A0 n0 p0)).far (p := w.heap.size) (by have dd_x := d_x.out; omega) 1 (.slice A1 n1 p1)).far (p := w.heap.size) (by have dd_x := d_x.out; omega) 2 (.slice A2 n2 p2)).far (p := w.heap.size) (by have dd_x := d_x.out; omega) 3 (.slice A3 n3 p3)).far (p := w.heap.size) (by have dd_x := d_x.out; omega) 4 (.int .i64 (f' * g'))).far (p := w.heap.size) (by have dd_x := d_x.out; omega) 5 (.int .i64 (f * g'))).far (p := w.heap.size) (by have dd_x := d_x.out; omega) 6 (.int .i64 (f' * g))).far (p := w.heap.size) (by have dd_x := d_x.out; omega) 7 (.int .i64 (f * g)))
  replace r_y := Lib.hid ((((((((r_y.out.far (p := w.heap.size) (by have dd_y := d_y.out; omega) 0 (.slice A0 n0 p0)).far (p := w.heap.size) (by have dd_y := d_y.out; omega) 1 (.slice A1 n1 p1)).far (p := w.heap.size) (by have dd_y := d_y.out; omega) 2 (.slice A2 n2 p2)).far (p := w.heap.size) (by have dd_y := d_y.out; omega) 3 (.slice A3 n3 p3)).far (p := w.heap.size) (by have dd_y := d_y.out; omega) 4 (.int .i64 (f' * g'))).far (p := w.heap.size) (by have dd_y := d_y.out; omega) 5 (.int .i64 (f * g'))).far (p := w.heap.size) (by have dd_y := d_y.out; omega) 6 (.int .i64 (f' * g))).far (p := w.heap.size) (by have dd_y := d_y.out; omega) 7 (.int .i64 (f * g)))
  replace r_a := Lib.hid ((((((((r_a.out.far (p := w.heap.size) (by have dd_a := d_a.out; omega) 0 (.slice A0 n0 p0)).far (p := w.heap.size) (by have dd_a := d_a.out; omega) 1 (.slice A1 n1 p1)).far (p := w.heap.size) (by have dd_a := d_a.out; omega) 2 (.slice A2 n2 p2)).far (p := w.heap.size) (by have dd_a := d_a.out; omega) 3 (.slice A3 n3 p3)).far (p := w.heap.size) (by have dd_a := d_a.out; omega) 4 (.int .i64 (f' * g'))).far (p := w.heap.size) (by have dd_a := d_a.out; omega) 5 (.int .i64 (f * g'))).far (p := w.heap.size) (by have dd_a := d_a.out; omega) 6 (.int .i64 (f' * g))).far (p := w.heap.size) (by have dd_a := d_a.out; omega) 7 (.int .i64 (f * g)))
  replace BB := Lib.hid (below_set (below_set (below_set (below_set (below_set (below_set (below_set (below_set BB.out (b := w.heap.size) (o := 0) (by omega) (.slice A0 n0 p0)) (b := w.heap.size) (o := 1) (by omega) (.slice A1 n1 p1)) (b := w.heap.size) (o := 2) (by omega) (.slice A2 n2 p2)) (b := w.heap.size) (o := 3) (by omega) (.slice A3 n3 p3)) (b := w.heap.size) (o := 4) (by omega) (.int .i64 (f' * g'))) (b := w.heap.size) (o := 5) (by omega) (.int .i64 (f * g'))) (b := w.heap.size) (o := 6) (by omega) (.int .i64 (f' * g))) (b := w.heap.size) (o := 7) (by omega) (.int .i64 (f * g)))
  replace h_s0 := Lib.hid (SB2.setr (SB2.setr (SB2.setr (SB2.setr (SB2.setr (SB2.setr (SB2.setr (SB2.setr h_s0.out 0 (.slice A0 n0 p0)) 1 (.slice A1 n1 p1)) 2 (.slice A2 n2 p2)) 3 (.slice A3 n3 p3)) 4 (.int .i64 (f' * g'))) 5 (.int .i64 (f * g'))) 6 (.int .i64 (f' * g))) 7 (.int .i64 (f * g)))
  replace h_s1 := Lib.hid (SB2.setr (SB2.setr (SB2.setr (SB2.setr (SB2.setr (SB2.setr (SB2.setr (SB2.setr h_s1.out 0 (.slice A0 n0 p0)) 1 (.slice A1 n1 p1)) 2 (.slice A2 n2 p2)) 3 (.slice A3 n3 p3)) 4 (.int .i64 (f' * g'))) 5 (.int .i64 (f * g'))) 6 (.int .i64 (f' * g))) 7 (.int .i64 (f * g)))
  replace h_s2 := Lib.hid (SB2.setr (SB2.setr (SB2.setr (SB2.setr (SB2.setr (SB2.setr (SB2.setr (SB2.setr h_s2.out 0 (.slice A0 n0 p0)) 1 (.slice A1 n1 p1)) 2 (.slice A2 n2 p2)) 3 (.slice A3 n3 p3)) 4 (.int .i64 (f' * g'))) 5 (.int .i64 (f * g'))) 6 (.int .i64 (f' * g))) 7 (.int .i64 (f * g)))
  replace h_s3 := Lib.hid (SB2.setr (SB2.setr (SB2.setr (SB2.setr (SB2.setr (SB2.setr (SB2.setr (SB2.setr h_s3.out 0 (.slice A0 n0 p0)) 1 (.slice A1 n1 p1)) 2 (.slice A2 n2 p2)) 3 (.slice A3 n3 p3)) 4 (.int .i64 (f' * g'))) 5 (.int .i64 (f * g'))) 6 (.int .i64 (f' * g))) 7 (.int .i64 (f * g)))
  generalize ((((((((w22.setCell ⟨w.heap.size, 0, none⟩ (.slice A0 n0 p0)).setCell ⟨w.heap.size, 1, none⟩ (.slice A1 n1 p1)).setCell ⟨w.heap.size, 2, none⟩ (.slice A2 n2 p2)).setCell ⟨w.heap.size, 3, none⟩ (.slice A3 n3 p3)).setCell ⟨w.heap.size, 4, none⟩ (.int .i64 (f' * g'))).setCell ⟨w.heap.size, 5, none⟩ (.int .i64 (f * g'))).setCell ⟨w.heap.size, 6, none⟩ (.int .i64 (f' * g))).setCell ⟨w.heap.size, 7, none⟩ (.int .i64 (f * g))) = w23 at *
  obtain ⟨c_res0, c_res1, c_res2, c_res3, c_res4, c_res5, c_res6, c_res7, f_res0, f_res1, f_res2, f_res3, f_res4, f_res5, f_res6, f_res7⟩ := reads8 r_res.out
  have l_res := r_res.out.lt
  refine bodyPost_ret (v := .agg #[.slice A0 n0 p0, .slice A1 n1 p1, .slice A2 n2 p2, .slice A3 n3 p3, .int .i64 (f' * g'), .int .i64 (f * g'), .int .i64 (f' * g), .int .i64 (f * g)]) (by unfold results; simp only [Try.results88]; go_simp) rfl ?_
  refine ⟨_, _, _, _, _, _, _, _, _, _, _, _, rfl, BB.out, ?_, ?_, ?_, ?_⟩
  · exact h_s0.out.1
  · exact h_s1.out.1
  · exact h_s2.out.1
  · exact h_s3.out.1
set_option maxRecDepth 100000 in
set_option maxHeartbeats 16000000 in
theorem yby (cp : Value) (c : Nat) (hc : 1 ≤ c ∧ c ≤ 1000) (L0 L1 L2 L3 : List Int) (u v : Int) (hu : inB u 70368744177664 = true) (hv : inB v 70368744177664 = true) (w : World)
    (C0 : ∀ w1, Below w.heap.size w w1 → Calls Try.prog 53 #[cp, .int .i64 (u / 65536), .int .i64 (v / 65536)] w1 (GiveGet2 w L0 w1))
    (C1 : ∀ w1, Below w.heap.size w w1 → Calls Try.prog 53 #[cp, .int .i64 (u / 65536 + 1), .int .i64 (v / 65536)] w1 (GiveGet2 w L1 w1))
    (C2 : ∀ w1, Below w.heap.size w w1 → Calls Try.prog 53 #[cp, .int .i64 (u / 65536), .int .i64 (v / 65536 + 1)] w1 (GiveGet2 w L2 w1))
    (C3 : ∀ w1, Below w.heap.size w w1 → Calls Try.prog 53 #[cp, .int .i64 (u / 65536 + 1), .int .i64 (v / 65536 + 1)] w1 (GiveGet2 w L3 w1)) :
    Calls Try.prog 52 #[.func (.func 53) #[cp] #[], .int .i64 (c : Int), .int .i64 u, .int .i64 v] w (GiveRow (linRow L0 L1 L2 L3 (u % 65536) (v % 65536) c) w) := by
  have CI := Lib.hid (fun x w => lin_in x w)
  have FN := func_some
  have CL := Lib.hid (fun w1 (hb : Below w.heap.size w w1) => ylook cp L0 L1 L2 L3 u v hu hv w1 (fun w2 h2 => (C0 w2 (hb.trans (Below.less h2 hb.size))).mono fun e w' h => GiveGet2.up h hb) (fun w2 h2 => (C1 w2 (hb.trans (Below.less h2 hb.size))).mono fun e w' h => GiveGet2.up h hb) (fun w2 h2 => (C2 w2 (hb.trans (Below.less h2 hb.size))).mono fun e w' h => GiveGet2.up h hb) (fun w2 h2 => (C3 w2 (hb.trans (Below.less h2 hb.size))).mono fun e w' h => GiveGet2.up h hb))
  have MK := mk_bytes c (by omega)
  have hc1 : decide ((c : Int) < 1) = false := decide_eq_false (by omega)
  have hW := lin_weights (f := u % 65536) (g := v % 65536) (by omega) (by omega)
  obtain ⟨F, hF⟩ : ∃ F, F = linAt L0 L1 L2 L3 (u % 65536) (v % 65536) := ⟨_, rfl⟩
  replace hF := Lib.hid hF
  unfold linRow
  rw [← hF.out]
  have hFk := Lib.hid (fun k => congrFun hF.out k)
  simp only [linAt] at hFk
  generalize (65536 - u % 65536) * (65536 - v % 65536) = x0 at *
  generalize u % 65536 * (65536 - v % 65536) = x1 at *
  generalize (65536 - u % 65536) * (v % 65536) = x2 at *
  generalize u % 65536 * (v % 65536) = x3 at *
  replace hW := Lib.hid hW
  replace hu := Lib.hid hu; replace hv := Lib.hid hv
  clear C0 C1 C2 C3 hF
  go_enter Try.func52, Try.ntmps52
  go_wp2_with fail
  have BB : Hid (Below w.heap.size w w) := Below.refl _ _
  refine (CI.out _ _).mono ?_
  rintro e w9 ⟨rfl, rfl⟩
  rw [hu.out]
  go_wp2_with fail
  refine (CI.out _ _).mono ?_
  rintro e w9 ⟨rfl, rfl⟩
  rw [hv.out]
  go_wp2_with fail
  refine (CL.out _ BB.out).mono ?_
  rintro e w1 ⟨A0, n0, p0, A1, n1, p1, A2, n2, p2, A3, n3, p3, rfl, hb, s0, s1, s2, s3⟩
  replace BB := Lib.hid (below_next BB.out hb)
  clear hb
  have CC := Lib.hid (fun k w9 (hb : Below w1.heap.size w1 w9) (hk : k ≤ 1000) => lchannel A0 A1 A2 A3 n0 n1 n2 n3 p0 p1 p2 p3 k L0 L1 L2 L3 x0 x1 x2 x3 w1 s0 s1 s2 s3 (bs_len s0) (bs_len s1) (bs_len s2) (bs_len s3) hW.out w9 hb hk)
  clear s0 s1 s2 s3 CL CI hu hv
  obtain ⟨W0, hW0⟩ : ∃ W0, W0 = w1 := ⟨_, rfl⟩
  rw [← hW0] at CC
  have h_w := Lib.hid (show Below W0.heap.size W0 w1 by rw [hW0]; exact Below.refl _ _)
  have CC := Lib.hid (show ∀ (k : Nat) w9, Below W0.heap.size W0 w9 → k ≤ 1000 → Calls Try.prog 89 #[.agg #[.slice A0 n0 p0, .slice A1 n1 p1, .slice A2 n2 p2, .slice A3 n3 p3, .int .i64 x0, .int .i64 x1, .int .i64 x2, .int .i64 x3], .int .i64 (k : Int)] w9 (fun e w' => e = .returned (.int .u8 (F k)) ∧ Below w9.heap.size w9 w') from fun k w9 hb hk => by rw [hFk.out k]; exact CC.out k w9 hb hk)
  have hg0 : W0.heap.size = w1.heap.size := by rw [hW0]
  clear hFk hW hW0
  go_wp2_with fail
  have d_out := Lib.hid (And.intro BB.out.size (True.intro))
  obtain ⟨hb, r_out⟩ := laid w1 (Array.replicate c (Value.int .u8 0)) 5
  replace h_w := Lib.hid (Below.fol h_w.out hb)
  replace BB := Lib.hid (below_next BB.out hb)
  replace r_out := Lib.hid r_out
  clear hb
  generalize w1.alloc (.cells (Array.replicate c (Value.int .u8 0)) 5) = w2 at *
  generalize w1.heap.size = g_out at *
  have hg : W0.heap.size ≤ g_out := by omega
  have h_r := Lib.hid (show BRow w2 g_out (lrow F c 0) by unfold BRow; rw [lrow_zero]; simpa using r_out.out)
  have hgw : w.heap.size ≤ g_out := d_out.out.1
  clear hg0 hc1 FN MK r_out
  go_wp2_with fail
  go_loopw [11, 37] (fun _ i wr => ∃ k : Nat, k ≤ c ∧ i = .int .i64 k ∧ Hid (BRow wr g_out (lrow F c k) ∧ Below w.heap.size w wr ∧ Below W0.heap.size W0 wr)) (fun _ i _ => c - (intOf i).toNat)
  case atStart => exact ⟨0, by omega, rfl, ⟨h_r.out, BB.out, h_w.out⟩⟩
  case round =>
    clear h_r BB h_w
    obtain ⟨k, hk, rfl, hinv⟩ := hrel
    obtain ⟨h_r, BB, h_w⟩ := hinv.out
    replace h_r := Lib.hid h_r; replace BB := Lib.hid BB; replace h_w := Lib.hid h_w
    clear hinv
    by_cases hlt : k < c
    · have k0 : (0 : Int) ≤ (k : Int) := by omega
      have k1 : (k : Int) < (c : Int) := by omega
      go_wp2_with fail
      refine (CC.out k _ h_w.out (by omega)).mono ?_
      rintro e w3 ⟨rfl, hb⟩
      replace h_r := Lib.hid (BRow.keep h_r.out hb)
      replace h_w := Lib.hid (Below.fol h_w.out hb)
      replace BB := Lib.hid (below_next BB.out hb)
      clear hb
      have cz := row_at h_r.out (by rw [lrow_len]; exact hlt)
      have fz := AtB.fr h_r.out k
      generalize (lrow F c k).getD k 0 = zz at cz
      go_wp2_with fail
      go_roundw
      case rel =>
        refine ⟨k + 1, by omega, by go_num, ⟨?_, below_set BB.out hgw _, below_set h_w.out hg _⟩⟩
        rw [← lrow_set hlt]
        exact BRow.set h_r.out k (F k)
      case measure => simp [intOf]; omega
    · obtain rfl : k = c := by omega
      go_wp2_with fail
      go_ret
      refine ⟨g_out, ?_, BB.out, hgw, ?_⟩
      · simp
      · rw [← lrow_all]; exact h_r.out
theorem func_nil (w : World) : (Go.binOp BinOp.eql 50 .nilFunc .nilFunc).run Try.prog w = .ok (.bool true) w := by kernel_rfl
set_option maxRecDepth 100000 in
set_option maxHeartbeats 4000000 in
theorem lby_lt (f : Value) (c u v : Int) (h : c < 1) (w : World) :
    Calls Try.prog 52 #[f, .int .i64 c, .int .i64 u, .int .i64 v] w fun e w' => e = .returned (.slice none 0 0) ∧ Below w.heap.size w w' := by
  have hc1 : decide (c < 1) = true := decide_eq_true h
  go_enter Try.func52, Try.ntmps52
  go_wp2_with fail
  have BB : Hid (Below w.heap.size w w) := Below.refl _ _
  go_wp2_with fail
  go_ret
  exact ⟨rfl, BB.out⟩
set_option maxRecDepth 100000 in
set_option maxHeartbeats 4000000 in
theorem lby_nil (c u v : Int) (h : 1 ≤ c) (w : World) :
    Calls Try.prog 52 #[.nilFunc, .int .i64 c, .int .i64 u, .int .i64 v] w fun e w' => e = .returned (.slice none 0 0) ∧ Below w.heap.size w w' := by
  have hc1 : decide (c < 1) = false := decide_eq_false (by omega)
  have FN0 := func_nil
  go_enter Try.func52, Try.ntmps52
  go_wp2_with fail
  have BB : Hid (Below w.heap.size w w) := Below.refl _ _
  go_wp2_with fail
  go_ret
  exact ⟨rfl, BB.out⟩
set_option maxRecDepth 100000 in
set_option maxHeartbeats 4000000 in
theorem lby_out (K : Nat) (a : Value) (c u v : Int) (h : 1 ≤ c) (hin : (inB u 70368744177664 && inB v 70368744177664) = false) (w : World) :
    Calls Try.prog 52 #[.func (.func K) #[a] #[], .int .i64 c, .int .i64 u, .int .i64 v] w fun e w' => e = .returned (.slice none 0 0) ∧ Below w.heap.size w w' := by
  have hc1 : decide (c < 1) = false := decide_eq_false (by omega)
  have FN := func_some
  have CI := Lib.hid (fun x w => lin_in x w)
  rcases hu : inB u 70368744177664 with _ | _
  · replace hu := Lib.hid hu
    go_enter Try.func52, Try.ntmps52
    go_wp2_with fail
    have BB : Hid (Below w.heap.size w w) := Below.refl _ _
    refine (CI.out _ _).mono ?_
    rintro e w9 ⟨rfl, rfl⟩
    rw [hu.out]
    go_wp2_with fail
    go_ret
    exact ⟨rfl, BB.out⟩
  · have hv : inB v 70368744177664 = false := by rw [hu] at hin; simpa using hin
    replace hu := Lib.hid hu
    replace hv := Lib.hid hv
    go_enter Try.func52, Try.ntmps52
    go_wp2_with fail
    have BB : Hid (Below w.heap.size w w) := Below.refl _ _
    refine (CI.out _ _).mono ?_
    rintro e w9 ⟨rfl, rfl⟩
    rw [hu.out]
    go_wp2_with fail
    refine (CI.out _ _).mono ?_
    rintro e w9 ⟨rfl, rfl⟩
    rw [hv.out]
    go_wp2_with fail
    go_ret
    exact ⟨rfl, BB.out⟩

end Go.Proofs.Ytnklbnphiokpiaa

set_option linter.unusedVariables false
set_option linter.unusedSimpArgs false
namespace Go.Proofs.Ytnklbnphiokpiaa
open Go.RowKit
def GiveTwo (f : Int) (w : World) (e : Ending) (w' : World) : Prop := ∃ g, e = .returned (.slice (some ⟨g, 0, none⟩) 2 2) ∧ Below w.heap.size w w' ∧ AtB w' g #[.int .i64 (65536 - f), .int .i64 f] 2
theorem rlin (f : Int) (hf : 0 ≤ f ∧ f < 65536) (w : World) : Calls Try.prog 54 #[.int .i64 f] w (GiveTwo f w) := by
  have e : IntKind.i64.wrap (65536 - f) = 65536 - f := iw (by omega)
  obtain ⟨F, hF⟩ : ∃ F, F = 65536 - f := ⟨_, rfl⟩
  unfold GiveTwo
  rw [← hF] at e ⊢
  have e' : IntKind.i64.wrap (65536 - f) = F := by rw [← hF]; exact e
  clear hF e
  go_enter Try.func54, Try.ntmps54
  go_wp2
  go_ret
  exact ⟨w.heap.size, rfl, below_new (Below.refl _ _) _, new_at w _ _⟩
theorem mix_wd {W : Nat → Int} {Lf : Nat → List Int} {k : Nat} (hW : ∀ i, Wd 130 (W i)) (hz : ∀ i, Wd 63 ((Lf i).getD k 0)) : ∀ i, Wd (193 + i) (mixS W Lf k i)
  | 0 => show Wd 193 0 from (i64_wd (show I64 0 from ⟨by omega, by omega⟩)).up (by omega)
  | i + 1 => by
    have h := (mix_wd hW hz i).add (((hW i).mul (hz i)).up (show 130 + 63 ≤ 193 + i by omega))
    exact h
def two (x y : Int) (i : Nat) : Int := [x, y].getD i 0
def four (L : List Int) (i : Nat) : List Int := [L, [], L, []].getD i []
theorem mix_row (L : List Int) (f g : Int) (c : Nat) : (List.range c).map (fun k => byteI (mixS (fun i => two (65536 - f) f (i % 2) * two (65536 - g) g (i / 2)) (four L) k 4) 4294967296) = linRow L [] L [] f g c := by
  unfold linRow
  apply List.map_congr_left
  intro k _
  simp only [mixS, linAt, two, four, Int.zero_add]
  rfl
theorem mix4 (sA : Option Addr) (l cap rb wb hb c : Nat) (L : List Int) (f g : Int) (hf : 0 ≤ f ∧ f < 65536) (hg : 0 ≤ g ∧ g < 65536) (hc : c ≤ 1000) (T : TypeId) (o : Value) (w : World) (hs : BS w (.slice sA l cap) L) (hr : AtB w rb #[.slice sA l cap, .slice none 0 0, .slice sA l cap, .slice none 0 0] T) (ha : AtB w wb #[.int .i64 (65536 - f), .int .i64 f] 2) (hbb : AtB w hb #[.int .i64 (65536 - g), .int .i64 g] 2) (ho : BR w o 4294967296) :
    Calls Try.prog 45 #[.slice (some ⟨rb, 0, none⟩) 4 4, .int .i64 (c : Int), .slice (some ⟨wb, 0, none⟩) 2 2, .slice (some ⟨hb, 0, none⟩) 2 2, o] w fun e w' => ∃ r, e = .returned r ∧ Below w.heap.size w w' ∧ BS w' r (linRow L [] L [] f g c) := by
  have ba : ∀ i, I64 (two (65536 - f) f i) := fun i => by
    match i with
    | 0 => exact ⟨by simp [two]; omega, by simp [two]; omega⟩
    | 1 => exact ⟨by simp [two]; omega, by simp [two]; omega⟩
    | n + 2 => exact ⟨by simp [two], by simp [two]⟩
  have bb : ∀ i, I64 (two (65536 - g) g i) := fun i => by
    match i with
    | 0 => exact ⟨by simp [two]; omega, by simp [two]; omega⟩
    | 1 => exact ⟨by simp [two]; omega, by simp [two]; omega⟩
    | n + 2 => exact ⟨by simp [two], by simp [two]⟩
  have bz : ∀ i k, Wd 63 ((four L i).getD k 0) := fun i k => by
    have h0 : Wd 63 (0 : Int) := i64_wd ⟨by omega, by omega⟩
    have hL : Wd 63 (L.getD k 0) := by have := hs.bytes k; exact i64_wd ⟨by omega, by omega⟩
    match i with
    | 0 => exact hL
    | 1 => simpa [four] using h0
    | 2 => exact hL
    | 3 => simpa [four] using h0
    | n + 4 => simpa [four] using h0
  rw [← mix_row]
  have hnil : BS w (.slice none 0 0) [] := ⟨none, 0, rfl, by simp, by simp, by simp, fun h => absurd rfl h⟩
  refine r29mix rb 0 4 4 c wb 0 2 2 hb 0 2 2 (fun i => [Value.slice sA l cap, .slice none 0 0, .slice sA l cap, .slice none 0 0].getD i (.slice none 0 0)) (four L) (two (65536 - f) f) (two (65536 - g) g) o 4294967296 w hc (by omega) (by omega) (by omega) (by omega) (by omega) ba bb (fun k i hi => (mix_wd (fun i => ((i64_wd (ba _)).mul (i64_wd (bb _))).up (by omega)) (fun i => bz i k) i).up (by omega)) (by omega) ((i64_wd ⟨by omega, by omega⟩).up (by omega)) ho hr.lt ?_ ?_ ha.lt ?_ hbb.lt ?_
  · intro i hi
    match i, hi with
    | 0, _ => exact hr.cell 0 rfl
    | 1, _ => exact hr.cell 1 rfl
    | 2, _ => exact hr.cell 2 rfl
    | 3, _ => exact hr.cell 3 rfl
  · intro i hi
    match i, hi with
    | 0, _ => exact hs
    | 1, _ => exact hnil
    | 2, _ => exact hs
    | 3, _ => exact hnil
  · intro i hi
    match i, hi with
    | 0, _ => exact ha.cell 0 rfl
    | 1, _ => exact ha.cell 1 rfl
  · intro i hi
    match i, hi with
    | 0, _ => exact hbb.cell 0 rfl
    | 1, _ => exact hbb.cell 1 rfl
end Go.Proofs.Ytnklbnphiokpiaa

set_option linter.unusedVariables false
set_option linter.unusedSimpArgs false
namespace Go.Proofs.Ytnklbnphiokpiaa
open Go.RowKit
set_option maxRecDepth 100000 in
set_option maxHeartbeats 4000000 in
theorem linearBy_many (n u v : Int) (A : Option Addr) (l cap : Nat) (h : 50 < n ∨ 50 < l) (w : World) :
    Calls Try.prog 11 #[.int .i64 n, .agg #[.int .i64 u, .int .i64 v], .slice A l cap] w fun e w' => e = .returned (.bool true) ∧ Below w.heap.size w w' := by
  by_cases h1 : 50 < n
  · skip
    go_enter Try.func11, Try.ntmps11
    go_wp2_with fail
    have BB := start1 w #[.int .i64 u, .int .i64 v] P2T
    obtain ⟨BB, hsz, r_p⟩ := BB
    generalize (w.alloc (.cells #[.int .i64 u, .int .i64 v] P2T)) = w0 at *
    replace BB := Lib.hid BB
    replace r_p := Lib.hid r_p
    clear hsz
    go_ret
    exact ⟨rfl, BB.out⟩
  · have h2 : (50 : Int) < (l : Int) := by omega
    go_enter Try.func11, Try.ntmps11
    go_wp2_with fail
    have BB := start1 w #[.int .i64 u, .int .i64 v] P2T
    obtain ⟨BB, hsz, r_p⟩ := BB
    generalize (w.alloc (.cells #[.int .i64 u, .int .i64 v] P2T)) = w0 at *
    replace BB := Lib.hid BB
    replace r_p := Lib.hid r_p
    clear hsz
    go_ret
    exact ⟨rfl, BB.out⟩
set_option maxRecDepth 100000 in
set_option maxHeartbeats 4000000 in
theorem linearBy_less (n u v : Int) (hu : I64 u) (hv : I64 v) (A : Option Addr) (l cap : Nat) (h : n < 1) (hl : l ≤ 50) (w : World) :
    Calls Try.prog 11 #[.int .i64 n, .agg #[.int .i64 u, .int .i64 v], .slice A l cap] w fun e w' => e = .returned (.bool true) ∧ Below w.heap.size w w' := by
  have h1 : ¬ 50 < n := by omega
  have h2 : ¬ (50 : Int) < (l : Int) := by omega
  have CA := Lib.hid (fun f w => lby_lt f n u v h w)
  have CL := Lib.hid (fun w => alive29 w)
  have SU := Lib.hid (fun w => rsplit u hu w)
  have SV := Lib.hid (fun w => rsplit v hv w)
  generalize u / 65536 = fx at *
  generalize v / 65536 = fy at *
  generalize u % 65536 = fu at *
  generalize v % 65536 = fv at *
  go_enter Try.func11, Try.ntmps11
  go_wp2_with fail
  have BB := start1 w #[.int .i64 u, .int .i64 v] P2T
  obtain ⟨BB, hsz, r_p⟩ := BB
  generalize (w.alloc (.cells #[.int .i64 u, .int .i64 v] P2T)) = w0 at *
  replace BB := Lib.hid BB
  replace r_p := Lib.hid r_p
  clear hsz
  refine (SU.out _).mono ?_
  rintro e w9 ⟨rfl, rfl⟩
  obtain ⟨c_p0, c_p1, f_p0, f_p1⟩ := reads2 r_p.out
  have l_p := r_p.out.lt
  go_wp2_with fail
  refine (SV.out _).mono ?_
  rintro e w9 ⟨rfl, rfl⟩
  go_upto_region 5 with fail
  go_wp2_with fail
  clear c_p0 c_p1 f_p0 f_p1 l_p
  have d_a := Lib.hid (And.intro BB.out.size (And.intro r_p.out.lt (True.intro)))
  obtain ⟨hb, r_a⟩ := laid w0 #[.slice A l cap, .int .i64 fx, .int .i64 fy, .bool false] A29
  replace r_p := Lib.hid (r_p.out.keep hb)
  replace BB := Lib.hid (below_next BB.out hb)
  replace r_a := Lib.hid r_a
  clear hb
  generalize w0.alloc (.cells #[.slice A l cap, .int .i64 fx, .int .i64 fy, .bool false] A29) = w1 at *
  generalize w0.heap.size = g_a at *
  refine (CA.out _ _).mono ?_
  rintro e w2 ⟨rfl, hb⟩
  replace r_p := Lib.hid (r_p.out.keep hb)
  replace r_a := Lib.hid (r_a.out.keep hb)
  replace BB := Lib.hid (below_next BB.out hb)
  clear hb
  obtain ⟨c_p0, c_p1, f_p0, f_p1⟩ := reads2 r_p.out
  have l_p := r_p.out.lt
  go_wp2_with fail
  refine (CA.out _ _).mono ?_
  rintro e w3 ⟨rfl, hb⟩
  clear c_p0 c_p1 f_p0 f_p1 l_p
  replace r_p := Lib.hid (r_p.out.keep hb)
  replace r_a := Lib.hid (r_a.out.keep hb)
  replace BB := Lib.hid (below_next BB.out hb)
  clear hb
  obtain ⟨c_a0, c_a1, c_a2, c_a3, f_a0, f_a1, f_a2, f_a3⟩ := reads4 r_a.out
  have l_a := r_a.out.lt
  obtain ⟨c_p0, c_p1, f_p0, f_p1⟩ := reads2 r_p.out
  have l_p := r_p.out.lt
  go_wp2_with fail
  refine (CL.out _).mono ?_
  rintro e w4 ⟨rfl, hb⟩
  clear c_a0 c_a1 c_a2 c_a3 f_a0 f_a1 f_a2 f_a3 l_a c_p0 c_p1 f_p0 f_p1 l_p
  replace r_p := Lib.hid (r_p.out.keep hb)
  replace r_a := Lib.hid (r_a.out.keep hb)
  replace BB := Lib.hid (below_next BB.out hb)
  clear hb
  go_wp2_with fail
  go_ret
  exact ⟨rfl, BB.out⟩
set_option maxRecDepth 100000 in
set_option maxHeartbeats 4000000 in
theorem linearBy_out (n u v : Int) (hu : I64 u) (hv : I64 v) (A : Option Addr) (l cap : Nat) (h : 1 ≤ n) (hn : n ≤ 50) (hl : l ≤ 50) (hin : (inB u 70368744177664 && inB v 70368744177664) = false) (w : World) :
    Calls Try.prog 11 #[.int .i64 n, .agg #[.int .i64 u, .int .i64 v], .slice A l cap] w fun e w' => e = .returned (.bool true) ∧ Below w.heap.size w w' := by
  have h1 : ¬ 50 < n := by omega
  have h2 : ¬ (50 : Int) < (l : Int) := by omega
  have h3 : decide (n < 1) = false := decide_eq_false (by omega)
  have CA := Lib.hid (fun K a w => lby_out K a n u v h hin w)
  have CN := Lib.hid (fun w => lby_nil n u v h w)
  have CR := Lib.hid (fun w => right_any u v w)
  replace hin := Lib.hid hin
  have CL := Lib.hid (fun w => alive29 w)
  have SU := Lib.hid (fun w => rsplit u hu w)
  have SV := Lib.hid (fun w => rsplit v hv w)
  generalize u / 65536 = fx at *
  generalize v / 65536 = fy at *
  generalize u % 65536 = fu at *
  generalize v % 65536 = fv at *
  go_enter Try.func11, Try.ntmps11
  go_wp2_with fail
  have BB := start1 w #[.int .i64 u, .int .i64 v] P2T
  obtain ⟨BB, hsz, r_p⟩ := BB
  generalize (w.alloc (.cells #[.int .i64 u, .int .i64 v] P2T)) = w0 at *
  replace BB := Lib.hid BB
  replace r_p := Lib.hid r_p
  clear hsz
  refine (SU.out _).mono ?_
  rintro e w9 ⟨rfl, rfl⟩
  obtain ⟨c_p0, c_p1, f_p0, f_p1⟩ := reads2 r_p.out
  have l_p := r_p.out.lt
  go_wp2_with fail
  refine (SV.out _).mono ?_
  rintro e w9 ⟨rfl, rfl⟩
  go_upto_region 5 with fail
  go_wp2_with fail
  clear c_p0 c_p1 f_p0 f_p1 l_p
  have d_a := Lib.hid (And.intro BB.out.size (And.intro r_p.out.lt (True.intro)))
  obtain ⟨hb, r_a⟩ := laid w0 #[.slice A l cap, .int .i64 fx, .int .i64 fy, .bool false] A29
  replace r_p := Lib.hid (r_p.out.keep hb)
  replace BB := Lib.hid (below_next BB.out hb)
  replace r_a := Lib.hid r_a
  clear hb
  generalize w0.alloc (.cells #[.slice A l cap, .int .i64 fx, .int .i64 fy, .bool false] A29) = w1 at *
  generalize w0.heap.size = g_a at *
  refine (CA.out _ _ _).mono ?_
  rintro e w2 ⟨rfl, hb⟩
  replace r_p := Lib.hid (r_p.out.keep hb)
  replace r_a := Lib.hid (r_a.out.keep hb)
  replace BB := Lib.hid (below_next BB.out hb)
  clear hb
  obtain ⟨c_p0, c_p1, f_p0, f_p1⟩ := reads2 r_p.out
  have l_p := r_p.out.lt
  go_wp2_with fail
  refine (CN.out _).mono ?_
  rintro e w3 ⟨rfl, hb⟩
  clear c_p0 c_p1 f_p0 f_p1 l_p
  replace r_p := Lib.hid (r_p.out.keep hb)
  replace r_a := Lib.hid (r_a.out.keep hb)
  replace BB := Lib.hid (below_next BB.out hb)
  clear hb
  obtain ⟨c_a0, c_a1, c_a2, c_a3, f_a0, f_a1, f_a2, f_a3⟩ := reads4 r_a.out
  have l_a := r_a.out.lt
  obtain ⟨c_p0, c_p1, f_p0, f_p1⟩ := reads2 r_p.out
  have l_p := r_p.out.lt
  go_wp2_with fail
  refine (CR.out _).mono ?_
  rintro e w9 ⟨rfl, rfl⟩
  rw [hin.out]
  go_wp2_with fail
  refine (CL.out _).mono ?_
  rintro e w4 ⟨rfl, hb⟩
  clear c_a0 c_a1 c_a2 c_a3 f_a0 f_a1 f_a2 f_a3 l_a c_p0 c_p1 f_p0 f_p1 l_p
  replace r_p := Lib.hid (r_p.out.keep hb)
  replace r_a := Lib.hid (r_a.out.keep hb)
  replace BB := Lib.hid (below_next BB.out hb)
  clear hb
  go_wp2_with fail
  go_ret
  exact ⟨rfl, BB.out⟩
set_option maxRecDepth 100000 in
set_option maxHeartbeats 8000000 in
theorem linearBy_ok (c : Nat) (u v : Int) (hu : I64 u) (hv : I64 v) (A : Option Addr) (cap l : Nat) (L : List Int) (hll : l = L.length) (hc : 1 ≤ c ∧ c ≤ 50) (hl : l ≤ 50) (hin : (inB u 70368744177664 && inB v 70368744177664) = true) (w : World) (hs : BS w (.slice A l cap) L) :
    Calls Try.prog 11 #[.int .i64 (c : Int), .agg #[.int .i64 u, .int .i64 v], .slice A l cap] w fun e w' => e = .returned (.bool true) ∧ Below w.heap.size w w' := by
  have h1 : ¬ 50 < (c : Int) := by omega
  have h2 : ¬ (50 : Int) < (l : Int) := by omega
  have h3 : decide ((c : Int) < 1) = false := decide_eq_false (by omega)
  have hin2 := hin
  rw [Bool.and_eq_true] at hin2
  obtain ⟨u0, u1⟩ := inB_iff.1 hin2.1
  obtain ⟨v0, v1⟩ := inB_iff.1 hin2.2
  have hblk : ∀ w1 : World, Below w.heap.size w w1 → L ≠ [] → ∀ a, A = some a → a.block < w1.heap.size := fun w1 hb hL a ea => by
    obtain ⟨b', off', cap3, e2, -, -, hlt2, -⟩ := hs.some hL
    simp only [Value.slice.injEq] at e2
    rw [e2.1] at ea
    simp only [Option.some.injEq] at ea
    rw [← ea]
    exact Nat.lt_of_lt_of_le hlt2 hb.size
  have hnil : ∀ w : World, BS w (.slice none 0 0) [] := fun w => ⟨none, 0, rfl, by simp, by simp, by simp, fun h => absurd rfl h⟩
  have hfx : -1073741824 ≤ u / 65536 ∧ u / 65536 ≤ 1073741824 := by omega
  have hfy : -1073741824 ≤ v / 65536 ∧ v / 65536 ≤ 1073741824 := by omega
  have hfu : 0 ≤ u % 65536 ∧ u % 65536 < 65536 := by omega
  have hfv : 0 ≤ v % 65536 ∧ v % 65536 < 65536 := by omega
  have G0 := fun g w hg => get29 g l cap A L (u / 65536) (v / 65536) 0 0 hfx hfy ⟨.inl rfl, .inl rfl⟩ w hg
  have G1 := fun g w hg => get29 g l cap A L (u / 65536) (v / 65536) 1 0 hfx hfy ⟨.inr rfl, .inl rfl⟩ w hg
  have G2 := fun g w hg => get29 g l cap A L (u / 65536) (v / 65536) 0 1 hfx hfy ⟨.inl rfl, .inr rfl⟩ w hg
  have G3 := fun g w hg => get29 g l cap A L (u / 65536) (v / 65536) 1 1 hfx hfy ⟨.inr rfl, .inr rfl⟩ w hg
  have h10 : ¬ (1 : Int) = 0 := by decide
  simp only [Int.add_zero, if_true, if_neg h10] at G0 G1 G2 G3
  have hY := fun w1 (hb : Below w.heap.size w w1) => hs.below hb
  have P0 : ∀ w0 w1 w' : World, Below w.heap.size w w0 → Below w0.heap.size w0 w1 → ∀ e, (e = Ending.returned (.slice A l cap) ∧ Below w1.heap.size w1 w') → GiveGet2 w0 L w1 e w' := by
    rintro w0 w1 w' hb0 hb e ⟨rfl, hb1⟩
    exact ⟨A, l, cap, rfl, hb1, (hs.below (hb0.trans (Below.less hb hb0.size))).below hb1, fun hL a ea => .inl (hblk w0 hb0 hL a ea)⟩
  have P1 : ∀ w0 w1 w' : World, ∀ e, (e = Ending.returned (.slice none 0 0) ∧ Below w1.heap.size w1 w') → GiveGet2 w0 [] w1 e w' := by
    rintro w0 w1 w' e ⟨rfl, hb1⟩
    exact ⟨none, 0, 0, rfl, hb1, hnil _, fun hL => absurd rfl hL⟩
  have hc1000 : 1 ≤ c ∧ c ≤ 1000 := ⟨hc.1, by omega⟩
  have CB := Lib.hid (fun g w0 (hb0 : Below w.heap.size w w0) (hg : AtB w0 g #[.slice A l cap, .int .i64 (u / 65536), .int .i64 (v / 65536), .bool false] A29) =>
    yby (.pointer (some ⟨g, 0, none⟩)) c hc1000 L [] L [] u v hin2.1 hin2.2 w0
      (fun w1 hb => (G0 g w1 (hg.keep hb)).mono (fun e w' h => P0 w0 w1 w' hb0 hb e h))
      (fun w1 hb => (G1 g w1 (hg.keep hb)).mono (fun e w' h => P1 w0 w1 w' e h))
      (fun w1 hb => (G2 g w1 (hg.keep hb)).mono (fun e w' h => P0 w0 w1 w' hb0 hb e h))
      (fun w1 hb => (G3 g w1 (hg.keep hb)).mono (fun e w' h => P1 w0 w1 w' e h)))
  clear G0 G1 G2 G3 P0 P1 hY h10 hfx hfy
  have CN := Lib.hid (fun w => lby_nil c u v (by omega) w)
  have CR := Lib.hid (fun w => right_any u v w)
  have CF := Lib.hid (fun w => rlin (u % 65536) hfu w)
  have CG := Lib.hid (fun w => rlin (v % 65536) hfv w)
  have CP := Lib.hid (fun w => pow_any 32 (by omega) w)
  rw [show ((2 : Int) ^ 32) = 4294967296 from by decide] at CP
  have CM := Lib.hid (fun rb wb hb T o w hs hr ha hbb ho => mix4 A l cap rb wb hb c L (u % 65536) (v % 65536) hfu hfv (by omega) T o w hs hr ha hbb ho)
  have CS := Lib.hid (fun u v zs w hu hv => rsame u v zs w hu hv)
  have CL := Lib.hid (fun w => alive29 w)
  replace hs := Lib.hid hs
  replace hin := Lib.hid hin
  replace hll := Lib.hid hll
  clear hin2 u0 u1 v0 v1 hblk hnil hfu hfv hc1000
  have SU := Lib.hid (fun w => rsplit u hu w)
  have SV := Lib.hid (fun w => rsplit v hv w)
  generalize u / 65536 = fx at *
  generalize v / 65536 = fy at *
  generalize u % 65536 = fu at *
  generalize v % 65536 = fv at *
  have hlen : Hid ((linRow L [] L [] fu fv c).length = c) := by show _ = _; simp [linRow]
  have hbyt : Hid (∀ z ∈ linRow L [] L [] fu fv c, 0 ≤ z ∧ z ≤ 255) := fun z hz => by
    unfold linRow at hz
    obtain ⟨k, -, rfl⟩ := List.mem_map.1 hz
    unfold linAt byteI
    split <;> omega
  generalize linRow L [] L [] fu fv c = R at *
  go_enter Try.func11, Try.ntmps11
  go_wp2_with fail
  have BB := start1 w #[.int .i64 u, .int .i64 v] P2T
  obtain ⟨BB, hsz, r_p⟩ := BB
  generalize (w.alloc (.cells #[.int .i64 u, .int .i64 v] P2T)) = w0 at *
  replace BB := Lib.hid BB
  replace r_p := Lib.hid r_p
  clear hsz
  refine (SU.out _).mono ?_
  rintro e w9 ⟨rfl, rfl⟩
  obtain ⟨c_p0, c_p1, f_p0, f_p1⟩ := reads2 r_p.out
  have l_p := r_p.out.lt
  go_wp2_with fail
  refine (SV.out _).mono ?_
  rintro e w9 ⟨rfl, rfl⟩
  go_upto_region 5 with fail
  go_wp2_with fail
  clear c_p0 c_p1 f_p0 f_p1 l_p
  have d_a := Lib.hid (And.intro BB.out.size (And.intro r_p.out.lt (True.intro)))
  obtain ⟨hb, r_a⟩ := laid w0 #[.slice A l cap, .int .i64 fx, .int .i64 fy, .bool false] A29
  replace r_p := Lib.hid (r_p.out.keep hb)
  replace BB := Lib.hid (below_next BB.out hb)
  replace r_a := Lib.hid r_a
  clear hb
  generalize w0.alloc (.cells #[.slice A l cap, .int .i64 fx, .int .i64 fy, .bool false] A29) = w1 at *
  generalize w0.heap.size = g_a at *
  refine (CB.out g_a _ BB.out r_a.out).mono ?_
  rintro e w2 ⟨o, rfl, hb, ho, hr⟩
  replace r_p := Lib.hid (r_p.out.keep hb)
  replace r_a := Lib.hid (r_a.out.keep hb)
  replace BB := Lib.hid (below_next BB.out hb)
  clear hb
  have h_o := Lib.hid (show BS w2 (.slice (some ⟨o, 0, none⟩) R.length R.length) R from hr.bs hbyt.out (by have := hlen.out; omega))
  rw [hlen.out] at h_o
  rw [hlen.out]
  obtain ⟨c_p0, c_p1, f_p0, f_p1⟩ := reads2 r_p.out
  have l_p := r_p.out.lt
  go_wp2_with fail
  refine (CN.out _).mono ?_
  rintro e w3 ⟨rfl, hb⟩
  clear c_p0 c_p1 f_p0 f_p1 l_p
  replace r_p := Lib.hid (r_p.out.keep hb)
  replace r_a := Lib.hid (r_a.out.keep hb)
  replace h_o := Lib.hid (BS.below h_o.out hb)
  replace BB := Lib.hid (below_next BB.out hb)
  clear hb
  obtain ⟨c_a0, c_a1, c_a2, c_a3, f_a0, f_a1, f_a2, f_a3⟩ := reads4 r_a.out
  have l_a := r_a.out.lt
  obtain ⟨c_p0, c_p1, f_p0, f_p1⟩ := reads2 r_p.out
  have l_p := r_p.out.lt
  go_wp2_with fail
  refine (CR.out _).mono ?_
  rintro e w9 ⟨rfl, rfl⟩
  rw [hin.out]
  go_upto_region 11 with fail
  go_wp2_with fail
  clear c_a0 c_a1 c_a2 c_a3 f_a0 f_a1 f_a2 f_a3 l_a c_p0 c_p1 f_p0 f_p1 l_p
  have d_rr := Lib.hid (And.intro BB.out.size (And.intro r_p.out.lt (And.intro r_a.out.lt (True.intro))))
  obtain ⟨hb, r_rr⟩ := laid w3 #[.slice A l cap, .slice none 0 0, .slice A l cap, .slice none 0 0] 33
  replace r_p := Lib.hid (r_p.out.keep hb)
  replace r_a := Lib.hid (r_a.out.keep hb)
  replace h_o := Lib.hid (BS.below h_o.out hb)
  replace BB := Lib.hid (below_next BB.out hb)
  replace r_rr := Lib.hid r_rr
  clear hb
  generalize w3.alloc (.cells #[.slice A l cap, .slice none 0 0, .slice A l cap, .slice none 0 0] 33) = w4 at *
  generalize w3.heap.size = g_rr at *
  refine (CF.out _).mono ?_
  rintro e w5 ⟨gf, rfl, hb, hgf⟩
  replace r_p := Lib.hid (r_p.out.keep hb)
  replace r_a := Lib.hid (r_a.out.keep hb)
  replace r_rr := Lib.hid (r_rr.out.keep hb)
  replace h_o := Lib.hid (BS.below h_o.out hb)
  replace BB := Lib.hid (below_next BB.out hb)
  clear hb
  have h_f := Lib.hid hgf
  clear hgf
  go_wp2_with fail
  refine (CG.out _).mono ?_
  rintro e w6 ⟨gg, rfl, hb, hgg⟩
  replace r_p := Lib.hid (r_p.out.keep hb)
  replace r_a := Lib.hid (r_a.out.keep hb)
  replace r_rr := Lib.hid (r_rr.out.keep hb)
  replace h_o := Lib.hid (BS.below h_o.out hb)
  replace h_f := Lib.hid (AtB.keep h_f.out hb)
  replace BB := Lib.hid (below_next BB.out hb)
  clear hb
  have h_g := Lib.hid hgg
  clear hgg
  go_wp2_with fail
  refine (CP.out _).mono ?_
  rintro e w7 ⟨o32, rfl, hb, ho32⟩
  replace r_p := Lib.hid (r_p.out.keep hb)
  replace r_a := Lib.hid (r_a.out.keep hb)
  replace r_rr := Lib.hid (r_rr.out.keep hb)
  replace h_o := Lib.hid (BS.below h_o.out hb)
  replace h_f := Lib.hid (AtB.keep h_f.out hb)
  replace h_g := Lib.hid (AtB.keep h_g.out hb)
  replace BB := Lib.hid (below_next BB.out hb)
  clear hb
  have h_p := Lib.hid ho32
  clear ho32
  go_wp2_with fail
  refine (CM.out _ _ _ _ _ _ (hs.out.below BB.out) r_rr.out h_f.out h_g.out h_p.out).mono ?_
  rintro e w8 ⟨rq, rfl, hb, hrq⟩
  replace r_p := Lib.hid (r_p.out.keep hb)
  replace r_a := Lib.hid (r_a.out.keep hb)
  replace r_rr := Lib.hid (r_rr.out.keep hb)
  replace h_o := Lib.hid (BS.below h_o.out hb)
  replace h_f := Lib.hid (AtB.keep h_f.out hb)
  replace h_g := Lib.hid (AtB.keep h_g.out hb)
  replace h_p := Lib.hid (BR.below h_p.out hb)
  replace BB := Lib.hid (below_next BB.out hb)
  clear hb
  have h_q := Lib.hid hrq
  clear hrq
  go_wp2_with fail
  refine (CS.out _ _ _ _ h_o.out h_q.out).mono ?_
  rintro e w9 ⟨rfl, rfl⟩
  go_wp2_with fail
  refine (CL.out _).mono ?_
  rintro e w10 ⟨rfl, hb⟩
  replace r_p := Lib.hid (r_p.out.keep hb)
  replace r_a := Lib.hid (r_a.out.keep hb)
  replace r_rr := Lib.hid (r_rr.out.keep hb)
  replace h_o := Lib.hid (BS.below h_o.out hb)
  replace h_f := Lib.hid (AtB.keep h_f.out hb)
  replace h_g := Lib.hid (AtB.keep h_g.out hb)
  replace h_p := Lib.hid (BR.below h_p.out hb)
  replace h_q := Lib.hid (BS.below h_q.out hb)
  replace BB := Lib.hid (below_next BB.out hb)
  clear hb
  go_wp2_with fail
  go_ret
  exact ⟨rfl, BB.out⟩
theorem linearBy_any (n u v : Int) (hu : I64 u) (hv : I64 v) (s : Value) (L : List Int) (w : World) (hs : BS w s L) :
    Calls Try.prog 11 #[.int .i64 n, .agg #[.int .i64 u, .int .i64 v], s] w fun e w' => e = .returned (.bool true) ∧ Below w.heap.size w w' := by
  obtain ⟨A, cap, rfl⟩ := hs.form
  by_cases h : 50 < n ∨ 50 < L.length
  · exact linearBy_many n u v A _ cap h w
  · by_cases h1 : n < 1
    · exact linearBy_less n u v hu hv A _ cap h1 (by omega) w
    · cases hin : inB u 70368744177664 && inB v 70368744177664
      · exact linearBy_out n u v hu hv A _ cap (by omega) (by omega) (by omega) hin w
      · obtain ⟨c, rfl⟩ : ∃ c : Nat, n = (c : Int) := ⟨n.toNat, by omega⟩
        exact linearBy_ok c u v hu hv A cap _ L rfl (by omega) (by omega) hin w hs
end Go.Proofs.Ytnklbnphiokpiaa
