/- Walks of wide.Sub, Neg, Of, Sign, Cmp, Fits, abs, apart. -/
import Derived.Test.YtbldgbenlmjmjaaWide0
import Derived.Test.YtbldgbenlmjmjaaBox
set_option linter.unusedVariables false
namespace Go.Proofs.Ytbldgbenlmjmjaa
open Go.RowKit

theorem wadd (x y ah al bh bl : Int) (hx : W128 x ah al) (hy : W128 y bh bl) (w : World) : Calls Try.prog 71 #[wv ah al, wv bh bl] w (GiveWB (x + y) w) := by
  obtain ⟨a1, a2, rfl⟩ := hx
  obtain ⟨b1, b2, rfl⟩ := hy
  exact wadd_any ah al bh bl a1 a2 b1 b2 w

theorem wsub_law {ah al bh bl s c t d u v H : Int} (a1 : I64 ah) (a2 : U64 al) (b1 : I64 bh) (b2 : U64 bl) (hs : U64 s) (h1 : s - c * 18446744073709551616 = al - bl - 0) (c0 : 0 ≤ c) (c1 : c ≤ 1)
    (hu : U64 u) (hu' : ∃ k : Int, u = ah + 18446744073709551616 * k) (hv : U64 v) (hv' : ∃ k : Int, v = bh + 18446744073709551616 * k) (ht : U64 t) (h2 : t - d * 18446744073709551616 = u - v - c) (d0 : 0 ≤ d) (d1 : d ≤ 1)
    (hH : I64 H) (hH' : ∃ k : Int, H = t + 18446744073709551616 * k) :
    (I128 (ah * 18446744073709551616 + al - (bh * 18446744073709551616 + bl)) → W128 (ah * 18446744073709551616 + al - (bh * 18446744073709551616 + bl)) H s) ∧
    (I128 (ah * 18446744073709551616 + al - (bh * 18446744073709551616 + bl)) ↔ ¬ (¬ (ah < 0 ↔ bh < 0) ∧ ¬ (H < 0 ↔ ah < 0))) := by
  obtain ⟨k1, hu'⟩ := hu'
  obtain ⟨k2, hv'⟩ := hv'
  obtain ⟨k3, hH'⟩ := hH'
  unfold I64 U64 at *
  unfold W128 I128 I64 U64
  refine ⟨fun h => ⟨hH, hs, ?_⟩, ?_⟩
  · omega
  · constructor
    · intro h; omega
    · intro h; omega

set_option maxRecDepth 100000 in
set_option maxHeartbeats 2000000 in
theorem wsub_any (ah al bh bl : Int) (a1 : I64 ah) (a2 : U64 al) (b1 : I64 bh) (b2 : U64 bl) (w : World) :
    Calls Try.prog 104 #[wv ah al, wv bh bl] w (GiveWB (ah * 18446744073709551616 + al - (bh * 18446744073709551616 + bl)) w) := by
  obtain ⟨s, c, hs, c0, c1, h1, A1⟩ := sub64_ex al bl 0 a2 b2 (by omega) (by omega)
  obtain ⟨t, d, ht, d0, d1, h2, A2⟩ := sub64_ex (IntKind.u64.wrap ah) (IntKind.u64.wrap bh) c (wrap_u64_in _) (wrap_u64_in _) c0 c1
  have HL := Lib.hid (wsub_law a1 a2 b1 b2 hs h1.out c0 c1 (wrap_u64_in _) (wrap_u64_mod _) (wrap_u64_in _) (wrap_u64_mod _) ht h2.out d0 d1 (wrap64_in64 t) (wrap64_mod t))
  clear h1 h2
  rcases Decidable.em (ah < 0) with ha | ha <;> rcases Decidable.em (bh < 0) with hb | hb <;> rcases Decidable.em (wrap64 t < 0) with hh | hh
  all_goals
    go_enter Try.func104, Try.ntmps104
    go_wp2
    first
    | (refine bodyPost_ret (v := .tuple #[wv (wrap64 t) s, .bool true]) (by unfold results; simp only [Try.results104]; go_simp) rfl ⟨_, _, _, rfl, ?_, .inl ⟨HL.out.2.2 (by omega), rfl, HL.out.1 (HL.out.2.2 (by omega))⟩⟩
       repeat (first | exact Below.refl _ _ | apply below_new))
    | (refine bodyPost_ret (v := .tuple #[wv 0 0, .bool false]) (by unfold results; simp only [Try.results104]; go_simp) rfl ⟨_, _, _, rfl, ?_, .inr ⟨fun h => HL.out.2.1 h (by omega), rfl, rfl, rfl⟩⟩
       repeat (first | exact Below.refl _ _ | apply below_new))

theorem wsub (x y ah al bh bl : Int) (hx : W128 x ah al) (hy : W128 y bh bl) (w : World) : Calls Try.prog 104 #[wv ah al, wv bh bl] w (GiveWB (x - y) w) := by
  obtain ⟨a1, a2, rfl⟩ := hx
  obtain ⟨b1, b2, rfl⟩ := hy
  exact wsub_any ah al bh bl a1 a2 b1 b2 w

theorem W128.zero : W128 0 0 0 := ⟨⟨by omega, by omega⟩, ⟨by omega, by omega⟩, by omega⟩
theorem below_set2 {w w1 : World} (h : Below w.heap.size w w1) {b : Nat} (hb : w.heap.size ≤ b) (u v : Value) : Below w.heap.size w ((w1.setCell ⟨b, 0, none⟩ u).setCell ⟨b, 1, none⟩ v) := below_set (below_set h hb u) hb v

theorem wneg (x ah al : Int) (hx : W128 x ah al) (w : World) : Calls Try.prog 83 #[wv ah al] w (GiveWB (-x) w) := by
  have C := Lib.hid (fun w => wsub 0 x 0 0 ah al W128.zero hx w)
  rw [Int.zero_sub] at C
  clear hx
  go_enter Try.func83, Try.ntmps83
  go_wp2_with fail
  have BB := start2 w #[.int .i64 ah, .int .u64 al] 88 #[.int .i64 0, .int .u64 0] 88
  obtain ⟨BB, hsz, r_a, r_res⟩ := BB
  generalize ((w.alloc (.cells #[.int .i64 ah, .int .u64 al] 88)).alloc (.cells #[.int .i64 0, .int .u64 0] 88)) = w0 at *
  replace BB := Lib.hid BB
  replace r_a := Lib.hid r_a
  replace r_res := Lib.hid r_res
  clear hsz
  obtain ⟨c_a0, c_a1, f_a0, f_a1⟩ := reads2 r_a.out
  have l_a := r_a.out.lt
  go_wp2_with fail
  refine (C.out _).mono ?_
  rintro e w1 ⟨hi, lo, ok, rfl, hb, h1⟩
  clear c_a0 c_a1 f_a0 f_a1 l_a
  replace r_a := Lib.hid (r_a.out.keep hb)
  replace r_res := Lib.hid (r_res.out.keep hb)
  replace BB := Lib.hid (below_next BB.out hb)
  clear hb
  obtain ⟨c_res0, c_res1, f_res0, f_res1⟩ := reads2 r_res.out
  have l_res := r_res.out.lt
  go_wp2_with fail
  exact bodyPost_ret (v := .tuple #[wv hi lo, .bool ok]) (by unfold results; simp only [Try.results83]; go_simp) rfl ⟨_, _, _, rfl, below_set2 BB.out (by omega) _ _, h1⟩

/-- What of a number of 64 bits is laid. -/
def ofHi (x : Int) : Int := if x < 0 then -1 else 0
def ofLo (x : Int) : Int := x % 18446744073709551616
theorem of_w128 {x : Int} (h : I64 x) : W128 x (ofHi x) (ofLo x) := by
  unfold I64 at h; unfold W128 ofHi ofLo I64 U64; split <;> omega
theorem wof_any (x : Int) (h : I64 x) (w : World) : Calls Try.prog 84 #[.int .i64 x] w fun e w' => e = .returned (wv (ofHi x) (ofLo x)) ∧ Below w.heap.size w w' := by
  have E1 : Hid (x / 9223372036854775808 = ofHi x) := by show _ = _; unfold ofHi; unfold I64 at h; split <;> omega
  have E2 : Hid (IntKind.u64.wrap x = ofLo x) := IntKind.wrap_u64 x
  obtain ⟨h0, h1⟩ := h
  go_enter Try.func84, Try.ntmps84
  go_wp2
  rw [E1.out, E2.out]
  exact bodyPost_ret (v := wv (ofHi x) (ofLo x)) (by unfold results; simp only [Try.results84]; go_simp) rfl ⟨rfl, below_new (Below.refl _ _) _⟩
theorem wof (x : Int) (h : I64 x) (w : World) : Calls Try.prog 84 #[.int .i64 x] w (GiveW x w) := (wof_any x h w).mono fun e w' ⟨h1, h2⟩ => ⟨_, _, h1, h2, of_w128 h⟩

theorem wsign (x ah al : Int) (hx : W128 x ah al) (w : World) : Calls Try.prog 86 #[wv ah al] w fun e w' => e = .returned (.int .i64 (cmpI x 0)) ∧ Below w.heap.size w w' := by
  rcases Int.lt_trichotomy ah 0 with ha | ha | ha
  · have HC : Hid (cmpI x 0 = -1) := cmpI_lt (by unfold W128 I64 U64 at hx; omega)
    clear hx
    go_enter Try.func86, Try.ntmps86
    go_wp2
    go_ret
    exact ⟨ret_int HC.out.symm, by repeat (first | exact Below.refl _ _ | apply below_new)⟩
  · subst ha
    have h0 : 0 ≤ al := hx.2.1.1
    rcases Int.lt_or_eq_of_le h0 with hl | hl
    · have HC : Hid (cmpI x 0 = 1) := cmpI_gt (by unfold W128 I64 U64 at hx; omega)
      clear hx
      go_enter Try.func86, Try.ntmps86
      go_wp2
      go_ret
      exact ⟨ret_int HC.out.symm, by repeat (first | exact Below.refl _ _ | apply below_new)⟩
    · subst hl
      have HC : Hid (cmpI x 0 = 0) := by show _ = _; rw [show x = 0 by unfold W128 at hx; omega]; exact cmpI_eq 0
      clear hx h0
      go_enter Try.func86, Try.ntmps86
      go_wp2
      go_ret
      exact ⟨ret_int HC.out.symm, by repeat (first | exact Below.refl _ _ | apply below_new)⟩
  · have HC : Hid (cmpI x 0 = 1) := cmpI_gt (by unfold W128 I64 U64 at hx; omega)
    have h2 : ¬ ah < 0 := by omega
    clear hx
    go_enter Try.func86, Try.ntmps86
    go_wp2
    go_ret
    exact ⟨ret_int HC.out.symm, by repeat (first | exact Below.refl _ _ | apply below_new)⟩

theorem W128.cmp {x y ah al bh bl : Int} (hx : W128 x ah al) (hy : W128 y bh bl) : (x < y ↔ (ah < bh ∨ ah = bh ∧ al < bl)) ∧ (x = y ↔ ah = bh ∧ al = bl) := by
  unfold W128 I64 U64 at *; omega
end Go.Proofs.Ytbldgbenlmjmjaa
