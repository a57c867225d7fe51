/- Walks of wide's sizes (apart, abs, plus, minus, signed), of wide.Mul and Scale. -/
import Derived.Test.YtbldgbenlmjmjaaWide1
import Derived.Test.YtbldgbenlmjmjaaMul64
set_option linter.unusedVariables false
namespace Go.Proofs.Ytbldgbenlmjmjaa
open Go.RowKit

abbrev sv (hi lo : Int) : Value := .agg #[.int .u64 hi, .int .u64 lo]
/-- Two halves of a size. -/
def S128 (n hi lo : Int) : Prop := U64 hi ∧ U64 lo ∧ hi * 18446744073709551616 + lo = n
def GiveS (x : Int) (w : World) (e : Ending) (w' : World) : Prop := ∃ hi lo, e = .returned (.tuple #[sv hi lo, .bool (sgn x)]) ∧ Below w.heap.size w w' ∧ S128 (x.natAbs : Int) hi lo

theorem ret_u64bool {a b : Int} {c d : Bool} (h : a = b) (h' : c = d) : Ending.returned (.tuple #[.int .u64 a, .bool c]) = .returned (.tuple #[.int .u64 b, .bool d]) := by rw [h, h']
theorem wabs (x : Int) (h : I64 x) (w : World) : Calls Try.prog 94 #[.int .i64 x] w fun e w' => e = .returned (.tuple #[.int .u64 (x.natAbs : Int), .bool (sgn x)]) ∧ w = w' := by
  rcases Decidable.em (x < 0) with hx | hx
  · have H1 := Lib.hid (sgn_t hx)
    have H2 : Hid (IntKind.u64.wrap (-IntKind.u64.wrap x) = (x.natAbs : Int)) := by show _ = _; rw [IntKind.wrap_u64, IntKind.wrap_u64]; unfold I64 at h; omega
    clear h
    go_enter Try.func94, Try.ntmps94
    go_wp2
    go_ret2
    exact ⟨ret_u64bool (by rw [← H2.out]) H1.out.symm, rfl⟩
  · have H1 := Lib.hid (sgn_f (show 0 ≤ x by omega))
    have H2 : Hid (IntKind.u64.wrap x = (x.natAbs : Int)) := by show _ = _; rw [IntKind.wrap_u64]; unfold I64 at h; omega
    clear h
    go_enter Try.func94, Try.ntmps94
    go_wp2
    go_ret2
    exact ⟨ret_u64bool (by rw [← H2.out]) H1.out.symm, rfl⟩

theorem apart_law {ah al s c t d u : Int} (a1 : I64 ah) (a2 : U64 al) (hn : ah < 0) (hs : U64 s) (h1 : s - c * 18446744073709551616 = 0 - al - 0) (c0 : 0 ≤ c) (c1 : c ≤ 1)
    (hu : U64 u) (hu' : ∃ k : Int, u = ah + 18446744073709551616 * k) (ht : U64 t) (h2 : t - d * 18446744073709551616 = 0 - u - c) (d0 : 0 ≤ d) (d1 : d ≤ 1) : S128 ((ah * 18446744073709551616 + al).natAbs : Int) t s := by
  obtain ⟨k1, hu'⟩ := hu'
  unfold I64 U64 at *
  unfold S128 U64
  omega

set_option maxRecDepth 100000 in
theorem wapart (x ah al : Int) (hx : W128 x ah al) (w : World) : Calls Try.prog 105 #[wv ah al] w (GiveS x w) := by
  obtain ⟨a1, a2, rfl⟩ := hx
  rcases Decidable.em (ah < 0) with ha | ha
  · obtain ⟨s, c, hs, c0, c1, h1, A1⟩ := sub64_ex 0 al 0 ⟨by omega, by omega⟩ a2 (by omega) (by omega)
    obtain ⟨t, d, ht, d0, d1, h2, A2⟩ := sub64_ex 0 (IntKind.u64.wrap ah) c ⟨by omega, by omega⟩ (wrap_u64_in _) c0 c1
    have HL := Lib.hid (apart_law a1 a2 ha hs h1.out c0 c1 (wrap_u64_in _) (wrap_u64_mod _) ht h2.out d0 d1)
    have HS : Hid (sgn (ah * 18446744073709551616 + al) = true) := sgn_t (by unfold U64 at a2; omega)
    clear h1 h2
    go_enter Try.func105, Try.ntmps105
    go_wp2
    exact bodyPost_ret (v := .tuple #[sv t s, .bool true]) (by unfold results; simp only [Try.results105]; go_simp) rfl ⟨_, _, by rw [HS.out], by repeat (first | exact Below.refl _ _ | apply below_new), HL.out⟩
  · have HS : Hid (sgn (ah * 18446744073709551616 + al) = false) := sgn_f (by unfold U64 at a2; omega)
    have HL : Hid (S128 ((ah * 18446744073709551616 + al).natAbs : Int) (IntKind.u64.wrap ah) al) := by
      show S128 _ _ _
      rw [IntKind.wrap_u64]; unfold S128; unfold I64 U64 at *; omega
    go_enter Try.func105, Try.ntmps105
    go_wp2
    exact bodyPost_ret (v := .tuple #[sv (IntKind.u64.wrap ah) al, .bool false]) (by unfold results; simp only [Try.results105]; go_simp) rfl ⟨_, _, by rw [HS.out], by repeat (first | exact Below.refl _ _ | apply below_new), HL.out⟩

theorem wplus (n hi lo : Int) (h : S128 n hi lo) (w : World) : Calls Try.prog 108 #[sv hi lo] w (GiveWB n w) := by
  rcases Decidable.em (9223372036854775807 < hi) with hh | hh
  · have HL : Hid (WB n 0 0 false) := .inr ⟨by unfold S128 U64 at h; unfold I128; omega, rfl, rfl, rfl⟩
    clear h
    go_enter Try.func108, Try.ntmps108
    go_wp2
    exact bodyPost_ret (v := .tuple #[wv 0 0, .bool false]) (by unfold results; simp only [Try.results108]; go_simp) rfl ⟨_, _, _, rfl, by repeat (first | exact Below.refl _ _ | apply below_new), HL.out⟩
  · have HL : Hid (WB n (wrap64 hi) lo true) := by
      show WB _ _ _ _
      unfold S128 U64 at h
      rw [wr_in (by omega) (by omega)]
      exact .inl ⟨by unfold I128; omega, rfl, by unfold W128 I64 U64; omega⟩
    clear h
    go_enter Try.func108, Try.ntmps108
    go_wp2
    exact bodyPost_ret (v := .tuple #[wv (wrap64 hi) lo, .bool true]) (by unfold results; simp only [Try.results108]; go_simp) rfl ⟨_, _, _, rfl, by repeat (first | exact Below.refl _ _ | apply below_new), HL.out⟩

theorem minus_law {hi lo s c t d : Int} (a1 : U64 hi) (a2 : U64 lo) (hn : hi < 9223372036854775808 ∨ hi = 9223372036854775808 ∧ lo = 0) (hs : U64 s) (h1 : s - c * 18446744073709551616 = 0 - lo - 0) (c0 : 0 ≤ c) (c1 : c ≤ 1)
    (ht : U64 t) (h2 : t - d * 18446744073709551616 = 0 - hi - c) (d0 : 0 ≤ d) (d1 : d ≤ 1) : WB (-(hi * 18446744073709551616 + lo)) (wrap64 t) s true := by
  have e := wrap64_in64 t
  obtain ⟨k, hk⟩ := wrap64_mod t
  generalize wrap64 t = H at *
  refine .inl ⟨?_, rfl, ?_⟩
  · unfold I128; unfold I64 U64 at *; omega
  · unfold W128; unfold I64 U64 at *; omega

set_option maxRecDepth 100000 in
theorem wminus (n hi lo : Int) (h : S128 n hi lo) (w : World) : Calls Try.prog 109 #[sv hi lo] w (GiveWB (-n) w) := by
  obtain ⟨a1, a2, rfl⟩ := h
  obtain ⟨s, c, hs, c0, c1, h1, A1⟩ := sub64_ex 0 lo 0 ⟨by omega, by omega⟩ a2 (by omega) (by omega)
  obtain ⟨t, d, ht, d0, d1, h2, A2⟩ := sub64_ex 0 hi c ⟨by omega, by omega⟩ a1 c0 c1
  have HL := Lib.hid (fun hn => minus_law a1 a2 hn hs h1.out c0 c1 ht h2.out d0 d1)
  have HF : Hid (¬ (hi < 9223372036854775808 ∨ hi = 9223372036854775808 ∧ lo = 0) → WB (-(hi * 18446744073709551616 + lo)) 0 0 false) := fun hn => .inr ⟨by unfold I128; unfold U64 at a1 a2; omega, rfl, rfl, rfl⟩
  have l0 := a2.1
  clear h1 h2
  rcases Int.lt_trichotomy hi 9223372036854775808 with hh | hh | hh
  · have e1 : ¬ 9223372036854775808 < hi := by omega
    have e2 : (hi == 9223372036854775808) = false := by simp; omega
    replace HL := Lib.hid (HL.out (.inl hh))
    clear HF
    go_enter Try.func109, Try.ntmps109
    go_wp2
    exact bodyPost_ret (v := .tuple #[wv (wrap64 t) s, .bool true]) (by unfold results; simp only [Try.results109]; go_simp) rfl ⟨_, _, _, rfl, by repeat (first | exact Below.refl _ _ | apply below_new), HL.out⟩
  · subst hh
    rcases Int.lt_or_eq_of_le l0 with hl | hl
    · replace HF := Lib.hid (HF.out (by omega))
      clear HL
      go_enter Try.func109, Try.ntmps109
      go_wp2
      exact bodyPost_ret (v := .tuple #[wv 0 0, .bool false]) (by unfold results; simp only [Try.results109]; go_simp) rfl ⟨_, _, _, rfl, by repeat (first | exact Below.refl _ _ | apply below_new), HF.out⟩
    · subst hl
      replace HL := Lib.hid (HL.out (by omega))
      clear HF l0
      go_enter Try.func109, Try.ntmps109
      go_wp2
      exact bodyPost_ret (v := .tuple #[wv (wrap64 t) s, .bool true]) (by unfold results; simp only [Try.results109]; go_simp) rfl ⟨_, _, _, rfl, by repeat (first | exact Below.refl _ _ | apply below_new), HL.out⟩
  · replace HF := Lib.hid (HF.out (by omega))
    clear HL
    go_enter Try.func109, Try.ntmps109
    go_wp2
    exact bodyPost_ret (v := .tuple #[wv 0 0, .bool false]) (by unfold results; simp only [Try.results109]; go_simp) rfl ⟨_, _, _, rfl, by repeat (first | exact Below.refl _ _ | apply below_new), HF.out⟩

end Go.Proofs.Ytbldgbenlmjmjaa
