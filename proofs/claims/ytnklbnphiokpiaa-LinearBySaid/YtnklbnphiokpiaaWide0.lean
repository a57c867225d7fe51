/- Numbers of 128 bits: how they lie in two halves; walks of wide.Add, Sub, Neg, Of, Sign, Cmp. -/
import Derived.Test.YtnklbnphiokpiaaJA
set_option linter.unusedVariables false
namespace Go.Proofs.Ytnklbnphiokpiaa
open Go.RowKit

def I128 (z : Int) : Prop := -170141183460469231731687303715884105728 ≤ z ∧ z ≤ 170141183460469231731687303715884105727
/-- Two halves of a number. -/
def W128 (z hi lo : Int) : Prop := I64 hi ∧ U64 lo ∧ hi * 18446744073709551616 + lo = z
/-- What is told of a number: its halves and true, or noughts and false. -/
def WB (z hi lo : Int) (ok : Bool) : Prop := (I128 z ∧ ok = true ∧ W128 z hi lo) ∨ (¬ I128 z ∧ ok = false ∧ hi = 0 ∧ lo = 0)
abbrev wv (hi lo : Int) : Value := .agg #[.int .i64 hi, .int .u64 lo]
def GiveW (z : Int) (w : World) (e : Ending) (w' : World) : Prop := ∃ hi lo, e = .returned (wv hi lo) ∧ Below w.heap.size w w' ∧ W128 z hi lo
def GiveWB (z : Int) (w : World) (e : Ending) (w' : World) : Prop := ∃ hi lo ok, e = .returned (.tuple #[wv hi lo, .bool ok]) ∧ Below w.heap.size w w' ∧ WB z hi lo ok

theorem W128.room {z hi lo : Int} (h : W128 z hi lo) : I128 z := by
  obtain ⟨⟨a, b⟩, ⟨c, d⟩, e⟩ := h; unfold I128; omega

theorem wrap_u64_in (x : Int) : U64 (IntKind.u64.wrap x) := by rw [IntKind.wrap_u64]; unfold U64; omega
theorem wrap_u64_mod (x : Int) : ∃ k : Int, IntKind.u64.wrap x = x + 18446744073709551616 * k := ⟨-(x / 18446744073709551616), by rw [IntKind.wrap_u64]; omega⟩
theorem wrap_i64_in (x : Int) : I64 (IntKind.i64.wrap x) := by rw [IntKind.wrap_i64]; unfold I64; omega
theorem wrap_i64_mod (x : Int) : ∃ k : Int, IntKind.i64.wrap x = x + 18446744073709551616 * k := ⟨-((x + 9223372036854775808) / 18446744073709551616), by rw [IntKind.wrap_i64]; omega⟩

theorem wrap64_in64 (x : Int) : I64 (wrap64 x) := by unfold wrap64 I64; omega
theorem wrap64_mod (x : Int) : ∃ k : Int, wrap64 x = x + 18446744073709551616 * k := wrap64_is x

theorem wadd_law {ah al bh bl s c t d u v H : Int} (a1 : I64 ah) (a2 : U64 al) (b1 : I64 bh) (b2 : U64 bl) (hs : U64 s) (h1 : c * 18446744073709551616 + s = al + bl + 0) (c0 : 0 ≤ c) (c1 : c ≤ 1)
    (hu : U64 u) (hu' : ∃ k : Int, u = ah + 18446744073709551616 * k) (hv : U64 v) (hv' : ∃ k : Int, v = bh + 18446744073709551616 * k) (ht : U64 t) (h2 : d * 18446744073709551616 + t = u + v + c) (d0 : 0 ≤ d) (d1 : d ≤ 1)
    (hH : I64 H) (hH' : ∃ k : Int, H = t + 18446744073709551616 * k) :
    (I128 (ah * 18446744073709551616 + al + (bh * 18446744073709551616 + bl)) → W128 (ah * 18446744073709551616 + al + (bh * 18446744073709551616 + bl)) H s) ∧
    (I128 (ah * 18446744073709551616 + al + (bh * 18446744073709551616 + bl)) ↔ ¬ ((ah < 0 ↔ bh < 0) ∧ ¬ (H < 0 ↔ ah < 0))) := by
  obtain ⟨k1, hu'⟩ := hu'
  obtain ⟨k2, hv'⟩ := hv'
  obtain ⟨k3, hH'⟩ := hH'
  unfold I64 U64 at *
  unfold W128 I128 I64 U64
  refine ⟨fun h => ⟨hH, hs, ?_⟩, ?_⟩
  · omega
  · constructor
    · intro h; omega
    · intro h; omega

set_option maxRecDepth 100000 in
set_option maxHeartbeats 2000000 in
theorem wadd_any (ah al bh bl : Int) (a1 : I64 ah) (a2 : U64 al) (b1 : I64 bh) (b2 : U64 bl) (w : World) :
    Calls Try.prog 106 #[wv ah al, wv bh bl] w (GiveWB (ah * 18446744073709551616 + al + (bh * 18446744073709551616 + bl)) w) := by
  obtain ⟨s, c, hs, c0, c1, h1, A1⟩ := add64_ex al bl 0 a2 b2 (by omega) (by omega)
  obtain ⟨t, d, ht, d0, d1, h2, A2⟩ := add64_ex (IntKind.u64.wrap ah) (IntKind.u64.wrap bh) c (wrap_u64_in _) (wrap_u64_in _) c0 c1
  have HL := Lib.hid (wadd_law a1 a2 b1 b2 hs h1.out c0 c1 (wrap_u64_in _) (wrap_u64_mod _) (wrap_u64_in _) (wrap_u64_mod _) ht h2.out d0 d1 (wrap64_in64 t) (wrap64_mod t))
  clear h1 h2
  rcases Decidable.em (ah < 0) with ha | ha <;> rcases Decidable.em (bh < 0) with hb | hb <;> rcases Decidable.em (wrap64 t < 0) with hh | hh
  all_goals
    go_enter Try.func106, Try.ntmps106
    go_wp2
    first
    | (refine bodyPost_ret (v := .tuple #[wv (wrap64 t) s, .bool true]) (by unfold results; simp only [Try.results106]; go_simp) rfl ⟨_, _, _, rfl, ?_, .inl ⟨HL.out.2.2 (by omega), rfl, HL.out.1 (HL.out.2.2 (by omega))⟩⟩
       repeat (first | exact Below.refl _ _ | apply below_new))
    | (refine bodyPost_ret (v := .tuple #[wv 0 0, .bool false]) (by unfold results; simp only [Try.results106]; go_simp) rfl ⟨_, _, _, rfl, ?_, .inr ⟨fun h => HL.out.2.1 h (by omega), rfl, rfl, rfl⟩⟩
       repeat (first | exact Below.refl _ _ | apply below_new))

end Go.Proofs.Ytnklbnphiokpiaa
