/- Walks of wide.Sub, Neg, Of, Sign, Cmp, Fits, abs, apart. -/
import Derived.Test.YtnklbnphiokpiaaWide0
import Derived.Test.YtnklbnphiokpiaaBox
set_option linter.unusedVariables false
namespace Go.Proofs.Ytnklbnphiokpiaa
open Go.RowKit

theorem wadd (x y ah al bh bl : Int) (hx : W128 x ah al) (hy : W128 y bh bl) (w : World) : Calls Try.prog 106 #[wv ah al, wv bh bl] w (GiveWB (x + y) w) := by
  obtain ⟨a1, a2, rfl⟩ := hx
  obtain ⟨b1, b2, rfl⟩ := hy
  exact wadd_any ah al bh bl a1 a2 b1 b2 w

theorem wsub_law {ah al bh bl s c t d u v H : Int} (a1 : I64 ah) (a2 : U64 al) (b1 : I64 bh) (b2 : U64 bl) (hs : U64 s) (h1 : s - c * 18446744073709551616 = al - bl - 0) (c0 : 0 ≤ c) (c1 : c ≤ 1)
    (hu : U64 u) (hu' : ∃ k : Int, u = ah + 18446744073709551616 * k) (hv : U64 v) (hv' : ∃ k : Int, v = bh + 18446744073709551616 * k) (ht : U64 t) (h2 : t - d * 18446744073709551616 = u - v - c) (d0 : 0 ≤ d) (d1 : d ≤ 1)
    (hH : I64 H) (hH' : ∃ k : Int, H = t + 18446744073709551616 * k) :
    (I128 (ah * 18446744073709551616 + al - (bh * 18446744073709551616 + bl)) → W128 (ah * 18446744073709551616 + al - (bh * 18446744073709551616 + bl)) H s) ∧
    (I128 (ah * 18446744073709551616 + al - (bh * 18446744073709551616 + bl)) ↔ ¬ (¬ (ah < 0 ↔ bh < 0) ∧ ¬ (H < 0 ↔ ah < 0))) := by
  obtain ⟨k1, hu'⟩ := hu'
  obtain ⟨k2, hv'⟩ := hv'
  obtain ⟨k3, hH'⟩ := hH'
  unfold I64 U64 at *
  unfold W128 I128 I64 U64
  refine ⟨fun h => ⟨hH, hs, ?_⟩, ?_⟩
  · omega
  · constructor
    · intro h; omega
    · intro h; omega

theorem W128.zero : W128 0 0 0 := ⟨⟨by omega, by omega⟩, ⟨by omega, by omega⟩, by omega⟩
theorem below_set2 {w w1 : World} (h : Below w.heap.size w w1) {b : Nat} (hb : w.heap.size ≤ b) (u v : Value) : Below w.heap.size w ((w1.setCell ⟨b, 0, none⟩ u).setCell ⟨b, 1, none⟩ v) := below_set (below_set h hb u) hb v

/-- What of a number of 64 bits is laid. -/
def ofHi (x : Int) : Int := if x < 0 then -1 else 0
def ofLo (x : Int) : Int := x % 18446744073709551616
theorem of_w128 {x : Int} (h : I64 x) : W128 x (ofHi x) (ofLo x) := by
  unfold I64 at h; unfold W128 ofHi ofLo I64 U64; split <;> omega
theorem wof_any (x : Int) (h : I64 x) (w : World) : Calls Try.prog 94 #[.int .i64 x] w fun e w' => e = .returned (wv (ofHi x) (ofLo x)) ∧ Below w.heap.size w w' := by
  have E1 : Hid (x / 9223372036854775808 = ofHi x) := by show _ = _; unfold ofHi; unfold I64 at h; split <;> omega
  have E2 : Hid (IntKind.u64.wrap x = ofLo x) := IntKind.wrap_u64 x
  obtain ⟨h0, h1⟩ := h
  go_enter Try.func94, Try.ntmps94
  go_wp2
  rw [E1.out, E2.out]
  exact bodyPost_ret (v := wv (ofHi x) (ofLo x)) (by unfold results; simp only [Try.results94]; go_simp) rfl ⟨rfl, below_new (Below.refl _ _) _⟩
theorem wof (x : Int) (h : I64 x) (w : World) : Calls Try.prog 94 #[.int .i64 x] w (GiveW x w) := (wof_any x h w).mono fun e w' ⟨h1, h2⟩ => ⟨_, _, h1, h2, of_w128 h⟩

theorem W128.cmp {x y ah al bh bl : Int} (hx : W128 x ah al) (hy : W128 y bh bl) : (x < y ↔ (ah < bh ∨ ah = bh ∧ al < bl)) ∧ (x = y ↔ ah = bh ∧ al = bl) := by
  unfold W128 I64 U64 at *; omega
end Go.Proofs.Ytnklbnphiokpiaa
