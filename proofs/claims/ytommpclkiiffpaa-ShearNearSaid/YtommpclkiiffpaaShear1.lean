/- Contracts of the slants' pixel: across, along, unacross, unalong. -/
import Derived.Test.YtommpclkiiffpaaShear0
set_option linter.unusedVariables false
namespace Go.Proofs.Ytommpclkiiffpaa
open Go.RowKit

abbrev PT : TypeId := 103
/-- By how much is slanted. -/
def slant (k y : Int) : Int := (k * y + 32768) / 65536

theorem AtB.set_0 {w : World} {g : Nat} {a b : Value} {T : TypeId} (h : AtB w g #[a, b] T) (u : Value) : AtB (w.setCell ⟨g, 0, none⟩ u) g #[u, b] T := by
  have h1 := heap_set h.heap u (o := 0)
  simpa [AtB] using h1
theorem AtB.set_1 {w : World} {g : Nat} {a b : Value} {T : TypeId} (h : AtB w g #[a, b] T) (u : Value) : AtB (w.setCell ⟨g, 1, none⟩ u) g #[a, u] T := by
  have h1 := heap_set h.heap u (o := 1)
  simpa [AtB] using h1
theorem below_put {w : World} {g o : Nat} (u : Value) : Below g w ((w.setCell ⟨g, o, none⟩ u).drew) := ((Below.refl g w).setCell (p := ⟨g, o, none⟩) (Nat.le_refl _) u).drew

set_option maxRecDepth 100000 in
set_option maxHeartbeats 2000000 in
theorem shacross (g : Nat) (x y k : Int) (hk : -262144 ≤ k ∧ k ≤ 262144) (hx : -1125899906842624 ≤ x ∧ x ≤ 1125899906842624) (hy : -4398046511104 ≤ y ∧ y ≤ 4398046511104) (w : World) (hp : AtB w g #[.int .i64 x, .int .i64 y] PT) :
    Calls Try.prog 66 #[.pointer (some ⟨g, 0, none⟩), .int .i64 k] w fun e w' => e = .returned (.tuple #[]) ∧ Below g w w' ∧ AtB w' g #[.int .i64 (x + slant k y), .int .i64 (y)] PT := by
  have m := mul_in hk hy
  have e1 : IntKind.i64.wrap (k * y) = k * y := iw (by omega)
  have e2 : IntKind.i64.wrap (k * y + 32768) = k * y + 32768 := iw (by omega)
  have e3 : IntKind.i64.wrap (x + (k * y + 32768) / 65536) = x + (k * y + 32768) / 65536 := iw (by omega)
  obtain ⟨c0, c1, f0, f1⟩ := reads2 hp
  have hg := hp.lt
  have hp := Lib.hid hp
  clear hk hx hy m
  go_enter Try.func66, Try.ntmps66
  go_wp2_with fail
  go_region
  refine bodyPost_end (v := .tuple #[]) (by unfold results; simp only [Try.results66]; go_simp) rfl ⟨rfl, below_put _, ?_⟩
  exact AtB.drew (hp.out.set_0 _)
set_option maxRecDepth 100000 in
set_option maxHeartbeats 2000000 in
theorem shalong (g : Nat) (x y k : Int) (hk : -262144 ≤ k ∧ k ≤ 262144) (hx : -1125899906842624 ≤ y ∧ y ≤ 1125899906842624) (hy : -4398046511104 ≤ x ∧ x ≤ 4398046511104) (w : World) (hp : AtB w g #[.int .i64 x, .int .i64 y] PT) :
    Calls Try.prog 67 #[.pointer (some ⟨g, 0, none⟩), .int .i64 k] w fun e w' => e = .returned (.tuple #[]) ∧ Below g w w' ∧ AtB w' g #[.int .i64 (x), .int .i64 (y + slant k x)] PT := by
  have m := mul_in hk hy
  have e1 : IntKind.i64.wrap (k * x) = k * x := iw (by omega)
  have e2 : IntKind.i64.wrap (k * x + 32768) = k * x + 32768 := iw (by omega)
  have e3 : IntKind.i64.wrap (y + (k * x + 32768) / 65536) = y + (k * x + 32768) / 65536 := iw (by omega)
  obtain ⟨c0, c1, f0, f1⟩ := reads2 hp
  have hg := hp.lt
  have hp := Lib.hid hp
  clear hk hx hy m
  go_enter Try.func67, Try.ntmps67
  go_wp2_with fail
  go_region
  refine bodyPost_end (v := .tuple #[]) (by unfold results; simp only [Try.results67]; go_simp) rfl ⟨rfl, below_put _, ?_⟩
  exact AtB.drew (hp.out.set_1 _)
set_option maxRecDepth 100000 in
set_option maxHeartbeats 2000000 in
theorem shunacross (g : Nat) (x y k : Int) (hk : -262144 ≤ k ∧ k ≤ 262144) (hx : -1125899906842624 ≤ x ∧ x ≤ 1125899906842624) (hy : -4398046511104 ≤ y ∧ y ≤ 4398046511104) (w : World) (hp : AtB w g #[.int .i64 x, .int .i64 y] PT) :
    Calls Try.prog 68 #[.pointer (some ⟨g, 0, none⟩), .int .i64 k] w fun e w' => e = .returned (.tuple #[]) ∧ Below g w w' ∧ AtB w' g #[.int .i64 (x - slant k y), .int .i64 (y)] PT := by
  have m := mul_in hk hy
  have e1 : IntKind.i64.wrap (k * y) = k * y := iw (by omega)
  have e2 : IntKind.i64.wrap (k * y + 32768) = k * y + 32768 := iw (by omega)
  have e3 : IntKind.i64.wrap (x - (k * y + 32768) / 65536) = x - (k * y + 32768) / 65536 := iw (by omega)
  obtain ⟨c0, c1, f0, f1⟩ := reads2 hp
  have hg := hp.lt
  have hp := Lib.hid hp
  clear hk hx hy m
  go_enter Try.func68, Try.ntmps68
  go_wp2_with fail
  go_region
  refine bodyPost_end (v := .tuple #[]) (by unfold results; simp only [Try.results68]; go_simp) rfl ⟨rfl, below_put _, ?_⟩
  exact AtB.drew (hp.out.set_0 _)
set_option maxRecDepth 100000 in
set_option maxHeartbeats 2000000 in
theorem shunalong (g : Nat) (x y k : Int) (hk : -262144 ≤ k ∧ k ≤ 262144) (hx : -1125899906842624 ≤ y ∧ y ≤ 1125899906842624) (hy : -4398046511104 ≤ x ∧ x ≤ 4398046511104) (w : World) (hp : AtB w g #[.int .i64 x, .int .i64 y] PT) :
    Calls Try.prog 69 #[.pointer (some ⟨g, 0, none⟩), .int .i64 k] w fun e w' => e = .returned (.tuple #[]) ∧ Below g w w' ∧ AtB w' g #[.int .i64 (x), .int .i64 (y - slant k x)] PT := by
  have m := mul_in hk hy
  have e1 : IntKind.i64.wrap (k * x) = k * x := iw (by omega)
  have e2 : IntKind.i64.wrap (k * x + 32768) = k * x + 32768 := iw (by omega)
  have e3 : IntKind.i64.wrap (y - (k * x + 32768) / 65536) = y - (k * x + 32768) / 65536 := iw (by omega)
  obtain ⟨c0, c1, f0, f1⟩ := reads2 hp
  have hg := hp.lt
  have hp := Lib.hid hp
  clear hk hx hy m
  go_enter Try.func69, Try.ntmps69
  go_wp2_with fail
  go_region
  refine bodyPost_end (v := .tuple #[]) (by unfold results; simp only [Try.results69]; go_simp) rfl ⟨rfl, below_put _, ?_⟩
  exact AtB.drew (hp.out.set_1 _)

end Go.Proofs.Ytommpclkiiffpaa
