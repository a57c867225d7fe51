/- The document's 'Floor', whole. -/
import Derived.Test.YthdbchghhpoadaaDoorFlo3
set_option linter.unusedVariables false
namespace Go.Proofs.YthdbchghhpoadaaDoor
open Go.RowKit

theorem short_bound {ds : List Int} (h : Dig ds) (hl : ds.length ≤ 4) : bval ds ≤ 18446744073709551615 := by
  have h1 := bval_lt h
  have h2 := P2_mono hl
  have h3 : P2 4 = 1152921504606846976 := by unfold P2; decide
  omega

set_option maxHeartbeats 1000000 in
theorem floor_any (u v : Value) (x y : Int) (w : World) (hu : BR w u x) (hv : BR w v y) (hx : Mid x) (hy : Low y) (hy0 : y ≠ 0) :
    Calls Tryd.prog 43 #[u, v] w (GiveB (x.fdiv y) w) := by
  by_cases hs : ∀ n cap A s, u = .agg #[s, .slice A n cap] → ∀ n' cap' A' s', v = .agg #[s', .slice A' n' cap'] → 4 < n ∨ 4 < n'
  · exact floor_long u v x y w hu hv hx hy hy0 hs
  · have hu' := hu
    have hv' := hv
    obtain ⟨s, rfl, a, ha, ca, ea⟩ := hu
    obtain ⟨t, rfl, b, hb, cb, eb⟩ := hv
    obtain ⟨A, capa, rfl⟩ := ha.form
    obtain ⟨B, capb, rfl⟩ := hb.form
    have hl : ¬ (4 < a.length ∨ 4 < b.length) := fun h => hs (fun n cap A s e n' cap' A' s' e' => by
      injection e with e; injection e with e; simp at e
      injection e' with e'; injection e' with e'; simp at e'
      omega)
    have la : (a.length : Int) ≤ 4 := by omega
    have lb : (b.length : Int) ≤ 4 := by omega
    have C1 := Lib.hid (fun w1 (hw : Below w.heap.size w w1) => short_any _ _ x y w1 (hu'.below hw) (hv'.below hw) (by have := short_bound ca.1 (by omega); omega) (by have := short_bound cb.1 (by omega); omega) hy0)
    clear hs hu' hv' ha hb ca cb ea eb hl hx hy hy0
    generalize sgn x = sx at *
    generalize sgn y = sy at *
    generalize x.fdiv y = z at *
    go_enter Tryd.func43, Tryd.ntmps43
    go_wp2_with fail
    refine (C1.out _ (below_new (below_new (below_new (Below.refl _ _) _) _) _)).mono ?_; rintro e w1 ⟨r, rfl, hb1, hr⟩
    obtain ⟨A', n', cap', rfl, hn'⟩ := hr.form
    obtain ⟨K1, Z1, B1, H1⟩ := W3.boxes (wr := w1) (W3.size .. ▸ hb1)
    have B1 := Lib.hid B1
    have H1 := Lib.hid H1
    have N1 := Lib.hid hn'
    obtain ⟨r0, r1, r2, r3⟩ := box_reads H1.out
    clear hb1 hr hn' K1
    go_wp2_with fail
    refine bodyPost_ret (v := .agg #[.bool (sgn z), .slice A' n' cap']) (by unfold results; simp only [Tryd.results43]; go_simp) rfl ?_
    exact give_box B1.out N1.out H1.out (by omega) rfl

end Go.Proofs.YthdbchghhpoadaaDoor
