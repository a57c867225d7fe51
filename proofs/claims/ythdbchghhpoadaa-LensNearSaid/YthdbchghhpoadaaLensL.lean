/- Walks of the laws of the lens: alive, LensIn. -/
import Derived.Test.YthdbchghhpoadaaLensR2
set_option linter.unusedVariables false
namespace Go.Proofs.Ythdbchghhpoadaa
open Go.RowKit

theorem is_at7 {w : World} {g : Nat} {c0 c1 c2 c3 c4 c5 c6 : Int} {T : TypeId} (h : AtB w g #[.int .i64 c0, .int .i64 c1, .int .i64 c2, .int .i64 c3, .int .i64 c4, .int .i64 c5, .int .i64 c6] T) (hz : ∀ z ∈ [c0, c1, c2, c3, c4, c5, c6], I64 z) :
    IS w (.slice (some ⟨g, 0, none⟩) 7 7) [c0, c1, c2, c3, c4, c5, c6] := by
  refine ⟨_, _, rfl, by simp, by simp, hz, fun _ => ⟨g, 0, rfl, h.lt, fun i hi => ?_⟩⟩
  simp at hi
  have : i = 0 ∨ i = 1 ∨ i = 2 ∨ i = 3 ∨ i = 4 ∨ i = 5 ∨ i = 6 := by omega
  rcases this with rfl | rfl | rfl | rfl | rfl | rfl | rfl
  all_goals exact h.cell _ rfl

set_option maxRecDepth 100000 in
set_option maxHeartbeats 4000000 in
theorem alive20 (w : World) : Calls Try.prog 20 #[] w fun e w' => e = .returned (.bool true) ∧ Below w.heap.size w w' := by
  have CN := Lib.hid (fun v w hv => lnew v [0, 0, 1, 0, 0, 0, 0] 4 4 ⟨by omega, by omega⟩ ⟨by omega, by omega⟩ w hv)
  have HC : Hid (lC [0, 0, 1, 0, 0, 0, 0] 4 4 = 0) := by show _ = _; decide
  have CA := Lib.hid (fun g w hm => lat_ok g 0 0 1 0 0 0 0 2 3 1 (by decide) ⟨by omega, by omega, by omega, by omega, by omega, by omega, by omega⟩ (by decide) w hm)
  rw [show latU 0 1 0 0 0 0 (axI 2 1 0 1) (axI 3 1 0 1) = 131072 by decide, show latU 0 1 0 0 0 0 (axI 3 1 0 1) (axI 2 1 0 1) = 196608 by decide] at CA
  go_enter Try.func20, Try.ntmps20
  go_wp2_with fail
  have BB : Hid (Below w.heap.size w w) := Below.refl _ _
  obtain ⟨hb, r_c⟩ := laid w #[.int .i64 0, .int .i64 0, .int .i64 1, .int .i64 0, .int .i64 0, .int .i64 0, .int .i64 0] 2
  replace BB := Lib.hid (below_next BB.out hb)
  replace r_c := Lib.hid r_c
  clear hb
  generalize w.alloc (.cells #[.int .i64 0, .int .i64 0, .int .i64 1, .int .i64 0, .int .i64 0, .int .i64 0, .int .i64 0] 2) = w1 at *
  refine (CN.out _ _ (is_at7 r_c.out (by simp [I64]))).mono ?_
  rintro e w2 ⟨p, rfl, hb, -, hp⟩
  replace r_c := Lib.hid (r_c.out.keep hb)
  replace BB := Lib.hid (below_next BB.out hb)
  clear hb
  obtain ⟨g, c0, c1, c2, c3, c4, c5, c6, rfl, hz, hM, r_m⟩ := hp HC.out
  simp only [List.cons.injEq, and_true] at hz
  obtain ⟨rfl, rfl, rfl, rfl, rfl, rfl, rfl⟩ := hz
  rw [HC.out]
  replace r_m := Lib.hid r_m
  clear hp hM CN HC
  go_wp2_with fail
  refine (CA.out _ _ r_m.out).mono ?_
  rintro e w9 ⟨rfl, m_q, rfl⟩
  have hb := below_drawn (Below.refl w2.heap.size w2) m_q
  generalize w2.drewN m_q = w3 at *
  replace r_c := Lib.hid (r_c.out.keep hb)
  replace BB := Lib.hid (below_next BB.out hb)
  clear hb
  go_wp2_with fail
  go_ret
  exact ⟨rfl, BB.out⟩

end Go.Proofs.Ythdbchghhpoadaa
