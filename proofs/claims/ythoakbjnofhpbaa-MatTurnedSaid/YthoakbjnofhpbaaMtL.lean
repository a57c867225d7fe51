/- law05.MatTells, any matrix. -/
import Derived.Test.YthoakbjnofhpbaaMtW1
namespace Go.Proofs.Ythoakbjnofhpbaa
open Go.RowKit
theorem nine_all {p : Int → Prop} {m0 m1 m2 m3 m4 m5 m6 m7 m8 : Int} (h0 : p m0) (h1 : p m1) (h2 : p m2) (h3 : p m3) (h4 : p m4) (h5 : p m5) (h6 : p m6) (h7 : p m7) (h8 : p m8) : ∀ z ∈ [m0, m1, m2, m3, m4, m5, m6, m7, m8], p z := by
  intro z h
  simp only [List.mem_cons, List.not_mem_nil, or_false] at h
  rcases h with rfl | rfl | rfl | rfl | rfl | rfl | rfl | rfl | rfl
  all_goals assumption
theorem matTells_any (m0 m1 m2 m3 m4 m5 m6 m7 m8 : Int) (hz : ∀ z ∈ [m0, m1, m2, m3, m4, m5, m6, m7, m8], I64 z) (w : World) : Calls Try.prog 7 #[.agg #[.int .i64 m0, .int .i64 m1, .int .i64 m2, .int .i64 m3, .int .i64 m4, .int .i64 m5, .int .i64 m6, .int .i64 m7, .int .i64 m8]] w fun e w' => e = .returned (.bool true) ∧ Below w.heap.size w w' := by
  cases h : [m0, m1, m2, m3, m4, m5, m6, m7, m8].any farM
  · exact matTells_ok m0 m1 m2 m3 m4 m5 m6 m7 m8 hz h w
  · exact matTells_no m0 m1 m2 m3 m4 m5 m6 m7 m8 hz h w
end Go.Proofs.Ythoakbjnofhpbaa
