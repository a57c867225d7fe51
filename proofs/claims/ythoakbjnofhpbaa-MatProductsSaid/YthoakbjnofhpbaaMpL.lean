/- law05.MatProducts, any two matrices and any column. -/
import Derived.Test.YthoakbjnofhpbaaMpW0
import Derived.Test.YthoakbjnofhpbaaMpW1
import Derived.Test.YthoakbjnofhpbaaMpW2
import Derived.Test.YthoakbjnofhpbaaMpW3
import Derived.Test.YthoakbjnofhpbaaMpW4
namespace Go.Proofs.Ythoakbjnofhpbaa
open Go.RowKit
theorem nine_all2 {p : Int → Prop} {m0 m1 m2 m3 m4 m5 m6 m7 m8 : Int} (h0 : p m0) (h1 : p m1) (h2 : p m2) (h3 : p m3) (h4 : p m4) (h5 : p m5) (h6 : p m6) (h7 : p m7) (h8 : p m8) : ∀ z ∈ [m0, m1, m2, m3, m4, m5, m6, m7, m8], p z := by
  intro z h
  simp only [List.mem_cons, List.not_mem_nil, or_false] at h
  rcases h with rfl | rfl | rfl | rfl | rfl | rfl | rfl | rfl | rfl
  all_goals assumption
theorem three_all {p : Int → Prop} {x0 x1 x2 : Int} (h0 : p x0) (h1 : p x1) (h2 : p x2) : ∀ z ∈ [x0, x1, x2], p z := by
  intro z h
  simp only [List.mem_cons, List.not_mem_nil, or_false] at h
  rcases h with rfl | rfl | rfl
  all_goals assumption
theorem matProducts_any (m0 m1 m2 m3 m4 m5 m6 m7 m8 n0 n1 n2 n3 n4 n5 n6 n7 n8 x0 x1 x2 : Int) (hz : ∀ z ∈ [m0, m1, m2, m3, m4, m5, m6, m7, m8], I64 z) (hz2 : ∀ z ∈ [n0, n1, n2, n3, n4, n5, n6, n7, n8], I64 z) (hz3 : ∀ z ∈ [x0, x1, x2], I64 z) (w : World) : Calls Try.prog 8 #[.agg #[.int .i64 m0, .int .i64 m1, .int .i64 m2, .int .i64 m3, .int .i64 m4, .int .i64 m5, .int .i64 m6, .int .i64 m7, .int .i64 m8], .agg #[.int .i64 n0, .int .i64 n1, .int .i64 n2, .int .i64 n3, .int .i64 n4, .int .i64 n5, .int .i64 n6, .int .i64 n7, .int .i64 n8], .agg #[.int .i64 x0, .int .i64 x1, .int .i64 x2]] w fun e w' => e = .returned (.bool true) ∧ Below w.heap.size w w' := by
  cases h1 : [m0, m1, m2, m3, m4, m5, m6, m7, m8].any farM
  · cases h2 : [n0, n1, n2, n3, n4, n5, n6, n7, n8].any farM
    · cases h3 : [x0, x1, x2].any farM
      · exact mprod_a m0 m1 m2 m3 m4 m5 m6 m7 m8 n0 n1 n2 n3 n4 n5 n6 n7 n8 x0 x1 x2 hz hz2 hz3 h1 h2 h3 w
      · exact mprod_b m0 m1 m2 m3 m4 m5 m6 m7 m8 n0 n1 n2 n3 n4 n5 n6 n7 n8 x0 x1 x2 hz hz2 hz3 h1 h2 h3 w
    · cases h3 : [x0, x1, x2].any farM
      · exact mprod_c m0 m1 m2 m3 m4 m5 m6 m7 m8 n0 n1 n2 n3 n4 n5 n6 n7 n8 x0 x1 x2 hz hz2 hz3 h1 h2 h3 w
      · exact mprod_d m0 m1 m2 m3 m4 m5 m6 m7 m8 n0 n1 n2 n3 n4 n5 n6 n7 n8 x0 x1 x2 hz hz2 hz3 h1 h2 h3 w
  · exact mprod_e m0 m1 m2 m3 m4 m5 m6 m7 m8 n0 n1 n2 n3 n4 n5 n6 n7 n8 x0 x1 x2 hz hz2 hz3 h1 w
end Go.Proofs.Ythoakbjnofhpbaa
