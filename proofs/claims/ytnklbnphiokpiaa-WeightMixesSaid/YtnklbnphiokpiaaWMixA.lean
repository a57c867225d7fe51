/- The walk of WeightMixes, whatever comes in. -/
import Derived.Test.YtnklbnphiokpiaaWMixW
set_option linter.unusedVariables false
set_option linter.unusedSimpArgs false
namespace Go.Proofs.Ytnklbnphiokpiaa
open Go.RowKit

set_option maxRecDepth 100000 in
theorem weightMixes_long (A B : Option Addr) (n m uc vc : Nat) (x0 x1 x2 : Int) (h : 60 < n ∨ 60 < m) (w : World) :
    Calls Try.prog 4 #[.slice A n uc, .slice B m vc, .agg #[.int .i64 x0, .int .i64 x1, .int .i64 x2]] w fun e w' => e = .returned (.bool true) ∧ Below w.heap.size w w' := by
  by_cases h1 : 60 < n
  · clear h
    go_enter Try.func4, Try.ntmps4
    go_wp2_with fail
    have BB := start1 w #[.int .i64 x0, .int .i64 x1, .int .i64 x2] A3T
    obtain ⟨BB, hsz, r_x⟩ := BB
    generalize (w.alloc (.cells #[.int .i64 x0, .int .i64 x1, .int .i64 x2] A3T)) = w0 at *
    replace BB := Lib.hid BB
    replace r_x := Lib.hid r_x
    clear hsz
    go_ret
    exact ⟨rfl, BB.out⟩
  · have h2 : 60 < m := by omega
    clear h
    go_enter Try.func4, Try.ntmps4
    go_wp2_with fail
    have BB := start1 w #[.int .i64 x0, .int .i64 x1, .int .i64 x2] A3T
    obtain ⟨BB, hsz, r_x⟩ := BB
    generalize (w.alloc (.cells #[.int .i64 x0, .int .i64 x1, .int .i64 x2] A3T)) = w0 at *
    replace BB := Lib.hid BB
    replace r_x := Lib.hid r_x
    clear hsz
    go_ret
    exact ⟨rfl, BB.out⟩

theorem weightMixes_any (u v : Value) (zs ys : List Int) (x0 x1 x2 : Int) (h0 : I64 x0) (h1 : I64 x1) (h2 : I64 x2) (w : World) (hu : IS w u zs) (hv : BS w v ys) :
    Calls Try.prog 4 #[u, v, .agg #[.int .i64 x0, .int .i64 x1, .int .i64 x2]] w fun e w' => e = .returned (.bool true) ∧ Below w.heap.size w w' := by
  have hM := fun w1 (h : Below w.heap.size w w1) => wmix_any u v zs ys w1 (hu.below h) (hv.below h)
  have hf := hu.ints
  have hg := hv.bytes
  have hu' := hu
  have hv' := hv
  obtain ⟨A, uc, rfl⟩ := hu.form
  obtain ⟨B, vc, rfl⟩ := hv.form
  by_cases h : 60 < zs.length ∨ 60 < ys.length
  · exact weightMixes_long A B _ _ uc vc x0 x1 x2 h w
  · refine weightMixes_walk A B zs.length ys.length uc vc (fun i => zs.getD i 0) (fun i => ys.getD i 0) x0 x1 x2 h0 h1 h2 (by omega) (by omega) hf hg w (fun hp => ?_) (fun hp => ?_) hM
    · obtain ⟨b, off, cap, e, k1, k2, k3, k4⟩ := hu'.some (fun e => by rw [e] at hp; simp at hp)
      simp only [Value.slice.injEq] at e
      exact ⟨b, off, e.1, k3, k4⟩
    · obtain ⟨b, off, cap, e, k1, k2, k3, k4⟩ := hv'.some (fun e => by rw [e] at hp; simp at hp)
      simp only [Value.slice.injEq] at e
      exact ⟨b, off, e.1, k3, k4⟩

end Go.Proofs.Ytnklbnphiokpiaa
