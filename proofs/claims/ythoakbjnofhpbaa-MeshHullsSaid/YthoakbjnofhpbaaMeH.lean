/- Contract of mesh.Hull, where there are no places. -/
import Derived.Test.YthoakbjnofhpbaaMeH0
import Derived.Test.YthoakbjnofhpbaaBoxS
set_option linter.unusedVariables false
set_option linter.unusedSimpArgs false
namespace Go.Proofs.Ythoakbjnofhpbaa
open Go.RowKit
theorem mhull_nil (x0 y0 x1 y1 : Int) (w : World) : Calls Try.prog 28 #[.pointer none, .int .i64 x0, .int .i64 y0, .int .i64 x1, .int .i64 y1] w fun e w' => e = .returned (.tuple #[.agg #[.int .i64 0, .int .i64 0, .int .i64 0, .int .i64 0], .bool false]) ∧ Below w.heap.size w w' := by
  go_enter Try.func28, Try.ntmps28
  go_upto_region 1 with fail
  have BB := start1 w #[.int .i64 0, .int .i64 0, .int .i64 0, .int .i64 0] 50
  obtain ⟨BB, hsz, r_res⟩ := BB
  generalize (w.alloc (.cells #[.int .i64 0, .int .i64 0, .int .i64 0, .int .i64 0] 50)) = w0 at *
  replace BB := Lib.hid BB
  replace r_res := Lib.hid r_res
  clear hsz
  obtain ⟨c_res0, c_res1, c_res2, c_res3, f_res0, f_res1, f_res2, f_res3⟩ := reads4 r_res.out
  have l_res := r_res.out.lt
  go_wp2_with fail
  clear c_res0 c_res1 c_res2 c_res3 f_res0 f_res1 f_res2 f_res3 l_res
  have e_st : ((((w0.setCell ⟨w.heap.size, 0, none⟩ (.int .i64 0)).setCell ⟨w.heap.size, 1, none⟩ (.int .i64 0)).setCell ⟨w.heap.size, 2, none⟩ (.int .i64 0)).setCell ⟨w.heap.size, 3, none⟩ (.int .i64 0)) = setFrom w0 (w.heap.size) 0 [.int .i64 0, .int .i64 0, .int .i64 0, .int .i64 0] := by simp only [setFrom, Nat.reduceAdd]
  rw [e_st]
  clear e_st
  replace r_res := Lib.hid (AtB.setAll r_res.out [.int .i64 0, .int .i64 0, .int .i64 0, .int .i64 0] rfl)
  replace BB := Lib.hid (below_setAll (b := w.heap.size) (by omega) [.int .i64 0, .int .i64 0, .int .i64 0, .int .i64 0] 0 BB.out)
  generalize setFrom w0 (w.heap.size) 0 [.int .i64 0, .int .i64 0, .int .i64 0, .int .i64 0] = w1 at *
  obtain ⟨c_res0, c_res1, c_res2, c_res3, f_res0, f_res1, f_res2, f_res3⟩ := reads4 r_res.out
  have l_res := r_res.out.lt
  go_wp2_with fail
  refine bodyPost_ret (v := .tuple #[.agg #[.int .i64 0, .int .i64 0, .int .i64 0, .int .i64 0], .bool false]) (by unfold results; simp only [Try.results28]; go_simp) rfl ?_
  exact ⟨rfl, BB.out⟩
set_option maxRecDepth 100000 in
set_option maxHeartbeats 4000000 in
theorem mhull_no (g : Nat) (x0 y0 x1 y1 : Int) (h : ¬ (0 ≤ x0 ∧ x1 ≤ 32768 ∧ 0 ≤ y0 ∧ y1 ≤ 32768 ∧ x0 < x1 ∧ y0 < y1)) (w : World) : Calls Try.prog 28 #[.pointer (some ⟨g, 0, none⟩), .int .i64 x0, .int .i64 y0, .int .i64 x1, .int .i64 y1] w fun e w' => e = .returned (.tuple #[.agg #[.int .i64 0, .int .i64 0, .int .i64 0, .int .i64 0], .bool false]) ∧ Below w.heap.size w w' := by
  by_cases k1 : x0 < 0
  · skip
    clear h
    go_enter Try.func28, Try.ntmps28
    go_upto_region 1 with fail
    have BB := start1 w #[.int .i64 0, .int .i64 0, .int .i64 0, .int .i64 0] 50
    obtain ⟨BB, hsz, r_res⟩ := BB
    generalize (w.alloc (.cells #[.int .i64 0, .int .i64 0, .int .i64 0, .int .i64 0] 50)) = w0 at *
    replace BB := Lib.hid BB
    replace r_res := Lib.hid r_res
    clear hsz
    obtain ⟨c_res0, c_res1, c_res2, c_res3, f_res0, f_res1, f_res2, f_res3⟩ := reads4 r_res.out
    have l_res := r_res.out.lt
    go_wp2_with fail
    clear c_res0 c_res1 c_res2 c_res3 f_res0 f_res1 f_res2 f_res3 l_res
    have e_st : ((((w0.setCell ⟨w.heap.size, 0, none⟩ (.int .i64 0)).setCell ⟨w.heap.size, 1, none⟩ (.int .i64 0)).setCell ⟨w.heap.size, 2, none⟩ (.int .i64 0)).setCell ⟨w.heap.size, 3, none⟩ (.int .i64 0)) = setFrom w0 (w.heap.size) 0 [.int .i64 0, .int .i64 0, .int .i64 0, .int .i64 0] := by simp only [setFrom, Nat.reduceAdd]
    rw [e_st]
    clear e_st
    replace r_res := Lib.hid (AtB.setAll r_res.out [.int .i64 0, .int .i64 0, .int .i64 0, .int .i64 0] rfl)
    replace BB := Lib.hid (below_setAll (b := w.heap.size) (by omega) [.int .i64 0, .int .i64 0, .int .i64 0, .int .i64 0] 0 BB.out)
    generalize setFrom w0 (w.heap.size) 0 [.int .i64 0, .int .i64 0, .int .i64 0, .int .i64 0] = w1 at *
    obtain ⟨c_res0, c_res1, c_res2, c_res3, f_res0, f_res1, f_res2, f_res3⟩ := reads4 r_res.out
    have l_res := r_res.out.lt
    go_wp2_with fail
    refine bodyPost_ret (v := .tuple #[.agg #[.int .i64 0, .int .i64 0, .int .i64 0, .int .i64 0], .bool false]) (by unfold results; simp only [Try.results28]; go_simp) rfl ?_
    exact ⟨rfl, BB.out⟩
  · by_cases k2 : 32768 < x1
    · skip
      clear h
      go_enter Try.func28, Try.ntmps28
      go_upto_region 1 with fail
      have BB := start1 w #[.int .i64 0, .int .i64 0, .int .i64 0, .int .i64 0] 50
      obtain ⟨BB, hsz, r_res⟩ := BB
      generalize (w.alloc (.cells #[.int .i64 0, .int .i64 0, .int .i64 0, .int .i64 0] 50)) = w0 at *
      replace BB := Lib.hid BB
      replace r_res := Lib.hid r_res
      clear hsz
      obtain ⟨c_res0, c_res1, c_res2, c_res3, f_res0, f_res1, f_res2, f_res3⟩ := reads4 r_res.out
      have l_res := r_res.out.lt
      go_wp2_with fail
      clear c_res0 c_res1 c_res2 c_res3 f_res0 f_res1 f_res2 f_res3 l_res
      have e_st : ((((w0.setCell ⟨w.heap.size, 0, none⟩ (.int .i64 0)).setCell ⟨w.heap.size, 1, none⟩ (.int .i64 0)).setCell ⟨w.heap.size, 2, none⟩ (.int .i64 0)).setCell ⟨w.heap.size, 3, none⟩ (.int .i64 0)) = setFrom w0 (w.heap.size) 0 [.int .i64 0, .int .i64 0, .int .i64 0, .int .i64 0] := by simp only [setFrom, Nat.reduceAdd]
      rw [e_st]
      clear e_st
      replace r_res := Lib.hid (AtB.setAll r_res.out [.int .i64 0, .int .i64 0, .int .i64 0, .int .i64 0] rfl)
      replace BB := Lib.hid (below_setAll (b := w.heap.size) (by omega) [.int .i64 0, .int .i64 0, .int .i64 0, .int .i64 0] 0 BB.out)
      generalize setFrom w0 (w.heap.size) 0 [.int .i64 0, .int .i64 0, .int .i64 0, .int .i64 0] = w1 at *
      obtain ⟨c_res0, c_res1, c_res2, c_res3, f_res0, f_res1, f_res2, f_res3⟩ := reads4 r_res.out
      have l_res := r_res.out.lt
      go_wp2_with fail
      refine bodyPost_ret (v := .tuple #[.agg #[.int .i64 0, .int .i64 0, .int .i64 0, .int .i64 0], .bool false]) (by unfold results; simp only [Try.results28]; go_simp) rfl ?_
      exact ⟨rfl, BB.out⟩
    · by_cases k3 : y0 < 0
      · skip
        clear h
        go_enter Try.func28, Try.ntmps28
        go_upto_region 1 with fail
        have BB := start1 w #[.int .i64 0, .int .i64 0, .int .i64 0, .int .i64 0] 50
        obtain ⟨BB, hsz, r_res⟩ := BB
        generalize (w.alloc (.cells #[.int .i64 0, .int .i64 0, .int .i64 0, .int .i64 0] 50)) = w0 at *
        replace BB := Lib.hid BB
        replace r_res := Lib.hid r_res
        clear hsz
        obtain ⟨c_res0, c_res1, c_res2, c_res3, f_res0, f_res1, f_res2, f_res3⟩ := reads4 r_res.out
        have l_res := r_res.out.lt
        go_wp2_with fail
        clear c_res0 c_res1 c_res2 c_res3 f_res0 f_res1 f_res2 f_res3 l_res
        have e_st : ((((w0.setCell ⟨w.heap.size, 0, none⟩ (.int .i64 0)).setCell ⟨w.heap.size, 1, none⟩ (.int .i64 0)).setCell ⟨w.heap.size, 2, none⟩ (.int .i64 0)).setCell ⟨w.heap.size, 3, none⟩ (.int .i64 0)) = setFrom w0 (w.heap.size) 0 [.int .i64 0, .int .i64 0, .int .i64 0, .int .i64 0] := by simp only [setFrom, Nat.reduceAdd]
        rw [e_st]
        clear e_st
        replace r_res := Lib.hid (AtB.setAll r_res.out [.int .i64 0, .int .i64 0, .int .i64 0, .int .i64 0] rfl)
        replace BB := Lib.hid (below_setAll (b := w.heap.size) (by omega) [.int .i64 0, .int .i64 0, .int .i64 0, .int .i64 0] 0 BB.out)
        generalize setFrom w0 (w.heap.size) 0 [.int .i64 0, .int .i64 0, .int .i64 0, .int .i64 0] = w1 at *
        obtain ⟨c_res0, c_res1, c_res2, c_res3, f_res0, f_res1, f_res2, f_res3⟩ := reads4 r_res.out
        have l_res := r_res.out.lt
        go_wp2_with fail
        refine bodyPost_ret (v := .tuple #[.agg #[.int .i64 0, .int .i64 0, .int .i64 0, .int .i64 0], .bool false]) (by unfold results; simp only [Try.results28]; go_simp) rfl ?_
        exact ⟨rfl, BB.out⟩
      · by_cases k4 : 32768 < y1
        · skip
          clear h
          go_enter Try.func28, Try.ntmps28
          go_upto_region 1 with fail
          have BB := start1 w #[.int .i64 0, .int .i64 0, .int .i64 0, .int .i64 0] 50
          obtain ⟨BB, hsz, r_res⟩ := BB
          generalize (w.alloc (.cells #[.int .i64 0, .int .i64 0, .int .i64 0, .int .i64 0] 50)) = w0 at *
          replace BB := Lib.hid BB
          replace r_res := Lib.hid r_res
          clear hsz
          obtain ⟨c_res0, c_res1, c_res2, c_res3, f_res0, f_res1, f_res2, f_res3⟩ := reads4 r_res.out
          have l_res := r_res.out.lt
          go_wp2_with fail
          clear c_res0 c_res1 c_res2 c_res3 f_res0 f_res1 f_res2 f_res3 l_res
          have e_st : ((((w0.setCell ⟨w.heap.size, 0, none⟩ (.int .i64 0)).setCell ⟨w.heap.size, 1, none⟩ (.int .i64 0)).setCell ⟨w.heap.size, 2, none⟩ (.int .i64 0)).setCell ⟨w.heap.size, 3, none⟩ (.int .i64 0)) = setFrom w0 (w.heap.size) 0 [.int .i64 0, .int .i64 0, .int .i64 0, .int .i64 0] := by simp only [setFrom, Nat.reduceAdd]
          rw [e_st]
          clear e_st
          replace r_res := Lib.hid (AtB.setAll r_res.out [.int .i64 0, .int .i64 0, .int .i64 0, .int .i64 0] rfl)
          replace BB := Lib.hid (below_setAll (b := w.heap.size) (by omega) [.int .i64 0, .int .i64 0, .int .i64 0, .int .i64 0] 0 BB.out)
          generalize setFrom w0 (w.heap.size) 0 [.int .i64 0, .int .i64 0, .int .i64 0, .int .i64 0] = w1 at *
          obtain ⟨c_res0, c_res1, c_res2, c_res3, f_res0, f_res1, f_res2, f_res3⟩ := reads4 r_res.out
          have l_res := r_res.out.lt
          go_wp2_with fail
          refine bodyPost_ret (v := .tuple #[.agg #[.int .i64 0, .int .i64 0, .int .i64 0, .int .i64 0], .bool false]) (by unfold results; simp only [Try.results28]; go_simp) rfl ?_
          exact ⟨rfl, BB.out⟩
        · by_cases k5 : x1 ≤ x0
          · skip
            clear h
            go_enter Try.func28, Try.ntmps28
            go_upto_region 1 with fail
            have BB := start1 w #[.int .i64 0, .int .i64 0, .int .i64 0, .int .i64 0] 50
            obtain ⟨BB, hsz, r_res⟩ := BB
            generalize (w.alloc (.cells #[.int .i64 0, .int .i64 0, .int .i64 0, .int .i64 0] 50)) = w0 at *
            replace BB := Lib.hid BB
            replace r_res := Lib.hid r_res
            clear hsz
            obtain ⟨c_res0, c_res1, c_res2, c_res3, f_res0, f_res1, f_res2, f_res3⟩ := reads4 r_res.out
            have l_res := r_res.out.lt
            go_wp2_with fail
            clear c_res0 c_res1 c_res2 c_res3 f_res0 f_res1 f_res2 f_res3 l_res
            have e_st : ((((w0.setCell ⟨w.heap.size, 0, none⟩ (.int .i64 0)).setCell ⟨w.heap.size, 1, none⟩ (.int .i64 0)).setCell ⟨w.heap.size, 2, none⟩ (.int .i64 0)).setCell ⟨w.heap.size, 3, none⟩ (.int .i64 0)) = setFrom w0 (w.heap.size) 0 [.int .i64 0, .int .i64 0, .int .i64 0, .int .i64 0] := by simp only [setFrom, Nat.reduceAdd]
            rw [e_st]
            clear e_st
            replace r_res := Lib.hid (AtB.setAll r_res.out [.int .i64 0, .int .i64 0, .int .i64 0, .int .i64 0] rfl)
            replace BB := Lib.hid (below_setAll (b := w.heap.size) (by omega) [.int .i64 0, .int .i64 0, .int .i64 0, .int .i64 0] 0 BB.out)
            generalize setFrom w0 (w.heap.size) 0 [.int .i64 0, .int .i64 0, .int .i64 0, .int .i64 0] = w1 at *
            obtain ⟨c_res0, c_res1, c_res2, c_res3, f_res0, f_res1, f_res2, f_res3⟩ := reads4 r_res.out
            have l_res := r_res.out.lt
            go_wp2_with fail
            refine bodyPost_ret (v := .tuple #[.agg #[.int .i64 0, .int .i64 0, .int .i64 0, .int .i64 0], .bool false]) (by unfold results; simp only [Try.results28]; go_simp) rfl ?_
            exact ⟨rfl, BB.out⟩
          · have k6 : y1 ≤ y0 := by omega
            clear h
            go_enter Try.func28, Try.ntmps28
            go_upto_region 1 with fail
            have BB := start1 w #[.int .i64 0, .int .i64 0, .int .i64 0, .int .i64 0] 50
            obtain ⟨BB, hsz, r_res⟩ := BB
            generalize (w.alloc (.cells #[.int .i64 0, .int .i64 0, .int .i64 0, .int .i64 0] 50)) = w0 at *
            replace BB := Lib.hid BB
            replace r_res := Lib.hid r_res
            clear hsz
            obtain ⟨c_res0, c_res1, c_res2, c_res3, f_res0, f_res1, f_res2, f_res3⟩ := reads4 r_res.out
            have l_res := r_res.out.lt
            go_wp2_with fail
            clear c_res0 c_res1 c_res2 c_res3 f_res0 f_res1 f_res2 f_res3 l_res
            have e_st : ((((w0.setCell ⟨w.heap.size, 0, none⟩ (.int .i64 0)).setCell ⟨w.heap.size, 1, none⟩ (.int .i64 0)).setCell ⟨w.heap.size, 2, none⟩ (.int .i64 0)).setCell ⟨w.heap.size, 3, none⟩ (.int .i64 0)) = setFrom w0 (w.heap.size) 0 [.int .i64 0, .int .i64 0, .int .i64 0, .int .i64 0] := by simp only [setFrom, Nat.reduceAdd]
            rw [e_st]
            clear e_st
            replace r_res := Lib.hid (AtB.setAll r_res.out [.int .i64 0, .int .i64 0, .int .i64 0, .int .i64 0] rfl)
            replace BB := Lib.hid (below_setAll (b := w.heap.size) (by omega) [.int .i64 0, .int .i64 0, .int .i64 0, .int .i64 0] 0 BB.out)
            generalize setFrom w0 (w.heap.size) 0 [.int .i64 0, .int .i64 0, .int .i64 0, .int .i64 0] = w1 at *
            obtain ⟨c_res0, c_res1, c_res2, c_res3, f_res0, f_res1, f_res2, f_res3⟩ := reads4 r_res.out
            have l_res := r_res.out.lt
            go_wp2_with fail
            refine bodyPost_ret (v := .tuple #[.agg #[.int .i64 0, .int .i64 0, .int .i64 0, .int .i64 0], .bool false]) (by unfold results; simp only [Try.results28]; go_simp) rfl ?_
            exact ⟨rfl, BB.out⟩
end Go.Proofs.Ythoakbjnofhpbaa
