/- Contract of mat.Put. -/
import Derived.Test.YthoakbjnofhpbaaMs0
set_option linter.unusedVariables false
set_option linter.unusedSimpArgs false
namespace Go.Proofs.Ythoakbjnofhpbaa
open Go.RowKit
abbrev W3T : TypeId := 81
theorem is_at3 {w : World} {g : Nat} {x0 x1 x2 : Int} {T : TypeId} (h : AtB w g #[.int .i64 x0, .int .i64 x1, .int .i64 x2] T) (hz : ∀ z ∈ [x0, x1, x2], I64 z) : IS w (.slice (some ⟨g, 0, none⟩) 3 3) [x0, x1, x2] := by
  refine ⟨_, _, rfl, by simp, by simp, hz, fun _ => ⟨g, 0, rfl, h.lt, fun i hi => ?_⟩⟩
  simp at hi
  have : i = 0 ∨ i = 1 ∨ i = 2 := by omega
  rcases this with rfl | rfl | rfl
  all_goals exact h.cell _ rfl
def putF (ms : List Int) (x0 x1 x2 : Int) (i : Nat) : Int := mAt ms i 0 * x0 + mAt ms i 1 * x1 + mAt ms i 2 * x2
def GiveWide3 (F : Nat → Int) (w : World) (e : Ending) (w' : World) : Prop := ∃ h0 l0 h1 l1 h2 l2, e = .returned (.tuple #[.agg #[.int .i64 h0, .int .u64 l0, .int .i64 h1, .int .u64 l1, .int .i64 h2, .int .u64 l2], .int .i64 0]) ∧ Below w.heap.size w w' ∧ W128 (F 0) h0 l0 ∧ W128 (F 1) h1 l1 ∧ W128 (F 2) h2 l2
set_option maxRecDepth 100000 in
set_option maxHeartbeats 8000000 in
theorem mput_no1 (m0 m1 m2 m3 m4 m5 m6 m7 m8 x0 x1 x2 : Int) (hz : ∀ z ∈ [m0, m1, m2, m3, m4, m5, m6, m7, m8], I64 z) (hf : [m0, m1, m2, m3, m4, m5, m6, m7, m8].any farM = true) (w : World) : Calls Try.prog 42 #[.agg #[.int .i64 m0, .int .i64 m1, .int .i64 m2, .int .i64 m3, .int .i64 m4, .int .i64 m5, .int .i64 m6, .int .i64 m7, .int .i64 m8], .int .i64 x0, .int .i64 x1, .int .i64 x2] w fun e w' => e = .returned (.tuple #[.agg #[.int .i64 0, .int .u64 0, .int .i64 0, .int .u64 0, .int .i64 0, .int .u64 0], .int .i64 11]) ∧ Below w.heap.size w w' := by
  have CR := Lib.hid (fun w => mright m0 m1 m2 m3 m4 m5 m6 m7 m8 hz w)
  rw [hf] at CR
  clear hz hf
  go_enter Try.func42, Try.ntmps42
  go_upto_region 1 with fail
  have BB := start2 w #[.int .i64 m0, .int .i64 m1, .int .i64 m2, .int .i64 m3, .int .i64 m4, .int .i64 m5, .int .i64 m6, .int .i64 m7, .int .i64 m8] M9T #[.int .i64 0, .int .u64 0, .int .i64 0, .int .u64 0, .int .i64 0, .int .u64 0] W3T
  obtain ⟨BB, hsz, r_m, r_res⟩ := BB
  generalize ((w.alloc (.cells #[.int .i64 m0, .int .i64 m1, .int .i64 m2, .int .i64 m3, .int .i64 m4, .int .i64 m5, .int .i64 m6, .int .i64 m7, .int .i64 m8] M9T)).alloc (.cells #[.int .i64 0, .int .u64 0, .int .i64 0, .int .u64 0, .int .i64 0, .int .u64 0] W3T)) = w0 at *
  replace BB := Lib.hid BB
  replace r_m := Lib.hid r_m
  replace r_res := Lib.hid r_res
  clear hsz
  go_upto_region 2 with fail
  have d_v := Lib.hid (And.intro BB.out.size (And.intro r_m.out.lt (And.intro r_res.out.lt (True.intro))))
  obtain ⟨hb, r_v⟩ := laid w0 #[.int .i64 x0, .int .i64 x1, .int .i64 x2] A3T
  replace r_m := Lib.hid (r_m.out.keep hb)
  replace r_res := Lib.hid (r_res.out.keep hb)
  replace BB := Lib.hid (below_next BB.out hb)
  replace r_v := Lib.hid r_v
  clear hb
  generalize w0.alloc (.cells #[.int .i64 x0, .int .i64 x1, .int .i64 x2] A3T) = w1 at *
  generalize w0.heap.size = g_v at *
  obtain ⟨c_m0, c_m1, c_m2, c_m3, c_m4, c_m5, c_m6, c_m7, c_m8, f_m0, f_m1, f_m2, f_m3, f_m4, f_m5, f_m6, f_m7, f_m8⟩ := reads9 r_m.out
  have l_m := r_m.out.lt
  go_wp2_with fail
  refine (CR.out _).mono ?_
  rintro e w2 ⟨rfl, hb⟩
  clear c_m0 c_m1 c_m2 c_m3 c_m4 c_m5 c_m6 c_m7 c_m8 f_m0 f_m1 f_m2 f_m3 f_m4 f_m5 f_m6 f_m7 f_m8 l_m
  replace r_m := Lib.hid (r_m.out.keep hb)
  replace r_res := Lib.hid (r_res.out.keep hb)
  replace r_v := Lib.hid (r_v.out.keep hb)
  replace BB := Lib.hid (below_next BB.out hb)
  clear hb
  obtain ⟨c_res0, c_res1, c_res2, c_res3, c_res4, c_res5, f_res0, f_res1, f_res2, f_res3, f_res4, f_res5⟩ := reads6 r_res.out
  have l_res := r_res.out.lt
  go_wp2_with fail
  clear c_res0 c_res1 c_res2 c_res3 c_res4 c_res5 f_res0 f_res1 f_res2 f_res3 f_res4 f_res5 l_res
  have e_st : ((((((w2.setCell ⟨w.heap.size + 1, 0, none⟩ (.int .i64 0)).setCell ⟨w.heap.size + 1, 1, none⟩ (.int .u64 0)).setCell ⟨w.heap.size + 1, 2, none⟩ (.int .i64 0)).setCell ⟨w.heap.size + 1, 3, none⟩ (.int .u64 0)).setCell ⟨w.heap.size + 1, 4, none⟩ (.int .i64 0)).setCell ⟨w.heap.size + 1, 5, none⟩ (.int .u64 0)) = setFrom w2 (w.heap.size + 1) 0 [.int .i64 0, .int .u64 0, .int .i64 0, .int .u64 0, .int .i64 0, .int .u64 0] := by simp only [setFrom, Nat.reduceAdd]
  rw [e_st]
  clear e_st
  replace r_m := Lib.hid (AtB.farAll (p := w.heap.size + 1) (by omega) [.int .i64 0, .int .u64 0, .int .i64 0, .int .u64 0, .int .i64 0, .int .u64 0] 0 r_m.out)
  replace r_res := Lib.hid (AtB.setAll r_res.out [.int .i64 0, .int .u64 0, .int .i64 0, .int .u64 0, .int .i64 0, .int .u64 0] rfl)
  replace r_v := Lib.hid (AtB.farAll (p := w.heap.size + 1) (by have dd_v := d_v.out; omega) [.int .i64 0, .int .u64 0, .int .i64 0, .int .u64 0, .int .i64 0, .int .u64 0] 0 r_v.out)
  replace BB := Lib.hid (below_setAll (b := w.heap.size + 1) (by omega) [.int .i64 0, .int .u64 0, .int .i64 0, .int .u64 0, .int .i64 0, .int .u64 0] 0 BB.out)
  generalize setFrom w2 (w.heap.size + 1) 0 [.int .i64 0, .int .u64 0, .int .i64 0, .int .u64 0, .int .i64 0, .int .u64 0] = w3 at *
  obtain ⟨c_res0, c_res1, c_res2, c_res3, c_res4, c_res5, f_res0, f_res1, f_res2, f_res3, f_res4, f_res5⟩ := reads6 r_res.out
  have l_res := r_res.out.lt
  refine bodyPost_ret (v := .tuple #[.agg #[.int .i64 0, .int .u64 0, .int .i64 0, .int .u64 0, .int .i64 0, .int .u64 0], .int .i64 11]) (by unfold results; simp only [Try.results42]; go_simp) rfl ⟨rfl, BB.out⟩
set_option maxRecDepth 100000 in
set_option maxHeartbeats 8000000 in
theorem mput_no2 (m0 m1 m2 m3 m4 m5 m6 m7 m8 x0 x1 x2 : Int) (hz : ∀ z ∈ [m0, m1, m2, m3, m4, m5, m6, m7, m8], I64 z) (hz' : ∀ z ∈ [x0, x1, x2], I64 z) (hf : [m0, m1, m2, m3, m4, m5, m6, m7, m8].any farM = false) (hf' : [x0, x1, x2].any farM = true) (w : World) : Calls Try.prog 42 #[.agg #[.int .i64 m0, .int .i64 m1, .int .i64 m2, .int .i64 m3, .int .i64 m4, .int .i64 m5, .int .i64 m6, .int .i64 m7, .int .i64 m8], .int .i64 x0, .int .i64 x1, .int .i64 x2] w fun e w' => e = .returned (.tuple #[.agg #[.int .i64 0, .int .u64 0, .int .i64 0, .int .u64 0, .int .i64 0, .int .u64 0], .int .i64 11]) ∧ Below w.heap.size w w' := by
  have CR := Lib.hid (fun w => mright m0 m1 m2 m3 m4 m5 m6 m7 m8 hz w)
  rw [hf] at CR
  have CM := Lib.hid (fun v w hv => mcon v farM [x0, x1, x2] w hv (fun z _ => mout z w))
  rw [hf'] at CM
  have HZ := Lib.hid hz'
  clear hz hf hz' hf'
  go_enter Try.func42, Try.ntmps42
  go_upto_region 1 with fail
  have BB := start2 w #[.int .i64 m0, .int .i64 m1, .int .i64 m2, .int .i64 m3, .int .i64 m4, .int .i64 m5, .int .i64 m6, .int .i64 m7, .int .i64 m8] M9T #[.int .i64 0, .int .u64 0, .int .i64 0, .int .u64 0, .int .i64 0, .int .u64 0] W3T
  obtain ⟨BB, hsz, r_m, r_res⟩ := BB
  generalize ((w.alloc (.cells #[.int .i64 m0, .int .i64 m1, .int .i64 m2, .int .i64 m3, .int .i64 m4, .int .i64 m5, .int .i64 m6, .int .i64 m7, .int .i64 m8] M9T)).alloc (.cells #[.int .i64 0, .int .u64 0, .int .i64 0, .int .u64 0, .int .i64 0, .int .u64 0] W3T)) = w0 at *
  replace BB := Lib.hid BB
  replace r_m := Lib.hid r_m
  replace r_res := Lib.hid r_res
  clear hsz
  go_upto_region 2 with fail
  have d_v := Lib.hid (And.intro BB.out.size (And.intro r_m.out.lt (And.intro r_res.out.lt (True.intro))))
  obtain ⟨hb, r_v⟩ := laid w0 #[.int .i64 x0, .int .i64 x1, .int .i64 x2] A3T
  replace r_m := Lib.hid (r_m.out.keep hb)
  replace r_res := Lib.hid (r_res.out.keep hb)
  replace BB := Lib.hid (below_next BB.out hb)
  replace r_v := Lib.hid r_v
  clear hb
  generalize w0.alloc (.cells #[.int .i64 x0, .int .i64 x1, .int .i64 x2] A3T) = w1 at *
  generalize w0.heap.size = g_v at *
  obtain ⟨c_m0, c_m1, c_m2, c_m3, c_m4, c_m5, c_m6, c_m7, c_m8, f_m0, f_m1, f_m2, f_m3, f_m4, f_m5, f_m6, f_m7, f_m8⟩ := reads9 r_m.out
  have l_m := r_m.out.lt
  go_wp2_with fail
  refine (CR.out _).mono ?_
  rintro e w2 ⟨rfl, hb⟩
  clear c_m0 c_m1 c_m2 c_m3 c_m4 c_m5 c_m6 c_m7 c_m8 f_m0 f_m1 f_m2 f_m3 f_m4 f_m5 f_m6 f_m7 f_m8 l_m
  replace r_m := Lib.hid (r_m.out.keep hb)
  replace r_res := Lib.hid (r_res.out.keep hb)
  replace r_v := Lib.hid (r_v.out.keep hb)
  replace BB := Lib.hid (below_next BB.out hb)
  clear hb
  go_wp2_with fail
  refine (CM.out _ _ (is_at3 r_v.out HZ.out)).mono ?_
  rintro e w9 ⟨rfl, rfl⟩
  obtain ⟨c_res0, c_res1, c_res2, c_res3, c_res4, c_res5, f_res0, f_res1, f_res2, f_res3, f_res4, f_res5⟩ := reads6 r_res.out
  have l_res := r_res.out.lt
  go_wp2_with fail
  clear c_res0 c_res1 c_res2 c_res3 c_res4 c_res5 f_res0 f_res1 f_res2 f_res3 f_res4 f_res5 l_res
  have e_st : ((((((w2.setCell ⟨w.heap.size + 1, 0, none⟩ (.int .i64 0)).setCell ⟨w.heap.size + 1, 1, none⟩ (.int .u64 0)).setCell ⟨w.heap.size + 1, 2, none⟩ (.int .i64 0)).setCell ⟨w.heap.size + 1, 3, none⟩ (.int .u64 0)).setCell ⟨w.heap.size + 1, 4, none⟩ (.int .i64 0)).setCell ⟨w.heap.size + 1, 5, none⟩ (.int .u64 0)) = setFrom w2 (w.heap.size + 1) 0 [.int .i64 0, .int .u64 0, .int .i64 0, .int .u64 0, .int .i64 0, .int .u64 0] := by simp only [setFrom, Nat.reduceAdd]
  rw [e_st]
  clear e_st
  replace r_m := Lib.hid (AtB.farAll (p := w.heap.size + 1) (by omega) [.int .i64 0, .int .u64 0, .int .i64 0, .int .u64 0, .int .i64 0, .int .u64 0] 0 r_m.out)
  replace r_res := Lib.hid (AtB.setAll r_res.out [.int .i64 0, .int .u64 0, .int .i64 0, .int .u64 0, .int .i64 0, .int .u64 0] rfl)
  replace r_v := Lib.hid (AtB.farAll (p := w.heap.size + 1) (by have dd_v := d_v.out; omega) [.int .i64 0, .int .u64 0, .int .i64 0, .int .u64 0, .int .i64 0, .int .u64 0] 0 r_v.out)
  replace BB := Lib.hid (below_setAll (b := w.heap.size + 1) (by omega) [.int .i64 0, .int .u64 0, .int .i64 0, .int .u64 0, .int .i64 0, .int .u64 0] 0 BB.out)
  generalize setFrom w2 (w.heap.size + 1) 0 [.int .i64 0, .int .u64 0, .int .i64 0, .int .u64 0, .int .i64 0, .int .u64 0] = w3 at *
  obtain ⟨c_res0, c_res1, c_res2, c_res3, c_res4, c_res5, f_res0, f_res1, f_res2, f_res3, f_res4, f_res5⟩ := reads6 r_res.out
  have l_res := r_res.out.lt
  refine bodyPost_ret (v := .tuple #[.agg #[.int .i64 0, .int .u64 0, .int .i64 0, .int .u64 0, .int .i64 0, .int .u64 0], .int .i64 11]) (by unfold results; simp only [Try.results42]; go_simp) rfl ⟨rfl, BB.out⟩
set_option maxRecDepth 100000 in
set_option maxHeartbeats 16000000 in
theorem mput_ok (m0 m1 m2 m3 m4 m5 m6 m7 m8 x0 x1 x2 : Int) (hz : ∀ z ∈ [m0, m1, m2, m3, m4, m5, m6, m7, m8], I32s z) (hz' : ∀ z ∈ [x0, x1, x2], I32s z) (w : World) : Calls Try.prog 42 #[.agg #[.int .i64 m0, .int .i64 m1, .int .i64 m2, .int .i64 m3, .int .i64 m4, .int .i64 m5, .int .i64 m6, .int .i64 m7, .int .i64 m8], .int .i64 x0, .int .i64 x1, .int .i64 x2] w (GiveWide3 (putF [m0, m1, m2, m3, m4, m5, m6, m7, m8] x0 x1 x2) w) := by
  have CR := Lib.hid (fun w => mright m0 m1 m2 m3 m4 m5 m6 m7 m8 (fun z h => by have := hz z h; unfold I32s at this; unfold I64; omega) w)
  have hf : [m0, m1, m2, m3, m4, m5, m6, m7, m8].any farM = false := by
    rw [List.any_eq_false]
    intro z h
    rw [farM_iff.2 (hz z h)]; simp
  have hf' : [x0, x1, x2].any farM = false := by
    rw [List.any_eq_false]
    intro z h
    rw [farM_iff.2 (hz' z h)]; simp
  rw [hf] at CR
  have CM := Lib.hid (fun v w hv => mcon v farM [x0, x1, x2] w hv (fun z _ => mout z w))
  rw [hf'] at CM
  have HZ := Lib.hid (show ∀ z ∈ [x0, x1, x2], I64 z from fun z h => by have := hz' z h; unfold I32s at this; unfold I64; omega)
  have A0 := Lib.hid (fun w => mrow0 m0 m1 m2 m3 m4 m5 m6 m7 m8 w)
  have A1 := Lib.hid (fun w => mrow1 m0 m1 m2 m3 m4 m5 m6 m7 m8 w)
  have A2 := Lib.hid (fun w => mrow2 m0 m1 m2 m3 m4 m5 m6 m7 m8 w)
  have i0 := hz' x0 (by simp)
  have i1 := hz' x1 (by simp)
  have i2 := hz' x2 (by simp)
  have S0 : Hid (∀ w, Calls Try.prog 96 #[.agg #[.int .i64 m0, .int .i64 m1, .int .i64 m2], .agg #[.int .i64 x0, .int .i64 x1, .int .i64 x2]] w (GiveW (putF [m0, m1, m2, m3, m4, m5, m6, m7, m8] x0 x1 x2 0) w)) := fun w => msum _ _ _ _ _ _ (hz m0 (by simp)) (hz m1 (by simp)) (hz m2 (by simp)) i0 i1 i2 w
  have S1 : Hid (∀ w, Calls Try.prog 96 #[.agg #[.int .i64 m3, .int .i64 m4, .int .i64 m5], .agg #[.int .i64 x0, .int .i64 x1, .int .i64 x2]] w (GiveW (putF [m0, m1, m2, m3, m4, m5, m6, m7, m8] x0 x1 x2 1) w)) := fun w => msum _ _ _ _ _ _ (hz m3 (by simp)) (hz m4 (by simp)) (hz m5 (by simp)) i0 i1 i2 w
  have S2 : Hid (∀ w, Calls Try.prog 96 #[.agg #[.int .i64 m6, .int .i64 m7, .int .i64 m8], .agg #[.int .i64 x0, .int .i64 x1, .int .i64 x2]] w (GiveW (putF [m0, m1, m2, m3, m4, m5, m6, m7, m8] x0 x1 x2 2) w)) := fun w => msum _ _ _ _ _ _ (hz m6 (by simp)) (hz m7 (by simp)) (hz m8 (by simp)) i0 i1 i2 w
  generalize putF [m0, m1, m2, m3, m4, m5, m6, m7, m8] x0 x1 x2 = F at *
  clear hz hf hz' hf' i0 i1 i2
  go_enter Try.func42, Try.ntmps42
  go_upto_region 1 with fail
  have BB := start2 w #[.int .i64 m0, .int .i64 m1, .int .i64 m2, .int .i64 m3, .int .i64 m4, .int .i64 m5, .int .i64 m6, .int .i64 m7, .int .i64 m8] M9T #[.int .i64 0, .int .u64 0, .int .i64 0, .int .u64 0, .int .i64 0, .int .u64 0] W3T
  obtain ⟨BB, hsz, r_m, r_res⟩ := BB
  generalize ((w.alloc (.cells #[.int .i64 m0, .int .i64 m1, .int .i64 m2, .int .i64 m3, .int .i64 m4, .int .i64 m5, .int .i64 m6, .int .i64 m7, .int .i64 m8] M9T)).alloc (.cells #[.int .i64 0, .int .u64 0, .int .i64 0, .int .u64 0, .int .i64 0, .int .u64 0] W3T)) = w0 at *
  replace BB := Lib.hid BB
  replace r_m := Lib.hid r_m
  replace r_res := Lib.hid r_res
  clear hsz
  go_upto_region 2 with fail
  have d_v := Lib.hid (And.intro BB.out.size (And.intro r_m.out.lt (And.intro r_res.out.lt (True.intro))))
  obtain ⟨hb, r_v⟩ := laid w0 #[.int .i64 x0, .int .i64 x1, .int .i64 x2] A3T
  replace r_m := Lib.hid (r_m.out.keep hb)
  replace r_res := Lib.hid (r_res.out.keep hb)
  replace BB := Lib.hid (below_next BB.out hb)
  replace r_v := Lib.hid r_v
  clear hb
  generalize w0.alloc (.cells #[.int .i64 x0, .int .i64 x1, .int .i64 x2] A3T) = w1 at *
  generalize w0.heap.size = g_v at *
  obtain ⟨c_m0, c_m1, c_m2, c_m3, c_m4, c_m5, c_m6, c_m7, c_m8, f_m0, f_m1, f_m2, f_m3, f_m4, f_m5, f_m6, f_m7, f_m8⟩ := reads9 r_m.out
  have l_m := r_m.out.lt
  go_wp2_with fail
  refine (CR.out _).mono ?_
  rintro e w2 ⟨rfl, hb⟩
  clear c_m0 c_m1 c_m2 c_m3 c_m4 c_m5 c_m6 c_m7 c_m8 f_m0 f_m1 f_m2 f_m3 f_m4 f_m5 f_m6 f_m7 f_m8 l_m
  replace r_m := Lib.hid (r_m.out.keep hb)
  replace r_res := Lib.hid (r_res.out.keep hb)
  replace r_v := Lib.hid (r_v.out.keep hb)
  replace BB := Lib.hid (below_next BB.out hb)
  clear hb
  go_wp2_with fail
  refine (CM.out _ _ (is_at3 r_v.out HZ.out)).mono ?_
  rintro e w9 ⟨rfl, rfl⟩
  go_wp2_with fail
  have KK := Lib.hid (fun (w9 : World) (h : Below w2.heap.size w2 w9) => (⟨cells9 (r_m.out.keep h), cells3 (r_v.out.keep h)⟩ : (w9.cell? ⟨w.heap.size, 0, none⟩ = some (.int .i64 m0) ∧ w9.cell? ⟨w.heap.size, 1, none⟩ = some (.int .i64 m1) ∧ w9.cell? ⟨w.heap.size, 2, none⟩ = some (.int .i64 m2) ∧ w9.cell? ⟨w.heap.size, 3, none⟩ = some (.int .i64 m3) ∧ w9.cell? ⟨w.heap.size, 4, none⟩ = some (.int .i64 m4) ∧ w9.cell? ⟨w.heap.size, 5, none⟩ = some (.int .i64 m5) ∧ w9.cell? ⟨w.heap.size, 6, none⟩ = some (.int .i64 m6) ∧ w9.cell? ⟨w.heap.size, 7, none⟩ = some (.int .i64 m7) ∧ w9.cell? ⟨w.heap.size, 8, none⟩ = some (.int .i64 m8)) ∧ (w9.cell? ⟨g_v, 0, none⟩ = some (.int .i64 x0) ∧ w9.cell? ⟨g_v, 1, none⟩ = some (.int .i64 x1) ∧ w9.cell? ⟨g_v, 2, none⟩ = some (.int .i64 x2))))
  have K0 := KK.out w2 (Below.refl _ _)
  have KD := KK.out w2.drew (below_drew (Below.refl _ _))
  have tok0 : Hid True := trivial
  have tok1 : Hid True := trivial
  have tok2 : Hid True := trivial
  have tok3 : Hid True := trivial
  have tok4 : Hid True := trivial
  have tok5 : Hid True := trivial
  refine AnyG.begin_ (fun w9 => (w9.cell? ⟨w.heap.size, 0, none⟩ = some (.int .i64 m0) ∧ w9.cell? ⟨w.heap.size, 1, none⟩ = some (.int .i64 m1) ∧ w9.cell? ⟨w.heap.size, 2, none⟩ = some (.int .i64 m2) ∧ w9.cell? ⟨w.heap.size, 3, none⟩ = some (.int .i64 m3) ∧ w9.cell? ⟨w.heap.size, 4, none⟩ = some (.int .i64 m4) ∧ w9.cell? ⟨w.heap.size, 5, none⟩ = some (.int .i64 m5) ∧ w9.cell? ⟨w.heap.size, 6, none⟩ = some (.int .i64 m6) ∧ w9.cell? ⟨w.heap.size, 7, none⟩ = some (.int .i64 m7) ∧ w9.cell? ⟨w.heap.size, 8, none⟩ = some (.int .i64 m8)) ∧ (w9.cell? ⟨g_v, 0, none⟩ = some (.int .i64 x0) ∧ w9.cell? ⟨g_v, 1, none⟩ = some (.int .i64 x1) ∧ w9.cell? ⟨g_v, 2, none⟩ = some (.int .i64 x2))) 13 (by kernel_rfl) ?_
  refine AnyG.take (i := 0) (v := ?_) rfl (by kernel_rfl) (by kernel_rfl) (by kernel_rfl) (fun _ _ _ h => h) (by kernel_rfl) (by kernel_rfl) (Or.inl ⟨by rfl, ?_⟩) (by assumption) ?_
  rotate_left
  · intro w9 hSw; (try dsimp only at hSw); go_simp <;> with_reducible rfl
  try simp only [Act.put, List.getElem_toArray, List.getElem_cons_zero, List.getElem_cons_succ, List.setIfInBounds_toArray, List.set_cons_zero, List.set_cons_succ]
  refine AnyG.take (i := 2) (v := ?_) rfl (by kernel_rfl) (by kernel_rfl) (by kernel_rfl) (fun _ _ _ h => h) (by kernel_rfl) (by kernel_rfl) (Or.inl ⟨by rfl, ?_⟩) (by assumption) ?_
  rotate_left
  · intro w9 hSw; (try dsimp only at hSw); go_simp <;> with_reducible rfl
  try simp only [Act.put, List.getElem_toArray, List.getElem_cons_zero, List.getElem_cons_succ, List.setIfInBounds_toArray, List.set_cons_zero, List.set_cons_succ]
  refine AnyG.take (i := 4) (v := ?_) rfl (by kernel_rfl) (by kernel_rfl) (by kernel_rfl) (fun _ _ _ h => h) (by kernel_rfl) (by kernel_rfl) (Or.inl ⟨by rfl, ?_⟩) (by assumption) ?_
  rotate_left
  · intro w9 hSw; (try dsimp only at hSw); go_simp <;> with_reducible rfl
  try simp only [Act.put, List.getElem_toArray, List.getElem_cons_zero, List.getElem_cons_succ, List.setIfInBounds_toArray, List.set_cons_zero, List.set_cons_succ]
  refine AnyG.take (i := 6) (v := ?_) rfl (by kernel_rfl) (by kernel_rfl) (by kernel_rfl) (fun _ _ _ h => h) (by kernel_rfl) (by kernel_rfl) (Or.inl ⟨by rfl, ?_⟩) (by assumption) ?_
  rotate_left
  · intro w9 hSw; (try dsimp only at hSw); go_simp <;> with_reducible rfl
  try simp only [Act.put, List.getElem_toArray, List.getElem_cons_zero, List.getElem_cons_succ, List.setIfInBounds_toArray, List.set_cons_zero, List.set_cons_succ]
  refine AnyG.take (i := 8) (v := ?_) rfl (by kernel_rfl) (by kernel_rfl) (by kernel_rfl) (fun _ _ _ h => h) (by kernel_rfl) (by kernel_rfl) (Or.inl ⟨by rfl, ?_⟩) (by assumption) ?_
  rotate_left
  · intro w9 hSw; (try dsimp only at hSw); go_simp <;> with_reducible rfl
  try simp only [Act.put, List.getElem_toArray, List.getElem_cons_zero, List.getElem_cons_succ, List.setIfInBounds_toArray, List.set_cons_zero, List.set_cons_succ]
  refine AnyG.take (i := 10) (v := ?_) rfl (by kernel_rfl) (by kernel_rfl) (by kernel_rfl) (fun _ _ _ h => h) (by kernel_rfl) (by kernel_rfl) (Or.inl ⟨by rfl, ?_⟩) (by assumption) ?_
  rotate_left
  · intro w9 hSw; (try dsimp only at hSw); go_simp <;> with_reducible rfl
  try simp only [Act.put, List.getElem_toArray, List.getElem_cons_zero, List.getElem_cons_succ, List.setIfInBounds_toArray, List.set_cons_zero, List.set_cons_succ]
  refine AnyG.step (i := 1) (by kernel_rfl) rfl (fun K hK => ?_)
  go_simp
  go_at_call 97
  have t_k := tok0
  refine (A0.out _).mono ?_
  rintro e w3 ⟨rfl, hb⟩
  have B_w3 := Lib.hid (reg_next (w0 := w2) (by repeat (first | with_reducible exact Below.refl _ _ | with_reducible apply below_drew | with_reducible apply below_new)) hb)
  have K_w3 := KK.out _ B_w3.out
  clear hb
  clear t_k tok0
  refine hK.out _ _ (fun _ => K_w3) (fun hHeld => ?_)
  replace hHeld := hHeld (by decide)
  clear hK
  try simp only [Act.put, List.getElem_toArray, List.getElem_cons_zero, List.getElem_cons_succ, List.setIfInBounds_toArray, List.set_cons_zero, List.set_cons_succ]
  refine AnyG.step (i := 3) (by kernel_rfl) rfl (fun K hK => ?_)
  go_simp
  go_at_call 96
  have t_k := tok1
  refine (S0.out _).mono ?_
  rintro e w4 ⟨h0, l0, rfl, hb, hw0⟩
  have B_w4 := Lib.hid (below_next B_w3.out hb)
  have K_w4 := KK.out _ B_w4.out
  clear hb
  clear t_k tok1
  refine hK.out _ _ (fun _ => K_w4) (fun hHeld => ?_)
  replace hHeld := hHeld (by decide)
  clear hK
  try simp only [Act.put, List.getElem_toArray, List.getElem_cons_zero, List.getElem_cons_succ, List.setIfInBounds_toArray, List.set_cons_zero, List.set_cons_succ]
  refine AnyG.step (i := 5) (by kernel_rfl) rfl (fun K hK => ?_)
  go_simp
  go_at_call 97
  have t_k := tok2
  refine (A1.out _).mono ?_
  rintro e w5 ⟨rfl, hb⟩
  have B_w5 := Lib.hid (below_next B_w4.out hb)
  have K_w5 := KK.out _ B_w5.out
  clear hb
  clear t_k tok2
  refine hK.out _ _ (fun _ => K_w5) (fun hHeld => ?_)
  replace hHeld := hHeld (by decide)
  clear hK
  try simp only [Act.put, List.getElem_toArray, List.getElem_cons_zero, List.getElem_cons_succ, List.setIfInBounds_toArray, List.set_cons_zero, List.set_cons_succ]
  refine AnyG.step (i := 7) (by kernel_rfl) rfl (fun K hK => ?_)
  go_simp
  go_at_call 96
  have t_k := tok3
  refine (S1.out _).mono ?_
  rintro e w6 ⟨h1, l1, rfl, hb, hw1⟩
  have B_w6 := Lib.hid (below_next B_w5.out hb)
  have K_w6 := KK.out _ B_w6.out
  clear hb
  clear t_k tok3
  refine hK.out _ _ (fun _ => K_w6) (fun hHeld => ?_)
  replace hHeld := hHeld (by decide)
  clear hK
  try simp only [Act.put, List.getElem_toArray, List.getElem_cons_zero, List.getElem_cons_succ, List.setIfInBounds_toArray, List.set_cons_zero, List.set_cons_succ]
  refine AnyG.step (i := 9) (by kernel_rfl) rfl (fun K hK => ?_)
  go_simp
  go_at_call 97
  have t_k := tok4
  refine (A2.out _).mono ?_
  rintro e w7 ⟨rfl, hb⟩
  have B_w7 := Lib.hid (below_next B_w6.out hb)
  have K_w7 := KK.out _ B_w7.out
  clear hb
  clear t_k tok4
  refine hK.out _ _ (fun _ => K_w7) (fun hHeld => ?_)
  replace hHeld := hHeld (by decide)
  clear hK
  try simp only [Act.put, List.getElem_toArray, List.getElem_cons_zero, List.getElem_cons_succ, List.setIfInBounds_toArray, List.set_cons_zero, List.set_cons_succ]
  refine AnyG.step (i := 11) (by kernel_rfl) rfl (fun K hK => ?_)
  go_simp
  go_at_call 96
  have t_k := tok5
  refine (S2.out _).mono ?_
  rintro e w8 ⟨h2, l2, rfl, hb, hw2⟩
  have B_w8 := Lib.hid (below_next B_w7.out hb)
  have K_w8 := KK.out _ B_w8.out
  obtain ⟨rc_res0, rc_res1, rc_res2, rc_res3, rc_res4, rc_res5, rf_res0, rf_res1, rf_res2, rf_res3, rf_res4, rf_res5⟩ := reads6 (r_res.out.keep B_w8.out)
  have rl_res := (r_res.out.keep B_w8.out).lt
  clear hb
  clear t_k tok5
  refine hK.out _ _ (fun _ => K_w8) (fun hHeld => ?_)
  replace hHeld := hHeld (by decide)
  clear hK
  try simp only [Act.put, List.getElem_toArray, List.getElem_cons_zero, List.getElem_cons_succ, List.setIfInBounds_toArray, List.set_cons_zero, List.set_cons_succ]
  refine AnyG.take (i := 12) (v := ?_) rfl (by kernel_rfl) (by kernel_rfl) (by kernel_rfl) (fun _ _ _ h => h) (by kernel_rfl) (by kernel_rfl) (Or.inl ⟨by rfl, ?_⟩) (by assumption) ?_
  rotate_left
  · intro w9 hSw; (try dsimp only at hSw); go_simp <;> with_reducible rfl
  try simp only [Act.put, List.getElem_toArray, List.getElem_cons_zero, List.getElem_cons_succ, List.setIfInBounds_toArray, List.set_cons_zero, List.set_cons_succ]
  refine AnyG.step (i := 13) (by kernel_rfl) rfl (fun K hK => ?_)
  go_simp
  refine hK.out _ _ (fun h => absurd h (by decide)) (fun _ => ?_)
  clear hK
  try simp only [Act.put, List.getElem_toArray, List.getElem_cons_zero, List.getElem_cons_succ, List.setIfInBounds_toArray, List.set_cons_zero, List.set_cons_succ]
  refine AnyG.step (i := 14) (by kernel_rfl) rfl (fun K hK => ?_)
  go_simp
  refine hK.out _ _ (fun h => absurd h (by decide)) (fun _ => ?_)
  clear hK
  try simp only [Act.put, List.getElem_toArray, List.getElem_cons_zero, List.getElem_cons_succ, List.setIfInBounds_toArray, List.set_cons_zero, List.set_cons_succ]
  refine AnyG.done (by kernel_rfl) ?_ _
  clear KK K0 KD K_w3 K_w4 K_w5 K_w6 K_w7 K_w8
  replace r_m := Lib.hid (r_m.out.keep B_w8.out)
  replace r_res := Lib.hid (r_res.out.keep B_w8.out)
  replace r_v := Lib.hid (r_v.out.keep B_w8.out)
  replace BB := Lib.hid (below_next BB.out B_w8.out)
  clear B_w3 B_w4 B_w5 B_w6 B_w7 B_w8
  have e_st : ((((((w8.setCell ⟨w.heap.size + 1, 0, none⟩ (.int .i64 h0)).setCell ⟨w.heap.size + 1, 1, none⟩ (.int .u64 l0)).setCell ⟨w.heap.size + 1, 2, none⟩ (.int .i64 h1)).setCell ⟨w.heap.size + 1, 3, none⟩ (.int .u64 l1)).setCell ⟨w.heap.size + 1, 4, none⟩ (.int .i64 h2)).setCell ⟨w.heap.size + 1, 5, none⟩ (.int .u64 l2)) = setFrom w8 (w.heap.size + 1) 0 [.int .i64 h0, .int .u64 l0, .int .i64 h1, .int .u64 l1, .int .i64 h2, .int .u64 l2] := by simp only [setFrom, Nat.reduceAdd]
  rw [e_st]
  clear e_st
  replace r_m := Lib.hid (AtB.farAll (p := w.heap.size + 1) (by omega) [.int .i64 h0, .int .u64 l0, .int .i64 h1, .int .u64 l1, .int .i64 h2, .int .u64 l2] 0 r_m.out)
  replace r_res := Lib.hid (AtB.setAll r_res.out [.int .i64 h0, .int .u64 l0, .int .i64 h1, .int .u64 l1, .int .i64 h2, .int .u64 l2] rfl)
  replace r_v := Lib.hid (AtB.farAll (p := w.heap.size + 1) (by have dd_v := d_v.out; omega) [.int .i64 h0, .int .u64 l0, .int .i64 h1, .int .u64 l1, .int .i64 h2, .int .u64 l2] 0 r_v.out)
  replace BB := Lib.hid (below_setAll (b := w.heap.size + 1) (by omega) [.int .i64 h0, .int .u64 l0, .int .i64 h1, .int .u64 l1, .int .i64 h2, .int .u64 l2] 0 BB.out)
  generalize setFrom w8 (w.heap.size + 1) 0 [.int .i64 h0, .int .u64 l0, .int .i64 h1, .int .u64 l1, .int .i64 h2, .int .u64 l2] = w10 at *
  obtain ⟨c_res0, c_res1, c_res2, c_res3, c_res4, c_res5, f_res0, f_res1, f_res2, f_res3, f_res4, f_res5⟩ := reads6 r_res.out
  have l_res := r_res.out.lt
  go_wp2_with fail
  refine bodyPost_ret (v := .tuple #[.agg #[.int .i64 h0, .int .u64 l0, .int .i64 h1, .int .u64 l1, .int .i64 h2, .int .u64 l2], .int .i64 0]) (by unfold results; simp only [Try.results42]; go_simp) rfl ?_
  exact ⟨_, _, _, _, _, _, rfl, BB.out, hw0, hw1, hw2⟩
end Go.Proofs.Ythoakbjnofhpbaa
