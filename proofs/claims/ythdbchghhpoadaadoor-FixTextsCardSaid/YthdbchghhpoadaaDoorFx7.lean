/- fix.Read at the chapter's two texts; alive. -/
import Derived.Test.YthdbchghhpoadaaDoorFx6
import Derived.Test.YthdbchghhpoadaaDoorRegG
set_option linter.unusedVariables false
set_option linter.unusedSimpArgs false
namespace Go.Proofs.YthdbchghhpoadaaDoor
open Go.RowKit
theorem w128_low {z hi lo : Int} (h : W128 z hi lo) (h0 : 0 ≤ z) (h1 : z < 18446744073709551616) : hi = 0 ∧ lo = z := by
  unfold W128 I64 U64 at h; omega
theorem give_low {z : Int} (h0 : 0 ≤ z) (h1 : z < 18446744073709551616) {K : FuncId} {args : Array Value} {w : World} (h : Calls Tryd.prog K args w (GiveW z w)) : Calls Tryd.prog K args w fun e w' => e = .returned (wv 0 z) ∧ Below w.heap.size w w' := by
  refine h.mono ?_
  rintro e w' ⟨hi, lo, rfl, hb, hm⟩
  obtain ⟨rfl, rfl⟩ := w128_low hm h0 h1
  exact ⟨rfl, hb⟩
theorem add_low {z : Int} (h0 : 0 ≤ z) (h1 : z < 18446744073709551616) {K : FuncId} {args : Array Value} {w : World} (h : Calls Tryd.prog K args w (GiveWB z w)) : Calls Tryd.prog K args w fun e w' => e = .returned (.tuple #[wv 0 z, .bool true]) ∧ Below w.heap.size w w' := by
  refine h.mono ?_
  rintro e w' ⟨hi, lo, ok, rfl, hb, hm⟩
  rcases hm with ⟨-, rfl, hm⟩ | ⟨hm, -⟩
  · obtain ⟨rfl, rfl⟩ := w128_low hm h0 h1
    exact ⟨rfl, hb⟩
  · exact absurd (show I128 z by unfold I128; omega) hm
set_option maxRecDepth 100000 in
set_option maxHeartbeats 2000000 in
theorem read_a (w : World) : Calls Tryd.prog 22 #[.string ⟨#[49, 46, 53]⟩] w fun e w' => e = .returned (.tuple #[.int .i64 98304, .bool true]) ∧ Below w.heap.size w w' := by
  have CP := Lib.hid (fun w => cut_a_r w)
  have CC := Lib.hid (fun w => cut_a w)
  have CN := Lib.hid (fun w => num_1 w)
  have CQ := Lib.hid (fun w => par_5 w)
  have CM := Lib.hid (fun w => give_low (z := 65536) (by omega) (by omega) (wmul 1 65536 (by unfold I64; omega) (by unfold I64; omega) w))
  have CO := Lib.hid (fun w => give_low (z := 32768) (by omega) (by omega) (wof 32768 (by unfold I64; omega) w))
  have CA := Lib.hid (fun w => add_low (z := 98304) (by omega) (by omega) (wadd 65536 32768 0 65536 0 32768 (by unfold W128 I64 U64; omega) (by unfold W128 I64 U64; omega) w))
  have CF := Lib.hid (fun w => wfits 98304 0 98304 (by unfold W128 I64 U64; omega) w)
  rw [show fitX 98304 = 98304 by decide +kernel, show fitsB 98304 63 = true by decide +kernel] at CF
  have CS := Lib.hid (fun w => show_q w)
  go_enter Tryd.func22, Tryd.ntmps22
  go_wp2_with fail
  have BB : Hid (Below w.heap.size w w) := Below.refl _ _
  refine (CP.out _).mono ?_
  rintro e w9 ⟨rfl, rfl⟩
  go_wp2_with fail
  refine (CC.out _).mono ?_
  rintro e w1 ⟨rfl, hb⟩
  replace BB := Lib.hid (below_next BB.out hb)
  clear hb
  go_wp2_with fail
  refine (CN.out _).mono ?_
  rintro e w2 ⟨rfl, hb⟩
  replace BB := Lib.hid (below_next BB.out hb)
  clear hb
  go_wp2_with fail
  refine (CM.out _).mono ?_
  rintro e w3 ⟨rfl, hb⟩
  replace BB := Lib.hid (below_next BB.out hb)
  clear hb
  go_wp2_with fail
  have d_m := Lib.hid (And.intro BB.out.size (True.intro))
  obtain ⟨hb, r_m⟩ := laid w3 #[.int .i64 0, .int .u64 65536] WTX
  replace BB := Lib.hid (below_next BB.out hb)
  replace r_m := Lib.hid r_m
  clear hb
  generalize w3.alloc (.cells #[.int .i64 0, .int .u64 65536] WTX) = w4 at *
  generalize w3.heap.size = g_m at *
  refine (CQ.out _).mono ?_
  rintro e w5 ⟨rfl, hb⟩
  replace r_m := Lib.hid (r_m.out.keep hb)
  replace BB := Lib.hid (below_next BB.out hb)
  clear hb
  obtain ⟨c_m0, c_m1, f_m0, f_m1⟩ := reads2 r_m.out
  have l_m := r_m.out.lt
  go_wp2_with fail
  clear c_m0 c_m1 f_m0 f_m1 l_m
  have KK := Lib.hid (fun (w9 : World) (h : Below w5.heap.size w5 w9) => (cells2 (r_m.out.keep h) : (w9.cell? ⟨g_m, 0, none⟩ = some (.int .i64 0) ∧ w9.cell? ⟨g_m, 1, none⟩ = some (.int .u64 65536))))
  have K0 := KK.out w5 (Below.refl _ _)
  have KD := KK.out w5.drew (below_drew (Below.refl _ _))
  refine AnyG.begin_ (fun w9 => (w9.cell? ⟨g_m, 0, none⟩ = some (.int .i64 0) ∧ w9.cell? ⟨g_m, 1, none⟩ = some (.int .u64 65536))) 7 (by kernel_rfl) ?_
  refine AnyG.take (i := 0) (v := ?_) rfl (by kernel_rfl) (by kernel_rfl) (by kernel_rfl) (fun _ _ _ h => h) (by kernel_rfl) (by kernel_rfl) (Or.inl ⟨by rfl, ?_⟩) (by assumption) ?_
  rotate_left
  · intro w9 hSw; (try dsimp only at hSw); go_simp <;> with_reducible rfl
  try simp only [Act.put, List.getElem_toArray, List.getElem_cons_zero, List.getElem_cons_succ, List.setIfInBounds_toArray, List.set_cons_zero, List.set_cons_succ]
  refine AnyG.take (i := 1) (v := ?_) rfl (by kernel_rfl) (by kernel_rfl) (by kernel_rfl) (fun _ _ _ h => h) (by kernel_rfl) (by kernel_rfl) (Or.inl ⟨by rfl, ?_⟩) (by assumption) ?_
  rotate_left
  · intro w9 hSw; (try dsimp only at hSw); go_simp <;> with_reducible rfl
  try simp only [Act.put, List.getElem_toArray, List.getElem_cons_zero, List.getElem_cons_succ, List.setIfInBounds_toArray, List.set_cons_zero, List.set_cons_succ]
  refine AnyG.step (i := 2) (by kernel_rfl) rfl (fun K hK => ?_)
  go_simp
  go_at_call 27
  refine (CO.out _).mono ?_
  rintro e w6 ⟨rfl, hb⟩
  have B_w6 := Lib.hid (reg_next (w0 := w5) (by repeat (first | with_reducible exact Below.refl _ _ | with_reducible apply below_drew | with_reducible apply below_new)) hb)
  have K_w6 := KK.out _ B_w6.out
  clear hb
  refine hK.out _ _ (fun _ => K_w6) (fun hHeld => ?_)
  replace hHeld := hHeld (by decide)
  clear hK
  try simp only [Act.put, List.getElem_toArray, List.getElem_cons_zero, List.getElem_cons_succ, List.setIfInBounds_toArray, List.set_cons_zero, List.set_cons_succ]
  refine AnyG.step (i := 3) (by kernel_rfl) rfl (fun K hK => ?_)
  go_simp
  go_at_call 26
  refine (CA.out _).mono ?_
  rintro e w7 ⟨rfl, hb⟩
  have B_w7 := Lib.hid (below_next B_w6.out hb)
  have K_w7 := KK.out _ B_w7.out
  obtain ⟨rc_m0, rc_m1, rf_m0, rf_m1⟩ := reads2 (r_m.out.keep B_w7.out)
  have rl_m := (r_m.out.keep B_w7.out).lt
  clear hb
  refine hK.out _ _ (fun _ => K_w7) (fun hHeld => ?_)
  replace hHeld := hHeld (by decide)
  clear hK
  try simp only [Act.put, List.getElem_toArray, List.getElem_cons_zero, List.getElem_cons_succ, List.setIfInBounds_toArray, List.set_cons_zero, List.set_cons_succ]
  refine AnyG.take (i := 4) (v := ?_) rfl (by kernel_rfl) (by kernel_rfl) (by kernel_rfl) (fun _ _ _ h => h) (by kernel_rfl) (by kernel_rfl) (Or.inl ⟨by rfl, ?_⟩) (by assumption) ?_
  rotate_left
  · intro w9 hSw; (try dsimp only at hSw); go_simp <;> with_reducible rfl
  try simp only [Act.put, List.getElem_toArray, List.getElem_cons_zero, List.getElem_cons_succ, List.setIfInBounds_toArray, List.set_cons_zero, List.set_cons_succ]
  refine AnyG.take (i := 5) (v := ?_) rfl (by kernel_rfl) (by kernel_rfl) (by kernel_rfl) (fun _ _ _ h => h) (by kernel_rfl) (by kernel_rfl) (Or.inl ⟨by rfl, ?_⟩) (by assumption) ?_
  rotate_left
  · intro w9 hSw; (try dsimp only at hSw); go_simp <;> with_reducible rfl
  try simp only [Act.put, List.getElem_toArray, List.getElem_cons_zero, List.getElem_cons_succ, List.setIfInBounds_toArray, List.set_cons_zero, List.set_cons_succ]
  refine AnyG.take0 (i := 6) (v := ?_) rfl (by kernel_rfl) (by kernel_rfl) (by kernel_rfl) (fun _ _ _ h => h) (by decide) (Or.inl ⟨by rfl, ?_⟩) (by assumption) ?_
  rotate_left
  · intro w9 hSw; clear hSw; go_simp <;> with_reducible rfl
  try simp only [Act.put, List.getElem_toArray, List.getElem_cons_zero, List.getElem_cons_succ, List.setIfInBounds_toArray, List.set_cons_zero, List.set_cons_succ]
  refine AnyG.step (i := 7) (by kernel_rfl) rfl (fun K hK => ?_)
  go_simp
  refine hK.out _ _ (fun h => absurd h (by decide)) (fun _ => ?_)
  clear hK
  try simp only [Act.put, List.getElem_toArray, List.getElem_cons_zero, List.getElem_cons_succ, List.setIfInBounds_toArray, List.set_cons_zero, List.set_cons_succ]
  refine AnyG.done (by kernel_rfl) ?_ _
  clear KK K0 KD K_w6 K_w7
  replace r_m := Lib.hid (r_m.out.keep B_w7.out)
  replace BB := Lib.hid (below_next BB.out B_w7.out)
  clear B_w6 B_w7
  have e_st : ((w7.setCell ⟨g_m, 0, none⟩ (.int .i64 0)).setCell ⟨g_m, 1, none⟩ (.int .u64 98304)) = setFrom w7 (g_m) 0 [.int .i64 0, .int .u64 98304] := by simp only [setFrom, Nat.reduceAdd]
  rw [e_st]
  clear e_st
  replace r_m := Lib.hid (AtB.setAll r_m.out [.int .i64 0, .int .u64 98304] rfl)
  replace BB := Lib.hid (below_setAll (b := g_m) (by have dd := d_m.out; omega) [.int .i64 0, .int .u64 98304] 0 BB.out)
  generalize setFrom w7 (g_m) 0 [.int .i64 0, .int .u64 98304] = w8 at *
  obtain ⟨c_m0, c_m1, f_m0, f_m1⟩ := reads2 r_m.out
  have l_m := r_m.out.lt
  go_wp2_with fail
  refine (CF.out _).mono ?_
  rintro e w10 ⟨rfl, hb⟩
  clear c_m0 c_m1 f_m0 f_m1 l_m
  replace r_m := Lib.hid (r_m.out.keep hb)
  replace BB := Lib.hid (below_next BB.out hb)
  clear hb
  go_wp2_with fail
  refine (CS.out _).mono ?_
  rintro e w11 ⟨rfl, hb⟩
  replace r_m := Lib.hid (r_m.out.keep hb)
  replace BB := Lib.hid (below_next BB.out hb)
  clear hb
  go_wp2_with fail
  refine bodyPost_ret (v := .tuple #[.int .i64 98304, .bool true]) (by unfold results; simp only [Tryd.results22]; go_simp) rfl ?_
  exact ⟨rfl, BB.out⟩
set_option maxRecDepth 100000 in
set_option maxHeartbeats 2000000 in
theorem read_b (w : World) : Calls Tryd.prog 22 #[.string ⟨#[49, 46, 53, 48]⟩] w fun e w' => e = .returned (.tuple #[.int .i64 0, .bool false]) ∧ Below w.heap.size w w' := by
  have CP := Lib.hid (fun w => cut_b_r w)
  have CC := Lib.hid (fun w => cut_b w)
  have CN := Lib.hid (fun w => num_1 w)
  have CQ := Lib.hid (fun w => par_50 w)
  have CM := Lib.hid (fun w => give_low (z := 65536) (by omega) (by omega) (wmul 1 65536 (by unfold I64; omega) (by unfold I64; omega) w))
  have CO := Lib.hid (fun w => give_low (z := 32768) (by omega) (by omega) (wof 32768 (by unfold I64; omega) w))
  have CA := Lib.hid (fun w => add_low (z := 98304) (by omega) (by omega) (wadd 65536 32768 0 65536 0 32768 (by unfold W128 I64 U64; omega) (by unfold W128 I64 U64; omega) w))
  have CF := Lib.hid (fun w => wfits 98304 0 98304 (by unfold W128 I64 U64; omega) w)
  rw [show fitX 98304 = 98304 by decide +kernel, show fitsB 98304 63 = true by decide +kernel] at CF
  have CS := Lib.hid (fun w => show_q w)
  go_enter Tryd.func22, Tryd.ntmps22
  go_wp2_with fail
  have BB : Hid (Below w.heap.size w w) := Below.refl _ _
  refine (CP.out _).mono ?_
  rintro e w9 ⟨rfl, rfl⟩
  go_wp2_with fail
  refine (CC.out _).mono ?_
  rintro e w1 ⟨rfl, hb⟩
  replace BB := Lib.hid (below_next BB.out hb)
  clear hb
  go_wp2_with fail
  refine (CN.out _).mono ?_
  rintro e w2 ⟨rfl, hb⟩
  replace BB := Lib.hid (below_next BB.out hb)
  clear hb
  go_wp2_with fail
  refine (CM.out _).mono ?_
  rintro e w3 ⟨rfl, hb⟩
  replace BB := Lib.hid (below_next BB.out hb)
  clear hb
  go_wp2_with fail
  have d_m := Lib.hid (And.intro BB.out.size (True.intro))
  obtain ⟨hb, r_m⟩ := laid w3 #[.int .i64 0, .int .u64 65536] WTX
  replace BB := Lib.hid (below_next BB.out hb)
  replace r_m := Lib.hid r_m
  clear hb
  generalize w3.alloc (.cells #[.int .i64 0, .int .u64 65536] WTX) = w4 at *
  generalize w3.heap.size = g_m at *
  refine (CQ.out _).mono ?_
  rintro e w5 ⟨rfl, hb⟩
  replace r_m := Lib.hid (r_m.out.keep hb)
  replace BB := Lib.hid (below_next BB.out hb)
  clear hb
  obtain ⟨c_m0, c_m1, f_m0, f_m1⟩ := reads2 r_m.out
  have l_m := r_m.out.lt
  go_wp2_with fail
  clear c_m0 c_m1 f_m0 f_m1 l_m
  have KK := Lib.hid (fun (w9 : World) (h : Below w5.heap.size w5 w9) => (cells2 (r_m.out.keep h) : (w9.cell? ⟨g_m, 0, none⟩ = some (.int .i64 0) ∧ w9.cell? ⟨g_m, 1, none⟩ = some (.int .u64 65536))))
  have K0 := KK.out w5 (Below.refl _ _)
  have KD := KK.out w5.drew (below_drew (Below.refl _ _))
  refine AnyG.begin_ (fun w9 => (w9.cell? ⟨g_m, 0, none⟩ = some (.int .i64 0) ∧ w9.cell? ⟨g_m, 1, none⟩ = some (.int .u64 65536))) 7 (by kernel_rfl) ?_
  refine AnyG.take (i := 0) (v := ?_) rfl (by kernel_rfl) (by kernel_rfl) (by kernel_rfl) (fun _ _ _ h => h) (by kernel_rfl) (by kernel_rfl) (Or.inl ⟨by rfl, ?_⟩) (by assumption) ?_
  rotate_left
  · intro w9 hSw; (try dsimp only at hSw); go_simp <;> with_reducible rfl
  try simp only [Act.put, List.getElem_toArray, List.getElem_cons_zero, List.getElem_cons_succ, List.setIfInBounds_toArray, List.set_cons_zero, List.set_cons_succ]
  refine AnyG.take (i := 1) (v := ?_) rfl (by kernel_rfl) (by kernel_rfl) (by kernel_rfl) (fun _ _ _ h => h) (by kernel_rfl) (by kernel_rfl) (Or.inl ⟨by rfl, ?_⟩) (by assumption) ?_
  rotate_left
  · intro w9 hSw; (try dsimp only at hSw); go_simp <;> with_reducible rfl
  try simp only [Act.put, List.getElem_toArray, List.getElem_cons_zero, List.getElem_cons_succ, List.setIfInBounds_toArray, List.set_cons_zero, List.set_cons_succ]
  refine AnyG.step (i := 2) (by kernel_rfl) rfl (fun K hK => ?_)
  go_simp
  go_at_call 27
  refine (CO.out _).mono ?_
  rintro e w6 ⟨rfl, hb⟩
  have B_w6 := Lib.hid (reg_next (w0 := w5) (by repeat (first | with_reducible exact Below.refl _ _ | with_reducible apply below_drew | with_reducible apply below_new)) hb)
  have K_w6 := KK.out _ B_w6.out
  clear hb
  refine hK.out _ _ (fun _ => K_w6) (fun hHeld => ?_)
  replace hHeld := hHeld (by decide)
  clear hK
  try simp only [Act.put, List.getElem_toArray, List.getElem_cons_zero, List.getElem_cons_succ, List.setIfInBounds_toArray, List.set_cons_zero, List.set_cons_succ]
  refine AnyG.step (i := 3) (by kernel_rfl) rfl (fun K hK => ?_)
  go_simp
  go_at_call 26
  refine (CA.out _).mono ?_
  rintro e w7 ⟨rfl, hb⟩
  have B_w7 := Lib.hid (below_next B_w6.out hb)
  have K_w7 := KK.out _ B_w7.out
  obtain ⟨rc_m0, rc_m1, rf_m0, rf_m1⟩ := reads2 (r_m.out.keep B_w7.out)
  have rl_m := (r_m.out.keep B_w7.out).lt
  clear hb
  refine hK.out _ _ (fun _ => K_w7) (fun hHeld => ?_)
  replace hHeld := hHeld (by decide)
  clear hK
  try simp only [Act.put, List.getElem_toArray, List.getElem_cons_zero, List.getElem_cons_succ, List.setIfInBounds_toArray, List.set_cons_zero, List.set_cons_succ]
  refine AnyG.take (i := 4) (v := ?_) rfl (by kernel_rfl) (by kernel_rfl) (by kernel_rfl) (fun _ _ _ h => h) (by kernel_rfl) (by kernel_rfl) (Or.inl ⟨by rfl, ?_⟩) (by assumption) ?_
  rotate_left
  · intro w9 hSw; (try dsimp only at hSw); go_simp <;> with_reducible rfl
  try simp only [Act.put, List.getElem_toArray, List.getElem_cons_zero, List.getElem_cons_succ, List.setIfInBounds_toArray, List.set_cons_zero, List.set_cons_succ]
  refine AnyG.take (i := 5) (v := ?_) rfl (by kernel_rfl) (by kernel_rfl) (by kernel_rfl) (fun _ _ _ h => h) (by kernel_rfl) (by kernel_rfl) (Or.inl ⟨by rfl, ?_⟩) (by assumption) ?_
  rotate_left
  · intro w9 hSw; (try dsimp only at hSw); go_simp <;> with_reducible rfl
  try simp only [Act.put, List.getElem_toArray, List.getElem_cons_zero, List.getElem_cons_succ, List.setIfInBounds_toArray, List.set_cons_zero, List.set_cons_succ]
  refine AnyG.take0 (i := 6) (v := ?_) rfl (by kernel_rfl) (by kernel_rfl) (by kernel_rfl) (fun _ _ _ h => h) (by decide) (Or.inl ⟨by rfl, ?_⟩) (by assumption) ?_
  rotate_left
  · intro w9 hSw; clear hSw; go_simp <;> with_reducible rfl
  try simp only [Act.put, List.getElem_toArray, List.getElem_cons_zero, List.getElem_cons_succ, List.setIfInBounds_toArray, List.set_cons_zero, List.set_cons_succ]
  refine AnyG.step (i := 7) (by kernel_rfl) rfl (fun K hK => ?_)
  go_simp
  refine hK.out _ _ (fun h => absurd h (by decide)) (fun _ => ?_)
  clear hK
  try simp only [Act.put, List.getElem_toArray, List.getElem_cons_zero, List.getElem_cons_succ, List.setIfInBounds_toArray, List.set_cons_zero, List.set_cons_succ]
  refine AnyG.done (by kernel_rfl) ?_ _
  clear KK K0 KD K_w6 K_w7
  replace r_m := Lib.hid (r_m.out.keep B_w7.out)
  replace BB := Lib.hid (below_next BB.out B_w7.out)
  clear B_w6 B_w7
  have e_st : ((w7.setCell ⟨g_m, 0, none⟩ (.int .i64 0)).setCell ⟨g_m, 1, none⟩ (.int .u64 98304)) = setFrom w7 (g_m) 0 [.int .i64 0, .int .u64 98304] := by simp only [setFrom, Nat.reduceAdd]
  rw [e_st]
  clear e_st
  replace r_m := Lib.hid (AtB.setAll r_m.out [.int .i64 0, .int .u64 98304] rfl)
  replace BB := Lib.hid (below_setAll (b := g_m) (by have dd := d_m.out; omega) [.int .i64 0, .int .u64 98304] 0 BB.out)
  generalize setFrom w7 (g_m) 0 [.int .i64 0, .int .u64 98304] = w8 at *
  obtain ⟨c_m0, c_m1, f_m0, f_m1⟩ := reads2 r_m.out
  have l_m := r_m.out.lt
  go_wp2_with fail
  refine (CF.out _).mono ?_
  rintro e w10 ⟨rfl, hb⟩
  clear c_m0 c_m1 f_m0 f_m1 l_m
  replace r_m := Lib.hid (r_m.out.keep hb)
  replace BB := Lib.hid (below_next BB.out hb)
  clear hb
  go_wp2_with fail
  refine (CS.out _).mono ?_
  rintro e w11 ⟨rfl, hb⟩
  replace r_m := Lib.hid (r_m.out.keep hb)
  replace BB := Lib.hid (below_next BB.out hb)
  clear hb
  go_wp2_with fail
  refine bodyPost_ret (v := .tuple #[.int .i64 0, .bool false]) (by unfold results; simp only [Tryd.results22]; go_simp) rfl ?_
  exact ⟨rfl, BB.out⟩
end Go.Proofs.YthdbchghhpoadaaDoor
