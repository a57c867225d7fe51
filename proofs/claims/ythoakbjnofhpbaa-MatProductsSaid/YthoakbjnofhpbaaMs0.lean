/- Contracts of mat: sum, row, column. -/
import Derived.Test.YthoakbjnofhpbaaMtA
import Derived.Laws.Cover3
set_option linter.unusedVariables false
set_option linter.unusedSimpArgs false
namespace Go.Proofs.Ythoakbjnofhpbaa
open Go.RowKit
abbrev A3T : TypeId := 79
set_option maxRecDepth 100000 in
set_option maxHeartbeats 8000000 in
theorem msum (a0 a1 a2 b0 b1 b2 : Int) (ha0 : I32s a0) (ha1 : I32s a1) (ha2 : I32s a2) (hb0 : I32s b0) (hb1 : I32s b1) (hb2 : I32s b2) (w : World) : Calls Try.prog 96 #[.agg #[.int .i64 a0, .int .i64 a1, .int .i64 a2], .agg #[.int .i64 b0, .int .i64 b1, .int .i64 b2]] w (GiveW (a0 * b0 + a1 * b1 + a2 * b2) w) := by
  have h0 := i32_mul ha0 hb0
  have h1 := i32_mul ha1 hb1
  have h2 := i32_mul ha2 hb2
  have M0 := Lib.hid (fun w => wmul a0 b0 (by unfold I32s at *; unfold I64; omega) (by unfold I32s at *; unfold I64; omega) w)
  have M1 := Lib.hid (fun w => wmul a1 b1 (by unfold I32s at *; unfold I64; omega) (by unfold I32s at *; unfold I64; omega) w)
  have M2 := Lib.hid (fun w => wmul a2 b2 (by unfold I32s at *; unfold I64; omega) (by unfold I32s at *; unfold I64; omega) w)
  generalize a0 * b0 = P0 at *
  generalize a1 * b1 = P1 at *
  generalize a2 * b2 = P2 at *
  have R := Lib.hid (show I128 (0 + P0) ∧ I128 (0 + P0 + P1) ∧ I128 (0 + P0 + P1 + P2) by unfold I128; refine ⟨?_, ?_, ?_⟩ <;> omega)
  have A0 := Lib.hid (fun w xh xl yh yl hx hy => wadd 0 P0 xh xl yh yl hx hy w)
  have A1 := Lib.hid (fun w xh xl yh yl hx hy => wadd (0 + P0) P1 xh xl yh yl hx hy w)
  have A2 := Lib.hid (fun w xh xl yh yl hx hy => wadd (0 + P0 + P1) P2 xh xl yh yl hx hy w)
  rw [show P0 + P1 + P2 = 0 + P0 + P1 + P2 by omega]
  clear h0 h1 h2 ha0 ha1 ha2 hb0 hb1 hb2
  go_enter Try.func96, Try.ntmps96
  go_upto_region 1 with fail
  have BB := start3 w #[.int .i64 a0, .int .i64 a1, .int .i64 a2] A3T #[.int .i64 b0, .int .i64 b1, .int .i64 b2] A3T #[.int .i64 0, .int .u64 0] WT5
  obtain ⟨BB, hsz, r_a, r_b, r_res⟩ := BB
  generalize (((w.alloc (.cells #[.int .i64 a0, .int .i64 a1, .int .i64 a2] A3T)).alloc (.cells #[.int .i64 b0, .int .i64 b1, .int .i64 b2] A3T)).alloc (.cells #[.int .i64 0, .int .u64 0] WT5)) = w0 at *
  replace BB := Lib.hid BB
  replace r_a := Lib.hid r_a
  replace r_b := Lib.hid r_b
  replace r_res := Lib.hid r_res
  clear hsz
  go_wp2_with fail
  have d_s := Lib.hid (And.intro BB.out.size (And.intro r_a.out.lt (And.intro r_b.out.lt (And.intro r_res.out.lt (True.intro)))))
  obtain ⟨hb, r_s⟩ := laid w0 #[.int .i64 0, .int .u64 0] WT5
  replace r_a := Lib.hid (r_a.out.keep hb)
  replace r_b := Lib.hid (r_b.out.keep hb)
  replace r_res := Lib.hid (r_res.out.keep hb)
  replace BB := Lib.hid (below_next BB.out hb)
  replace r_s := Lib.hid r_s
  clear hb
  generalize w0.alloc (.cells #[.int .i64 0, .int .u64 0] WT5) = w1 at *
  generalize w0.heap.size = g_s at *
  refine wp_loop_rounds 4 ?_
  rw [rounds_succ]
  go_wp2_with fail
  have KK := Lib.hid (fun (w9 : World) (h : Below w1.heap.size w1 w9) => (⟨cells3 (r_a.out.keep h), cells3 (r_b.out.keep h), cells2 (r_s.out.keep h)⟩ : (w9.cell? ⟨w.heap.size, 0, none⟩ = some (.int .i64 a0) ∧ w9.cell? ⟨w.heap.size, 1, none⟩ = some (.int .i64 a1) ∧ w9.cell? ⟨w.heap.size, 2, none⟩ = some (.int .i64 a2)) ∧ (w9.cell? ⟨w.heap.size + 1, 0, none⟩ = some (.int .i64 b0) ∧ w9.cell? ⟨w.heap.size + 1, 1, none⟩ = some (.int .i64 b1) ∧ w9.cell? ⟨w.heap.size + 1, 2, none⟩ = some (.int .i64 b2)) ∧ (w9.cell? ⟨g_s, 0, none⟩ = some (.int .i64 0) ∧ w9.cell? ⟨g_s, 1, none⟩ = some (.int .u64 0))))
  have K0 := KK.out w1 (Below.refl _ _)
  have KD := KK.out w1.drew (below_drew (Below.refl _ _))
  refine AnyG.begin_ (fun w9 => (w9.cell? ⟨w.heap.size, 0, none⟩ = some (.int .i64 a0) ∧ w9.cell? ⟨w.heap.size, 1, none⟩ = some (.int .i64 a1) ∧ w9.cell? ⟨w.heap.size, 2, none⟩ = some (.int .i64 a2)) ∧ (w9.cell? ⟨w.heap.size + 1, 0, none⟩ = some (.int .i64 b0) ∧ w9.cell? ⟨w.heap.size + 1, 1, none⟩ = some (.int .i64 b1) ∧ w9.cell? ⟨w.heap.size + 1, 2, none⟩ = some (.int .i64 b2)) ∧ (w9.cell? ⟨g_s, 0, none⟩ = some (.int .i64 0) ∧ w9.cell? ⟨g_s, 1, none⟩ = some (.int .u64 0))) 12 (by kernel_rfl) ?_
  refine AnyG.take (i := 0) (v := ?_) rfl (by kernel_rfl) (by kernel_rfl) (by kernel_rfl) (fun _ _ _ h => h) (by kernel_rfl) (by kernel_rfl) (Or.inl ⟨by rfl, ?_⟩) (by assumption) ?_
  rotate_left
  · intro w9 hSw; (try dsimp only at hSw); go_simp <;> with_reducible rfl
  try simp only [Act.put, List.getElem_toArray, List.getElem_cons_zero, List.getElem_cons_succ, List.setIfInBounds_toArray, List.set_cons_zero, List.set_cons_succ]
  refine AnyG.take (i := 1) (v := ?_) rfl (by kernel_rfl) (by kernel_rfl) (by kernel_rfl) (fun _ _ _ h => h) (by kernel_rfl) (by kernel_rfl) (Or.inl ⟨by rfl, ?_⟩) (by assumption) ?_
  rotate_left
  · intro w9 hSw; (try dsimp only at hSw); go_simp <;> with_reducible rfl
  try simp only [Act.put, List.getElem_toArray, List.getElem_cons_zero, List.getElem_cons_succ, List.setIfInBounds_toArray, List.set_cons_zero, List.set_cons_succ]
  refine AnyG.take (i := 2) (v := ?_) rfl (by kernel_rfl) (by kernel_rfl) (by kernel_rfl) (fun _ _ _ h => h) (by kernel_rfl) (by kernel_rfl) (Or.inl ⟨by rfl, ?_⟩) (by assumption) ?_
  rotate_left
  · intro w9 hSw; (try dsimp only at hSw); go_simp <;> with_reducible rfl
  try simp only [Act.put, List.getElem_toArray, List.getElem_cons_zero, List.getElem_cons_succ, List.setIfInBounds_toArray, List.set_cons_zero, List.set_cons_succ]
  refine AnyG.take (i := 3) (v := ?_) rfl (by kernel_rfl) (by kernel_rfl) (by kernel_rfl) (fun _ _ _ h => h) (by kernel_rfl) (by kernel_rfl) (Or.inl ⟨by rfl, ?_⟩) (by assumption) ?_
  rotate_left
  · intro w9 hSw; (try dsimp only at hSw); go_simp <;> with_reducible rfl
  try simp only [Act.put, List.getElem_toArray, List.getElem_cons_zero, List.getElem_cons_succ, List.setIfInBounds_toArray, List.set_cons_zero, List.set_cons_succ]
  refine AnyG.take (i := 4) (v := ?_) rfl (by kernel_rfl) (by kernel_rfl) (by kernel_rfl) (fun _ _ _ h => h) (by kernel_rfl) (by kernel_rfl) (Or.inl ⟨by rfl, ?_⟩) (by assumption) ?_
  rotate_left
  · intro w9 hSw; (try dsimp only at hSw); go_simp <;> with_reducible rfl
  try simp only [Act.put, List.getElem_toArray, List.getElem_cons_zero, List.getElem_cons_succ, List.setIfInBounds_toArray, List.set_cons_zero, List.set_cons_succ]
  refine AnyG.take (i := 5) (v := ?_) rfl (by kernel_rfl) (by kernel_rfl) (by kernel_rfl) (fun _ _ _ h => h) (by kernel_rfl) (by kernel_rfl) (Or.inl ⟨by rfl, ?_⟩) (by assumption) ?_
  rotate_left
  · intro w9 hSw; (try dsimp only at hSw); go_simp <;> with_reducible rfl
  try simp only [Act.put, List.getElem_toArray, List.getElem_cons_zero, List.getElem_cons_succ, List.setIfInBounds_toArray, List.set_cons_zero, List.set_cons_succ]
  refine AnyG.take (i := 6) (v := ?_) rfl (by kernel_rfl) (by kernel_rfl) (by kernel_rfl) (fun _ _ _ h => h) (by kernel_rfl) (by kernel_rfl) (Or.inl ⟨by rfl, ?_⟩) (by assumption) ?_
  rotate_left
  · intro w9 hSw; (try dsimp only at hSw); go_simp <;> with_reducible rfl
  try simp only [Act.put, List.getElem_toArray, List.getElem_cons_zero, List.getElem_cons_succ, List.setIfInBounds_toArray, List.set_cons_zero, List.set_cons_succ]
  refine AnyG.step (i := 7) (by kernel_rfl) rfl (fun K hK => ?_)
  go_simp
  go_at_call 117
  refine (M0.out _).mono ?_
  rintro e w2 ⟨ph0, pl0, rfl, hb, hp0⟩
  have B_w2 := Lib.hid (reg_next (w0 := w1) (by repeat (first | with_reducible exact Below.refl _ _ | with_reducible apply below_drew | with_reducible apply below_new)) hb)
  have K_w2 := KK.out _ B_w2.out
  clear hb
  refine hK.out _ _ (fun _ => K_w2) (fun hHeld => ?_)
  replace hHeld := hHeld (by decide)
  clear hK
  try simp only [Act.put, List.getElem_toArray, List.getElem_cons_zero, List.getElem_cons_succ, List.setIfInBounds_toArray, List.set_cons_zero, List.set_cons_succ]
  refine AnyG.step (i := 8) (by kernel_rfl) rfl (fun K hK => ?_)
  go_simp
  go_at_call 91
  refine (A0.out _ _ _ _ _ W128.zero hp0).mono ?_
  rintro e w3 ⟨sh0, sl0, ok0, rfl, hb, hs0⟩
  have B_w3 := Lib.hid (below_next B_w2.out hb)
  have K_w3 := KK.out _ B_w3.out
  obtain ⟨rc_s0, rc_s1, rf_s0, rf_s1⟩ := reads2 (r_s.out.keep B_w3.out)
  have rl_s := (r_s.out.keep B_w3.out).lt
  clear hb
  refine hK.out _ _ (fun _ => K_w3) (fun hHeld => ?_)
  replace hHeld := hHeld (by decide)
  clear hK
  try simp only [Act.put, List.getElem_toArray, List.getElem_cons_zero, List.getElem_cons_succ, List.setIfInBounds_toArray, List.set_cons_zero, List.set_cons_succ]
  refine AnyG.take (i := 9) (v := ?_) rfl (by kernel_rfl) (by kernel_rfl) (by kernel_rfl) (fun _ _ _ h => h) (by kernel_rfl) (by kernel_rfl) (Or.inl ⟨by rfl, ?_⟩) (by assumption) ?_
  rotate_left
  · intro w9 hSw; (try dsimp only at hSw); go_simp <;> with_reducible rfl
  try simp only [Act.put, List.getElem_toArray, List.getElem_cons_zero, List.getElem_cons_succ, List.setIfInBounds_toArray, List.set_cons_zero, List.set_cons_succ]
  refine AnyG.take (i := 10) (v := ?_) rfl (by kernel_rfl) (by kernel_rfl) (by kernel_rfl) (fun _ _ _ h => h) (by kernel_rfl) (by kernel_rfl) (Or.inl ⟨by rfl, ?_⟩) (by assumption) ?_
  rotate_left
  · intro w9 hSw; (try dsimp only at hSw); go_simp <;> with_reducible rfl
  try simp only [Act.put, List.getElem_toArray, List.getElem_cons_zero, List.getElem_cons_succ, List.setIfInBounds_toArray, List.set_cons_zero, List.set_cons_succ]
  refine AnyG.take0 (i := 11) (v := ?_) rfl (by kernel_rfl) (by kernel_rfl) (by kernel_rfl) (fun _ _ _ h => h) (by decide) (Or.inl ⟨by rfl, ?_⟩) (by assumption) ?_
  rotate_left
  · intro w9 hSw; clear hSw; go_simp <;> with_reducible rfl
  try simp only [Act.put, List.getElem_toArray, List.getElem_cons_zero, List.getElem_cons_succ, List.setIfInBounds_toArray, List.set_cons_zero, List.set_cons_succ]
  refine AnyG.step (i := 12) (by kernel_rfl) rfl (fun K hK => ?_)
  go_simp
  refine hK.out _ _ (fun h => absurd h (by decide)) (fun _ => ?_)
  clear hK
  try simp only [Act.put, List.getElem_toArray, List.getElem_cons_zero, List.getElem_cons_succ, List.setIfInBounds_toArray, List.set_cons_zero, List.set_cons_succ]
  refine AnyG.done (by kernel_rfl) ?_ _
  clear KK K0 KD K_w2 K_w3
  replace r_a := Lib.hid (r_a.out.keep B_w3.out)
  replace r_b := Lib.hid (r_b.out.keep B_w3.out)
  replace r_res := Lib.hid (r_res.out.keep B_w3.out)
  replace r_s := Lib.hid (r_s.out.keep B_w3.out)
  replace BB := Lib.hid (below_next BB.out B_w3.out)
  clear B_w2 B_w3
  replace hs0 := Lib.hid (hs0.of_room R.out.1)
  replace r_a := Lib.hid (r_a.out.far2 (p := g_s) (by have dd_s := d_s.out; omega) (.int .i64 sh0) (.int .u64 sl0))
  replace r_b := Lib.hid (r_b.out.far2 (p := g_s) (by have dd_s := d_s.out; omega) (.int .i64 sh0) (.int .u64 sl0))
  replace r_res := Lib.hid (r_res.out.far2 (p := g_s) (by have dd_s := d_s.out; omega) (.int .i64 sh0) (.int .u64 sl0))
  replace r_s := Lib.hid (r_s.out.set2 (.int .i64 sh0) (.int .u64 sl0))
  replace BB := Lib.hid (below_far2 BB.out (p := g_s) (by have dd := d_s.out; omega) (.int .i64 sh0) (.int .u64 sl0))
  generalize ((w3.setCell ⟨g_s, 0, none⟩ (.int .i64 sh0)).setCell ⟨g_s, 1, none⟩ (.int .u64 sl0)) = w4 at *
  go_wp2_with fail
  rw [rounds_succ]
  go_wp2_with fail
  have KK := Lib.hid (fun (w9 : World) (h : Below w4.heap.size w4 w9) => (⟨cells3 (r_a.out.keep h), cells3 (r_b.out.keep h), cells2 (r_s.out.keep h)⟩ : (w9.cell? ⟨w.heap.size, 0, none⟩ = some (.int .i64 a0) ∧ w9.cell? ⟨w.heap.size, 1, none⟩ = some (.int .i64 a1) ∧ w9.cell? ⟨w.heap.size, 2, none⟩ = some (.int .i64 a2)) ∧ (w9.cell? ⟨w.heap.size + 1, 0, none⟩ = some (.int .i64 b0) ∧ w9.cell? ⟨w.heap.size + 1, 1, none⟩ = some (.int .i64 b1) ∧ w9.cell? ⟨w.heap.size + 1, 2, none⟩ = some (.int .i64 b2)) ∧ (w9.cell? ⟨g_s, 0, none⟩ = some (.int .i64 sh0) ∧ w9.cell? ⟨g_s, 1, none⟩ = some (.int .u64 sl0))))
  have K0 := KK.out w4 (Below.refl _ _)
  have KD := KK.out w4.drew (below_drew (Below.refl _ _))
  refine AnyG.begin_ (fun w9 => (w9.cell? ⟨w.heap.size, 0, none⟩ = some (.int .i64 a0) ∧ w9.cell? ⟨w.heap.size, 1, none⟩ = some (.int .i64 a1) ∧ w9.cell? ⟨w.heap.size, 2, none⟩ = some (.int .i64 a2)) ∧ (w9.cell? ⟨w.heap.size + 1, 0, none⟩ = some (.int .i64 b0) ∧ w9.cell? ⟨w.heap.size + 1, 1, none⟩ = some (.int .i64 b1) ∧ w9.cell? ⟨w.heap.size + 1, 2, none⟩ = some (.int .i64 b2)) ∧ (w9.cell? ⟨g_s, 0, none⟩ = some (.int .i64 sh0) ∧ w9.cell? ⟨g_s, 1, none⟩ = some (.int .u64 sl0))) 12 (by kernel_rfl) ?_
  refine AnyG.take (i := 0) (v := ?_) rfl (by kernel_rfl) (by kernel_rfl) (by kernel_rfl) (fun _ _ _ h => h) (by kernel_rfl) (by kernel_rfl) (Or.inl ⟨by rfl, ?_⟩) (by assumption) ?_
  rotate_left
  · intro w9 hSw; (try dsimp only at hSw); go_simp <;> with_reducible rfl
  try simp only [Act.put, List.getElem_toArray, List.getElem_cons_zero, List.getElem_cons_succ, List.setIfInBounds_toArray, List.set_cons_zero, List.set_cons_succ]
  refine AnyG.take (i := 1) (v := ?_) rfl (by kernel_rfl) (by kernel_rfl) (by kernel_rfl) (fun _ _ _ h => h) (by kernel_rfl) (by kernel_rfl) (Or.inl ⟨by rfl, ?_⟩) (by assumption) ?_
  rotate_left
  · intro w9 hSw; (try dsimp only at hSw); go_simp <;> with_reducible rfl
  try simp only [Act.put, List.getElem_toArray, List.getElem_cons_zero, List.getElem_cons_succ, List.setIfInBounds_toArray, List.set_cons_zero, List.set_cons_succ]
  refine AnyG.take (i := 2) (v := ?_) rfl (by kernel_rfl) (by kernel_rfl) (by kernel_rfl) (fun _ _ _ h => h) (by kernel_rfl) (by kernel_rfl) (Or.inl ⟨by rfl, ?_⟩) (by assumption) ?_
  rotate_left
  · intro w9 hSw; (try dsimp only at hSw); go_simp <;> with_reducible rfl
  try simp only [Act.put, List.getElem_toArray, List.getElem_cons_zero, List.getElem_cons_succ, List.setIfInBounds_toArray, List.set_cons_zero, List.set_cons_succ]
  refine AnyG.take (i := 3) (v := ?_) rfl (by kernel_rfl) (by kernel_rfl) (by kernel_rfl) (fun _ _ _ h => h) (by kernel_rfl) (by kernel_rfl) (Or.inl ⟨by rfl, ?_⟩) (by assumption) ?_
  rotate_left
  · intro w9 hSw; (try dsimp only at hSw); go_simp <;> with_reducible rfl
  try simp only [Act.put, List.getElem_toArray, List.getElem_cons_zero, List.getElem_cons_succ, List.setIfInBounds_toArray, List.set_cons_zero, List.set_cons_succ]
  refine AnyG.take (i := 4) (v := ?_) rfl (by kernel_rfl) (by kernel_rfl) (by kernel_rfl) (fun _ _ _ h => h) (by kernel_rfl) (by kernel_rfl) (Or.inl ⟨by rfl, ?_⟩) (by assumption) ?_
  rotate_left
  · intro w9 hSw; (try dsimp only at hSw); go_simp <;> with_reducible rfl
  try simp only [Act.put, List.getElem_toArray, List.getElem_cons_zero, List.getElem_cons_succ, List.setIfInBounds_toArray, List.set_cons_zero, List.set_cons_succ]
  refine AnyG.take (i := 5) (v := ?_) rfl (by kernel_rfl) (by kernel_rfl) (by kernel_rfl) (fun _ _ _ h => h) (by kernel_rfl) (by kernel_rfl) (Or.inl ⟨by rfl, ?_⟩) (by assumption) ?_
  rotate_left
  · intro w9 hSw; (try dsimp only at hSw); go_simp <;> with_reducible rfl
  try simp only [Act.put, List.getElem_toArray, List.getElem_cons_zero, List.getElem_cons_succ, List.setIfInBounds_toArray, List.set_cons_zero, List.set_cons_succ]
  refine AnyG.take (i := 6) (v := ?_) rfl (by kernel_rfl) (by kernel_rfl) (by kernel_rfl) (fun _ _ _ h => h) (by kernel_rfl) (by kernel_rfl) (Or.inl ⟨by rfl, ?_⟩) (by assumption) ?_
  rotate_left
  · intro w9 hSw; (try dsimp only at hSw); go_simp <;> with_reducible rfl
  try simp only [Act.put, List.getElem_toArray, List.getElem_cons_zero, List.getElem_cons_succ, List.setIfInBounds_toArray, List.set_cons_zero, List.set_cons_succ]
  refine AnyG.step (i := 7) (by kernel_rfl) rfl (fun K hK => ?_)
  go_simp
  go_at_call 117
  refine (M1.out _).mono ?_
  rintro e w5 ⟨ph1, pl1, rfl, hb, hp1⟩
  have B_w5 := Lib.hid (reg_next (w0 := w4) (by repeat (first | with_reducible exact Below.refl _ _ | with_reducible apply below_drew | with_reducible apply below_new)) hb)
  have K_w5 := KK.out _ B_w5.out
  clear hb
  refine hK.out _ _ (fun _ => K_w5) (fun hHeld => ?_)
  replace hHeld := hHeld (by decide)
  clear hK
  try simp only [Act.put, List.getElem_toArray, List.getElem_cons_zero, List.getElem_cons_succ, List.setIfInBounds_toArray, List.set_cons_zero, List.set_cons_succ]
  refine AnyG.step (i := 8) (by kernel_rfl) rfl (fun K hK => ?_)
  go_simp
  go_at_call 91
  refine (A1.out _ _ _ _ _ hs0.out hp1).mono ?_
  rintro e w6 ⟨sh1, sl1, ok1, rfl, hb, hs1⟩
  have B_w6 := Lib.hid (below_next B_w5.out hb)
  have K_w6 := KK.out _ B_w6.out
  obtain ⟨rc_s0, rc_s1, rf_s0, rf_s1⟩ := reads2 (r_s.out.keep B_w6.out)
  have rl_s := (r_s.out.keep B_w6.out).lt
  clear hb
  refine hK.out _ _ (fun _ => K_w6) (fun hHeld => ?_)
  replace hHeld := hHeld (by decide)
  clear hK
  try simp only [Act.put, List.getElem_toArray, List.getElem_cons_zero, List.getElem_cons_succ, List.setIfInBounds_toArray, List.set_cons_zero, List.set_cons_succ]
  refine AnyG.take (i := 9) (v := ?_) rfl (by kernel_rfl) (by kernel_rfl) (by kernel_rfl) (fun _ _ _ h => h) (by kernel_rfl) (by kernel_rfl) (Or.inl ⟨by rfl, ?_⟩) (by assumption) ?_
  rotate_left
  · intro w9 hSw; (try dsimp only at hSw); go_simp <;> with_reducible rfl
  try simp only [Act.put, List.getElem_toArray, List.getElem_cons_zero, List.getElem_cons_succ, List.setIfInBounds_toArray, List.set_cons_zero, List.set_cons_succ]
  refine AnyG.take (i := 10) (v := ?_) rfl (by kernel_rfl) (by kernel_rfl) (by kernel_rfl) (fun _ _ _ h => h) (by kernel_rfl) (by kernel_rfl) (Or.inl ⟨by rfl, ?_⟩) (by assumption) ?_
  rotate_left
  · intro w9 hSw; (try dsimp only at hSw); go_simp <;> with_reducible rfl
  try simp only [Act.put, List.getElem_toArray, List.getElem_cons_zero, List.getElem_cons_succ, List.setIfInBounds_toArray, List.set_cons_zero, List.set_cons_succ]
  refine AnyG.take0 (i := 11) (v := ?_) rfl (by kernel_rfl) (by kernel_rfl) (by kernel_rfl) (fun _ _ _ h => h) (by decide) (Or.inl ⟨by rfl, ?_⟩) (by assumption) ?_
  rotate_left
  · intro w9 hSw; clear hSw; go_simp <;> with_reducible rfl
  try simp only [Act.put, List.getElem_toArray, List.getElem_cons_zero, List.getElem_cons_succ, List.setIfInBounds_toArray, List.set_cons_zero, List.set_cons_succ]
  refine AnyG.step (i := 12) (by kernel_rfl) rfl (fun K hK => ?_)
  go_simp
  refine hK.out _ _ (fun h => absurd h (by decide)) (fun _ => ?_)
  clear hK
  try simp only [Act.put, List.getElem_toArray, List.getElem_cons_zero, List.getElem_cons_succ, List.setIfInBounds_toArray, List.set_cons_zero, List.set_cons_succ]
  refine AnyG.done (by kernel_rfl) ?_ _
  clear KK K0 KD K_w5 K_w6
  replace r_a := Lib.hid (r_a.out.keep B_w6.out)
  replace r_b := Lib.hid (r_b.out.keep B_w6.out)
  replace r_res := Lib.hid (r_res.out.keep B_w6.out)
  replace r_s := Lib.hid (r_s.out.keep B_w6.out)
  replace BB := Lib.hid (below_next BB.out B_w6.out)
  clear B_w5 B_w6
  replace hs1 := Lib.hid (hs1.of_room R.out.2.1)
  replace r_a := Lib.hid (r_a.out.far2 (p := g_s) (by have dd_s := d_s.out; omega) (.int .i64 sh1) (.int .u64 sl1))
  replace r_b := Lib.hid (r_b.out.far2 (p := g_s) (by have dd_s := d_s.out; omega) (.int .i64 sh1) (.int .u64 sl1))
  replace r_res := Lib.hid (r_res.out.far2 (p := g_s) (by have dd_s := d_s.out; omega) (.int .i64 sh1) (.int .u64 sl1))
  replace r_s := Lib.hid (r_s.out.set2 (.int .i64 sh1) (.int .u64 sl1))
  replace BB := Lib.hid (below_far2 BB.out (p := g_s) (by have dd := d_s.out; omega) (.int .i64 sh1) (.int .u64 sl1))
  generalize ((w6.setCell ⟨g_s, 0, none⟩ (.int .i64 sh1)).setCell ⟨g_s, 1, none⟩ (.int .u64 sl1)) = w7 at *
  go_wp2_with fail
  rw [rounds_succ]
  go_wp2_with fail
  have KK := Lib.hid (fun (w9 : World) (h : Below w7.heap.size w7 w9) => (⟨cells3 (r_a.out.keep h), cells3 (r_b.out.keep h), cells2 (r_s.out.keep h)⟩ : (w9.cell? ⟨w.heap.size, 0, none⟩ = some (.int .i64 a0) ∧ w9.cell? ⟨w.heap.size, 1, none⟩ = some (.int .i64 a1) ∧ w9.cell? ⟨w.heap.size, 2, none⟩ = some (.int .i64 a2)) ∧ (w9.cell? ⟨w.heap.size + 1, 0, none⟩ = some (.int .i64 b0) ∧ w9.cell? ⟨w.heap.size + 1, 1, none⟩ = some (.int .i64 b1) ∧ w9.cell? ⟨w.heap.size + 1, 2, none⟩ = some (.int .i64 b2)) ∧ (w9.cell? ⟨g_s, 0, none⟩ = some (.int .i64 sh1) ∧ w9.cell? ⟨g_s, 1, none⟩ = some (.int .u64 sl1))))
  have K0 := KK.out w7 (Below.refl _ _)
  have KD := KK.out w7.drew (below_drew (Below.refl _ _))
  refine AnyG.begin_ (fun w9 => (w9.cell? ⟨w.heap.size, 0, none⟩ = some (.int .i64 a0) ∧ w9.cell? ⟨w.heap.size, 1, none⟩ = some (.int .i64 a1) ∧ w9.cell? ⟨w.heap.size, 2, none⟩ = some (.int .i64 a2)) ∧ (w9.cell? ⟨w.heap.size + 1, 0, none⟩ = some (.int .i64 b0) ∧ w9.cell? ⟨w.heap.size + 1, 1, none⟩ = some (.int .i64 b1) ∧ w9.cell? ⟨w.heap.size + 1, 2, none⟩ = some (.int .i64 b2)) ∧ (w9.cell? ⟨g_s, 0, none⟩ = some (.int .i64 sh1) ∧ w9.cell? ⟨g_s, 1, none⟩ = some (.int .u64 sl1))) 12 (by kernel_rfl) ?_
  refine AnyG.take (i := 0) (v := ?_) rfl (by kernel_rfl) (by kernel_rfl) (by kernel_rfl) (fun _ _ _ h => h) (by kernel_rfl) (by kernel_rfl) (Or.inl ⟨by rfl, ?_⟩) (by assumption) ?_
  rotate_left
  · intro w9 hSw; (try dsimp only at hSw); go_simp <;> with_reducible rfl
  try simp only [Act.put, List.getElem_toArray, List.getElem_cons_zero, List.getElem_cons_succ, List.setIfInBounds_toArray, List.set_cons_zero, List.set_cons_succ]
  refine AnyG.take (i := 1) (v := ?_) rfl (by kernel_rfl) (by kernel_rfl) (by kernel_rfl) (fun _ _ _ h => h) (by kernel_rfl) (by kernel_rfl) (Or.inl ⟨by rfl, ?_⟩) (by assumption) ?_
  rotate_left
  · intro w9 hSw; (try dsimp only at hSw); go_simp <;> with_reducible rfl
  try simp only [Act.put, List.getElem_toArray, List.getElem_cons_zero, List.getElem_cons_succ, List.setIfInBounds_toArray, List.set_cons_zero, List.set_cons_succ]
  refine AnyG.take (i := 2) (v := ?_) rfl (by kernel_rfl) (by kernel_rfl) (by kernel_rfl) (fun _ _ _ h => h) (by kernel_rfl) (by kernel_rfl) (Or.inl ⟨by rfl, ?_⟩) (by assumption) ?_
  rotate_left
  · intro w9 hSw; (try dsimp only at hSw); go_simp <;> with_reducible rfl
  try simp only [Act.put, List.getElem_toArray, List.getElem_cons_zero, List.getElem_cons_succ, List.setIfInBounds_toArray, List.set_cons_zero, List.set_cons_succ]
  refine AnyG.take (i := 3) (v := ?_) rfl (by kernel_rfl) (by kernel_rfl) (by kernel_rfl) (fun _ _ _ h => h) (by kernel_rfl) (by kernel_rfl) (Or.inl ⟨by rfl, ?_⟩) (by assumption) ?_
  rotate_left
  · intro w9 hSw; (try dsimp only at hSw); go_simp <;> with_reducible rfl
  try simp only [Act.put, List.getElem_toArray, List.getElem_cons_zero, List.getElem_cons_succ, List.setIfInBounds_toArray, List.set_cons_zero, List.set_cons_succ]
  refine AnyG.take (i := 4) (v := ?_) rfl (by kernel_rfl) (by kernel_rfl) (by kernel_rfl) (fun _ _ _ h => h) (by kernel_rfl) (by kernel_rfl) (Or.inl ⟨by rfl, ?_⟩) (by assumption) ?_
  rotate_left
  · intro w9 hSw; (try dsimp only at hSw); go_simp <;> with_reducible rfl
  try simp only [Act.put, List.getElem_toArray, List.getElem_cons_zero, List.getElem_cons_succ, List.setIfInBounds_toArray, List.set_cons_zero, List.set_cons_succ]
  refine AnyG.take (i := 5) (v := ?_) rfl (by kernel_rfl) (by kernel_rfl) (by kernel_rfl) (fun _ _ _ h => h) (by kernel_rfl) (by kernel_rfl) (Or.inl ⟨by rfl, ?_⟩) (by assumption) ?_
  rotate_left
  · intro w9 hSw; (try dsimp only at hSw); go_simp <;> with_reducible rfl
  try simp only [Act.put, List.getElem_toArray, List.getElem_cons_zero, List.getElem_cons_succ, List.setIfInBounds_toArray, List.set_cons_zero, List.set_cons_succ]
  refine AnyG.take (i := 6) (v := ?_) rfl (by kernel_rfl) (by kernel_rfl) (by kernel_rfl) (fun _ _ _ h => h) (by kernel_rfl) (by kernel_rfl) (Or.inl ⟨by rfl, ?_⟩) (by assumption) ?_
  rotate_left
  · intro w9 hSw; (try dsimp only at hSw); go_simp <;> with_reducible rfl
  try simp only [Act.put, List.getElem_toArray, List.getElem_cons_zero, List.getElem_cons_succ, List.setIfInBounds_toArray, List.set_cons_zero, List.set_cons_succ]
  refine AnyG.step (i := 7) (by kernel_rfl) rfl (fun K hK => ?_)
  go_simp
  go_at_call 117
  refine (M2.out _).mono ?_
  rintro e w8 ⟨ph2, pl2, rfl, hb, hp2⟩
  have B_w8 := Lib.hid (reg_next (w0 := w7) (by repeat (first | with_reducible exact Below.refl _ _ | with_reducible apply below_drew | with_reducible apply below_new)) hb)
  have K_w8 := KK.out _ B_w8.out
  clear hb
  refine hK.out _ _ (fun _ => K_w8) (fun hHeld => ?_)
  replace hHeld := hHeld (by decide)
  clear hK
  try simp only [Act.put, List.getElem_toArray, List.getElem_cons_zero, List.getElem_cons_succ, List.setIfInBounds_toArray, List.set_cons_zero, List.set_cons_succ]
  refine AnyG.step (i := 8) (by kernel_rfl) rfl (fun K hK => ?_)
  go_simp
  go_at_call 91
  refine (A2.out _ _ _ _ _ hs1.out hp2).mono ?_
  rintro e w10 ⟨sh2, sl2, ok2, rfl, hb, hs2⟩
  have B_w10 := Lib.hid (below_next B_w8.out hb)
  have K_w10 := KK.out _ B_w10.out
  obtain ⟨rc_s0, rc_s1, rf_s0, rf_s1⟩ := reads2 (r_s.out.keep B_w10.out)
  have rl_s := (r_s.out.keep B_w10.out).lt
  clear hb
  refine hK.out _ _ (fun _ => K_w10) (fun hHeld => ?_)
  replace hHeld := hHeld (by decide)
  clear hK
  try simp only [Act.put, List.getElem_toArray, List.getElem_cons_zero, List.getElem_cons_succ, List.setIfInBounds_toArray, List.set_cons_zero, List.set_cons_succ]
  refine AnyG.take (i := 9) (v := ?_) rfl (by kernel_rfl) (by kernel_rfl) (by kernel_rfl) (fun _ _ _ h => h) (by kernel_rfl) (by kernel_rfl) (Or.inl ⟨by rfl, ?_⟩) (by assumption) ?_
  rotate_left
  · intro w9 hSw; (try dsimp only at hSw); go_simp <;> with_reducible rfl
  try simp only [Act.put, List.getElem_toArray, List.getElem_cons_zero, List.getElem_cons_succ, List.setIfInBounds_toArray, List.set_cons_zero, List.set_cons_succ]
  refine AnyG.take (i := 10) (v := ?_) rfl (by kernel_rfl) (by kernel_rfl) (by kernel_rfl) (fun _ _ _ h => h) (by kernel_rfl) (by kernel_rfl) (Or.inl ⟨by rfl, ?_⟩) (by assumption) ?_
  rotate_left
  · intro w9 hSw; (try dsimp only at hSw); go_simp <;> with_reducible rfl
  try simp only [Act.put, List.getElem_toArray, List.getElem_cons_zero, List.getElem_cons_succ, List.setIfInBounds_toArray, List.set_cons_zero, List.set_cons_succ]
  refine AnyG.take0 (i := 11) (v := ?_) rfl (by kernel_rfl) (by kernel_rfl) (by kernel_rfl) (fun _ _ _ h => h) (by decide) (Or.inl ⟨by rfl, ?_⟩) (by assumption) ?_
  rotate_left
  · intro w9 hSw; clear hSw; go_simp <;> with_reducible rfl
  try simp only [Act.put, List.getElem_toArray, List.getElem_cons_zero, List.getElem_cons_succ, List.setIfInBounds_toArray, List.set_cons_zero, List.set_cons_succ]
  refine AnyG.step (i := 12) (by kernel_rfl) rfl (fun K hK => ?_)
  go_simp
  refine hK.out _ _ (fun h => absurd h (by decide)) (fun _ => ?_)
  clear hK
  try simp only [Act.put, List.getElem_toArray, List.getElem_cons_zero, List.getElem_cons_succ, List.setIfInBounds_toArray, List.set_cons_zero, List.set_cons_succ]
  refine AnyG.done (by kernel_rfl) ?_ _
  clear KK K0 KD K_w8 K_w10
  replace r_a := Lib.hid (r_a.out.keep B_w10.out)
  replace r_b := Lib.hid (r_b.out.keep B_w10.out)
  replace r_res := Lib.hid (r_res.out.keep B_w10.out)
  replace r_s := Lib.hid (r_s.out.keep B_w10.out)
  replace BB := Lib.hid (below_next BB.out B_w10.out)
  clear B_w8 B_w10
  replace hs2 := Lib.hid (hs2.of_room R.out.2.2)
  replace r_a := Lib.hid (r_a.out.far2 (p := g_s) (by have dd_s := d_s.out; omega) (.int .i64 sh2) (.int .u64 sl2))
  replace r_b := Lib.hid (r_b.out.far2 (p := g_s) (by have dd_s := d_s.out; omega) (.int .i64 sh2) (.int .u64 sl2))
  replace r_res := Lib.hid (r_res.out.far2 (p := g_s) (by have dd_s := d_s.out; omega) (.int .i64 sh2) (.int .u64 sl2))
  replace r_s := Lib.hid (r_s.out.set2 (.int .i64 sh2) (.int .u64 sl2))
  replace BB := Lib.hid (below_far2 BB.out (p := g_s) (by have dd := d_s.out; omega) (.int .i64 sh2) (.int .u64 sl2))
  generalize ((w10.setCell ⟨g_s, 0, none⟩ (.int .i64 sh2)).setCell ⟨g_s, 1, none⟩ (.int .u64 sl2)) = w11 at *
  go_wp2_with fail
  rw [rounds_succ]
  obtain ⟨c_s0, c_s1, f_s0, f_s1⟩ := reads2 r_s.out
  have l_s := r_s.out.lt
  obtain ⟨c_res0, c_res1, f_res0, f_res1⟩ := reads2 r_res.out
  have l_res := r_res.out.lt
  go_wp2_with fail
  refine bodyPost_ret (v := wv sh2 sl2) (by unfold results; simp only [Try.results96]; go_simp) rfl (give_w_res rfl (below_set2 BB.out (by omega) _ _) hs2.out)
set_option maxRecDepth 100000 in
set_option maxHeartbeats 8000000 in
theorem mrow0 (m0 m1 m2 m3 m4 m5 m6 m7 m8 : Int) (w : World) : Calls Try.prog 97 #[.agg #[.int .i64 m0, .int .i64 m1, .int .i64 m2, .int .i64 m3, .int .i64 m4, .int .i64 m5, .int .i64 m6, .int .i64 m7, .int .i64 m8], .int .i64 0] w fun e w' => e = .returned (.agg #[.int .i64 m0, .int .i64 m1, .int .i64 m2]) ∧ Below w.heap.size w w' := by
  have AA : ∀ (a : Option Addr) (cap : Nat) (w : World), (Instr.arrayAt 79 (.slice a 3 cap)).run Try.prog w = .ok (.pointer a) w := fun a cap w => run_arrayAt w 79 _ 3 a 3 cap Try.underlying79 (by omega)
  go_enter Try.func97, Try.ntmps97
  go_upto_region 1 with fail
  have BB := start2 w #[.int .i64 m0, .int .i64 m1, .int .i64 m2, .int .i64 m3, .int .i64 m4, .int .i64 m5, .int .i64 m6, .int .i64 m7, .int .i64 m8] M9T #[.int .i64 0, .int .i64 0, .int .i64 0] A3T
  obtain ⟨BB, hsz, r_m, r_res⟩ := BB
  generalize ((w.alloc (.cells #[.int .i64 m0, .int .i64 m1, .int .i64 m2, .int .i64 m3, .int .i64 m4, .int .i64 m5, .int .i64 m6, .int .i64 m7, .int .i64 m8] M9T)).alloc (.cells #[.int .i64 0, .int .i64 0, .int .i64 0] A3T)) = w0 at *
  replace BB := Lib.hid BB
  replace r_m := Lib.hid r_m
  replace r_res := Lib.hid r_res
  clear hsz
  obtain ⟨c_m0, c_m1, c_m2, c_m3, c_m4, c_m5, c_m6, c_m7, c_m8, f_m0, f_m1, f_m2, f_m3, f_m4, f_m5, f_m6, f_m7, f_m8⟩ := reads9 r_m.out
  have l_m := r_m.out.lt
  obtain ⟨c_res0, c_res1, c_res2, f_res0, f_res1, f_res2⟩ := reads3 r_res.out
  have l_res := r_res.out.lt
  go_wp2_with fail
  clear c_m0 c_m1 c_m2 c_m3 c_m4 c_m5 c_m6 c_m7 c_m8 f_m0 f_m1 f_m2 f_m3 f_m4 f_m5 f_m6 f_m7 f_m8 l_m c_res0 c_res1 c_res2 f_res0 f_res1 f_res2 l_res
  have e_st : (((w0.setCell ⟨w.heap.size + 1, 0, none⟩ (.int .i64 m0)).setCell ⟨w.heap.size + 1, 1, none⟩ (.int .i64 m1)).setCell ⟨w.heap.size + 1, 2, none⟩ (.int .i64 m2)) = setFrom w0 (w.heap.size + 1) 0 [.int .i64 m0, .int .i64 m1, .int .i64 m2] := by simp only [setFrom, Nat.reduceAdd]
  rw [e_st]
  clear e_st
  replace r_m := Lib.hid (AtB.farAll (p := w.heap.size + 1) (by omega) [.int .i64 m0, .int .i64 m1, .int .i64 m2] 0 r_m.out)
  replace r_res := Lib.hid (AtB.setAll r_res.out [.int .i64 m0, .int .i64 m1, .int .i64 m2] rfl)
  replace BB := Lib.hid (below_setAll (b := w.heap.size + 1) (by omega) [.int .i64 m0, .int .i64 m1, .int .i64 m2] 0 BB.out)
  generalize setFrom w0 (w.heap.size + 1) 0 [.int .i64 m0, .int .i64 m1, .int .i64 m2] = w1 at *
  obtain ⟨c_res0, c_res1, c_res2, f_res0, f_res1, f_res2⟩ := reads3 r_res.out
  have l_res := r_res.out.lt
  refine bodyPost_ret (v := .agg #[.int .i64 m0, .int .i64 m1, .int .i64 m2]) (by unfold results; simp only [Try.results97]; go_simp) rfl ⟨rfl, BB.out⟩
set_option maxRecDepth 100000 in
set_option maxHeartbeats 8000000 in
theorem mrow1 (m0 m1 m2 m3 m4 m5 m6 m7 m8 : Int) (w : World) : Calls Try.prog 97 #[.agg #[.int .i64 m0, .int .i64 m1, .int .i64 m2, .int .i64 m3, .int .i64 m4, .int .i64 m5, .int .i64 m6, .int .i64 m7, .int .i64 m8], .int .i64 1] w fun e w' => e = .returned (.agg #[.int .i64 m3, .int .i64 m4, .int .i64 m5]) ∧ Below w.heap.size w w' := by
  have AA : ∀ (a : Option Addr) (cap : Nat) (w : World), (Instr.arrayAt 79 (.slice a 3 cap)).run Try.prog w = .ok (.pointer a) w := fun a cap w => run_arrayAt w 79 _ 3 a 3 cap Try.underlying79 (by omega)
  go_enter Try.func97, Try.ntmps97
  go_upto_region 1 with fail
  have BB := start2 w #[.int .i64 m0, .int .i64 m1, .int .i64 m2, .int .i64 m3, .int .i64 m4, .int .i64 m5, .int .i64 m6, .int .i64 m7, .int .i64 m8] M9T #[.int .i64 0, .int .i64 0, .int .i64 0] A3T
  obtain ⟨BB, hsz, r_m, r_res⟩ := BB
  generalize ((w.alloc (.cells #[.int .i64 m0, .int .i64 m1, .int .i64 m2, .int .i64 m3, .int .i64 m4, .int .i64 m5, .int .i64 m6, .int .i64 m7, .int .i64 m8] M9T)).alloc (.cells #[.int .i64 0, .int .i64 0, .int .i64 0] A3T)) = w0 at *
  replace BB := Lib.hid BB
  replace r_m := Lib.hid r_m
  replace r_res := Lib.hid r_res
  clear hsz
  obtain ⟨c_m0, c_m1, c_m2, c_m3, c_m4, c_m5, c_m6, c_m7, c_m8, f_m0, f_m1, f_m2, f_m3, f_m4, f_m5, f_m6, f_m7, f_m8⟩ := reads9 r_m.out
  have l_m := r_m.out.lt
  obtain ⟨c_res0, c_res1, c_res2, f_res0, f_res1, f_res2⟩ := reads3 r_res.out
  have l_res := r_res.out.lt
  go_wp2_with fail
  clear c_m0 c_m1 c_m2 c_m3 c_m4 c_m5 c_m6 c_m7 c_m8 f_m0 f_m1 f_m2 f_m3 f_m4 f_m5 f_m6 f_m7 f_m8 l_m c_res0 c_res1 c_res2 f_res0 f_res1 f_res2 l_res
  have e_st : (((w0.setCell ⟨w.heap.size + 1, 0, none⟩ (.int .i64 m3)).setCell ⟨w.heap.size + 1, 1, none⟩ (.int .i64 m4)).setCell ⟨w.heap.size + 1, 2, none⟩ (.int .i64 m5)) = setFrom w0 (w.heap.size + 1) 0 [.int .i64 m3, .int .i64 m4, .int .i64 m5] := by simp only [setFrom, Nat.reduceAdd]
  rw [e_st]
  clear e_st
  replace r_m := Lib.hid (AtB.farAll (p := w.heap.size + 1) (by omega) [.int .i64 m3, .int .i64 m4, .int .i64 m5] 0 r_m.out)
  replace r_res := Lib.hid (AtB.setAll r_res.out [.int .i64 m3, .int .i64 m4, .int .i64 m5] rfl)
  replace BB := Lib.hid (below_setAll (b := w.heap.size + 1) (by omega) [.int .i64 m3, .int .i64 m4, .int .i64 m5] 0 BB.out)
  generalize setFrom w0 (w.heap.size + 1) 0 [.int .i64 m3, .int .i64 m4, .int .i64 m5] = w1 at *
  obtain ⟨c_res0, c_res1, c_res2, f_res0, f_res1, f_res2⟩ := reads3 r_res.out
  have l_res := r_res.out.lt
  refine bodyPost_ret (v := .agg #[.int .i64 m3, .int .i64 m4, .int .i64 m5]) (by unfold results; simp only [Try.results97]; go_simp) rfl ⟨rfl, BB.out⟩
set_option maxRecDepth 100000 in
set_option maxHeartbeats 8000000 in
theorem mrow2 (m0 m1 m2 m3 m4 m5 m6 m7 m8 : Int) (w : World) : Calls Try.prog 97 #[.agg #[.int .i64 m0, .int .i64 m1, .int .i64 m2, .int .i64 m3, .int .i64 m4, .int .i64 m5, .int .i64 m6, .int .i64 m7, .int .i64 m8], .int .i64 2] w fun e w' => e = .returned (.agg #[.int .i64 m6, .int .i64 m7, .int .i64 m8]) ∧ Below w.heap.size w w' := by
  have AA : ∀ (a : Option Addr) (cap : Nat) (w : World), (Instr.arrayAt 79 (.slice a 3 cap)).run Try.prog w = .ok (.pointer a) w := fun a cap w => run_arrayAt w 79 _ 3 a 3 cap Try.underlying79 (by omega)
  go_enter Try.func97, Try.ntmps97
  go_upto_region 1 with fail
  have BB := start2 w #[.int .i64 m0, .int .i64 m1, .int .i64 m2, .int .i64 m3, .int .i64 m4, .int .i64 m5, .int .i64 m6, .int .i64 m7, .int .i64 m8] M9T #[.int .i64 0, .int .i64 0, .int .i64 0] A3T
  obtain ⟨BB, hsz, r_m, r_res⟩ := BB
  generalize ((w.alloc (.cells #[.int .i64 m0, .int .i64 m1, .int .i64 m2, .int .i64 m3, .int .i64 m4, .int .i64 m5, .int .i64 m6, .int .i64 m7, .int .i64 m8] M9T)).alloc (.cells #[.int .i64 0, .int .i64 0, .int .i64 0] A3T)) = w0 at *
  replace BB := Lib.hid BB
  replace r_m := Lib.hid r_m
  replace r_res := Lib.hid r_res
  clear hsz
  obtain ⟨c_m0, c_m1, c_m2, c_m3, c_m4, c_m5, c_m6, c_m7, c_m8, f_m0, f_m1, f_m2, f_m3, f_m4, f_m5, f_m6, f_m7, f_m8⟩ := reads9 r_m.out
  have l_m := r_m.out.lt
  obtain ⟨c_res0, c_res1, c_res2, f_res0, f_res1, f_res2⟩ := reads3 r_res.out
  have l_res := r_res.out.lt
  go_wp2_with fail
  clear c_m0 c_m1 c_m2 c_m3 c_m4 c_m5 c_m6 c_m7 c_m8 f_m0 f_m1 f_m2 f_m3 f_m4 f_m5 f_m6 f_m7 f_m8 l_m c_res0 c_res1 c_res2 f_res0 f_res1 f_res2 l_res
  have e_st : (((w0.setCell ⟨w.heap.size + 1, 0, none⟩ (.int .i64 m6)).setCell ⟨w.heap.size + 1, 1, none⟩ (.int .i64 m7)).setCell ⟨w.heap.size + 1, 2, none⟩ (.int .i64 m8)) = setFrom w0 (w.heap.size + 1) 0 [.int .i64 m6, .int .i64 m7, .int .i64 m8] := by simp only [setFrom, Nat.reduceAdd]
  rw [e_st]
  clear e_st
  replace r_m := Lib.hid (AtB.farAll (p := w.heap.size + 1) (by omega) [.int .i64 m6, .int .i64 m7, .int .i64 m8] 0 r_m.out)
  replace r_res := Lib.hid (AtB.setAll r_res.out [.int .i64 m6, .int .i64 m7, .int .i64 m8] rfl)
  replace BB := Lib.hid (below_setAll (b := w.heap.size + 1) (by omega) [.int .i64 m6, .int .i64 m7, .int .i64 m8] 0 BB.out)
  generalize setFrom w0 (w.heap.size + 1) 0 [.int .i64 m6, .int .i64 m7, .int .i64 m8] = w1 at *
  obtain ⟨c_res0, c_res1, c_res2, f_res0, f_res1, f_res2⟩ := reads3 r_res.out
  have l_res := r_res.out.lt
  refine bodyPost_ret (v := .agg #[.int .i64 m6, .int .i64 m7, .int .i64 m8]) (by unfold results; simp only [Try.results97]; go_simp) rfl ⟨rfl, BB.out⟩
set_option maxRecDepth 100000 in
set_option maxHeartbeats 8000000 in
theorem mcol0 (m0 m1 m2 m3 m4 m5 m6 m7 m8 : Int) (w : World) : Calls Try.prog 98 #[.agg #[.int .i64 m0, .int .i64 m1, .int .i64 m2, .int .i64 m3, .int .i64 m4, .int .i64 m5, .int .i64 m6, .int .i64 m7, .int .i64 m8], .int .i64 0] w fun e w' => e = .returned (.agg #[.int .i64 m0, .int .i64 m3, .int .i64 m6]) ∧ Below w.heap.size w w' := by
  have CT := Lib.hid (fun w => mturn m0 m1 m2 m3 m4 m5 m6 m7 m8 w)
  have CR := Lib.hid (fun w => mrow0 m0 m3 m6 m1 m4 m7 m2 m5 m8 w)
  go_enter Try.func98, Try.ntmps98
  go_upto_region 1 with fail
  have BB := start2 w #[.int .i64 m0, .int .i64 m1, .int .i64 m2, .int .i64 m3, .int .i64 m4, .int .i64 m5, .int .i64 m6, .int .i64 m7, .int .i64 m8] M9T #[.int .i64 0, .int .i64 0, .int .i64 0] A3T
  obtain ⟨BB, hsz, r_m, r_res⟩ := BB
  generalize ((w.alloc (.cells #[.int .i64 m0, .int .i64 m1, .int .i64 m2, .int .i64 m3, .int .i64 m4, .int .i64 m5, .int .i64 m6, .int .i64 m7, .int .i64 m8] M9T)).alloc (.cells #[.int .i64 0, .int .i64 0, .int .i64 0] A3T)) = w0 at *
  replace BB := Lib.hid BB
  replace r_m := Lib.hid r_m
  replace r_res := Lib.hid r_res
  clear hsz
  obtain ⟨c_m0, c_m1, c_m2, c_m3, c_m4, c_m5, c_m6, c_m7, c_m8, f_m0, f_m1, f_m2, f_m3, f_m4, f_m5, f_m6, f_m7, f_m8⟩ := reads9 r_m.out
  have l_m := r_m.out.lt
  go_wp2_with fail
  refine (CT.out _).mono ?_
  rintro e w1 ⟨rfl, hb⟩
  clear c_m0 c_m1 c_m2 c_m3 c_m4 c_m5 c_m6 c_m7 c_m8 f_m0 f_m1 f_m2 f_m3 f_m4 f_m5 f_m6 f_m7 f_m8 l_m
  replace r_m := Lib.hid (r_m.out.keep hb)
  replace r_res := Lib.hid (r_res.out.keep hb)
  replace BB := Lib.hid (below_next BB.out hb)
  clear hb
  go_wp2_with fail
  refine (CR.out _).mono ?_
  rintro e w2 ⟨rfl, hb⟩
  replace r_m := Lib.hid (r_m.out.keep hb)
  replace r_res := Lib.hid (r_res.out.keep hb)
  replace BB := Lib.hid (below_next BB.out hb)
  clear hb
  obtain ⟨c_res0, c_res1, c_res2, f_res0, f_res1, f_res2⟩ := reads3 r_res.out
  have l_res := r_res.out.lt
  go_wp2_with fail
  clear c_res0 c_res1 c_res2 f_res0 f_res1 f_res2 l_res
  have e_st : (((w2.setCell ⟨w.heap.size + 1, 0, none⟩ (.int .i64 m0)).setCell ⟨w.heap.size + 1, 1, none⟩ (.int .i64 m3)).setCell ⟨w.heap.size + 1, 2, none⟩ (.int .i64 m6)) = setFrom w2 (w.heap.size + 1) 0 [.int .i64 m0, .int .i64 m3, .int .i64 m6] := by simp only [setFrom, Nat.reduceAdd]
  rw [e_st]
  clear e_st
  replace r_m := Lib.hid (AtB.farAll (p := w.heap.size + 1) (by omega) [.int .i64 m0, .int .i64 m3, .int .i64 m6] 0 r_m.out)
  replace r_res := Lib.hid (AtB.setAll r_res.out [.int .i64 m0, .int .i64 m3, .int .i64 m6] rfl)
  replace BB := Lib.hid (below_setAll (b := w.heap.size + 1) (by omega) [.int .i64 m0, .int .i64 m3, .int .i64 m6] 0 BB.out)
  generalize setFrom w2 (w.heap.size + 1) 0 [.int .i64 m0, .int .i64 m3, .int .i64 m6] = w3 at *
  obtain ⟨c_res0, c_res1, c_res2, f_res0, f_res1, f_res2⟩ := reads3 r_res.out
  have l_res := r_res.out.lt
  refine bodyPost_ret (v := .agg #[.int .i64 m0, .int .i64 m3, .int .i64 m6]) (by unfold results; simp only [Try.results98]; go_simp) rfl ⟨rfl, BB.out⟩
set_option maxRecDepth 100000 in
set_option maxHeartbeats 8000000 in
theorem mcol1 (m0 m1 m2 m3 m4 m5 m6 m7 m8 : Int) (w : World) : Calls Try.prog 98 #[.agg #[.int .i64 m0, .int .i64 m1, .int .i64 m2, .int .i64 m3, .int .i64 m4, .int .i64 m5, .int .i64 m6, .int .i64 m7, .int .i64 m8], .int .i64 1] w fun e w' => e = .returned (.agg #[.int .i64 m1, .int .i64 m4, .int .i64 m7]) ∧ Below w.heap.size w w' := by
  have CT := Lib.hid (fun w => mturn m0 m1 m2 m3 m4 m5 m6 m7 m8 w)
  have CR := Lib.hid (fun w => mrow1 m0 m3 m6 m1 m4 m7 m2 m5 m8 w)
  go_enter Try.func98, Try.ntmps98
  go_upto_region 1 with fail
  have BB := start2 w #[.int .i64 m0, .int .i64 m1, .int .i64 m2, .int .i64 m3, .int .i64 m4, .int .i64 m5, .int .i64 m6, .int .i64 m7, .int .i64 m8] M9T #[.int .i64 0, .int .i64 0, .int .i64 0] A3T
  obtain ⟨BB, hsz, r_m, r_res⟩ := BB
  generalize ((w.alloc (.cells #[.int .i64 m0, .int .i64 m1, .int .i64 m2, .int .i64 m3, .int .i64 m4, .int .i64 m5, .int .i64 m6, .int .i64 m7, .int .i64 m8] M9T)).alloc (.cells #[.int .i64 0, .int .i64 0, .int .i64 0] A3T)) = w0 at *
  replace BB := Lib.hid BB
  replace r_m := Lib.hid r_m
  replace r_res := Lib.hid r_res
  clear hsz
  obtain ⟨c_m0, c_m1, c_m2, c_m3, c_m4, c_m5, c_m6, c_m7, c_m8, f_m0, f_m1, f_m2, f_m3, f_m4, f_m5, f_m6, f_m7, f_m8⟩ := reads9 r_m.out
  have l_m := r_m.out.lt
  go_wp2_with fail
  refine (CT.out _).mono ?_
  rintro e w1 ⟨rfl, hb⟩
  clear c_m0 c_m1 c_m2 c_m3 c_m4 c_m5 c_m6 c_m7 c_m8 f_m0 f_m1 f_m2 f_m3 f_m4 f_m5 f_m6 f_m7 f_m8 l_m
  replace r_m := Lib.hid (r_m.out.keep hb)
  replace r_res := Lib.hid (r_res.out.keep hb)
  replace BB := Lib.hid (below_next BB.out hb)
  clear hb
  go_wp2_with fail
  refine (CR.out _).mono ?_
  rintro e w2 ⟨rfl, hb⟩
  replace r_m := Lib.hid (r_m.out.keep hb)
  replace r_res := Lib.hid (r_res.out.keep hb)
  replace BB := Lib.hid (below_next BB.out hb)
  clear hb
  obtain ⟨c_res0, c_res1, c_res2, f_res0, f_res1, f_res2⟩ := reads3 r_res.out
  have l_res := r_res.out.lt
  go_wp2_with fail
  clear c_res0 c_res1 c_res2 f_res0 f_res1 f_res2 l_res
  have e_st : (((w2.setCell ⟨w.heap.size + 1, 0, none⟩ (.int .i64 m1)).setCell ⟨w.heap.size + 1, 1, none⟩ (.int .i64 m4)).setCell ⟨w.heap.size + 1, 2, none⟩ (.int .i64 m7)) = setFrom w2 (w.heap.size + 1) 0 [.int .i64 m1, .int .i64 m4, .int .i64 m7] := by simp only [setFrom, Nat.reduceAdd]
  rw [e_st]
  clear e_st
  replace r_m := Lib.hid (AtB.farAll (p := w.heap.size + 1) (by omega) [.int .i64 m1, .int .i64 m4, .int .i64 m7] 0 r_m.out)
  replace r_res := Lib.hid (AtB.setAll r_res.out [.int .i64 m1, .int .i64 m4, .int .i64 m7] rfl)
  replace BB := Lib.hid (below_setAll (b := w.heap.size + 1) (by omega) [.int .i64 m1, .int .i64 m4, .int .i64 m7] 0 BB.out)
  generalize setFrom w2 (w.heap.size + 1) 0 [.int .i64 m1, .int .i64 m4, .int .i64 m7] = w3 at *
  obtain ⟨c_res0, c_res1, c_res2, f_res0, f_res1, f_res2⟩ := reads3 r_res.out
  have l_res := r_res.out.lt
  refine bodyPost_ret (v := .agg #[.int .i64 m1, .int .i64 m4, .int .i64 m7]) (by unfold results; simp only [Try.results98]; go_simp) rfl ⟨rfl, BB.out⟩
set_option maxRecDepth 100000 in
set_option maxHeartbeats 8000000 in
theorem mcol2 (m0 m1 m2 m3 m4 m5 m6 m7 m8 : Int) (w : World) : Calls Try.prog 98 #[.agg #[.int .i64 m0, .int .i64 m1, .int .i64 m2, .int .i64 m3, .int .i64 m4, .int .i64 m5, .int .i64 m6, .int .i64 m7, .int .i64 m8], .int .i64 2] w fun e w' => e = .returned (.agg #[.int .i64 m2, .int .i64 m5, .int .i64 m8]) ∧ Below w.heap.size w w' := by
  have CT := Lib.hid (fun w => mturn m0 m1 m2 m3 m4 m5 m6 m7 m8 w)
  have CR := Lib.hid (fun w => mrow2 m0 m3 m6 m1 m4 m7 m2 m5 m8 w)
  go_enter Try.func98, Try.ntmps98
  go_upto_region 1 with fail
  have BB := start2 w #[.int .i64 m0, .int .i64 m1, .int .i64 m2, .int .i64 m3, .int .i64 m4, .int .i64 m5, .int .i64 m6, .int .i64 m7, .int .i64 m8] M9T #[.int .i64 0, .int .i64 0, .int .i64 0] A3T
  obtain ⟨BB, hsz, r_m, r_res⟩ := BB
  generalize ((w.alloc (.cells #[.int .i64 m0, .int .i64 m1, .int .i64 m2, .int .i64 m3, .int .i64 m4, .int .i64 m5, .int .i64 m6, .int .i64 m7, .int .i64 m8] M9T)).alloc (.cells #[.int .i64 0, .int .i64 0, .int .i64 0] A3T)) = w0 at *
  replace BB := Lib.hid BB
  replace r_m := Lib.hid r_m
  replace r_res := Lib.hid r_res
  clear hsz
  obtain ⟨c_m0, c_m1, c_m2, c_m3, c_m4, c_m5, c_m6, c_m7, c_m8, f_m0, f_m1, f_m2, f_m3, f_m4, f_m5, f_m6, f_m7, f_m8⟩ := reads9 r_m.out
  have l_m := r_m.out.lt
  go_wp2_with fail
  refine (CT.out _).mono ?_
  rintro e w1 ⟨rfl, hb⟩
  clear c_m0 c_m1 c_m2 c_m3 c_m4 c_m5 c_m6 c_m7 c_m8 f_m0 f_m1 f_m2 f_m3 f_m4 f_m5 f_m6 f_m7 f_m8 l_m
  replace r_m := Lib.hid (r_m.out.keep hb)
  replace r_res := Lib.hid (r_res.out.keep hb)
  replace BB := Lib.hid (below_next BB.out hb)
  clear hb
  go_wp2_with fail
  refine (CR.out _).mono ?_
  rintro e w2 ⟨rfl, hb⟩
  replace r_m := Lib.hid (r_m.out.keep hb)
  replace r_res := Lib.hid (r_res.out.keep hb)
  replace BB := Lib.hid (below_next BB.out hb)
  clear hb
  obtain ⟨c_res0, c_res1, c_res2, f_res0, f_res1, f_res2⟩ := reads3 r_res.out
  have l_res := r_res.out.lt
  go_wp2_with fail
  clear c_res0 c_res1 c_res2 f_res0 f_res1 f_res2 l_res
  have e_st : (((w2.setCell ⟨w.heap.size + 1, 0, none⟩ (.int .i64 m2)).setCell ⟨w.heap.size + 1, 1, none⟩ (.int .i64 m5)).setCell ⟨w.heap.size + 1, 2, none⟩ (.int .i64 m8)) = setFrom w2 (w.heap.size + 1) 0 [.int .i64 m2, .int .i64 m5, .int .i64 m8] := by simp only [setFrom, Nat.reduceAdd]
  rw [e_st]
  clear e_st
  replace r_m := Lib.hid (AtB.farAll (p := w.heap.size + 1) (by omega) [.int .i64 m2, .int .i64 m5, .int .i64 m8] 0 r_m.out)
  replace r_res := Lib.hid (AtB.setAll r_res.out [.int .i64 m2, .int .i64 m5, .int .i64 m8] rfl)
  replace BB := Lib.hid (below_setAll (b := w.heap.size + 1) (by omega) [.int .i64 m2, .int .i64 m5, .int .i64 m8] 0 BB.out)
  generalize setFrom w2 (w.heap.size + 1) 0 [.int .i64 m2, .int .i64 m5, .int .i64 m8] = w3 at *
  obtain ⟨c_res0, c_res1, c_res2, f_res0, f_res1, f_res2⟩ := reads3 r_res.out
  have l_res := r_res.out.lt
  refine bodyPost_ret (v := .agg #[.int .i64 m2, .int .i64 m5, .int .i64 m8]) (by unfold results; simp only [Try.results98]; go_simp) rfl ⟨rfl, BB.out⟩
theorem mrow (m0 m1 m2 m3 m4 m5 m6 m7 m8 : Int) (i : Nat) (hi : i < 3) (w : World) : Calls Try.prog 97 #[.agg #[.int .i64 m0, .int .i64 m1, .int .i64 m2, .int .i64 m3, .int .i64 m4, .int .i64 m5, .int .i64 m6, .int .i64 m7, .int .i64 m8], .int .i64 (i : Int)] w fun e w' => e = .returned (.agg #[.int .i64 (mAt [m0, m1, m2, m3, m4, m5, m6, m7, m8] i 0), .int .i64 (mAt [m0, m1, m2, m3, m4, m5, m6, m7, m8] i 1), .int .i64 (mAt [m0, m1, m2, m3, m4, m5, m6, m7, m8] i 2)]) ∧ Below w.heap.size w w' := by
  match i, hi with
  | 0, _ => exact mrow0 m0 m1 m2 m3 m4 m5 m6 m7 m8 w
  | 1, _ => exact mrow1 m0 m1 m2 m3 m4 m5 m6 m7 m8 w
  | 2, _ => exact mrow2 m0 m1 m2 m3 m4 m5 m6 m7 m8 w
theorem mcol (m0 m1 m2 m3 m4 m5 m6 m7 m8 : Int) (i : Nat) (hi : i < 3) (w : World) : Calls Try.prog 98 #[.agg #[.int .i64 m0, .int .i64 m1, .int .i64 m2, .int .i64 m3, .int .i64 m4, .int .i64 m5, .int .i64 m6, .int .i64 m7, .int .i64 m8], .int .i64 (i : Int)] w fun e w' => e = .returned (.agg #[.int .i64 (mAt [m0, m1, m2, m3, m4, m5, m6, m7, m8] 0 i), .int .i64 (mAt [m0, m1, m2, m3, m4, m5, m6, m7, m8] 1 i), .int .i64 (mAt [m0, m1, m2, m3, m4, m5, m6, m7, m8] 2 i)]) ∧ Below w.heap.size w w' := by
  match i, hi with
  | 0, _ => exact mcol0 m0 m1 m2 m3 m4 m5 m6 m7 m8 w
  | 1, _ => exact mcol1 m0 m1 m2 m3 m4 m5 m6 m7 m8 w
  | 2, _ => exact mcol2 m0 m1 m2 m3 m4 m5 m6 m7 m8 w
end Go.Proofs.Ythoakbjnofhpbaa
