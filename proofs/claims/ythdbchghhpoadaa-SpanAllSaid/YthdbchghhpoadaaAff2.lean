/- Contracts of the affine maps: sum. -/
import Derived.Test.YthdbchghhpoadaaAff1
import Derived.Test.YthdbchghhpoadaaRegG
import Derived.Test.YthdbchghhpoadaaJD
set_option linter.unusedVariables false
set_option linter.unusedSimpArgs false
namespace Go.Proofs.Ythdbchghhpoadaa
open Go.RowKit

abbrev WT : TypeId := 113

set_option maxRecDepth 100000 in
set_option maxHeartbeats 8000000 in
theorem afsum (k0 k1 k2 px py d : Int) (h0 : I64 k0) (h1 : I64 k1) (h2 : I64 k2) (hx : I64 px) (hy : I64 py) (hd : I64 d) (r1 : I128 (k0 * px + k1 * py)) (r2 : I128 (k0 * px + k1 * py + k2 * d)) (w : World) :
    Calls Try.prog 71 #[.agg #[.int .i64 k0, .int .i64 k1, .int .i64 k2], .int .i64 px, .int .i64 py, .int .i64 d] w (GiveW (k0 * px + k1 * py + k2 * d) w) := by
  have M1 := Lib.hid (fun w => wmul k0 px h0 hx w)
  have M2 := Lib.hid (fun w => wmul k1 py h1 hy w)
  have M3 := Lib.hid (fun w => wmul k2 d h2 hd w)
  have A1 := Lib.hid (fun ah al bh bl hx hy w => wadd (k0 * px) (k1 * py) ah al bh bl hx hy w)
  have A2 := Lib.hid (fun ah al bh bl hx hy w => wadd (k0 * px + k1 * py) (k2 * d) ah al bh bl hx hy w)
  have r1 := Lib.hid r1; have r2 := Lib.hid r2
  clear h0 h1 h2 hx hy hd
  generalize k0 * px + k1 * py + k2 * d = Z at *
  generalize k0 * px + k1 * py = Y at *
  generalize k0 * px = p0 at *
  generalize k1 * py = p1 at *
  generalize k2 * d = p2 at *
  go_enter Try.func71, Try.ntmps71
  go_wp2_with fail
  have BB := start2 w #[.int .i64 k0, .int .i64 k1, .int .i64 k2] LN #[.int .i64 0, .int .u64 0] WT
  obtain ⟨BB, hsz, r_k, r_res⟩ := BB
  generalize ((w.alloc (.cells #[.int .i64 k0, .int .i64 k1, .int .i64 k2] LN)).alloc (.cells #[.int .i64 0, .int .u64 0] WT)) = w0 at *
  replace BB := Lib.hid BB
  replace r_k := Lib.hid r_k
  replace r_res := Lib.hid r_res
  clear hsz
  refine (M1.out _).mono ?_
  rintro e w1 ⟨hi0, lo0, rfl, hb, hw0⟩
  replace r_k := Lib.hid (r_k.out.keep hb)
  replace r_res := Lib.hid (r_res.out.keep hb)
  replace BB := Lib.hid (below_next BB.out hb)
  clear hb
  replace hw0 := Lib.hid hw0
  go_wp2_with fail
  have d_s := Lib.hid (And.intro BB.out.size (And.intro r_k.out.lt (And.intro r_res.out.lt (True.intro))))
  obtain ⟨hb, r_s⟩ := laid w1 #[.int .i64 hi0, .int .u64 lo0] WT
  replace r_k := Lib.hid (r_k.out.keep hb)
  replace r_res := Lib.hid (r_res.out.keep hb)
  replace BB := Lib.hid (below_next BB.out hb)
  replace r_s := Lib.hid r_s
  clear hb
  generalize w1.alloc (.cells #[.int .i64 hi0, .int .u64 lo0] WT) = w2 at *
  generalize w1.heap.size = g_s at *
  go_wp2_with fail
  have KK := Lib.hid (fun (w9 : World) (h : Below w2.heap.size w2 w9) => (⟨cells3 (r_k.out.keep h), cells2 (r_s.out.keep h)⟩ : (w9.cell? ⟨w.heap.size, 0, none⟩ = some (.int .i64 k0) ∧ w9.cell? ⟨w.heap.size, 1, none⟩ = some (.int .i64 k1) ∧ w9.cell? ⟨w.heap.size, 2, none⟩ = some (.int .i64 k2)) ∧ (w9.cell? ⟨g_s, 0, none⟩ = some (.int .i64 hi0) ∧ w9.cell? ⟨g_s, 1, none⟩ = some (.int .u64 lo0))))
  have K0 := KK.out w2 (Below.refl _ _)
  have KD := KK.out w2.drew (below_drew (Below.refl _ _))
  refine AnyG.begin_ (fun w9 => (w9.cell? ⟨w.heap.size, 0, none⟩ = some (.int .i64 k0) ∧ w9.cell? ⟨w.heap.size, 1, none⟩ = some (.int .i64 k1) ∧ w9.cell? ⟨w.heap.size, 2, none⟩ = some (.int .i64 k2)) ∧ (w9.cell? ⟨g_s, 0, none⟩ = some (.int .i64 hi0) ∧ w9.cell? ⟨g_s, 1, none⟩ = some (.int .u64 lo0))) 9 (by kernel_rfl) ?_
  refine AnyG.take (i := 0) (v := ?_) rfl (by kernel_rfl) (by kernel_rfl) (by kernel_rfl) (fun _ _ _ h => h) (by kernel_rfl) (by kernel_rfl) (Or.inl ⟨by rfl, ?_⟩) (by assumption) ?_
  rotate_left
  · intro w9 hSw; (try dsimp only at hSw); go_simp <;> with_reducible rfl
  try simp only [Act.put, List.getElem_toArray, List.getElem_cons_zero, List.getElem_cons_succ, List.setIfInBounds_toArray, List.set_cons_zero, List.set_cons_succ]
  refine AnyG.take (i := 1) (v := ?_) rfl (by kernel_rfl) (by kernel_rfl) (by kernel_rfl) (fun _ _ _ h => h) (by kernel_rfl) (by kernel_rfl) (Or.inl ⟨by rfl, ?_⟩) (by assumption) ?_
  rotate_left
  · intro w9 hSw; (try dsimp only at hSw); go_simp <;> with_reducible rfl
  try simp only [Act.put, List.getElem_toArray, List.getElem_cons_zero, List.getElem_cons_succ, List.setIfInBounds_toArray, List.set_cons_zero, List.set_cons_succ]
  refine AnyG.take (i := 2) (v := ?_) rfl (by kernel_rfl) (by kernel_rfl) (by kernel_rfl) (fun _ _ _ h => h) (by kernel_rfl) (by kernel_rfl) (Or.inl ⟨by rfl, ?_⟩) (by assumption) ?_
  rotate_left
  · intro w9 hSw; (try dsimp only at hSw); go_simp <;> with_reducible rfl
  try simp only [Act.put, List.getElem_toArray, List.getElem_cons_zero, List.getElem_cons_succ, List.setIfInBounds_toArray, List.set_cons_zero, List.set_cons_succ]
  refine AnyG.take (i := 3) (v := ?_) rfl (by kernel_rfl) (by kernel_rfl) (by kernel_rfl) (fun _ _ _ h => h) (by kernel_rfl) (by kernel_rfl) (Or.inl ⟨by rfl, ?_⟩) (by assumption) ?_
  rotate_left
  · intro w9 hSw; (try dsimp only at hSw); go_simp <;> with_reducible rfl
  try simp only [Act.put, List.getElem_toArray, List.getElem_cons_zero, List.getElem_cons_succ, List.setIfInBounds_toArray, List.set_cons_zero, List.set_cons_succ]
  refine AnyG.step (i := 4) (by kernel_rfl) rfl (fun K hK => ?_)
  go_simp
  go_at_call 82
  refine (M2.out _).mono ?_
  rintro e w3 ⟨hi1, lo1, rfl, hb, hw1⟩
  have B_w3 := Lib.hid (reg_next (w0 := w2) (by repeat (first | with_reducible exact Below.refl _ _ | with_reducible apply below_drew | with_reducible apply below_new)) hb)
  have K_w3 := KK.out _ B_w3.out
  clear hb
  refine hK.out _ _ (fun _ => K_w3) (fun hHeld => ?_)
  replace hHeld := hHeld (by decide)
  clear hK
  try simp only [Act.put, List.getElem_toArray, List.getElem_cons_zero, List.getElem_cons_succ, List.setIfInBounds_toArray, List.set_cons_zero, List.set_cons_succ]
  refine AnyG.step (i := 5) (by kernel_rfl) rfl (fun K hK => ?_)
  go_simp
  go_at_call 81
  refine (A1.out _ _ _ _ hw0.out hw1 _).mono ?_
  rintro e w4 ⟨hi2, lo2, ok2, rfl, hb, hw2⟩
  have B_w4 := Lib.hid (below_next B_w3.out hb)
  have K_w4 := KK.out _ B_w4.out
  obtain ⟨rc_s0, rc_s1, rf_s0, rf_s1⟩ := reads2 (r_s.out.keep B_w4.out)
  have rl_s := (r_s.out.keep B_w4.out).lt
  clear hb
  refine hK.out _ _ (fun _ => K_w4) (fun hHeld => ?_)
  replace hHeld := hHeld (by decide)
  clear hK
  try simp only [Act.put, List.getElem_toArray, List.getElem_cons_zero, List.getElem_cons_succ, List.setIfInBounds_toArray, List.set_cons_zero, List.set_cons_succ]
  refine AnyG.take (i := 6) (v := ?_) rfl (by kernel_rfl) (by kernel_rfl) (by kernel_rfl) (fun _ _ _ h => h) (by kernel_rfl) (by kernel_rfl) (Or.inl ⟨by rfl, ?_⟩) (by assumption) ?_
  rotate_left
  · intro w9 hSw; (try dsimp only at hSw); go_simp <;> with_reducible rfl
  try simp only [Act.put, List.getElem_toArray, List.getElem_cons_zero, List.getElem_cons_succ, List.setIfInBounds_toArray, List.set_cons_zero, List.set_cons_succ]
  refine AnyG.take (i := 7) (v := ?_) rfl (by kernel_rfl) (by kernel_rfl) (by kernel_rfl) (fun _ _ _ h => h) (by kernel_rfl) (by kernel_rfl) (Or.inl ⟨by rfl, ?_⟩) (by assumption) ?_
  rotate_left
  · intro w9 hSw; (try dsimp only at hSw); go_simp <;> with_reducible rfl
  try simp only [Act.put, List.getElem_toArray, List.getElem_cons_zero, List.getElem_cons_succ, List.setIfInBounds_toArray, List.set_cons_zero, List.set_cons_succ]
  refine AnyG.take0 (i := 8) (v := ?_) rfl (by kernel_rfl) (by kernel_rfl) (by kernel_rfl) (fun _ _ _ h => h) (by decide) (Or.inl ⟨by rfl, ?_⟩) (by assumption) ?_
  rotate_left
  · intro w9 hSw; clear hSw; go_simp <;> with_reducible rfl
  try simp only [Act.put, List.getElem_toArray, List.getElem_cons_zero, List.getElem_cons_succ, List.setIfInBounds_toArray, List.set_cons_zero, List.set_cons_succ]
  refine AnyG.step (i := 9) (by kernel_rfl) rfl (fun K hK => ?_)
  go_simp
  refine hK.out _ _ (fun h => absurd h (by decide)) (fun _ => ?_)
  clear hK
  try simp only [Act.put, List.getElem_toArray, List.getElem_cons_zero, List.getElem_cons_succ, List.setIfInBounds_toArray, List.set_cons_zero, List.set_cons_succ]
  refine AnyG.done (by kernel_rfl) ?_ _
  clear KK K0 KD K_w3 K_w4
  replace r_k := Lib.hid (r_k.out.keep B_w4.out)
  replace r_res := Lib.hid (r_res.out.keep B_w4.out)
  replace r_s := Lib.hid (r_s.out.keep B_w4.out)
  replace BB := Lib.hid (below_next BB.out B_w4.out)
  clear B_w3 B_w4
  replace hw2 := Lib.hid (hw2.of_room r1.out)
  replace r_k := Lib.hid (r_k.out.far2 (p := g_s) (by have dd_s := d_s.out; omega) (.int .i64 hi2) (.int .u64 lo2))
  replace r_res := Lib.hid (r_res.out.far2 (p := g_s) (by have dd_s := d_s.out; omega) (.int .i64 hi2) (.int .u64 lo2))
  replace r_s := Lib.hid (r_s.out.set2 (.int .i64 hi2) (.int .u64 lo2))
  replace BB := Lib.hid (below_far2 BB.out (p := g_s) (by have dd := d_s.out; omega) (.int .i64 hi2) (.int .u64 lo2))
  generalize ((w4.setCell ⟨g_s, 0, none⟩ (.int .i64 hi2)).setCell ⟨g_s, 1, none⟩ (.int .u64 lo2)) = w5 at *
  go_wp2_with fail
  have KK := Lib.hid (fun (w9 : World) (h : Below w5.heap.size w5 w9) => (⟨cells3 (r_k.out.keep h), cells2 (r_s.out.keep h)⟩ : (w9.cell? ⟨w.heap.size, 0, none⟩ = some (.int .i64 k0) ∧ w9.cell? ⟨w.heap.size, 1, none⟩ = some (.int .i64 k1) ∧ w9.cell? ⟨w.heap.size, 2, none⟩ = some (.int .i64 k2)) ∧ (w9.cell? ⟨g_s, 0, none⟩ = some (.int .i64 hi2) ∧ w9.cell? ⟨g_s, 1, none⟩ = some (.int .u64 lo2))))
  have K0 := KK.out w5 (Below.refl _ _)
  have KD := KK.out w5.drew (below_drew (Below.refl _ _))
  refine AnyG.begin_ (fun w9 => (w9.cell? ⟨w.heap.size, 0, none⟩ = some (.int .i64 k0) ∧ w9.cell? ⟨w.heap.size, 1, none⟩ = some (.int .i64 k1) ∧ w9.cell? ⟨w.heap.size, 2, none⟩ = some (.int .i64 k2)) ∧ (w9.cell? ⟨g_s, 0, none⟩ = some (.int .i64 hi2) ∧ w9.cell? ⟨g_s, 1, none⟩ = some (.int .u64 lo2))) 9 (by kernel_rfl) ?_
  refine AnyG.take (i := 0) (v := ?_) rfl (by kernel_rfl) (by kernel_rfl) (by kernel_rfl) (fun _ _ _ h => h) (by kernel_rfl) (by kernel_rfl) (Or.inl ⟨by rfl, ?_⟩) (by assumption) ?_
  rotate_left
  · intro w9 hSw; (try dsimp only at hSw); go_simp <;> with_reducible rfl
  try simp only [Act.put, List.getElem_toArray, List.getElem_cons_zero, List.getElem_cons_succ, List.setIfInBounds_toArray, List.set_cons_zero, List.set_cons_succ]
  refine AnyG.take (i := 1) (v := ?_) rfl (by kernel_rfl) (by kernel_rfl) (by kernel_rfl) (fun _ _ _ h => h) (by kernel_rfl) (by kernel_rfl) (Or.inl ⟨by rfl, ?_⟩) (by assumption) ?_
  rotate_left
  · intro w9 hSw; (try dsimp only at hSw); go_simp <;> with_reducible rfl
  try simp only [Act.put, List.getElem_toArray, List.getElem_cons_zero, List.getElem_cons_succ, List.setIfInBounds_toArray, List.set_cons_zero, List.set_cons_succ]
  refine AnyG.take (i := 2) (v := ?_) rfl (by kernel_rfl) (by kernel_rfl) (by kernel_rfl) (fun _ _ _ h => h) (by kernel_rfl) (by kernel_rfl) (Or.inl ⟨by rfl, ?_⟩) (by assumption) ?_
  rotate_left
  · intro w9 hSw; (try dsimp only at hSw); go_simp <;> with_reducible rfl
  try simp only [Act.put, List.getElem_toArray, List.getElem_cons_zero, List.getElem_cons_succ, List.setIfInBounds_toArray, List.set_cons_zero, List.set_cons_succ]
  refine AnyG.take (i := 3) (v := ?_) rfl (by kernel_rfl) (by kernel_rfl) (by kernel_rfl) (fun _ _ _ h => h) (by kernel_rfl) (by kernel_rfl) (Or.inl ⟨by rfl, ?_⟩) (by assumption) ?_
  rotate_left
  · intro w9 hSw; (try dsimp only at hSw); go_simp <;> with_reducible rfl
  try simp only [Act.put, List.getElem_toArray, List.getElem_cons_zero, List.getElem_cons_succ, List.setIfInBounds_toArray, List.set_cons_zero, List.set_cons_succ]
  refine AnyG.step (i := 4) (by kernel_rfl) rfl (fun K hK => ?_)
  go_simp
  go_at_call 82
  refine (M3.out _).mono ?_
  rintro e w6 ⟨hi3, lo3, rfl, hb, hw3⟩
  have B_w6 := Lib.hid (reg_next (w0 := w5) (by repeat (first | with_reducible exact Below.refl _ _ | with_reducible apply below_drew | with_reducible apply below_new)) hb)
  have K_w6 := KK.out _ B_w6.out
  clear hb
  refine hK.out _ _ (fun _ => K_w6) (fun hHeld => ?_)
  replace hHeld := hHeld (by decide)
  clear hK
  try simp only [Act.put, List.getElem_toArray, List.getElem_cons_zero, List.getElem_cons_succ, List.setIfInBounds_toArray, List.set_cons_zero, List.set_cons_succ]
  refine AnyG.step (i := 5) (by kernel_rfl) rfl (fun K hK => ?_)
  go_simp
  go_at_call 81
  refine (A2.out _ _ _ _ hw2.out hw3 _).mono ?_
  rintro e w7 ⟨hi4, lo4, ok4, rfl, hb, hw4⟩
  have B_w7 := Lib.hid (below_next B_w6.out hb)
  have K_w7 := KK.out _ B_w7.out
  obtain ⟨rc_s0, rc_s1, rf_s0, rf_s1⟩ := reads2 (r_s.out.keep B_w7.out)
  have rl_s := (r_s.out.keep B_w7.out).lt
  clear hb
  refine hK.out _ _ (fun _ => K_w7) (fun hHeld => ?_)
  replace hHeld := hHeld (by decide)
  clear hK
  try simp only [Act.put, List.getElem_toArray, List.getElem_cons_zero, List.getElem_cons_succ, List.setIfInBounds_toArray, List.set_cons_zero, List.set_cons_succ]
  refine AnyG.take (i := 6) (v := ?_) rfl (by kernel_rfl) (by kernel_rfl) (by kernel_rfl) (fun _ _ _ h => h) (by kernel_rfl) (by kernel_rfl) (Or.inl ⟨by rfl, ?_⟩) (by assumption) ?_
  rotate_left
  · intro w9 hSw; (try dsimp only at hSw); go_simp <;> with_reducible rfl
  try simp only [Act.put, List.getElem_toArray, List.getElem_cons_zero, List.getElem_cons_succ, List.setIfInBounds_toArray, List.set_cons_zero, List.set_cons_succ]
  refine AnyG.take (i := 7) (v := ?_) rfl (by kernel_rfl) (by kernel_rfl) (by kernel_rfl) (fun _ _ _ h => h) (by kernel_rfl) (by kernel_rfl) (Or.inl ⟨by rfl, ?_⟩) (by assumption) ?_
  rotate_left
  · intro w9 hSw; (try dsimp only at hSw); go_simp <;> with_reducible rfl
  try simp only [Act.put, List.getElem_toArray, List.getElem_cons_zero, List.getElem_cons_succ, List.setIfInBounds_toArray, List.set_cons_zero, List.set_cons_succ]
  refine AnyG.take0 (i := 8) (v := ?_) rfl (by kernel_rfl) (by kernel_rfl) (by kernel_rfl) (fun _ _ _ h => h) (by decide) (Or.inl ⟨by rfl, ?_⟩) (by assumption) ?_
  rotate_left
  · intro w9 hSw; clear hSw; go_simp <;> with_reducible rfl
  try simp only [Act.put, List.getElem_toArray, List.getElem_cons_zero, List.getElem_cons_succ, List.setIfInBounds_toArray, List.set_cons_zero, List.set_cons_succ]
  refine AnyG.step (i := 9) (by kernel_rfl) rfl (fun K hK => ?_)
  go_simp
  refine hK.out _ _ (fun h => absurd h (by decide)) (fun _ => ?_)
  clear hK
  try simp only [Act.put, List.getElem_toArray, List.getElem_cons_zero, List.getElem_cons_succ, List.setIfInBounds_toArray, List.set_cons_zero, List.set_cons_succ]
  refine AnyG.done (by kernel_rfl) ?_ _
  clear KK K0 KD K_w6 K_w7
  replace r_k := Lib.hid (r_k.out.keep B_w7.out)
  replace r_res := Lib.hid (r_res.out.keep B_w7.out)
  replace r_s := Lib.hid (r_s.out.keep B_w7.out)
  replace BB := Lib.hid (below_next BB.out B_w7.out)
  clear B_w6 B_w7
  replace hw4 := Lib.hid (hw4.of_room r2.out)
  replace r_k := Lib.hid (r_k.out.far2 (p := g_s) (by have dd_s := d_s.out; omega) (.int .i64 hi4) (.int .u64 lo4))
  replace r_res := Lib.hid (r_res.out.far2 (p := g_s) (by have dd_s := d_s.out; omega) (.int .i64 hi4) (.int .u64 lo4))
  replace r_s := Lib.hid (r_s.out.set2 (.int .i64 hi4) (.int .u64 lo4))
  replace BB := Lib.hid (below_far2 BB.out (p := g_s) (by have dd := d_s.out; omega) (.int .i64 hi4) (.int .u64 lo4))
  generalize ((w7.setCell ⟨g_s, 0, none⟩ (.int .i64 hi4)).setCell ⟨g_s, 1, none⟩ (.int .u64 lo4)) = w8 at *
  obtain ⟨c_s0, c_s1, f_s0, f_s1⟩ := reads2 r_s.out
  have l_s := r_s.out.lt
  obtain ⟨c_res0, c_res1, f_res0, f_res1⟩ := reads2 r_res.out
  have l_res := r_res.out.lt
  go_wp2_with fail
  refine bodyPost_ret (v := wv hi4 lo4) (by unfold results; simp only [Try.results71]; go_simp) rfl ?_
  exact ⟨_, _, rfl, below_far2 BB.out (by omega) _ _, hw4.out⟩

end Go.Proofs.Ythdbchghhpoadaa
