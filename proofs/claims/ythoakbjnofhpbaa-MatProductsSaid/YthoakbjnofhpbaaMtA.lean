/- Contract of mat.Adj. -/
import Derived.Test.YthoakbjnofhpbaaMtT
import Derived.Deep.MidRow
import Derived.Laws.CopyOwn
set_option linter.unusedVariables false
set_option linter.unusedSimpArgs false
namespace Go.Proofs.Ythoakbjnofhpbaa
open Go.RowKit
/-- Wide numbers side by side. -/
def pcells : List (Int × Int) → List Value
  | [] => []
  | p :: L => .int .i64 p.1 :: .int .u64 p.2 :: pcells L
theorem pcells_len : ∀ L : List (Int × Int), (pcells L).length = L.length * 2
  | [] => rfl
  | p :: L => by simp only [pcells, List.length_cons, pcells_len L]; omega
theorem pcells_app : ∀ (L : List (Int × Int)) (p : Int × Int), pcells (L ++ [p]) = pcells L ++ [.int .i64 p.1, .int .u64 p.2]
  | [], p => rfl
  | q :: L, p => by simp only [List.cons_append, pcells, pcells_app L p]
/-- The first ones laid, noughts behind them, nine in all. -/
def wideL (S : List (Int × Int)) : List Value := pcells S ++ pcells (List.replicate (9 - S.length) (0, 0))
theorem wideL_split {S : List (Int × Int)} (h : S.length < 9) : ∃ R, wideL S = pcells S ++ (.int .i64 0 :: .int .u64 0 :: R) ∧ ∀ p : Int × Int, wideL (S ++ [p]) = pcells S ++ (.int .i64 p.1 :: .int .u64 p.2 :: R) := by
  obtain ⟨m, hm⟩ : ∃ m, 9 - S.length = m + 1 := ⟨8 - S.length, by omega⟩
  refine ⟨pcells (List.replicate m (0, 0)), ?_, fun p => ?_⟩
  · unfold wideL; rw [hm, List.replicate_succ]; rfl
  · unfold wideL
    rw [List.length_append, List.length_singleton, show 9 - (S.length + 1) = m by omega, pcells_app, List.append_assoc]
    rfl
theorem set_mid {α : Type} (A : List α) (x y : α) (R : List α) (n : Nat) (h : A.length = n) (u : α) : (A ++ x :: R).set n u = A ++ u :: R := by
  subst h; simp
def WideR (w : World) (g : Nat) (S : List (Int × Int)) (F : Nat → Int) : Prop := AtB w g (wideL S).toArray W9T ∧ S.length ≤ 9 ∧ ∀ i, i < S.length → W128 (F i) (S.getD i (0, 0)).1 (S.getD i (0, 0)).2
theorem WideR.below {w w1 : World} {g : Nat} {S : List (Int × Int)} {F : Nat → Int} (h : WideR w g S F) (hb : Below w.heap.size w w1) : WideR w1 g S F := ⟨h.1.keep hb, h.2⟩
theorem WideR.cells {w : World} {g : Nat} {S : List (Int × Int)} {F : Nat → Int} (h : WideR w g S F) (hl : S.length < 9) : w.cell? ⟨g, S.length * 2, none⟩ = some (.int .i64 0) ∧ w.cell? ⟨g, S.length * 2 + 1, none⟩ = some (.int .u64 0) := by
  obtain ⟨R, e, -⟩ := wideL_split hl
  have h1 := h.1
  rw [e] at h1
  refine ⟨h1.cell _ ?_, h1.cell _ ?_⟩
  · rw [← pcells_len]; simp
  · rw [← pcells_len]; simp
theorem WideR.set {w : World} {g : Nat} {S : List (Int × Int)} {F : Nat → Int} (h : WideR w g S F) (hl : S.length < 9) {a b : Int} (hw : W128 (F S.length) a b) : WideR ((w.setCell ⟨g, S.length * 2, none⟩ (.int .i64 a)).setCell ⟨g, S.length * 2 + 1, none⟩ (.int .u64 b)) g (S ++ [(a, b)]) F := by
  obtain ⟨R, e, e2⟩ := wideL_split hl
  refine ⟨?_, by simp; omega, fun i hi => ?_⟩
  · have h1 := h.1
    rw [e] at h1
    have h2 := (h1.set_n (S.length * 2) (.int .i64 a)).set_n (S.length * 2 + 1) (.int .u64 b)
    rw [List.setIfInBounds_toArray, List.setIfInBounds_toArray] at h2
    rw [e2]
    have k1 : (pcells S ++ Value.int .i64 0 :: Value.int .u64 0 :: R).set (S.length * 2) (.int .i64 a) = pcells S ++ .int .i64 a :: .int .u64 0 :: R := by
      rw [← pcells_len]; simp
    have k2 : (pcells S ++ Value.int .i64 a :: Value.int .u64 0 :: R).set (S.length * 2 + 1) (.int .u64 b) = pcells S ++ .int .i64 a :: .int .u64 b :: R := by
      rw [← pcells_len, List.set_append_right _ _ (by omega)]
      simp
    rw [k1, k2] at h2
    exact h2
  · rw [List.length_append, List.length_singleton] at hi
    by_cases h1 : i < S.length
    · have e : (S ++ [(a, b)]).getD i (0, 0) = S.getD i (0, 0) := by simp [List.getD, List.getElem?_append_left h1]
      rw [e]; exact h.2.2 i h1
    · obtain rfl : i = S.length := by omega
      have e : (S ++ [(a, b)]).getD S.length (0, 0) = (a, b) := by simp [List.getD]
      rw [e]; exact hw
theorem list9 {S : List (Int × Int)} (h : S.length = 9) : ∃ h0 l0 h1 l1 h2 l2 h3 l3 h4 l4 h5 l5 h6 l6 h7 l7 h8 l8, S = [(h0, l0), (h1, l1), (h2, l2), (h3, l3), (h4, l4), (h5, l5), (h6, l6), (h7, l7), (h8, l8)] := by
  match S, h with
  | [(h0, l0), (h1, l1), (h2, l2), (h3, l3), (h4, l4), (h5, l5), (h6, l6), (h7, l7), (h8, l8)], _ => exact ⟨_, _, _, _, _, _, _, _, _, _, _, _, _, _, _, _, _, _, rfl⟩
theorem wpList_build0 {P : Program} {ops : Array Oper} {rest : List Oper} {o : Oper} {a : Act} {w : World} {Q : Exit → Act → World → Prop} (hg : o.guard = none) (t : TypeId) (ho : o.op = .build t #[]) (zs : Array Value) (hz : P.built t [] = some zs) (h : wpList P ops Q rest (a.put o.dst (.agg zs)) w) : wpList P ops Q (o :: rest) a w := by
  refine wpList_build hg t #[] ho (by simp [hz]) ?_
  simpa [hz] using h
theorem adj_built : Try.prog.built W9T [] = some #[.int .i64 0, .int .u64 0, .int .i64 0, .int .u64 0, .int .i64 0, .int .u64 0, .int .i64 0, .int .u64 0, .int .i64 0, .int .u64 0, .int .i64 0, .int .u64 0, .int .i64 0, .int .u64 0, .int .i64 0, .int .u64 0, .int .i64 0, .int .u64 0] := by kernel_rfl
def GiveWide9 (F : Nat → Int) (w : World) (e : Ending) (w' : World) : Prop := ∃ h0 l0 h1 l1 h2 l2 h3 l3 h4 l4 h5 l5 h6 l6 h7 l7 h8 l8, e = .returned (.tuple #[.agg #[.int .i64 h0, .int .u64 l0, .int .i64 h1, .int .u64 l1, .int .i64 h2, .int .u64 l2, .int .i64 h3, .int .u64 l3, .int .i64 h4, .int .u64 l4, .int .i64 h5, .int .u64 l5, .int .i64 h6, .int .u64 l6, .int .i64 h7, .int .u64 l7, .int .i64 h8, .int .u64 l8], .int .i64 0]) ∧ Below w.heap.size w w' ∧ W128 (F 0) h0 l0 ∧ W128 (F 1) h1 l1 ∧ W128 (F 2) h2 l2 ∧ W128 (F 3) h3 l3 ∧ W128 (F 4) h4 l4 ∧ W128 (F 5) h5 l5 ∧ W128 (F 6) h6 l6 ∧ W128 (F 7) h7 l7 ∧ W128 (F 8) h8 l8
set_option maxRecDepth 100000 in
set_option maxHeartbeats 8000000 in
theorem madj_no (m0 m1 m2 m3 m4 m5 m6 m7 m8 : Int) (hz : ∀ z ∈ [m0, m1, m2, m3, m4, m5, m6, m7, m8], I64 z) (hf : [m0, m1, m2, m3, m4, m5, m6, m7, m8].any farM = true) (w : World) : Calls Try.prog 31 #[.agg #[.int .i64 m0, .int .i64 m1, .int .i64 m2, .int .i64 m3, .int .i64 m4, .int .i64 m5, .int .i64 m6, .int .i64 m7, .int .i64 m8]] w fun e w' => e = .returned (.tuple #[.agg #[.int .i64 0, .int .u64 0, .int .i64 0, .int .u64 0, .int .i64 0, .int .u64 0, .int .i64 0, .int .u64 0, .int .i64 0, .int .u64 0, .int .i64 0, .int .u64 0, .int .i64 0, .int .u64 0, .int .i64 0, .int .u64 0, .int .i64 0, .int .u64 0], .int .i64 11]) ∧ Below w.heap.size w w' := by
  have CR := Lib.hid (fun w => mright m0 m1 m2 m3 m4 m5 m6 m7 m8 hz w)
  rw [hf] at CR
  clear hz hf
  go_enter Try.func31, Try.ntmps31
  go_wp2_with fail
  have BB := start2 w #[.int .i64 m0, .int .i64 m1, .int .i64 m2, .int .i64 m3, .int .i64 m4, .int .i64 m5, .int .i64 m6, .int .i64 m7, .int .i64 m8] M9T #[.int .i64 0, .int .u64 0, .int .i64 0, .int .u64 0, .int .i64 0, .int .u64 0, .int .i64 0, .int .u64 0, .int .i64 0, .int .u64 0, .int .i64 0, .int .u64 0, .int .i64 0, .int .u64 0, .int .i64 0, .int .u64 0, .int .i64 0, .int .u64 0] W9T
  obtain ⟨BB, hsz, r_m, r_res⟩ := BB
  generalize ((w.alloc (.cells #[.int .i64 m0, .int .i64 m1, .int .i64 m2, .int .i64 m3, .int .i64 m4, .int .i64 m5, .int .i64 m6, .int .i64 m7, .int .i64 m8] M9T)).alloc (.cells #[.int .i64 0, .int .u64 0, .int .i64 0, .int .u64 0, .int .i64 0, .int .u64 0, .int .i64 0, .int .u64 0, .int .i64 0, .int .u64 0, .int .i64 0, .int .u64 0, .int .i64 0, .int .u64 0, .int .i64 0, .int .u64 0, .int .i64 0, .int .u64 0] W9T)) = w0 at *
  replace BB := Lib.hid BB
  replace r_m := Lib.hid r_m
  replace r_res := Lib.hid r_res
  clear hsz
  obtain ⟨c_m0, c_m1, c_m2, c_m3, c_m4, c_m5, c_m6, c_m7, c_m8, f_m0, f_m1, f_m2, f_m3, f_m4, f_m5, f_m6, f_m7, f_m8⟩ := reads9 r_m.out
  have l_m := r_m.out.lt
  go_wp2_with fail
  refine (CR.out _).mono ?_
  rintro e w1 ⟨rfl, hb⟩
  clear c_m0 c_m1 c_m2 c_m3 c_m4 c_m5 c_m6 c_m7 c_m8 f_m0 f_m1 f_m2 f_m3 f_m4 f_m5 f_m6 f_m7 f_m8 l_m
  replace r_m := Lib.hid (r_m.out.keep hb)
  replace r_res := Lib.hid (r_res.out.keep hb)
  replace BB := Lib.hid (below_next BB.out hb)
  clear hb
  go_upto_region 2 with fail
  refine wp_region_lit ?_
  refine wpList_build0 rfl W9T rfl #[.int .i64 0, .int .u64 0, .int .i64 0, .int .u64 0, .int .i64 0, .int .u64 0, .int .i64 0, .int .u64 0, .int .i64 0, .int .u64 0, .int .i64 0, .int .u64 0, .int .i64 0, .int .u64 0, .int .i64 0, .int .u64 0, .int .i64 0, .int .u64 0] adj_built ?_
  refine wpList_store_row rfl W9T (.tmp 2) (.tmp 10) rfl (w.heap.size + 1) #[.int .i64 0, .int .u64 0, .int .i64 0, .int .u64 0, .int .i64 0, .int .u64 0, .int .i64 0, .int .u64 0, .int .i64 0, .int .u64 0, .int .i64 0, .int .u64 0, .int .i64 0, .int .u64 0, .int .i64 0, .int .u64 0, .int .i64 0, .int .u64 0] rfl rfl W9T _ r_res.out (by kernel_rfl) rfl (by kernel_rfl) ?_
  have R1 := setRow_heap w1 (w.heap.size + 1) _ #[.int .i64 0, .int .u64 0, .int .i64 0, .int .u64 0, .int .i64 0, .int .u64 0, .int .i64 0, .int .u64 0, .int .i64 0, .int .u64 0, .int .i64 0, .int .u64 0, .int .i64 0, .int .u64 0, .int .i64 0, .int .u64 0, .int .i64 0, .int .u64 0] W9T (0, 0) r_res.out
  have HB := Lib.hid (below_setRow BB.out (show w.heap.size ≤ w.heap.size + 1 by omega) #[.int .i64 0, .int .u64 0, .int .i64 0, .int .u64 0, .int .i64 0, .int .u64 0, .int .i64 0, .int .u64 0, .int .i64 0, .int .u64 0, .int .i64 0, .int .u64 0, .int .i64 0, .int .u64 0, .int .i64 0, .int .u64 0, .int .i64 0, .int .u64 0])
  clear r_res BB
  generalize w1.setRow (w.heap.size + 1) #[.int .i64 0, .int .u64 0, .int .i64 0, .int .u64 0, .int .i64 0, .int .u64 0, .int .i64 0, .int .u64 0, .int .i64 0, .int .u64 0, .int .i64 0, .int .u64 0, .int .i64 0, .int .u64 0, .int .i64 0, .int .u64 0, .int .i64 0, .int .u64 0] = w99 at *
  go_wp2_with fail
  have R2 := reads18 (show AtB w99 (w.heap.size + 1) #[.int .i64 0, .int .u64 0, .int .i64 0, .int .u64 0, .int .i64 0, .int .u64 0, .int .i64 0, .int .u64 0, .int .i64 0, .int .u64 0, .int .i64 0, .int .u64 0, .int .i64 0, .int .u64 0, .int .i64 0, .int .u64 0, .int .i64 0, .int .u64 0] W9T from R1)
  refine bodyPost_ret (v := .tuple #[.agg #[.int .i64 0, .int .u64 0, .int .i64 0, .int .u64 0, .int .i64 0, .int .u64 0, .int .i64 0, .int .u64 0, .int .i64 0, .int .u64 0, .int .i64 0, .int .u64 0, .int .i64 0, .int .u64 0, .int .i64 0, .int .u64 0, .int .i64 0, .int .u64 0], .int .i64 11]) (by unfold results; simp only [Try.results31]; go_simp) rfl ⟨rfl, HB.out⟩
set_option maxRecDepth 100000 in
set_option maxHeartbeats 16000000 in
theorem madj_ok (m0 m1 m2 m3 m4 m5 m6 m7 m8 : Int) (hz : ∀ z ∈ [m0, m1, m2, m3, m4, m5, m6, m7, m8], I32s z) (w : World) : Calls Try.prog 31 #[.agg #[.int .i64 m0, .int .i64 m1, .int .i64 m2, .int .i64 m3, .int .i64 m4, .int .i64 m5, .int .i64 m6, .int .i64 m7, .int .i64 m8]] w (GiveWide9 (fun i => cofI [m0, m1, m2, m3, m4, m5, m6, m7, m8] (i % 3) (i / 3)) w) := by
  have CR := Lib.hid (fun w => mright m0 m1 m2 m3 m4 m5 m6 m7 m8 (fun z h => by have := hz z h; unfold I32s at this; unfold I64; omega) w)
  have hf : [m0, m1, m2, m3, m4, m5, m6, m7, m8].any farM = false := by
    rw [List.any_eq_false]
    intro z h
    rw [farM_iff.2 (hz z h)]; simp
  rw [hf] at CR
  have CC := Lib.hid (fun (i : Nat) (hi : i < 9) w => mcof m0 m1 m2 m3 m4 m5 m6 m7 m8 hz (i % 3) (i / 3) (by omega) (by omega) w)
  have CC := Lib.hid (show ∀ (i : Nat) (hi : i < 9) w, Calls Try.prog 90 #[.agg #[.int .i64 m0, .int .i64 m1, .int .i64 m2, .int .i64 m3, .int .i64 m4, .int .i64 m5, .int .i64 m6, .int .i64 m7, .int .i64 m8], .int .i64 ((i % 3 : Nat) : Int), .int .i64 ((i / 3 : Nat) : Int)] w (GiveW ((fun i => cofI [m0, m1, m2, m3, m4, m5, m6, m7, m8] (i % 3) (i / 3)) i) w) from CC.out)
  generalize (fun i => cofI [m0, m1, m2, m3, m4, m5, m6, m7, m8] (i % 3) (i / 3)) = F at *
  clear hz hf
  go_enter Try.func31, Try.ntmps31
  go_wp2_with fail
  have BB := start2 w #[.int .i64 m0, .int .i64 m1, .int .i64 m2, .int .i64 m3, .int .i64 m4, .int .i64 m5, .int .i64 m6, .int .i64 m7, .int .i64 m8] M9T #[.int .i64 0, .int .u64 0, .int .i64 0, .int .u64 0, .int .i64 0, .int .u64 0, .int .i64 0, .int .u64 0, .int .i64 0, .int .u64 0, .int .i64 0, .int .u64 0, .int .i64 0, .int .u64 0, .int .i64 0, .int .u64 0, .int .i64 0, .int .u64 0] W9T
  obtain ⟨BB, hsz, r_m, r_res⟩ := BB
  generalize ((w.alloc (.cells #[.int .i64 m0, .int .i64 m1, .int .i64 m2, .int .i64 m3, .int .i64 m4, .int .i64 m5, .int .i64 m6, .int .i64 m7, .int .i64 m8] M9T)).alloc (.cells #[.int .i64 0, .int .u64 0, .int .i64 0, .int .u64 0, .int .i64 0, .int .u64 0, .int .i64 0, .int .u64 0, .int .i64 0, .int .u64 0, .int .i64 0, .int .u64 0, .int .i64 0, .int .u64 0, .int .i64 0, .int .u64 0, .int .i64 0, .int .u64 0] W9T)) = w0 at *
  replace BB := Lib.hid BB
  replace r_m := Lib.hid r_m
  replace r_res := Lib.hid r_res
  clear hsz
  obtain ⟨c_m0, c_m1, c_m2, c_m3, c_m4, c_m5, c_m6, c_m7, c_m8, f_m0, f_m1, f_m2, f_m3, f_m4, f_m5, f_m6, f_m7, f_m8⟩ := reads9 r_m.out
  have l_m := r_m.out.lt
  go_wp2_with fail
  refine (CR.out _).mono ?_
  rintro e w1 ⟨rfl, hb⟩
  clear c_m0 c_m1 c_m2 c_m3 c_m4 c_m5 c_m6 c_m7 c_m8 f_m0 f_m1 f_m2 f_m3 f_m4 f_m5 f_m6 f_m7 f_m8 l_m
  replace r_m := Lib.hid (r_m.out.keep hb)
  replace r_res := Lib.hid (r_res.out.keep hb)
  replace BB := Lib.hid (below_next BB.out hb)
  clear hb
  obtain ⟨c_m0, c_m1, c_m2, c_m3, c_m4, c_m5, c_m6, c_m7, c_m8, f_m0, f_m1, f_m2, f_m3, f_m4, f_m5, f_m6, f_m7, f_m8⟩ := reads9 r_m.out
  have l_m := r_m.out.lt
  go_wp2_with fail
  clear c_m0 c_m1 c_m2 c_m3 c_m4 c_m5 c_m6 c_m7 c_m8 f_m0 f_m1 f_m2 f_m3 f_m4 f_m5 f_m6 f_m7 f_m8 l_m
  have d_a := Lib.hid (And.intro BB.out.size (And.intro r_m.out.lt (And.intro r_res.out.lt (True.intro))))
  obtain ⟨hb, r_a⟩ := laid w1 #[.int .i64 0, .int .u64 0, .int .i64 0, .int .u64 0, .int .i64 0, .int .u64 0, .int .i64 0, .int .u64 0, .int .i64 0, .int .u64 0, .int .i64 0, .int .u64 0, .int .i64 0, .int .u64 0, .int .i64 0, .int .u64 0, .int .i64 0, .int .u64 0] W9T
  replace r_m := Lib.hid (r_m.out.keep hb)
  replace r_res := Lib.hid (r_res.out.keep hb)
  replace BB := Lib.hid (below_next BB.out hb)
  replace r_a := Lib.hid r_a
  clear hb
  generalize w1.alloc (.cells #[.int .i64 0, .int .u64 0, .int .i64 0, .int .u64 0, .int .i64 0, .int .u64 0, .int .i64 0, .int .u64 0, .int .i64 0, .int .u64 0, .int .i64 0, .int .u64 0, .int .i64 0, .int .u64 0, .int .i64 0, .int .u64 0, .int .i64 0, .int .u64 0] W9T) = w2 at *
  generalize w1.heap.size = g_a at *
  have h_a := Lib.hid (show WideR w2 g_a [] F from ⟨r_a.out, by simp, fun i hi => absurd hi (by simp)⟩)
  clear r_a r_m
  go_loopw [6, 13] (fun _ i wr => ∃ S : List (Int × Int), i = .int .i64 S.length ∧ Hid (WideR wr g_a S F ∧ AtB wr (w.heap.size + 1) #[.int .i64 0, .int .u64 0, .int .i64 0, .int .u64 0, .int .i64 0, .int .u64 0, .int .i64 0, .int .u64 0, .int .i64 0, .int .u64 0, .int .i64 0, .int .u64 0, .int .i64 0, .int .u64 0, .int .i64 0, .int .u64 0, .int .i64 0, .int .u64 0] W9T ∧ Below w.heap.size w wr)) (fun _ i _ => 9 - (intOf i).toNat)
  case atStart => exact ⟨[], rfl, ⟨h_a.out, r_res.out, BB.out⟩⟩
  case round =>
    clear h_a r_res BB
    obtain ⟨S, rfl, hinv⟩ := hrel
    obtain ⟨h_a, r_res, BB⟩ := hinv.out
    replace h_a := Lib.hid h_a; replace r_res := Lib.hid r_res; replace BB := Lib.hid BB
    clear hinv
    have hS9 := h_a.out.2.1
    obtain ⟨k, hk⟩ : ∃ k, S.length = k := ⟨_, rfl⟩
    rw [hk] at hS9 ⊢
    by_cases hlt : k < 9
    · have k0 : (0 : Int) ≤ (k : Int) := by omega
      have k1 : (k : Int) < 9 := by omega
      have CJ := CC.out k hlt
      have er : (k : Int).tmod 3 = ((k % 3 : Nat) : Int) := by rw [Int.tmod_eq_emod_of_nonneg (by omega)]; omega
      have eq : (k : Int).tdiv 3 = ((k / 3 : Nat) : Int) := by rw [Int.tdiv_eq_ediv_of_nonneg (by omega)]; omega
      have ey : IntKind.i64.wrap ((k / 3 : Nat) : Int) = ((k / 3 : Nat) : Int) := iw ⟨by omega, by omega⟩
      have ex : IntKind.i64.wrap ((k % 3 : Nat) : Int) = ((k % 3 : Nat) : Int) := iw ⟨by omega, by omega⟩
      generalize ((k % 3 : Nat) : Int) = x at *
      generalize ((k / 3 : Nat) : Int) = y at *
      have CJ := Lib.hid CJ
      replace hk := Lib.hid hk
      clear CC
      go_wp2_with fail
      refine (CJ.out _).mono ?_
      rintro e w3 ⟨h, l, rfl, hb, hw⟩
      replace r_res := Lib.hid (r_res.out.keep hb)
      replace h_a := Lib.hid (WideR.below h_a.out hb)
      replace BB := Lib.hid (below_next BB.out hb)
      clear hb
      have hw := Lib.hid hw
      have hl9 : S.length < 9 := by have := hk.out; omega
      obtain ⟨cz0, cz1⟩ := h_a.out.cells hl9
      rw [hk.out] at cz0 cz1
      have fz0 := h_a.out.1.fr (k * 2)
      have fz1 := h_a.out.1.fr (k * 2 + 1)
      have lz := h_a.out.1.lt
      go_wp2_with fail
      have HN := h_a.out.set hl9 (a := h) (b := l) (by rw [hk.out]; exact hw.out)
      rw [hk.out] at HN
      replace HN := Lib.hid HN
      have HR := Lib.hid ((r_res.out.far (p := g_a) (by have := d_a.out; omega) (k * 2) (.int .i64 h)).far (p := g_a) (by have := d_a.out; omega) (k * 2 + 1) (.int .u64 l))
      have HB := Lib.hid (below_set (below_set BB.out (b := g_a) (o := k * 2) d_a.out.1 (.int .i64 h)) (b := g_a) (o := k * 2 + 1) d_a.out.1 (.int .u64 l))
      go_roundw
      case rel => exact ⟨S ++ [(h, l)], by simp only [List.length_append, List.length_singleton, hk.out]; go_num, ⟨HN.out, HR.out, HB.out⟩⟩
      case measure => simp [intOf]; omega
    · obtain rfl : k = 9 := by omega
      obtain ⟨h0, l0, h1, l1, h2, l2, h3, l3, h4, l4, h5, l5, h6, l6, h7, l7, h8, l8, rfl⟩ := list9 hk
      have r_a := Lib.hid (show AtB wr g_a #[.int .i64 h0, .int .u64 l0, .int .i64 h1, .int .u64 l1, .int .i64 h2, .int .u64 l2, .int .i64 h3, .int .u64 l3, .int .i64 h4, .int .u64 l4, .int .i64 h5, .int .u64 l5, .int .i64 h6, .int .u64 l6, .int .i64 h7, .int .u64 l7, .int .i64 h8, .int .u64 l8] W9T from h_a.out.1)
      have hall := h_a.out.2.2
      have HW := Lib.hid (show W128 (F 0) h0 l0 ∧ W128 (F 1) h1 l1 ∧ W128 (F 2) h2 l2 ∧ W128 (F 3) h3 l3 ∧ W128 (F 4) h4 l4 ∧ W128 (F 5) h5 l5 ∧ W128 (F 6) h6 l6 ∧ W128 (F 7) h7 l7 ∧ W128 (F 8) h8 l8 from ⟨hall 0 (by simp), hall 1 (by simp), hall 2 (by simp), hall 3 (by simp), hall 4 (by simp), hall 5 (by simp), hall 6 (by simp), hall 7 (by simp), hall 8 (by simp)⟩)
      clear h_a hall CC
      go_upto_region 10 with fail
      refine wp_region_lit ?_
      refine wpList_load_row rfl W9T (.tmp 4) rfl g_a rfl W9T _ (0, 0) _ r_a.out Try.underlying63 rfl (by kernel_rfl) ?_
      refine wpList_store_row rfl W9T (.tmp 2) (.tmp 25) rfl (w.heap.size + 1) _ rfl rfl W9T _ r_res.out (by kernel_rfl) rfl (by kernel_rfl) ?_
      have R1 := setRow_heap wr (w.heap.size + 1) _ #[.int .i64 h0, .int .u64 l0, .int .i64 h1, .int .u64 l1, .int .i64 h2, .int .u64 l2, .int .i64 h3, .int .u64 l3, .int .i64 h4, .int .u64 l4, .int .i64 h5, .int .u64 l5, .int .i64 h6, .int .u64 l6, .int .i64 h7, .int .u64 l7, .int .i64 h8, .int .u64 l8] W9T (0, 0) r_res.out
      have HB := Lib.hid (below_setRow BB.out (show w.heap.size ≤ w.heap.size + 1 by omega) #[.int .i64 h0, .int .u64 l0, .int .i64 h1, .int .u64 l1, .int .i64 h2, .int .u64 l2, .int .i64 h3, .int .u64 l3, .int .i64 h4, .int .u64 l4, .int .i64 h5, .int .u64 l5, .int .i64 h6, .int .u64 l6, .int .i64 h7, .int .u64 l7, .int .i64 h8, .int .u64 l8])
      clear r_a r_res BB
      generalize wr.setRow (w.heap.size + 1) #[.int .i64 h0, .int .u64 l0, .int .i64 h1, .int .u64 l1, .int .i64 h2, .int .u64 l2, .int .i64 h3, .int .u64 l3, .int .i64 h4, .int .u64 l4, .int .i64 h5, .int .u64 l5, .int .i64 h6, .int .u64 l6, .int .i64 h7, .int .u64 l7, .int .i64 h8, .int .u64 l8] = w99 at *
      go_wp2_with fail
      have R2 := reads18 (show AtB w99 (w.heap.size + 1) #[.int .i64 h0, .int .u64 l0, .int .i64 h1, .int .u64 l1, .int .i64 h2, .int .u64 l2, .int .i64 h3, .int .u64 l3, .int .i64 h4, .int .u64 l4, .int .i64 h5, .int .u64 l5, .int .i64 h6, .int .u64 l6, .int .i64 h7, .int .u64 l7, .int .i64 h8, .int .u64 l8] W9T from R1)
      refine bodyPost_ret (v := .tuple #[.agg #[.int .i64 h0, .int .u64 l0, .int .i64 h1, .int .u64 l1, .int .i64 h2, .int .u64 l2, .int .i64 h3, .int .u64 l3, .int .i64 h4, .int .u64 l4, .int .i64 h5, .int .u64 l5, .int .i64 h6, .int .u64 l6, .int .i64 h7, .int .u64 l7, .int .i64 h8, .int .u64 l8], .int .i64 0]) (by unfold results; simp only [Try.results31]; go_simp) rfl ?_
      exact ⟨_, _, _, _, _, _, _, _, _, _, _, _, _, _, _, _, _, _, rfl, HB.out, HW.out⟩
end Go.Proofs.Ythoakbjnofhpbaa
