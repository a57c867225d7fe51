/- Contracts of what is asked for a pixel in law 28, and of near.By with it. -/
import Derived.Test.YtnklbnphiokpiaaNrW
import Derived.ArgAppend
set_option linter.unusedVariables false
set_option linter.unusedSimpArgs false
namespace Go.Proofs.Ytnklbnphiokpiaa
open Go.RowKit
abbrev AGT : TypeId := 48
theorem info_i64 : (Try.prog.info? 2).map (fun i => (i.zero, i.size, i.bytes)) = some (some (.int .i64 0), 1, 8) := by kernel_rfl
theorem two_new (w : World) (x y : Value) (t : TypeId) : ∀ j u, [x, y][j]? = some u → (w.alloc (.cells #[x, y] t)).cell? ((⟨w.heap.size, 0, none⟩ : Addr).add j) = some u := by
  intro j u hj
  match j, hj with
  | 0, hj => simp at hj; subst hj; simp [Addr.add]
  | 1, hj => simp at hj; subst hj; simp [Addr.add]
theorem two_cell (k : IntKind) (x y : Int) : ∀ u ∈ [Value.int k x, Value.int k y], u.oneCell' = true := by
  intro u hu; simp at hu; rcases hu with rfl | rfl <;> rfl
/-- Two numbers that lie at a block's beginning. -/
def XR (w : World) (b : Nat) (x y : Int) : Prop := w.cell? ⟨b, 0, none⟩ = some (.int .i64 x) ∧ w.cell? ⟨b, 1, none⟩ = some (.int .i64 y) ∧ b < w.heap.size
theorem XR.below {w w1 : World} {b : Nat} {x y : Int} (h : XR w b x y) (hb : Below w.heap.size w w1) : XR w1 b x y := ⟨(hb.cell (p := ⟨b, 0, none⟩) h.2.2).trans h.1, (hb.cell (p := ⟨b, 1, none⟩) h.2.2).trans h.2.1, Nat.lt_of_lt_of_le h.2.2 hb.size⟩
theorem row8 {w : World} {g j : Nat} {L : List Int} (h : BRow w g L) (hj : j < L.length) : w.cell? ⟨g, j, none⟩ = some (.int .u8 (L.getD j 0)) := by
  refine AtB.cell h j ?_
  simp [List.getD, hj]
theorem padL_get {L : List Int} {c k : Nat} (hk : k < c) : (padL L c).getD k 0 = if k < L.length then L.getD k 0 else 0 := by
  unfold padL
  by_cases h : k < L.length
  · rw [if_pos h]
    simp only [List.getD_eq_getElem?_getD]
    rw [List.getElem?_append_left (by simp; omega), List.getElem?_take, if_pos hk]
  · rw [if_neg h]
    simp only [List.getD_eq_getElem?_getD]
    rw [List.getElem?_append_right (by simp; omega)]
    simp only [List.getElem?_replicate]
    split <;> rfl
/-- Two numbers have been written down behind one pointer: nothing else is other than it was. -/
def GiveAsk (g : Nat) (s : Value) (x y : Int) (w : World) (e : Ending) (w' : World) : Prop :=
  ∃ b cap, e = .returned s ∧ AtB w' g #[s, .slice (some ⟨b, 0, none⟩) 2 cap] AGT ∧ w.heap.size ≤ b ∧ b < w'.heap.size ∧ w'.cell? ⟨b, 0, none⟩ = some (.int .i64 x) ∧ w'.cell? ⟨b, 1, none⟩ = some (.int .i64 y) ∧
    (∀ k, k < w.heap.size → k ≠ g → w'.heap[k]? = w.heap[k]?) ∧ (∀ B, B ≤ g → Below B w w')
set_option maxRecDepth 100000 in
set_option maxHeartbeats 4000000 in
theorem get28 (g : Nat) (s : Value) (x y : Int) (w : World) (hg : AtB w g #[s, .slice none 0 0] AGT) :
    Calls Try.prog 27 #[.pointer (some ⟨g, 0, none⟩), .int .i64 x, .int .i64 y] w (GiveAsk g s x y w) := by
  obtain ⟨i0, hi0, hz0, hz1, hz2⟩ := info_parts info_i64
  have c0 : w.cell? ⟨g, 0, none⟩ = some s := hg.cell 0 rfl
  have c1 : w.cell? ⟨g, 1, none⟩ = some (.slice none 0 0) := hg.cell 1 rfl
  have f1 := hg.fr 1
  have hlt := hg.lt
  go_enter Try.func27, Try.ntmps27
  go_wp2_with (first | (at_builtin; refine wpList_append_grows _ rfl (.tmp 11) (.tmp 14) 32 rfl 2 i0 (.int .i64 0) 1 8 Try.underlying32 hi0 hz0 hz1 hz2 rfl (by decide) none 0 0 [] rfl (fun _ => ⟨rfl, rfl⟩) rfl (by intro b hb; cases hb) ⟨w.heap.size, 0, none⟩ 2 2 [.int .i64 x, .int .i64 y] rfl rfl (two_new _ _ _ _) (two_cell _ _ _) (by decide) (by unfold maxLen; omega) (by omega) ?_))
  intro v' w8 hown hgrow
  have hr := at_app hg hgrow (by simp)
  have hbk : ∀ k, k < w.heap.size → k ≠ g → (w8.setCell ⟨g, 1, none⟩ v').heap[k]? = w.heap[k]? := fun k hk hne => (Below.heap_setCell w8 ⟨g, 1, none⟩ v' k hne).trans ((hgrow.block k (by simp; omega) (by simp)).trans (Below.heap_alloc w _ k hk))
  have hbb : ∀ B, B ≤ g → Below B w (w8.setCell ⟨g, 1, none⟩ v') := fun B hB => (((Below.refl B w).alloc (by omega) _).grown hgrow (by simp; omega) (fun k hk => by cases hk)).setCell (p := ⟨g, 1, none⟩) hB v'
  have hat : AtB (w8.setCell ⟨g, 1, none⟩ v') g #[s, v'] AGT := heap_set hr.heap v' (o := 1)
  rcases hown.2 with ⟨-, hn⟩ | ⟨b, cap, cur, rfl, hg2, hh, hn, hcap, hsz, htake⟩
  · simp at hn
  have hq0 : w8.cell? ⟨b, 0, none⟩ = some (.int .i64 x) := by
    have h1 : (cur.toList.take (2 * 1))[0]? = some (.int .i64 x) := by rw [htake]; rfl
    rw [List.getElem?_take, if_pos (by omega)] at h1
    have h2 : cur[0]? = some (.int .i64 x) := by simpa using h1
    simp [World.cell?, hh, h2]
  have hq1 : w8.cell? ⟨b, 1, none⟩ = some (.int .i64 y) := by
    have h1 : (cur.toList.take (2 * 1))[1]? = some (.int .i64 y) := by rw [htake]; rfl
    rw [List.getElem?_take, if_pos (by omega)] at h1
    have h2 : cur[1]? = some (.int .i64 y) := by simpa using h1
    simp [World.cell?, hh, h2]
  have hlb : b < w8.heap.size := (Array.getElem?_eq_some_iff.1 hh).1
  have hne : b ≠ g := by omega
  have hcb : ∀ o, (w8.setCell ⟨g, 1, none⟩ (.slice (some ⟨b, 0, none⟩) 2 cap)).cell? ⟨b, o, none⟩ = w8.cell? ⟨b, o, none⟩ := fun o => by
    have := Below.heap_setCell w8 ⟨g, 1, none⟩ (.slice (some ⟨b, 0, none⟩) 2 cap) b hne
    simp only [World.cell?]
    rw [this]
  have e0 := (hcb 0).trans hq0
  have e1 := (hcb 1).trans hq1
  have c0' : w8.cell? ⟨g, 0, none⟩ = some s := hr.cell 0 rfl
  have c1' : w8.cell? ⟨g, 1, none⟩ = some (.slice none 0 0) := hr.cell 1 rfl
  have f1' := hr.fr 1
  have hall := Lib.hid (And.intro hbk (And.intro hbb (And.intro hat (And.intro e0 e1))))
  clear hbk hbb hat hq0 hq1 hcb e0 e1 hown hgrow hr hh htake hsz hcap hn hi0 hz0 hz1 hz2
  go_wp2_with fail
  go_ret
  refine ⟨b, cap, rfl, ?_, by omega, ?_, hall.out.2.2.2.1, hall.out.2.2.2.2, hall.out.1, hall.out.2.1⟩
  · exact hall.out.2.2.1
  · simpa using hlb
theorem setRow_far (w : World) (g k : Nat) (cs : Array Value) (h : k ≠ g) : (w.setRow g cs).heap[k]? = w.heap[k]? := by
  simp [World.setRow, Array.getElem?_modify, h.symm]
theorem copy_pad2 (w : World) (g c : Nat) (s : Value) (zs : List Int) (hs : BS w s zs) (hg : AtB w g (Array.replicate c (.int .u8 0)) 5) :
    ∃ k w', (Builtin.copy_ #[33, 33] 3 #[.slice (some ⟨g, 0, none⟩) c c, s]).run Try.prog w = .ok (goInt k) w' ∧ BRow w' g (padL zs c) ∧ (∀ j, j ≠ g → w'.heap[j]? = w.heap[j]?) ∧ w.heap.size = w'.heap.size ∧ (∀ B w0, B ≤ g → Below B w0 w → Below B w0 w') := by
  by_cases h0 : min zs.length c = 0
  · obtain ⟨A, cap, rfl⟩ := hs.form
    refine ⟨0, w, run_copy_none (P := Try.prog) w 33 33 3 5 _ _ c c zs.length cap Try.underlying33 size_u8s (by simpa [Nat.min_def] using h0), ?_, fun _ _ => rfl, rfl, fun _ _ _ h => h⟩
    have e : padL zs c = List.replicate c 0 := by
      unfold padL
      by_cases h1 : c = 0
      · subst h1; simp
      · have : zs = [] := List.eq_nil_of_length_eq_zero (by omega)
        subst this; simp
    unfold BRow
    rw [e, List.map_replicate, List.toArray_replicate]
    exact hg
  · obtain ⟨b, off, cap, rfl, h1, h2, h3, h4⟩ := hs.some (fun e => h0 (by rw [e]; simp))
    have h := run_copy_row (P := Try.prog) w 33 33 3 5 g 0 c c ⟨b, off, none⟩ zs.length cap (Array.replicate c (.int .u8 0)) 5 ((zs.take c).map (Value.int .u8)) Try.underlying33 size_u8s hg (by simp [Nat.min_def]; split <;> split <;> omega)
      (by have := pix_cells (w := w) (b := b) (o := off) (k := 0) (c := c) h4; simpa using this) (by simp; omega) one_u8
    refine ⟨_, _, h, ?_, fun j hj => setRow_far w g j _ hj, by simp [World.setRow], fun B w0 hB hb => ⟨hb.os, hb.tape, hb.output, by simpa [World.setRow] using hb.size, fun k hk => (setRow_far w g k _ (by omega)).trans (hb.block k hk)⟩⟩
    have e : (Array.replicate c (Value.int .u8 0)).toList.take 0 ++ (zs.take c).map (Value.int .u8) ++ (Array.replicate c (Value.int .u8 0)).toList.drop (0 + ((zs.take c).map (Value.int .u8)).length) = (padL zs c).map (Value.int .u8) := by
      unfold padL
      rw [List.take_zero, List.nil_append, Nat.zero_add, List.length_map, List.length_take, Array.toList_replicate, List.drop_replicate, List.map_append, List.map_replicate, show c - min c zs.length = c - zs.length by omega]
    rw [e]
    exact setRow_heap w g _ _ _ _ hg
theorem cell_same {w w' : World} {b o : Nat} (h : w'.heap[b]? = w.heap[b]?) : w'.cell? ⟨b, o, none⟩ = w.cell? ⟨b, o, none⟩ := by
  simp only [World.cell?]
  rw [h]
theorem bs_same {w w' : World} {s : Value} {L : List Int} {g : Nat} (h : BS w s L) (hf : L ≠ [] → ∀ a n cap, s = .slice (some a) n cap → a.block ≠ g) (hs : w.heap.size ≤ w'.heap.size) (hk : ∀ k, k < w.heap.size → k ≠ g → w'.heap[k]? = w.heap[k]?) : BS w' s L := by
  obtain ⟨A, cap, rfl, h1, h2, h3, h4⟩ := h
  refine ⟨A, cap, rfl, h1, h2, h3, fun hz => ?_⟩
  obtain ⟨b, off, rfl, hlt, hc⟩ := h4 hz
  have hne := hf hz ⟨b, off, none⟩ L.length cap rfl
  exact ⟨b, off, rfl, by omega, fun i hi => (cell_same (hk b hlt hne)).trans (hc i hi)⟩
def GiveNear (g : Nat) (s : Value) (x y : Int) (L : List Int) (c : Nat) (w : World) (e : Ending) (w' : World) : Prop :=
  ∃ o b cap, e = .returned (.slice (some ⟨o, 0, none⟩) c c) ∧ BRow w' o (padL L c) ∧ AtB w' g #[s, .slice (some ⟨b, 0, none⟩) 2 cap] AGT ∧ w'.cell? ⟨b, 0, none⟩ = some (.int .i64 x) ∧ w'.cell? ⟨b, 1, none⟩ = some (.int .i64 y) ∧
    b < w'.heap.size ∧ w.heap.size ≤ b ∧ w.heap.size ≤ o ∧ BS w' s L ∧ (∀ B, B ≤ g → Below B w w')
set_option maxRecDepth 100000 in
set_option maxHeartbeats 4000000 in
theorem nby28 (g c : Nat) (hc : 1 ≤ c ∧ c ≤ 1000) (s : Value) (L : List Int) (u v : Int) (hu : inB u 70368744177664 = true) (hv : inB v 70368744177664 = true) (w : World) (hg : AtB w g #[s, .slice none 0 0] AGT) (hs : BS w s L) (hf : L ≠ [] → ∀ a n cap, s = .slice (some a) n cap → a.block ≠ g) :
    Calls Try.prog 26 #[.func (.func 27) #[.pointer (some ⟨g, 0, none⟩)] #[], .int .i64 (c : Int), .int .i64 u, .int .i64 v] w (GiveNear g s (X28 u) (X28 v) L c w) := by
  obtain ⟨u0, u1⟩ := inB_iff.1 hu
  obtain ⟨v0, v1⟩ := inB_iff.1 hv
  have CI := Lib.hid (fun x w => near_in_any x w)
  have FN := func_some
  have CU := Lib.hid (fun w => near_index_any u u0 u1 w)
  have CV := Lib.hid (fun w => near_index_any v v0 v1 w)
  change Hid (∀ w, Calls _ _ _ _ (fun e w' => e = .returned (.int .i64 (X28 u)) ∧ _)) at CU
  change Hid (∀ w, Calls _ _ _ _ (fun e w' => e = .returned (.int .i64 (X28 v)) ∧ _)) at CV
  have MK := mk_bytes c (by omega)
  have hc1 : decide ((c : Int) < 1) = false := decide_eq_false (by omega)
  replace hu := Lib.hid hu; replace hv := Lib.hid hv
  have hlt := hg.lt
  replace hg := Lib.hid hg; replace hs := Lib.hid hs; replace hf := Lib.hid hf
  clear u0 u1 v0 v1
  generalize X28 u = X at *
  generalize X28 v = Y at *
  go_enter Try.func26, Try.ntmps26
  go_wp2_with fail
  have BB : Hid (Below w.heap.size w w) := Below.refl _ _
  refine (CI.out _ _).mono ?_
  rintro e w9 ⟨rfl, rfl⟩
  rw [hu.out]
  go_wp2_with fail
  refine (CI.out _ _).mono ?_
  rintro e w9 ⟨rfl, rfl⟩
  rw [hv.out]
  go_wp2_with fail
  obtain ⟨hb, r_out⟩ := laid w (Array.replicate c (Value.int .u8 0)) 5
  replace BB := Lib.hid (below_next BB.out hb)
  replace r_out := Lib.hid r_out
  clear hb
  generalize w.alloc (.cells (Array.replicate c (Value.int .u8 0)) 5) = w1 at *
  refine (CU.out _).mono ?_
  rintro e w9 ⟨rfl, rfl⟩
  go_wp2_with fail
  refine (CV.out _).mono ?_
  rintro e w9 ⟨rfl, rfl⟩
  go_wp2_with fail
  refine (get28 g s X Y _ (hg.out.keep BB.out)).mono ?_
  rintro e w' ⟨b, cap, rfl, hat, hb1, hb2, e0, e1, hbk, hbb⟩
  have hgo := Nat.le_refl w.heap.size
  have hsz := r_out.out.lt
  have hs1 := BB.out.size
  have hsw : w1.heap.size ≤ w'.heap.size := (hbb 0 (by omega)).size
  have ho := (hbk w.heap.size hsz (by omega)).trans r_out.out.heap
  have hsr := bs_same (hs.out.below BB.out) hf.out hsw hbk
  obtain ⟨kk, w8, RC, hr8, hk8, hz8, hb8⟩ := copy_pad2 w' w.heap.size c s L hsr ho
  have hfin : GiveNear g s X Y L c w (.returned (.slice (some ⟨w.heap.size, 0, none⟩) c c)) w8 :=
    ⟨w.heap.size, b, cap, rfl, hr8, (hk8 g (by omega)).trans hat, (cell_same (hk8 b (by omega))).trans e0, (cell_same (hk8 b (by omega))).trans e1, by omega, by omega, hgo, bs_same hsr (g := w.heap.size) (fun hL a n cap' ea => by
      subst ea
      obtain ⟨A', cap2, e2, -, -, -, h4⟩ := hs.out
      simp only [Value.slice.injEq] at e2
      obtain ⟨b', off', rfl2, hlt2, -⟩ := h4 hL
      rw [← e2.1] at rfl2
      simp only [Option.some.injEq] at rfl2
      subst rfl2
      show b' ≠ w.heap.size
      omega) (by omega) (fun k hk hne => hk8 k hne), fun B hB => hb8 B w (by omega) ((BB.out.mono (by omega)).trans (hbb B hB))⟩
  have hfin := Lib.hid hfin
  clear hr8 hk8 hz8 hb8 hsr ho hbk hbb hat e0 e1
  go_wp2_with fail
  go_ret
  exact hfin.out

set_option maxRecDepth 100000 in
set_option maxHeartbeats 4000000 in
theorem nby_lt (f : Value) (c u v : Int) (h : c < 1) (w : World) :
    Calls Try.prog 26 #[f, .int .i64 c, .int .i64 u, .int .i64 v] w fun e w' => e = .returned (.slice none 0 0) ∧ Below w.heap.size w w' := by
  have hc1 : decide (c < 1) = true := decide_eq_true h
  go_enter Try.func26, Try.ntmps26
  go_wp2_with fail
  have BB : Hid (Below w.heap.size w w) := Below.refl _ _
  go_wp2_with fail
  go_ret
  exact ⟨rfl, BB.out⟩
theorem func_nil (w : World) : (Go.binOp BinOp.eql 50 .nilFunc .nilFunc).run Try.prog w = .ok (.bool true) w := by kernel_rfl
set_option maxRecDepth 100000 in
set_option maxHeartbeats 4000000 in
theorem nby_nil (c u v : Int) (h : 1 ≤ c) (w : World) :
    Calls Try.prog 26 #[.nilFunc, .int .i64 c, .int .i64 u, .int .i64 v] w fun e w' => e = .returned (.slice none 0 0) ∧ Below w.heap.size w w' := by
  have hc1 : decide (c < 1) = false := decide_eq_false (by omega)
  have FN0 := func_nil
  go_enter Try.func26, Try.ntmps26
  go_wp2_with fail
  have BB : Hid (Below w.heap.size w w) := Below.refl _ _
  go_wp2_with fail
  go_ret
  exact ⟨rfl, BB.out⟩
set_option maxRecDepth 100000 in
set_option maxHeartbeats 4000000 in
theorem nby_out (K : Nat) (a : Value) (c u v : Int) (h : 1 ≤ c) (hin : (inB u 70368744177664 && inB v 70368744177664) = false) (w : World) :
    Calls Try.prog 26 #[.func (.func K) #[a] #[], .int .i64 c, .int .i64 u, .int .i64 v] w fun e w' => e = .returned (.slice none 0 0) ∧ Below w.heap.size w w' := by
  have hc1 : decide (c < 1) = false := decide_eq_false (by omega)
  have FN := func_some
  have CI := Lib.hid (fun x w => near_in_any x w)
  rcases hu : inB u 70368744177664 with _ | _
  · replace hu := Lib.hid hu
    go_enter Try.func26, Try.ntmps26
    go_wp2_with fail
    have BB : Hid (Below w.heap.size w w) := Below.refl _ _
    refine (CI.out _ _).mono ?_
    rintro e w9 ⟨rfl, rfl⟩
    rw [hu.out]
    go_wp2_with fail
    go_ret
    exact ⟨rfl, BB.out⟩
  · have hv : inB v 70368744177664 = false := by rw [hu] at hin; simpa using hin
    replace hu := Lib.hid hu
    replace hv := Lib.hid hv
    go_enter Try.func26, Try.ntmps26
    go_wp2_with fail
    have BB : Hid (Below w.heap.size w w) := Below.refl _ _
    refine (CI.out _ _).mono ?_
    rintro e w9 ⟨rfl, rfl⟩
    rw [hu.out]
    go_wp2_with fail
    refine (CI.out _ _).mono ?_
    rintro e w9 ⟨rfl, rfl⟩
    rw [hv.out]
    go_wp2_with fail
    go_ret
    exact ⟨rfl, BB.out⟩

end Go.Proofs.Ytnklbnphiokpiaa
