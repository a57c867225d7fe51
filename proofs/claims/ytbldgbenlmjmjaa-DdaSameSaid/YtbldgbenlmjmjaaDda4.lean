/- Contracts of a walk: X, Next, Skip. -/
import Derived.Test.YtbldgbenlmjmjaaDda3
set_option linter.unusedVariables false
set_option linter.unusedSimpArgs false
namespace Go.Proofs.Ytbldgbenlmjmjaa
open Go.RowKit
/-- A walk that stands at column x: both axes, over B. -/
abbrev wkCells (x a0 a1 a2 a3 a4 a5 b0 b1 b2 b3 b4 b5 B : Int) : Array Value := #[.int .i64 x, .int .i64 a0, .int .u64 a1, .int .i64 a2, .int .u64 a3, .int .i64 a4, .int .i64 a5, .int .i64 B, .int .i64 b0, .int .u64 b1, .int .i64 b2, .int .u64 b3, .int .i64 b4, .int .i64 b5, .int .i64 B]
def WKA (w : World) (g : Nat) (x F G F' G' B : Int) : Prop := ∃ a0 a1 a2 a3 a4 a5 b0 b1 b2 b3 b4 b5, AtB w g (wkCells x a0 a1 a2 a3 a4 a5 b0 b1 b2 b3 b4 b5 B) WK ∧ AX F G B a0 a1 a2 a3 a4 a5 ∧ AX F' G' B b0 b1 b2 b3 b4 b5
theorem WKA.keepB {w w1 : World} {g D : Nat} {x F G F' G' B : Int} (h : WKA w g x F G F' G' B) (hb : Below D w w1) (hg : g < D) : WKA w1 g x F G F' G' B := by
  obtain ⟨a0, a1, a2, a3, a4, a5, b0, b1, b2, b3, b4, b5, h1, h2, h3⟩ := h
  exact ⟨_, _, _, _, _, _, _, _, _, _, _, _, h1.keepB hb hg, h2, h3⟩
theorem WKA.lt {w : World} {g : Nat} {x F G F' G' B : Int} (h : WKA w g x F G F' G' B) : g < w.heap.size := by
  obtain ⟨a0, a1, a2, a3, a4, a5, b0, b1, b2, b3, b4, b5, h1, h2, h3⟩ := h
  exact h1.lt
theorem WKA.keep {w w1 : World} {g : Nat} {x F G F' G' B : Int} (h : WKA w g x F G F' G' B) (hb : Below w.heap.size w w1) : WKA w1 g x F G F' G' B := h.keepB hb h.lt

theorem ddx_nil (w : World) : Calls Try.prog 44 #[.pointer none] w fun e w' => e = .returned (.int .i64 0) ∧ w = w' := by
  go_enter Try.func44, Try.ntmps44
  go_wp2
  go_ret
  exact ⟨rfl, rfl⟩
theorem ddx (g : Nat) (x F G F' G' B : Int) (w : World) (h : WKA w g x F G F' G' B) : Calls Try.prog 44 #[.pointer (some ⟨g, 0, none⟩)] w fun e w' => e = .returned (.int .i64 x) ∧ w = w' := by
  obtain ⟨a0, a1, a2, a3, a4, a5, b0, b1, b2, b3, b4, b5, h1, h2, h3⟩ := h
  have c0 := h1.cell 0 rfl
  clear h1 h2 h3
  go_enter Try.func44, Try.ntmps44
  go_wp2
  go_ret
  exact ⟨rfl, rfl⟩
theorem ddNext_nil (w : World) : Calls Try.prog 41 #[.pointer none] w fun e w' => e = .returned (.tuple #[.int .i64 0, .int .i64 0, .bool false]) ∧ w = w' := by
  go_enter Try.func41, Try.ntmps41
  go_wp2
  refine bodyPost_ret (v := .tuple #[.int .i64 0, .int .i64 0, .bool false]) (by unfold results; simp only [Try.results41]; go_simp) rfl ?_
  exact ⟨rfl, rfl⟩
theorem ddSkip_nil (n : Int) (w : World) : Calls Try.prog 43 #[.pointer none, .int .i64 n] w fun e w' => e = .returned (.bool false) ∧ w = w' := by
  go_enter Try.func43, Try.ntmps43
  go_wp2
  go_ret
  exact ⟨rfl, rfl⟩
/-- Behind the last column: nothing turns. -/
theorem ddNext_end (g : Nat) (x F G F' G' B : Int) (hx : 1048576 < x) (w : World) (h : WKA w g x F G F' G' B) : Calls Try.prog 41 #[.pointer (some ⟨g, 0, none⟩)] w fun e w' => e = .returned (.tuple #[.int .i64 0, .int .i64 0, .bool false]) ∧ w = w' := by
  obtain ⟨a0, a1, a2, a3, a4, a5, b0, b1, b2, b3, b4, b5, h1, h2, h3⟩ := h
  have c0 := h1.cell 0 rfl
  have hd : decide (x > 1048576) = true := decide_eq_true hx
  clear h1 h2 h3 hx
  go_enter Try.func41, Try.ntmps41
  go_wp2
  refine bodyPost_ret (v := .tuple #[.int .i64 0, .int .i64 0, .bool false]) (by unfold results; simp only [Try.results41]; go_simp) rfl ?_
  exact ⟨rfl, rfl⟩

def GiveNext (g : Nat) (x F G F' G' B : Int) (w : World) (e : Ending) (w' : World) : Prop :=
  e = .returned (.tuple #[.int .i64 (cutI ((F * 65536).fdiv B)), .int .i64 (cutI ((F' * 65536).fdiv B)), .bool true]) ∧ Below w.heap.size w w' ∧ WKA w' g (x + 1) (F + G) G (F' + G') G' B
set_option maxRecDepth 100000 in
set_option maxHeartbeats 8000000 in
theorem ddNext (g : Nat) (x F G F' G' B : Int) (hx : -1048576 ≤ x ∧ x ≤ 1048576) (hX : AXB F G B) (hX' : AXB F' G' B) (w w0 : World) (BB : Below w.heap.size w w0) (hg : w.heap.size ≤ g) (h : WKA w0 g x F G F' G' B) :
    Calls Try.prog 41 #[.pointer (some ⟨g, 0, none⟩)] w0 (GiveNext g x F G F' G' B w) := by
  obtain ⟨a0, a1, a2, a3, a4, a5, b0, b1, b2, b3, b4, b5, r_k, h2, h3⟩ := h
  have CU := Lib.hid (fun y w1 h r => ddnext_u F G B a0 a1 a2 a3 a4 a5 (.int .i64 y) (.int .i64 b0) (.int .u64 b1) (.int .i64 b2) (.int .u64 b3) (.int .i64 b4) (.int .i64 b5) (.int .i64 B) g hX h2 w w1 h hg r)
  have CV := Lib.hid (fun y q0 q1 l w1 h r => ddnext_v F' G' B b0 b1 b2 b3 b4 b5 (.int .i64 y) (.int .i64 q0) (.int .u64 q1) (.int .i64 a2) (.int .u64 a3) (.int .i64 l) (.int .i64 a5) (.int .i64 B) g hX' h3 w w1 h hg r)
  have hd : decide (x > 1048576) = false := decide_eq_false (by omega)
  have hB : ¬ B = 0 := by have := hX.b; omega
  obtain ⟨y, hy⟩ : ∃ y, y = x + 1 := ⟨_, rfl⟩
  have i1 : wrap64 (x + 1) = y := by rw [hy]; exact wr_in (by omega) (by omega)
  have BB := Lib.hid BB
  have r_k := Lib.hid r_k
  have HY := Lib.hid hy
  clear hX hX' h2 h3 hx hy
  go_enter Try.func41, Try.ntmps41
  obtain ⟨c_k0, c_k1, c_k2, c_k3, c_k4, c_k5, c_k6, c_k7, c_k8, c_k9, c_k10, c_k11, c_k12, c_k13, c_k14, f_k0, f_k1, f_k2, f_k3, f_k4, f_k5, f_k6, f_k7, f_k8, f_k9, f_k10, f_k11, f_k12, f_k13, f_k14⟩ := reads15 r_k.out
  have l_k := r_k.out.lt
  go_wp2_with fail
  clear c_k0 c_k1 c_k2 c_k3 c_k4 c_k5 c_k6 c_k7 c_k8 c_k9 c_k10 c_k11 c_k12 c_k13 c_k14 f_k0 f_k1 f_k2 f_k3 f_k4 f_k5 f_k6 f_k7 f_k8 f_k9 f_k10 f_k11 f_k12 f_k13 f_k14 l_k
  replace r_k := Lib.hid (show AtB (w0.setCell ⟨g, 0, none⟩ (.int .i64 y)) (g) #[.int .i64 y, .int .i64 a0, .int .u64 a1, .int .i64 a2, .int .u64 a3, .int .i64 a4, .int .i64 a5, .int .i64 B, .int .i64 b0, .int .u64 b1, .int .i64 b2, .int .u64 b3, .int .i64 b4, .int .i64 b5, .int .i64 B] WK from by have k := (r_k.out.set_n 0 (.int .i64 y)); simpa using k)
  replace BB := Lib.hid (below_set BB.out (b := g) (o := 0) (by omega) (.int .i64 y))
  generalize (w0.setCell ⟨g, 0, none⟩ (.int .i64 y)) = w1 at *
  refine wp_region_held_drew (S := (fun w9 => True)) (by kernel_rfl) trivial (fun hHeld => ?_)
  refine wpAnyH_take (i := 0) (v := ?_) rfl (by kernel_rfl) (by kernel_rfl) (by kernel_rfl) (fun _ _ _ h => h) (Or.inl ⟨by rfl, ?_⟩) (by assumption) ?_
  rotate_left
  · intro w9 hSw; clear hSw; go_simp <;> with_reducible rfl
  try simp only [Act.put, List.getElem_toArray, List.getElem_cons_zero, List.getElem_cons_succ, List.setIfInBounds_toArray, List.set_cons_zero, List.set_cons_succ]
  refine wpAnyH_take (i := 1) (v := ?_) rfl (by kernel_rfl) (by kernel_rfl) (by kernel_rfl) (fun _ _ _ h => h) (Or.inl ⟨by rfl, ?_⟩) (by assumption) ?_
  rotate_left
  · intro w9 hSw; clear hSw; go_simp <;> with_reducible rfl
  try simp only [Act.put, List.getElem_toArray, List.getElem_cons_zero, List.getElem_cons_succ, List.setIfInBounds_toArray, List.set_cons_zero, List.set_cons_succ]
  refine wpAnyH_take (i := 2) (v := ?_) rfl (by kernel_rfl) (by kernel_rfl) (by kernel_rfl) (fun _ _ _ h => h) (Or.inl ⟨by rfl, ?_⟩) (by assumption) ?_
  rotate_left
  · intro w9 hSw; clear hSw; go_simp <;> with_reducible rfl
  try simp only [Act.put, List.getElem_toArray, List.getElem_cons_zero, List.getElem_cons_succ, List.setIfInBounds_toArray, List.set_cons_zero, List.set_cons_succ]
  refine wpAnyH_take (i := 4) (v := ?_) rfl (by kernel_rfl) (by kernel_rfl) (by kernel_rfl) (fun _ _ _ h => h) (Or.inl ⟨by rfl, ?_⟩) (by assumption) ?_
  rotate_left
  · intro w9 hSw; clear hSw; go_simp <;> with_reducible rfl
  try simp only [Act.put, List.getElem_toArray, List.getElem_cons_zero, List.getElem_cons_succ, List.setIfInBounds_toArray, List.set_cons_zero, List.set_cons_succ]
  refine wpAnyH_take (i := 5) (v := ?_) rfl (by kernel_rfl) (by kernel_rfl) (by kernel_rfl) (fun _ _ _ h => h) (Or.inl ⟨by rfl, ?_⟩) (by assumption) ?_
  rotate_left
  · intro w9 hSw; clear hSw; go_simp <;> with_reducible rfl
  try simp only [Act.put, List.getElem_toArray, List.getElem_cons_zero, List.getElem_cons_succ, List.setIfInBounds_toArray, List.set_cons_zero, List.set_cons_succ]
  refine wpAnyH_take (i := 6) (v := ?_) rfl (by kernel_rfl) (by kernel_rfl) (by kernel_rfl) (fun _ _ _ h => h) (Or.inl ⟨by rfl, ?_⟩) (by assumption) ?_
  rotate_left
  · intro w9 hSw; clear hSw; go_simp <;> with_reducible rfl
  try simp only [Act.put, List.getElem_toArray, List.getElem_cons_zero, List.getElem_cons_succ, List.setIfInBounds_toArray, List.set_cons_zero, List.set_cons_succ]
  refine wpAnyH_ready (rs := [3]) (by kernel_rfl) (by simp) ?_
  refine AllReadyH.cons rfl (fun K hK => ?_) AllReadyH.nil
  go_simp
  go_at_call 64
  refine (CU.out y _ (below_drew BB.out) (AtB.drew r_k.out)).mono ?_
  rintro e w2 ⟨rfl, hb, q0, q1, l, hk, hax⟩
  refine hK.out _ _ trivial (fun hHeld => ?_)
  clear hK
  try simp only [Act.put, List.getElem_toArray, List.getElem_cons_zero, List.getElem_cons_succ, List.setIfInBounds_toArray, List.set_cons_zero, List.set_cons_succ]
  refine wpAnyH_ready (rs := [7]) (by kernel_rfl) (by simp) ?_
  refine AllReadyH.cons rfl (fun K hK => ?_) AllReadyH.nil
  go_simp
  go_at_call 64
  refine (CV.out y q0 q1 l _ hb hk).mono ?_
  rintro e w3 ⟨rfl, hb2, q2, q3, l2, hk2, hax2⟩
  refine hK.out _ _ trivial (fun hHeld => ?_)
  clear hK
  try simp only [Act.put, List.getElem_toArray, List.getElem_cons_zero, List.getElem_cons_succ, List.setIfInBounds_toArray, List.set_cons_zero, List.set_cons_succ]
  refine wpAnyH_take (i := 8) (v := ?_) rfl (by kernel_rfl) (by kernel_rfl) (by kernel_rfl) (fun _ _ _ h => h) (Or.inl ⟨by rfl, ?_⟩) (by assumption) ?_
  rotate_left
  · intro w9 hSw; clear hSw; go_simp <;> with_reducible rfl
  try simp only [Act.put, List.getElem_toArray, List.getElem_cons_zero, List.getElem_cons_succ, List.setIfInBounds_toArray, List.set_cons_zero, List.set_cons_succ]
  refine wpAnyH_take (i := 9) (v := ?_) rfl (by kernel_rfl) (by kernel_rfl) (by kernel_rfl) (fun _ _ _ h => h) (Or.inl ⟨by rfl, ?_⟩) (by assumption) ?_
  rotate_left
  · intro w9 hSw; clear hSw; go_simp <;> with_reducible rfl
  try simp only [Act.put, List.getElem_toArray, List.getElem_cons_zero, List.getElem_cons_succ, List.setIfInBounds_toArray, List.set_cons_zero, List.set_cons_succ]
  refine wpAnyH_take (i := 10) (v := ?_) rfl (by kernel_rfl) (by kernel_rfl) (by kernel_rfl) (fun _ _ _ h => h) (Or.inl ⟨by rfl, ?_⟩) (by assumption) ?_
  rotate_left
  · intro w9 hSw; clear hSw; go_simp <;> with_reducible rfl
  try simp only [Act.put, List.getElem_toArray, List.getElem_cons_zero, List.getElem_cons_succ, List.setIfInBounds_toArray, List.set_cons_zero, List.set_cons_succ]
  refine wpAnyH_done (by kernel_rfl) ?_ _
  go_wp2_with fail
  refine bodyPost_ret (v := .tuple #[.int .i64 (cutI ((F * 65536).fdiv B)), .int .i64 (cutI ((F' * 65536).fdiv B)), .bool true]) (by unfold results; simp only [Try.results41]; go_simp) rfl ?_
  exact ⟨rfl, hb2, by rw [← HY.out]; exact ⟨_, _, _, _, _, _, _, _, _, _, _, _, hk2, hax, hax2⟩⟩

def GiveSkip (g : Nat) (x F G F' G' B n : Int) (w : World) (e : Ending) (w' : World) : Prop :=
  e = .returned (.bool true) ∧ Below w.heap.size w w' ∧ WKA w' g (x + n) (F + n * G) G (F' + n * G') G' B
theorem ddSkip_neg (g : Nat) (x F G F' G' B n : Int) (hx : -1048577 ≤ x ∧ x ≤ 1048577) (hB : ¬ B = 0) (hn : n < 0) (w : World) (h : WKA w g x F G F' G' B) : Calls Try.prog 43 #[.pointer (some ⟨g, 0, none⟩), .int .i64 n] w fun e w' => e = .returned (.bool false) ∧ w = w' := by
  obtain ⟨a0, a1, a2, a3, a4, a5, b0, b1, b2, b3, b4, b5, h1, h2, h3⟩ := h
  have c0 := h1.cell 0 rfl
  have c7 := h1.cell 7 rfl
  have hd : decide (n < 0) = true := decide_eq_true hn
  skip
  clear h1 h2 h3
  go_enter Try.func43, Try.ntmps43
  go_wp2
  go_ret
  exact ⟨rfl, rfl⟩
theorem ddSkip_far (g : Nat) (x F G F' G' B n : Int) (hx : -1048577 ≤ x ∧ x ≤ 1048577) (hB : ¬ B = 0) (hn : 0 ≤ n ∧ 1048577 - x < n) (w : World) (h : WKA w g x F G F' G' B) : Calls Try.prog 43 #[.pointer (some ⟨g, 0, none⟩), .int .i64 n] w fun e w' => e = .returned (.bool false) ∧ w = w' := by
  obtain ⟨a0, a1, a2, a3, a4, a5, b0, b1, b2, b3, b4, b5, h1, h2, h3⟩ := h
  have c0 := h1.cell 0 rfl
  have c7 := h1.cell 7 rfl
  have hd : decide (n < 0) = false := decide_eq_false (by omega)
  have hd2 : decide (n > 1048577 - x) = true := decide_eq_true (by omega)
  clear h1 h2 h3
  go_enter Try.func43, Try.ntmps43
  go_wp2
  go_ret
  exact ⟨rfl, rfl⟩
theorem fn_at0 (f0 f1 : Value) (w : World) : (Instr.index 109 (.agg #[f0, f1]) (.int .i64 0)).run Try.prog w = .ok f0 w := by kernel_rfl
theorem fn_at1 (f0 f1 : Value) (w : World) : (Instr.index 109 (.agg #[f0, f1]) (.int .i64 1)).run Try.prog w = .ok f1 w := by kernel_rfl
set_option maxRecDepth 100000 in
set_option maxHeartbeats 8000000 in
theorem ddSkip (g : Nat) (x F G F' G' B n : Int) (hx : -1048577 ≤ x ∧ x ≤ 1048577) (hn : 0 ≤ n ∧ n ≤ 1048577 - x) (hX : AXB F G B) (hX' : AXB F' G' B) (w w0 : World) (BB : Below w.heap.size w w0) (hg : w.heap.size ≤ g) (h : WKA w0 g x F G F' G' B) :
    Calls Try.prog 43 #[.pointer (some ⟨g, 0, none⟩), .int .i64 n] w0 (GiveSkip g x F G F' G' B n w) := by
  obtain ⟨a0, a1, a2, a3, a4, a5, b0, b1, b2, b3, b4, b5, r_k, h2, h3⟩ := h
  have hn' : 0 ≤ n ∧ n ≤ 4194304 := by omega
  have CU := Lib.hid (fun y w1 h r => ddskip_u F G B n a0 a1 a2 a3 a4 a5 (.int .i64 y) (.int .i64 b0) (.int .u64 b1) (.int .i64 b2) (.int .u64 b3) (.int .i64 b4) (.int .i64 b5) (.int .i64 B) g hn' hX h2 w w1 h hg r)
  have CV := Lib.hid (fun y q0 q1 l w1 h r => ddskip_v F' G' B n b0 b1 b2 b3 b4 b5 (.int .i64 y) (.int .i64 q0) (.int .u64 q1) (.int .i64 a2) (.int .u64 a3) (.int .i64 l) (.int .i64 a5) (.int .i64 B) g hn' hX' h3 w w1 h hg r)
  have hd : decide (n < 0) = false := decide_eq_false (by omega)
  have hd2 : decide (n > 1048577 - x) = false := decide_eq_false (by omega)
  have hB : ¬ B = 0 := by have := hX.b; omega
  obtain ⟨y, hy⟩ : ∃ y, y = x + n := ⟨_, rfl⟩
  have i1 : wrap64 (x + n) = y := by rw [hy]; exact wr_in (by omega) (by omega)
  have i2 : wrap64 (1048577 - x) = 1048577 - x := wr_in (by omega) (by omega)
  have J0 := fn_at0
  have J1 := fn_at1
  have BB := Lib.hid BB
  have r_k := Lib.hid r_k
  have HY := Lib.hid hy
  clear hX hX' h2 h3 hx hy hn hn'
  go_enter Try.func43, Try.ntmps43
  obtain ⟨c_k0, c_k1, c_k2, c_k3, c_k4, c_k5, c_k6, c_k7, c_k8, c_k9, c_k10, c_k11, c_k12, c_k13, c_k14, f_k0, f_k1, f_k2, f_k3, f_k4, f_k5, f_k6, f_k7, f_k8, f_k9, f_k10, f_k11, f_k12, f_k13, f_k14⟩ := reads15 r_k.out
  have l_k := r_k.out.lt
  go_wp2_with fail
  clear c_k0 c_k1 c_k2 c_k3 c_k4 c_k5 c_k6 c_k7 c_k8 c_k9 c_k10 c_k11 c_k12 c_k13 c_k14 f_k0 f_k1 f_k2 f_k3 f_k4 f_k5 f_k6 f_k7 f_k8 f_k9 f_k10 f_k11 f_k12 f_k13 f_k14 l_k
  replace r_k := Lib.hid (show AtB (w0.setCell ⟨g, 0, none⟩ (.int .i64 y)) (g) #[.int .i64 y, .int .i64 a0, .int .u64 a1, .int .i64 a2, .int .u64 a3, .int .i64 a4, .int .i64 a5, .int .i64 B, .int .i64 b0, .int .u64 b1, .int .i64 b2, .int .u64 b3, .int .i64 b4, .int .i64 b5, .int .i64 B] WK from by have k := (r_k.out.set_n 0 (.int .i64 y)); simpa using k)
  replace BB := Lib.hid (below_set BB.out (b := g) (o := 0) (by omega) (.int .i64 y))
  generalize (w0.setCell ⟨g, 0, none⟩ (.int .i64 y)) = w1 at *
  go_region
  have hb := below_drew (Below.refl w1.heap.size w1)
  generalize w1.drew = w2 at *
  replace r_k := Lib.hid (r_k.out.keep hb)
  replace BB := Lib.hid (below_next BB.out hb)
  clear hb
  go_wp2_with fail
  refine wp_loop_rounds 3 ?_
  rw [rounds_succ]
  go_wp2_with fail
  refine (CU.out y _ BB.out r_k.out).mono ?_
  rintro e w3 ⟨rfl, hb, q0, q1, l, hk, hax⟩
  replace hk := Lib.hid hk; replace hb := Lib.hid hb
  go_wp2_with fail
  rw [rounds_succ]
  go_wp2_with fail
  refine (CV.out y q0 q1 l _ hb.out hk.out).mono ?_
  rintro e w4 ⟨rfl, hb2, q2, q3, l2, hk2, hax2⟩
  replace hk2 := Lib.hid hk2; replace hb2 := Lib.hid hb2
  go_wp2_with fail
  rw [rounds_succ]
  go_wp2_with fail
  go_ret
  exact ⟨rfl, hb2.out, by rw [← HY.out]; exact ⟨_, _, _, _, _, _, _, _, _, _, _, _, hk2.out, hax, hax2⟩⟩

end Go.Proofs.Ytbldgbenlmjmjaa
