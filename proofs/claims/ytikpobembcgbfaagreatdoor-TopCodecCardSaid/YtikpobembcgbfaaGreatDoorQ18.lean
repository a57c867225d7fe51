/- Parts of the proof: MeB Chk. -/
import Derived.Test.YtikpobembcgbfaaGreatDoorQ13
import Derived.Test.YtikpobembcgbfaaGreatDoorQ11
import Derived.RangeFuncLeaves
import Derived.RangeFuncFrom
import Derived.RangeFuncCalls
import Derived.OrdersIn
import Derived.TacticsIn
import Derived.RangeFuncBox
import Derived.Shelf.Abstract
import Derived.WalkKit
import Derived.OwnWalkIn
import Derived.TacticsInMore
import Derived.LoopNIn
import Derived.LoopIn
set_option linter.unusedVariables false
set_option linter.unusedSimpArgs false
set_option maxRecDepth 100000
set_option maxHeartbeats 40000000
namespace Go.Proofs.YtikpobembcgbfaaGreatDoor
open Go.RowKit
section
variable {P : Program} {Q : Exit → Act → World → Prop}
theorem oper_round {r k : Nat} {o : Oper} {a : Act} {w : World} {K K' : Act → World → Prop} (hd : ∀ c, o.op ≠ .defer c) (hK : ∀ a w, K a w → K' a w) (h : o.wp P a w K Q) : o.wpIn (Fence.wide.inRound r) k P a w K' Q := by
 unfold Oper.wp at h
 unfold Oper.wpIn
 refine ⟨fun f _ => trivial, ?_⟩
 rw [Fence.inRound_round, Oper.semAt_some r _ _ hd]
 generalize (execOp a.eval o).run P w = x at *
 cases x with
 | ok y w' =>
   cases y with
   | value v => exact hK _ _ h
   | skip => exact hK _ _ h
   | defer d => exact hK _ _ h
   | enter f args => exact ⟨fun h => by simp [Fence.wide] at h, CallsIn.inRound r (callsIn_wide.2 (Calls.mono h (fun e w'' he => by cases e <;> first | exact hK _ _ he | exact he)))⟩
   | row q args =>
     refine ⟨fun h => by simp [Fence.wide] at h, fun c cs _ => ?_⟩
     obtain ⟨v, w'', h1, h2⟩ := h c cs
     exact ⟨v, w'', hK _ _ h1, stepsIn_wide.2 h2⟩
   | round l f tmps assign body => exact h.elim
   | _ => exact h.elim
 | halt y w' => cases y <;> exact h
theorem any_round {r k : Nat} {md : Region.Mode} {ops : Array Oper} (hd : ∀ o ∈ ops.toList, ∀ c, o.op ≠ .defer c) (hq : ¬ LetsOut Q) : ∀ (fuel : Nat) (l : Array Bool) (a : Act) (w : World), wpAny P md ops Q fuel l a w → wpAnyIn (Fence.wide.inRound r) k P md ops Q fuel l a w
 | 0, _, _, _, h => h
 | fuel + 1, l, a, w, h => ⟨h.1, fun i hi => by
    have h2 := h.2 i hi
    unfold wpOp at h2
    unfold wpOpIn
    split
    · rename_i hn
      rw [hn] at h2
      exact any_round hd hq fuel _ _ _ h2
    · rename_i o ho
      rw [ho] at h2
      dsimp only at h2
      by_cases hw : Region.wanted o (yielded ops a.tmps) = true
      · rw [if_pos hw] at h2 ⊢
        rcases h2 with h2 | h2
        · exact oper_round (hd o (by have := Array.mem_of_getElem? ho; simpa using this)) (fun a w => any_round hd hq fuel _ a w) h2
        · exact absurd h2.2 hq
      · rw [if_neg hw] at h2 ⊢
        exact ⟨fun f _ => trivial, any_round hd hq fuel _ _ _ h2⟩⟩
/-- A region that draws, in a round: as AnyG has it. -/
theorem region_round {r k id : Nat} {ops : Array Oper} {a : Act} {w : World} (S : World → Prop) (L : Nat) (hm : P.follows .mixedOrders = true) (hd : (ops.all fun o => match o.op with | .defer _ => false | _ => true) = true) (hq : ¬ LetsOut Q)
 (h : AnyG P .any ops Q S L ops.size (Array.replicate ops.size false) a w.drew) : (Code.region id ops true).wpIn (Fence.wide.inRound r) k P Q a w :=
 wpIn_region_any hm (any_round (fun o ho c e => by
  have := Array.all_eq_true_iff_forall_mem.1 hd o (by simpa using ho)
  rw [e] at this
  exact absurd this (by simp)) hq _ _ _ _ (AnyG.any _ _ _ _ h))
end
open Go.Shelf
attribute [local go_sem] Oper.semAt_some
theorem grown_drew1 (w : World) : w.grownBy w.drew none := ⟨rfl, rfl, rfl, Nat.le_refl _, fun _ _ _ => rfl⟩
/-- The first k chunks, by their numbers. -/
def uptoF (N k : Nat) : List (Fin N) := (List.finRange N).take k
theorem uptoF_succ {N k : Nat} (h : k < N) : uptoF N (k + 1) = uptoF N k ++ [⟨k, h⟩] := by
 unfold uptoF
 rw [List.take_add_one]
 simp [h]
theorem uptoF_len {N k : Nat} (h : k ≤ N) : (uptoF N k).length = k := by unfold uptoF; simp; omega
theorem uptoF_all (N : Nat) : uptoF N N = List.finRange N := by unfold uptoF; rw [List.take_of_length_le (by simp)]
/-- Two blocks that are as they were. -/
def Kept2 (B1 B2 : Nat) (W W' : World) : Prop := W'.heap[B1]? = W.heap[B1]? ∧ W'.heap[B2]? = W.heap[B2]?
theorem Kept2.refl (B1 B2 : Nat) (W : World) : Kept2 B1 B2 W W := ⟨rfl, rfl⟩
theorem Kept2.trans {B1 B2 : Nat} {A B C : World} (h : Kept2 B1 B2 A B) (k : Kept2 B1 B2 B C) : Kept2 B1 B2 A C := ⟨k.1.trans h.1, k.2.trans h.2⟩
theorem Kept2.put {B1 B2 : Nat} {w : World} (h1 : B1 < w.heap.size) (h2 : B2 < w.heap.size) (W : World) (l : Nat) (o o' : Obj) (hl : w.heap.size ≤ l) (h : W.heap[l]? = some o) : Kept2 B1 B2 W (W.putObj l o') := by
 have hg := grownBy_putObj' W l o'
 have hlt : l < W.heap.size := (Array.getElem?_eq_some_iff.1 h).1
 exact ⟨hg.block B1 (by omega) (by simp; omega), hg.block B2 (by omega) (by simp; omega)⟩
/-- The k-th chunk. -/
def chF3 (b off : Nat) {N : Nat} (x : Fin N) : Array Value := #[.slice (some ⟨b, off + 3 * x.1, none⟩) 3 3]
theorem chunk3_in (l B1 B2 b off cap N : Nat) (hN : N ≤ 100000) (hcap : 3 * N ≤ cap) (J Jx : List (Fin N) → World → Prop)
 (hY : ∀ pre x W, J pre W → pre.length < N → YieldAt Fence.wide 2 Tryz.prog l (chF3 b off x) W fun e W' =>
   (e = .returned (.bool true) ∧ J (pre ++ [x]) W' ∧ Kept2 B1 B2 W W') ∨ (e = .returned (.bool false) ∧ Jx (pre ++ [x]) W'))
 (W : World) (hJ : AbidesFrom W.heap.size J) (hB1 : W.cell? ⟨B1, 0, none⟩ = some (.slice (some ⟨b, off, none⟩) (3 * N) cap)) (hB2 : W.cell? ⟨B2, 0, none⟩ = some (.int .i64 3)) (h0 : J [] W) :
 CallsIn Fence.wide 3 Tryz.prog 367 #[.func (.yield l) #[] #[], .pointer (some ⟨B1, 0, none⟩), .pointer (some ⟨B2, 0, none⟩)] W fun e W' => (∃ v, e = .returned v) ∧
  ((∃ ys, ys = List.finRange N ∧ J ys W') ∨ (∃ pre, True ∧ Jx pre W')) := by
 refine callsIn_of_wp Tryz.func367 rfl trivial ?_ rfl
 simp only [Tryz.ntmps367, List.size_toArray, List.length_cons, List.length_nil, Nat.reduceAdd, Nat.reduceSub, Array.replicate_succ, Array.replicate_zero, List.push_toArray, List.append_toArray, List.nil_append, List.cons_append]
 gi_wp2
 gi_loopw [4] (fun i wr => ∃ k : Nat, k ≤ N ∧ i = .int .i64 ((3 * k : Nat) : Int) ∧ J (uptoF N k) wr ∧ Kept2 B1 B2 W wr)
  (fun i _ => 3 * N - (intOf i).toNat)
 case atStart => exact ⟨0, Nat.zero_le _, rfl, h0, Kept2.refl _ _ _⟩
 case round =>
  obtain ⟨k, hk, rfl, hJs, hnx⟩ := hrel
  have hc1 := (World.cell?_of_block (a := ⟨B1, 0, none⟩) hnx.1).trans hB1
  have hc2 := (World.cell?_of_block (a := ⟨B2, 0, none⟩) hnx.2).trans hB2
  by_cases hlt : k < N
  · have hJd : J (uptoF N k) wr.drew := hJ _ _ _ none hJs (grown_drew1 wr) (fun r e => by cases e)
    obtain ⟨fn, tmps, assign, body, hy, hR⟩ := hY _ ⟨k, hlt⟩ wr.drew hJd (by rw [uptoF_len (by omega)]; exact hlt)
    simp only [chF3] at hy
    have hd1 : wr.drew.cell? ⟨B1, 0, none⟩ = some (.slice (some ⟨b, off, none⟩) (3 * N) cap) := hc1
    have hd2 : wr.drew.cell? ⟨B2, 0, none⟩ = some (.int .i64 3) := hc2
    obtain ⟨p, hp⟩ : ∃ p, p = 3 * k := ⟨_, rfl⟩
    obtain ⟨M, hM⟩ : ∃ v, v = 3 * N := ⟨_, rfl⟩
    rw [← hp] at hy ⊢
    rw [← hM] at hcap hB1 hc1 hd1 ⊢
    have i0 : (0 : Int) ≤ (p : Int) := by omega
    have i1 : (p : Int) < (M : Int) := by omega
    have i2 : ¬ (((M - p : Nat) : Int) < 3) := by omega
    have i3 : ¬ (M - p < 3) := by omega
    have i4 : (p : Int) ≤ (M : Int) := by omega
    have i5 : p ≤ M := by omega
    have i6 : ¬ p = cap := by omega
    have i7 : ¬ cap = p := by omega
    have i8 : (p : Int) ≤ (cap : Int) := by omega
    have e0 : IntKind.i64.wrap ((p : Int) + 3) = ((p + 3 : Nat) : Int) := by rw [show (p : Int) + 3 = ((p + 3 : Nat) : Int) by omega]; exact iw ⟨by omega, by omega⟩
    have i9 : (p : Int) ≤ ((p + 3 : Nat) : Int) := by omega
    have j0 : ((p + 3 : Nat) : Int) ≤ (cap : Int) := by omega
    have j1 : p ≤ p + 3 := by omega
    have j2 : p + 3 ≤ cap := by omega
    have j3 : (0 : Int) ≤ ((p + 3 : Nat) : Int) := by omega
    have j4 : p + 3 - p = 3 := by omega
    have hlt' := Lib.hid hlt
    have hm : Hid (M - 3 * (k + 1) < M - p) := by show _ < _; omega
    have hq : Hid (((p + 3 : Nat) : Int) = ((3 * (k + 1) : Nat) : Int)) := by show _ = _; omega
    have hk1 : Hid (k + 1 ≤ N) := by show _ ≤ _; omega
    replace hp := Lib.hid hp; replace hM := Lib.hid hM
    clear hcap
    refine wpIn_wide.2 ?_
    go_upto_region 3 with fail
    go_region_held3 (fun w9 => w9.cell? ⟨B1, 0, none⟩ = some (.slice (some ⟨b, off, none⟩) M cap) ∧ w9.cell? ⟨B2, 0, none⟩ = some (.int .i64 3)) (exact ⟨hd1, hd2⟩) (fail)
    go_upto_region 4 with fail
    refine (wpIn_wide (n := 3)).1 ?_
    gi_wp2
    refine hR.mono ?_
    rintro e W3 (⟨rfl, hJ3, hk3⟩ | ⟨rfl, hJx3⟩)
    · have hc2' := (World.cell?_of_block (a := ⟨B2, 0, none⟩) hk3.2).trans hd2
      have hJ4 := Lib.hid (show J (uptoF N (k + 1)) W3 from by rw [uptoF_succ hlt'.out]; exact hJ3)
      have hB4 := Lib.hid (show Kept2 B1 B2 W W3 from Kept2.trans (Kept2.trans hnx ⟨rfl, rfl⟩) hk3)
      gi_wp2
      go_wp2_with fail
      go_roundw
      case rel => exact ⟨k + 1, hk1.out, by rw [← hq.out]; go_num, hJ4.out, hB4.out⟩
      case measure => have := hm.out; have := hM.out; have := hq.out; simp [intOf]; omega
    · gi_wp2
      go_wp2_with fail
      refine bodyPost_ret (results_none rfl _ _ _) rfl ?_
      exact ⟨⟨_, rfl⟩, .inr ⟨_, trivial, hJx3⟩⟩
  · obtain rfl : k = N := by omega
    gi_wp2
    go_end0
    exact ⟨⟨_, rfl⟩, .inl ⟨_, uptoF_all _, hJs⟩⟩
/-- slices.Chunk(s, 3): both are boxed; the function value captures the boxes. -/
theorem chunk3_any (b off len cap : Nat) (w : World) : Calls Tryz.prog 284 #[.slice (some ⟨b, off, none⟩) len cap, .int .i64 3] w fun e w' => e = .returned (.func (.func 367) #[] #[.pointer (some ⟨w.heap.size, 0, none⟩), .pointer (some ⟨w.heap.size + 1, 0, none⟩)]) ∧ w' = (w.alloc (.cells #[.slice (some ⟨b, off, none⟩) len cap] 22)).alloc (.cells #[.int .i64 3] 3) := by
 go_enter Tryz.func284, Tryz.ntmps284
 go_wp2
 go_ret
 exact ⟨rfl, rfl⟩
theorem chunk3_stops (B1 B2 b off cap N : Nat) (hN : N ≤ 100000) (hcap : 3 * N ≤ cap) (w : World) (hb1 : B1 < w.heap.size) (hb2 : B2 < w.heap.size) (hB1 : w.cell? ⟨B1, 0, none⟩ = some (.slice (some ⟨b, off, none⟩) (3 * N) cap)) (hB2 : w.cell? ⟨B2, 0, none⟩ = some (.int .i64 3)) :
 SeqStopsK Fence.wide 3 Tryz.prog 367 #[.pointer (some ⟨B1, 0, none⟩), .pointer (some ⟨B2, 0, none⟩)] (chF3 b off) (Kept2 B1 B2) (fun ys => ys = List.finRange N) (fun pre => True) N w := fun l J Jx W hW hJ _ hY h0 =>
 chunk3_in l B1 B2 b off cap N hN hcap J Jx hY W hJ ((hW.cell (p := ⟨B1, 0, none⟩) hb1).trans hB1) ((hW.cell (p := ⟨B2, 0, none⟩) hb2).trans hB2) h0
/-- The k-th chunk. -/
def chF4 (b off : Nat) {N : Nat} (x : Fin N) : Array Value := #[.slice (some ⟨b, off + 4 * x.1, none⟩) 4 4]
theorem chunk4_in (l B1 B2 b off cap N : Nat) (hN : N ≤ 100000) (hcap : 4 * N ≤ cap) (J Jx : List (Fin N) → World → Prop)
 (hY : ∀ pre x W, J pre W → pre.length < N → YieldAt Fence.wide 2 Tryz.prog l (chF4 b off x) W fun e W' =>
   (e = .returned (.bool true) ∧ J (pre ++ [x]) W' ∧ Kept2 B1 B2 W W') ∨ (e = .returned (.bool false) ∧ Jx (pre ++ [x]) W'))
 (W : World) (hJ : AbidesFrom W.heap.size J) (hB1 : W.cell? ⟨B1, 0, none⟩ = some (.slice (some ⟨b, off, none⟩) (4 * N) cap)) (hB2 : W.cell? ⟨B2, 0, none⟩ = some (.int .i64 4)) (h0 : J [] W) :
 CallsIn Fence.wide 3 Tryz.prog 367 #[.func (.yield l) #[] #[], .pointer (some ⟨B1, 0, none⟩), .pointer (some ⟨B2, 0, none⟩)] W fun e W' => (∃ v, e = .returned v) ∧
  ((∃ ys, ys = List.finRange N ∧ J ys W') ∨ (∃ pre, True ∧ Jx pre W')) := by
 refine callsIn_of_wp Tryz.func367 rfl trivial ?_ rfl
 simp only [Tryz.ntmps367, List.size_toArray, List.length_cons, List.length_nil, Nat.reduceAdd, Nat.reduceSub, Array.replicate_succ, Array.replicate_zero, List.push_toArray, List.append_toArray, List.nil_append, List.cons_append]
 gi_wp2
 gi_loopw [4] (fun i wr => ∃ k : Nat, k ≤ N ∧ i = .int .i64 ((4 * k : Nat) : Int) ∧ J (uptoF N k) wr ∧ Kept2 B1 B2 W wr)
  (fun i _ => 4 * N - (intOf i).toNat)
 case atStart => exact ⟨0, Nat.zero_le _, rfl, h0, Kept2.refl _ _ _⟩
 case round =>
  obtain ⟨k, hk, rfl, hJs, hnx⟩ := hrel
  have hc1 := (World.cell?_of_block (a := ⟨B1, 0, none⟩) hnx.1).trans hB1
  have hc2 := (World.cell?_of_block (a := ⟨B2, 0, none⟩) hnx.2).trans hB2
  by_cases hlt : k < N
  · have hJd : J (uptoF N k) wr.drew := hJ _ _ _ none hJs (grown_drew1 wr) (fun r e => by cases e)
    obtain ⟨fn, tmps, assign, body, hy, hR⟩ := hY _ ⟨k, hlt⟩ wr.drew hJd (by rw [uptoF_len (by omega)]; exact hlt)
    simp only [chF4] at hy
    have hd1 : wr.drew.cell? ⟨B1, 0, none⟩ = some (.slice (some ⟨b, off, none⟩) (4 * N) cap) := hc1
    have hd2 : wr.drew.cell? ⟨B2, 0, none⟩ = some (.int .i64 4) := hc2
    obtain ⟨p, hp⟩ : ∃ p, p = 4 * k := ⟨_, rfl⟩
    obtain ⟨M, hM⟩ : ∃ v, v = 4 * N := ⟨_, rfl⟩
    rw [← hp] at hy ⊢
    rw [← hM] at hcap hB1 hc1 hd1 ⊢
    have i0 : (0 : Int) ≤ (p : Int) := by omega
    have i1 : (p : Int) < (M : Int) := by omega
    have i2 : ¬ (((M - p : Nat) : Int) < 4) := by omega
    have i3 : ¬ (M - p < 4) := by omega
    have i4 : (p : Int) ≤ (M : Int) := by omega
    have i5 : p ≤ M := by omega
    have i6 : ¬ p = cap := by omega
    have i7 : ¬ cap = p := by omega
    have i8 : (p : Int) ≤ (cap : Int) := by omega
    have e0 : IntKind.i64.wrap ((p : Int) + 4) = ((p + 4 : Nat) : Int) := by rw [show (p : Int) + 4 = ((p + 4 : Nat) : Int) by omega]; exact iw ⟨by omega, by omega⟩
    have i9 : (p : Int) ≤ ((p + 4 : Nat) : Int) := by omega
    have j0 : ((p + 4 : Nat) : Int) ≤ (cap : Int) := by omega
    have j1 : p ≤ p + 4 := by omega
    have j2 : p + 4 ≤ cap := by omega
    have j3 : (0 : Int) ≤ ((p + 4 : Nat) : Int) := by omega
    have j4 : p + 4 - p = 4 := by omega
    have hlt' := Lib.hid hlt
    have hm : Hid (M - 4 * (k + 1) < M - p) := by show _ < _; omega
    have hq : Hid (((p + 4 : Nat) : Int) = ((4 * (k + 1) : Nat) : Int)) := by show _ = _; omega
    have hk1 : Hid (k + 1 ≤ N) := by show _ ≤ _; omega
    replace hp := Lib.hid hp; replace hM := Lib.hid hM
    clear hcap
    refine wpIn_wide.2 ?_
    go_upto_region 3 with fail
    go_region_held3 (fun w9 => w9.cell? ⟨B1, 0, none⟩ = some (.slice (some ⟨b, off, none⟩) M cap) ∧ w9.cell? ⟨B2, 0, none⟩ = some (.int .i64 4)) (exact ⟨hd1, hd2⟩) (fail)
    go_upto_region 4 with fail
    refine (wpIn_wide (n := 3)).1 ?_
    gi_wp2
    refine hR.mono ?_
    rintro e W3 (⟨rfl, hJ3, hk3⟩ | ⟨rfl, hJx3⟩)
    · have hc2' := (World.cell?_of_block (a := ⟨B2, 0, none⟩) hk3.2).trans hd2
      have hJ4 := Lib.hid (show J (uptoF N (k + 1)) W3 from by rw [uptoF_succ hlt'.out]; exact hJ3)
      have hB4 := Lib.hid (show Kept2 B1 B2 W W3 from Kept2.trans (Kept2.trans hnx ⟨rfl, rfl⟩) hk3)
      gi_wp2
      go_wp2_with fail
      go_roundw
      case rel => exact ⟨k + 1, hk1.out, by rw [← hq.out]; go_num, hJ4.out, hB4.out⟩
      case measure => have := hm.out; have := hM.out; have := hq.out; simp [intOf]; omega
    · gi_wp2
      go_wp2_with fail
      refine bodyPost_ret (results_none rfl _ _ _) rfl ?_
      exact ⟨⟨_, rfl⟩, .inr ⟨_, trivial, hJx3⟩⟩
  · obtain rfl : k = N := by omega
    gi_wp2
    go_end0
    exact ⟨⟨_, rfl⟩, .inl ⟨_, uptoF_all _, hJs⟩⟩
/-- slices.Chunk(s, 4): both are boxed; the function value captures the boxes. -/
theorem chunk4_any (b off len cap : Nat) (w : World) : Calls Tryz.prog 284 #[.slice (some ⟨b, off, none⟩) len cap, .int .i64 4] w fun e w' => e = .returned (.func (.func 367) #[] #[.pointer (some ⟨w.heap.size, 0, none⟩), .pointer (some ⟨w.heap.size + 1, 0, none⟩)]) ∧ w' = (w.alloc (.cells #[.slice (some ⟨b, off, none⟩) len cap] 22)).alloc (.cells #[.int .i64 4] 3) := by
 go_enter Tryz.func284, Tryz.ntmps284
 go_wp2
 go_ret
 exact ⟨rfl, rfl⟩
theorem chunk4_stops (B1 B2 b off cap N : Nat) (hN : N ≤ 100000) (hcap : 4 * N ≤ cap) (w : World) (hb1 : B1 < w.heap.size) (hb2 : B2 < w.heap.size) (hB1 : w.cell? ⟨B1, 0, none⟩ = some (.slice (some ⟨b, off, none⟩) (4 * N) cap)) (hB2 : w.cell? ⟨B2, 0, none⟩ = some (.int .i64 4)) :
 SeqStopsK Fence.wide 3 Tryz.prog 367 #[.pointer (some ⟨B1, 0, none⟩), .pointer (some ⟨B2, 0, none⟩)] (chF4 b off) (Kept2 B1 B2) (fun ys => ys = List.finRange N) (fun pre => True) N w := fun l J Jx W hW hJ _ hY h0 =>
 chunk4_in l B1 B2 b off cap N hN hcap J Jx hY W hJ ((hW.cell (p := ⟨B1, 0, none⟩) hb1).trans hB1) ((hW.cell (p := ⟨B2, 0, none⟩) hb2).trans hB2) h0
end Go.Proofs.YtikpobembcgbfaaGreatDoor
