/- A region that draws its order within a round of a range over a function: what holds of it anywhere holds there, where no operation is a defer statement. -/
import Derived.RangeFuncLeaves
import Derived.RangeFuncFrom
import Derived.RangeFuncCalls
import Derived.OrdersIn
import Derived.TacticsIn
import Derived.Test.YthoakbjnofhpbaaRegG
set_option linter.unusedVariables false
namespace Go.Proofs.Ythoakbjnofhpbaa
open Go.RowKit
section
variable {P : Program} {Q : Exit → Act → World → Prop}
theorem oper_round {r k : Nat} {o : Oper} {a : Act} {w : World} {K K' : Act → World → Prop} (hd : ∀ c, o.op ≠ .defer c) (hK : ∀ a w, K a w → K' a w) (h : o.wp P a w K Q) : o.wpIn (Fence.wide.inRound r) k P a w K' Q := by
  unfold Oper.wp at h
  unfold Oper.wpIn
  refine ⟨fun f _ => trivial, ?_⟩
  rw [Fence.inRound_round, Oper.semAt_some r _ _ hd]
  generalize (execOp a.eval o).run P w = x at *
  cases x with
  | ok y w' =>
    cases y with
    | value v => exact hK _ _ h
    | skip => exact hK _ _ h
    | defer d => exact hK _ _ h
    | enter f args => exact ⟨fun h => by simp [Fence.wide] at h, CallsIn.inRound r (callsIn_wide.2 (Calls.mono h (fun e w'' he => by cases e <;> first | exact hK _ _ he | exact he)))⟩
    | row q args =>
      refine ⟨fun h => by simp [Fence.wide] at h, fun c cs _ => ?_⟩
      obtain ⟨v, w'', h1, h2⟩ := h c cs
      exact ⟨v, w'', hK _ _ h1, stepsIn_wide.2 h2⟩
    | round l f tmps assign body => exact h.elim
    | _ => exact h.elim
  | halt y w' => cases y <;> exact h
theorem any_round {r k : Nat} {md : Region.Mode} {ops : Array Oper} (hd : ∀ o ∈ ops.toList, ∀ c, o.op ≠ .defer c) (hq : ¬ LetsOut Q) : ∀ (fuel : Nat) (l : Array Bool) (a : Act) (w : World), wpAny P md ops Q fuel l a w → wpAnyIn (Fence.wide.inRound r) k P md ops Q fuel l a w
  | 0, _, _, _, h => h
  | fuel + 1, l, a, w, h => ⟨h.1, fun i hi => by
      have h2 := h.2 i hi
      unfold wpOp at h2
      unfold wpOpIn
      split
      · rename_i hn
        rw [hn] at h2
        exact any_round hd hq fuel _ _ _ h2
      · rename_i o ho
        rw [ho] at h2
        dsimp only at h2
        by_cases hw : Region.wanted o (yielded ops a.tmps) = true
        · rw [if_pos hw] at h2 ⊢
          rcases h2 with h2 | h2
          · exact oper_round (hd o (by have := Array.mem_of_getElem? ho; simpa using this)) (fun a w => any_round hd hq fuel _ a w) h2
          · exact absurd h2.2 hq
        · rw [if_neg hw] at h2 ⊢
          exact ⟨fun f _ => trivial, any_round hd hq fuel _ _ _ h2⟩⟩
/-- A region that draws, in a round: as AnyG has it. -/
theorem region_round {r k id : Nat} {ops : Array Oper} {a : Act} {w : World} (S : World → Prop) (L : Nat) (hm : P.follows .mixedOrders = true) (hd : (ops.all fun o => match o.op with | .defer _ => false | _ => true) = true) (hq : ¬ LetsOut Q)
    (h : AnyG P .any ops Q S L ops.size (Array.replicate ops.size false) a w.drew) : (Code.region id ops true).wpIn (Fence.wide.inRound r) k P Q a w :=
  wpIn_region_any hm (any_round (fun o ho c e => by
    have := Array.all_eq_true_iff_forall_mem.1 hd o (by simpa using ho)
    rw [e] at this
    exact absurd this (by simp)) hq _ _ _ _ (AnyG.any _ _ _ _ h))
end
end Go.Proofs.Ythoakbjnofhpbaa
