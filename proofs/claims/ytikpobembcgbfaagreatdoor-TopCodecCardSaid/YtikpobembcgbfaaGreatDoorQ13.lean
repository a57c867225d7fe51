/- Parts of the proof: RegG. -/
import Derived.Test.YtikpobembcgbfaaGreatDoorQ02
import Derived.Deep.RegionHeld3
set_option linter.unusedVariables false
set_option linter.unusedSimpArgs false
set_option maxRecDepth 100000
set_option maxHeartbeats 40000000
namespace Go.Proofs.YtikpobembcgbfaaGreatDoor
open Go.RowKit
section
variable {P : Program} {ops : Array Oper} {Q : Exit → Act → World → Prop} {md : Region.Mode} {S : World → Prop} {L : Nat}
def AnyG (P : Program) (md : Region.Mode) (ops : Array Oper) (Q : Exit → Act → World → Prop) (S : World → Prop) (L : Nat) : Nat → Array Bool → Act → World → Prop
 | 0, l, a, w => Region.ready md ops l = [] ∧ Q .normal a w
 | n + 1, l, a, w => (Region.ready md ops l = [] → Q .normal a w) ∧
   ∀ i ∈ Region.ready md ops l, wpOp P ops Q i (fun b x => ((l.setIfInBounds i true).getD L false = false → S x) ∧ AnyG P md ops Q S L n (l.setIfInBounds i true) b x) a w
theorem AnyG.any : ∀ (n : Nat) (l : Array Bool) (a : Act) (w : World), AnyG P md ops Q S L n l a w → wpAny P md ops Q n l a w
 | 0, _, _, _, h => h
 | n + 1, _, _, _, h => ⟨h.1, fun i hi => wpOp_mono (fun b x k => AnyG.any n _ b x k.2) (h.2 i hi)⟩
/-- j waits for number i, by way of others too. -/
def reach (md : Region.Mode) (ops : Array Oper) : Nat → Nat → Nat → Bool
 | 0, _, _ => false
 | n + 1, j, i => match ops[j]? with | some o => o.after.any (fun e => Region.binds md e && (e.on == i || reach md ops n e.on i)) | none => false
/-- What has come up had what it waits for come up. -/
def Closed (md : Region.Mode) (ops : Array Oper) (l : Array Bool) : Prop := ∀ j o, l.getD j false = true → ops[j]? = some o → ∀ e ∈ o.after, Region.binds md e = true → l.getD e.on false = true
def closedB (md : Region.Mode) (ops : Array Oper) (l : Array Bool) : Bool := (List.range ops.size).all fun j => !l.getD j false || match ops[j]? with | some o => o.after.all (fun e => !Region.binds md e || l.getD e.on false) | none => true
theorem Closed.of {l : Array Bool} (h : closedB md ops l = true) : Closed md ops l := by
 intro j o hj ho e he hb
 unfold closedB at h
 rw [List.all_eq_true] at h
 have := h j (List.mem_range.2 (Array.getElem?_eq_some_iff.1 ho).1)
 rw [hj, ho] at this
 simp only [Bool.not_true, Bool.false_or] at this
 have := Array.all_eq_true_iff_forall_mem.1 this e he
 rw [hb] at this
 simpa using this
theorem Closed.step {l : Array Bool} (h : Closed md ops l) {i : Nat} (hi : i ∈ Region.ready md ops l) : Closed md ops (l.setIfInBounds i true) := by
 intro j o hj ho e he hb
 refine getD_set_true ?_
 by_cases hij : i = j
 · subst hij
   obtain ⟨-, o', ho', hall⟩ := mem_ready.1 hi
   rw [ho] at ho'
   cases ho'
   exact hall e he hb
 · rw [getD_set_ne false hij] at hj
   exact h j o hj ho e he hb
theorem reach_listed {l : Array Bool} (hc : Closed md ops l) {i : Nat} : ∀ (n j : Nat) (o : Oper), ops[j]? = some o → (∀ e ∈ o.after, Region.binds md e = true → l.getD e.on false = true) → reach md ops n j i = true → l.getD i false = true
 | 0, _, _, _, _, h => by simp [reach] at h
 | n + 1, j, o, ho, hall, h => by
   unfold reach at h
   rw [ho] at h
   obtain ⟨e, he, hb⟩ := Array.any_eq_true'.1 h
   simp only [Bool.and_eq_true, Bool.or_eq_true, beq_iff_eq] at hb
   have hl := hall e he hb.1
   rcases hb.2 with k | k
   · rw [k] at hl; exact hl
   · cases ho' : ops[e.on]? with
     | none =>
       cases n with
       | zero => simp [reach] at k
       | succ n => unfold reach at k; rw [ho'] at k; simp at k
     | some o' => exact reach_listed hc n e.on o' ho' (fun e' he' hb' => hc e.on o' hl ho' e' he' hb') k
theorem waits_ready {i n : Nat} {l : Array Bool} (hc : Closed md ops l) (hw : reach md ops n L i = true) (hr : L ∈ Region.ready md ops l) : l.getD i false = true := by
 obtain ⟨-, o, ho, hall⟩ := mem_ready.1 hr
 exact reach_listed hc n L o ho hall hw
theorem unlisted {l : Array Bool} {i : Nat} (h : l.getD i true = false) : l.getD i false = false := by
 rcases Nat.lt_or_ge i l.size with k | k
 · simp [k] at h ⊢; exact h
 · simp [Array.getElem?_eq_none k] at h
theorem set_unlisted {l : Array Bool} {i k : Nat} (h : (l.setIfInBounds i true).getD k false = false) : l.getD k false = false := by
 cases hk : l.getD k false
 · rfl
 · rw [getD_set_true hk] at h; cases h
theorem AnyG.first {i : Nat} {oi : Oper} {v : Value} (hi : ops[i]? = some oi) (hsel : ∀ (j : Nat) (o : Oper) cs b, ops[j]? = some o → o.op ≠ .select cs b)
 (hQ : ∀ c a w, Q (.panic c) (a.put oi.dst v) w → Q (.panic c) a w) {N : Nat} (hL : reach md ops N L i = true) :
 ∀ (n : Nat) (l : Array Bool) (a : Act) (w : World), Closed md ops l →
   (∀ j oj, ops[j]? = some oj → j ≠ i → l.getD j true = false → (∀ e ∈ oj.after, Region.binds md e = true → e.on ≠ i) → oi.apart ops oj = true) →
   i ∈ Region.ready md ops l → YieldsIf P ops S oi v a → S w →
   AnyG P md ops Q S L n (l.setIfInBounds i true) (a.put oi.dst v) w → AnyG P md ops Q S L (n + 1) l a w := by
 intro n
 induction n with
 | zero =>
   intro l a w hc _ hr hy hS H
   refine ⟨fun h => (by rw [h] at hr; cases hr), fun j hj => ?_⟩
   by_cases hji : j = i
   · subst hji
     exact hy.wpOp hi hS ⟨fun _ => hS, H⟩
   · have := ready_mono hj hji
     rw [H.1] at this
     cases this
 | succ n ih =>
   intro l a w hc hfree hr hy hS H
   have hun := (mem_ready.1 hr).1
   have hlL : l.getD L false = false := by
    cases hk : l.getD L false
    · rfl
    · exfalso
      cases ho : ops[L]? with
      | none =>
        cases N with
        | zero => simp [reach] at hL
        | succ N => unfold reach at hL; rw [ho] at hL; simp at hL
      | some o =>
        have := reach_listed hc N L o ho (fun e he hb => hc L o hk ho e he hb) hL
        rw [unlisted hun] at this
        cases this
   have hiL : i ≠ L := by
    rintro rfl
    have h1 := waits_ready hc hL hr
    rw [unlisted hun] at h1
    cases h1
   refine ⟨fun h => (by rw [h] at hr; cases hr), fun j hj => ?_⟩
   by_cases hji : j = i
   · subst hji
     exact hy.wpOp hi hS ⟨fun _ => hS, H⟩
   · have hjL : j ≠ L := by
      rintro rfl
      have h1 := waits_ready hc hL hj
      rw [unlisted hun] at h1
      cases h1
     have hS' : ((l.setIfInBounds i true).setIfInBounds j true).getD L false = false := by rw [getD_set_ne false hjL, getD_set_ne false hiL]; exact hlL
     obtain ⟨hjun, oj, hoj, hall⟩ := mem_ready.1 hj
     have hnot : ∀ e ∈ oj.after, Region.binds md e = true → e.on ≠ i := fun e he hb heq => by
      have h1 := hall e he hb
      rw [heq, unlisted hun] at h1
      cases h1
     have h2 := wpOp_putIf hoj (hfree j oj hoj hji hjun hnot) (fun cs b => hsel i oi cs b hi) (fun cs b => hsel j oj cs b hoj) hQ hy (H.2 j (ready_mono hj hji))
     have hfree' : ∀ k ok, ops[k]? = some ok → k ≠ i → (l.setIfInBounds j true).getD k true = false →
      (∀ e ∈ ok.after, Region.binds md e = true → e.on ≠ i) → oi.apart ops ok = true := fun k ok hk hki hu hno => by
      refine hfree k ok hk hki ?_ hno
      by_cases hjk : j = k
      · subst hjk; exact hjun
      · rw [getD_set_ne true hjk] at hu; exact hu
     refine wpOp_mono (fun b x k => ⟨fun _ => k.2.1 hS', ih (l.setIfInBounds j true) b x (hc.step hj) hfree' (ready_mono hr (Ne.symm hji)) k.1 (k.2.1 hS') ?_⟩) h2
     rw [Array.setIfInBounds_comm _ _ hji]
     exact k.2.2
/-- The same for an operation that yields its value in whatever world: nobody need wait for it. -/
theorem AnyG.first0 {i : Nat} {oi : Oper} {v : Value} (hi : ops[i]? = some oi) (hsel : ∀ (j : Nat) (o : Oper) cs b, ops[j]? = some o → o.op ≠ .select cs b)
 (hQ : ∀ c a w, Q (.panic c) (a.put oi.dst v) w → Q (.panic c) a w) (hiL : i ≠ L) :
 ∀ (n : Nat) (l : Array Bool) (a : Act) (w : World),
   (∀ j oj, ops[j]? = some oj → j ≠ i → l.getD j true = false → (∀ e ∈ oj.after, Region.binds md e = true → e.on ≠ i) → oi.apart ops oj = true) →
   i ∈ Region.ready md ops l → YieldsIf P ops (fun _ => True) oi v a → (l.getD L false = false → S w) →
   AnyG P md ops Q S L n (l.setIfInBounds i true) (a.put oi.dst v) w → AnyG P md ops Q S L (n + 1) l a w := by
 intro n
 induction n with
 | zero =>
   intro l a w _ hr hy hS H
   refine ⟨fun h => (by rw [h] at hr; cases hr), fun j hj => ?_⟩
   by_cases hji : j = i
   · subst hji
     exact hy.wpOp hi trivial ⟨fun h => hS (set_unlisted h), H⟩
   · have := ready_mono hj hji
     rw [H.1] at this
     cases this
 | succ n ih =>
   intro l a w hfree hr hy hS H
   have hun := (mem_ready.1 hr).1
   refine ⟨fun h => (by rw [h] at hr; cases hr), fun j hj => ?_⟩
   by_cases hji : j = i
   · subst hji
     exact hy.wpOp hi trivial ⟨fun h => hS (set_unlisted h), H⟩
   · obtain ⟨hjun, oj, hoj, hall⟩ := mem_ready.1 hj
     have hnot : ∀ e ∈ oj.after, Region.binds md e = true → e.on ≠ i := fun e he hb heq => by
      have h1 := hall e he hb
      rw [heq, unlisted hun] at h1
      cases h1
     have h2 := wpOp_putIf hoj (hfree j oj hoj hji hjun hnot) (fun cs b => hsel i oi cs b hi) (fun cs b => hsel j oj cs b hoj) hQ hy (H.2 j (ready_mono hj hji))
     have hfree' : ∀ k ok, ops[k]? = some ok → k ≠ i → (l.setIfInBounds j true).getD k true = false →
      (∀ e ∈ ok.after, Region.binds md e = true → e.on ≠ i) → oi.apart ops ok = true := fun k ok hk hki hu hno => by
      refine hfree k ok hk hki ?_ hno
      by_cases hjk : j = k
      · subst hjk; exact hjun
      · rw [getD_set_ne true hjk] at hu; exact hu
     have hsw : ((l.setIfInBounds i true).setIfInBounds j true).getD L false = (l.setIfInBounds j true).getD L false := by rw [Array.setIfInBounds_comm _ _ (Ne.symm hji), getD_set_ne false hiL]
     refine wpOp_mono (fun b x k => ⟨fun h => k.2.1 (hsw.trans h), ih (l.setIfInBounds j true) b x hfree' (ready_mono hr (Ne.symm hji)) k.1 (fun h => k.2.1 (hsw.trans h)) ?_⟩) h2
     rw [Array.setIfInBounds_comm _ _ hji]
     exact k.2.2
theorem AnyG.take {i : Nat} {oi : Oper} {v : Value} {n : Nat} {l : Array Bool} {a : Act} {w : World} (hi : ops[i]? = some oi)
 (hs : Region.noSelect ops = true) (hf : Region.free md ops l i = true) (hr : (Region.ready md ops l).contains i = true)
 (hQ : ∀ c a w, Q (.panic c) (a.put oi.dst v) w → Q (.panic c) a w) (hL : reach md ops ops.size L i = true) (hc : closedB md ops l = true) (hy : YieldsIf P ops S oi v a) (hS : S w)
 (h : AnyG P md ops Q S L n (l.setIfInBounds i true) (a.put oi.dst v) w) : AnyG P md ops Q S L (n + 1) l a w :=
 AnyG.first hi (Region.noSelect_spec hs) hQ hL n l a w (Closed.of hc) (Region.free_spec hi hf) (by simpa using hr) hy hS h
theorem AnyG.take0 {i : Nat} {oi : Oper} {v : Value} {n : Nat} {l : Array Bool} {a : Act} {w : World} (hi : ops[i]? = some oi)
 (hs : Region.noSelect ops = true) (hf : Region.free md ops l i = true) (hr : (Region.ready md ops l).contains i = true)
 (hQ : ∀ c a w, Q (.panic c) (a.put oi.dst v) w → Q (.panic c) a w) (hiL : i ≠ L) (hy : YieldsIf P ops (fun _ => True) oi v a) (hS : S w)
 (h : AnyG P md ops Q S L n (l.setIfInBounds i true) (a.put oi.dst v) w) : AnyG P md ops Q S L (n + 1) l a w :=
 AnyG.first0 hi (Region.noSelect_spec hs) hQ hiL n l a w (Region.free_spec hi hf) (by simpa using hr) hy (fun _ => hS) h
/-- The one that comes up is number i (no other may): a call, an alloc, a store. -/
theorem AnyG.step {i : Nat} {o : Oper} {n : Nat} {l : Array Bool} {a : Act} {w : World} (hr : Region.ready md ops l = [i]) (ho : ops[i]? = some o)
 (h : ∀ K' : Act → World → Prop, Shut (∀ b x, ((l.setIfInBounds i true).getD L false = false → S x) → (((l.setIfInBounds i true).getD L false = false → S x) → AnyG P md ops Q S L n (l.setIfInBounds i true) b x) → K' b x) → if Region.wanted o (yielded ops a.tmps) = true then Oper.wp P o a w K' Q else K' (a.put o.dst undef) w) :
 AnyG P md ops Q S L (n + 1) l a w :=
 ⟨fun h0 => absurd (hr ▸ h0) (by simp), fun j hj => by
  rw [hr] at hj
  obtain rfl := List.mem_singleton.1 hj
  exact wpOp_step ho (fun K' hK => h K' (fun b x hS hW => hK b x ⟨hS, hW hS⟩))⟩
theorem AnyG.done {l : Array Bool} {a : Act} {w : World} (hr : Region.ready md ops l = []) (h : Q .normal a w) : ∀ n, AnyG P md ops Q S L n l a w
 | 0 => ⟨hr, h⟩
 | _ + 1 => ⟨fun _ => h, by rw [hr]; simp⟩
theorem AnyG.begin_ {id : Nat} {a : Act} {w : World} (S : World → Prop) (L : Nat) (hm : P.follows .mixedOrders = true)
 (h : AnyG P .any ops Q S L ops.size (Array.replicate ops.size false) a w.drew) : (Code.region id ops true).wp P Q a w :=
 wp_region_any hm (AnyG.any _ _ _ _ h)
end
end Go.Proofs.YtikpobembcgbfaaGreatDoor
