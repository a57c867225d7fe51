/- From a walk to the given statement: for a law (one bool back, its arguments read as before) whose walk returns true and leaves all that was there as it was ('Below'), whatever the arguments' types. -/
import Derived.Test.YtommpclkiiffpaaRows
import Derived.ProofKit
import Derived.Carry
import Derived.Below
import Derived.KernelRfl
namespace Go.Proofs.Ytommpclkiiffpaa
open Go.ChangeShapes Go.WideShapes Go.ChangeAt Go.RowKit

theorem own : ownKnob Try.prog.godebug = none := by kernel_rfl
theorem laidOut : laidOutB Try.prog = true := by kernel_rfl

section
variable {H : Type} {enc : TypeId × Value → H}

/-- Each argument reads as it did, where nothing that was there has turned. -/
theorem trodAll_kept {W W' : World} (hb : Below W.heap.size W W') :
    ∀ (ts : List TypeId) (vs : List Value) (ds : List (DataW H)) (ps : List MemPlace), (ts.all fun t => Try.prog.readableRec t && decide (t < Try.prog.types.size)) = true →
      DataW.TrodAll enc Try.prog W 0 (fun _ => true) true ts vs ds ps → (∀ x ∈ ps, x.block < W.heap.size) →
      DataW.TrodAll enc Try.prog W' 0 (fun b => decide (b < W.heap.size)) true ts vs ds ps := by
  intro ts
  induction ts with
  | nil =>
    intro vs ds ps _ h _
    cases vs <;> cases ds <;> first | exact h | cases h
  | cons t ts ih =>
    intro vs ds ps hr h hlt
    simp only [List.all_cons, Bool.and_eq_true, decide_eq_true_eq] at hr
    obtain ⟨v, vs', d, ds', p, q, rfl, rfl, rfl, h0, h1⟩ := trodAll_cons h
    exact ⟨p, q, Below.trod laidOut hr.1.1 hr.1.2 h0 hb (fun x hx => hlt x (List.mem_append.2 (.inl hx))),
      ih vs' ds' q hr.2 h1 (fun x hx => hlt x (List.mem_append.2 (.inr hx))), rfl⟩

theorem law_post {f : Func} {s : ChangeSpec} {tb : TypeId} {W W' : World} {args : Array Value} {ds : List (DataW H)} {before : List MemPlace}
    (hv : s.vars = []) (hr : f.resultTypes = #[tb]) (hbool : Try.prog.underlying tb = some .bool)
    (hread : (f.params.toList.all fun t => Try.prog.readableRec t && decide (t < Try.prog.types.size)) = true)
    (hW : DataW.Whole enc Try.prog f.params.toList s.vars false W args.toList ds [] before)
    (hfn : s.fn H ds = { results := [.lit (.bool true)], args := ds }) (hb : Below W.heap.size W W') :
    s.post enc Try.prog f false true false false W args (.bool true) W' := by
  have hW0 := hW
  obtain ⟨p, q, hA, hV, rfl, hfz, hnd⟩ := hW
  rw [hv] at hV
  obtain ⟨-, rfl⟩ := trodVars_none hV
  have hlt : ∀ x ∈ p, x.block < W.heap.size := fun x hx => hW0.lt x (by simpa using hx)
  refine ⟨ds, [], p ++ [], [], p, [], hW0, ?_, ?_, ?_, hb.frame _, fun h => by cases h⟩
  · rw [List.append_nil, hfn, hr]
    exact trodAll_mk1 (shut_bool hbool _)
  · rw [List.append_nil, hfn]
    exact trodAll_kept hb _ _ _ _ hread hA hlt
  · rw [List.append_nil, hfn, hv]
    rfl

end

set_option maxRecDepth 100000 in
/-- The statement, out of the walk and the closed facts of its row. -/
theorem law_lifted {K : FuncId} {f : Func} {s : ChangeSpec} {conds : List PathCond} {tb : TypeId} (os : Os) (started : os.Started) (H : Type) (enc : TypeId × Value → H)
    (noInit : Try.prog.inits.idxOf? K = none) (hfn : Try.prog.funcs[K]? = some f)
    (witness : ∃ (w : World) (tape : Tape) (i : Input), w.os = os ∧ (w.forCall tape i).Shaped Try.prog ∧ i.vars = [] ∧ Input.okWide Try.prog (w.forCall tape i) .any w.heap.size K i ∧
      s.pre6 enc Try.prog f conds false (w.forCall tape i).memory i.args ∧ ({} : Assume).holds Try.prog (lone (Frame.enter Try.prog K i.args .normal) [] (w.forCall tape i)))
    (hv : s.vars = []) (hr : f.resultTypes = #[tb]) (hbool : Try.prog.underlying tb = some .bool)
    (hread : (f.params.toList.all fun t => Try.prog.readableRec t && decide (t < Try.prog.types.size)) = true)
    (walk : ∀ (W : World) (base : Nat) (args : Array Value) (ds : List (DataW H)) (p : List MemPlace),
      (∀ (j : Nat) t v, f.params[j]? = some t → args[j]? = some v → Value.okWide Try.prog W .any base t v) →
      DataW.TrodAll enc Try.prog W 0 (fun _ => true) true f.params.toList args.toList ds p →
      s.fn H ds = { results := [.lit (.bool true)], args := ds } ∧ Calls Try.prog K args W fun e W' => e = .returned (.bool true) ∧ Below W.heap.size W W') :
    ReturnsInHanded {} Try.checked os K .any (s.pre6 enc Try.prog f conds false) (s.post enc Try.prog f false true false false) := by
  refine returnsInHanded_of_change (C := Try.checked) own started noInit hfn witness ?_
  intro W base args ds gs before hval hW _ _
  have hW' := hW
  obtain ⟨p, q, hA, hV, rfl, hfz, hnd⟩ := hW
  rw [hv] at hV
  obtain ⟨rfl, rfl⟩ := trodVars_none hV
  obtain ⟨hfn', hc⟩ := walk W base args ds p hval hA
  refine hc.mono fun e W' ⟨he, hb⟩ => ?_
  exact ⟨_, he, law_post hv hr hbool hread hW' hfn' hb⟩

end Go.Proofs.Ytommpclkiiffpaa
