/- Parts of the proof: Tl Tla Tlb Tlc Tld Tle Tlf Tlg Tlh. -/
import Derived.Test.YtikpobembcgbfaaGreatDoorQ02
import Derived.Test.YtikpobembcgbfaaGreatDoorRows
import Derived.LaidMore
import Derived.LaidSub
import Derived.ProofKit
import Derived.Stop.Joined
import Derived.Lib.ItoaMem
import Derived.LaidHandle
import Derived.Stop.LaidErr
set_option linter.unusedVariables false
set_option linter.unusedSimpArgs false
set_option maxRecDepth 100000
set_option maxHeartbeats 40000000
namespace Go.Proofs.YtikpobembcgbfaaGreatDoor
open Go.ChangeShapes Go.WideShapes Go.ChangeAt Go.RowKit Go.Deep
abbrev laidL : List (String × DataW Unit) := Rows.topCodecRow.laid
theorem law_lifted_laid {K : FuncId} {f : Func} {s : ChangeSpec} {tb : TypeId} (L : List (String × DataW Unit)) (os : Os) (started : os.Started) (H : Type) (enc : TypeId × Value → H)
 (noInit : Tryz.prog.inits.idxOf? K = none) (hfn : Tryz.prog.funcs[K]? = some f)
 (witness : ∃ (w : World) (tape : Tape) (i : Input), w.os = os ∧ (w.forCall tape i).Shaped Tryz.prog ∧ i.vars = [] ∧ Input.okWide Tryz.prog (w.forCall tape i) .any w.heap.size K i ∧
   ((s.pre enc Tryz.prog f [] false (w.forCall tape i).memory i.args ∧ laidMetH Tryz.prog L (w.forCall tape i).memory) ∧ sizedMet enc Tryz.prog f (OpenSpec.ofChange s) false (w.forCall tape i).memory i.args) ∧ ({} : Assume).holds Tryz.prog (lone (Frame.enter Tryz.prog K i.args .normal) [] (w.forCall tape i)))
 (hv : s.vars = []) (hr : f.resultTypes = #[tb]) (hbool : Tryz.prog.underlying tb = some .bool)
 (hread : (f.params.toList.all fun t => Tryz.prog.readableRec t && decide (t < Tryz.prog.types.size)) = true)
 (walk : ∀ (W : World) (base : Nat) (args : Array Value) (ds : List (DataW H)) (p : List MemPlace),
   (∀ (j : Nat) t v, f.params[j]? = some t → args[j]? = some v → Value.okWide Tryz.prog W .any base t v) →
   DataW.TrodAll enc Tryz.prog W 0 (fun _ => true) true f.params.toList args.toList ds p → laidMetH Tryz.prog L W →
   s.fn H ds = { results := [.lit (.bool true)], args := ds } ∧ Calls Tryz.prog K args W fun e W' => e = .returned (.bool true) ∧ Below W.heap.size W W') :
 ReturnsInHanded {} Tryz.checked os K .any (fun w args => (s.pre enc Tryz.prog f [] false w args ∧ laidMetH Tryz.prog L w) ∧ sizedMet enc Tryz.prog f (OpenSpec.ofChange s) false w args) (s.post enc Tryz.prog f false true false false) := by
 refine returnsInHanded_of_change_and (C := Tryz.checked) (X := fun w _ => laidMetH Tryz.prog L w) (fun _ _ _ hh h => h.of_heap hh) own started noInit hfn witness ?_
 intro W base args ds gs before hval hW _ _ hL _
 have hW' := hW
 obtain ⟨p, q, hA, hV, rfl, hfz, hnd⟩ := hW
 rw [hv] at hV
 obtain ⟨rfl, rfl⟩ := trodVars_none hV
 obtain ⟨hfn', hc⟩ := walk W base args ds p hval hA hL
 refine hc.mono fun e W' ⟨he, hb⟩ => ?_
 exact ⟨_, he, law_post hv hr hbool hread hW' hfn' hb⟩
theorem gPow : ∃ g, Tryz.prog.globalNamed "internal/strconv.uint64pow10" = some g ∧ (Tryz.prog.globals[g]?).map (·.type) = some 517 := ⟨(Tryz.prog.globalNamed "internal/strconv.uint64pow10").getD 0, by kernel_rfl, by kernel_rfl⟩
theorem ePow : (Rows.laid_internal_strconv_uint64pow10 : DataW Unit) = Lib.tabData .u64 Lib.pow10Tab := by kernel_rfl
theorem fPow : (laidL.filter fun x => x.1 == "internal/strconv.uint64pow10") = [("internal/strconv.uint64pow10", Rows.laid_internal_strconv_uint64pow10)] := by kernel_rfl
theorem pow_tab {W : World} (h : laidMetH Tryz.prog laidL W) : Lib.TabIs Tryz.prog W "internal/strconv.uint64pow10" .u64 Lib.pow10Tab := by
 rw [MakeChecks.laidMetH_plain _ _ _ (by kernel_rfl)] at h
 have h2 := laidMet.filter (fun x => x.1 == "internal/strconv.uint64pow10") h
 rw [fPow, ePow] at h2
 obtain ⟨g, hg, ht⟩ := gPow
 exact Lib.tabIs_of_head hg ht Tryz.underlying517 Tryz.underlying138 (by kernel_rfl) (by kernel_rfl) h2
noncomputable abbrev door (os : Os) : World := World.doorLaid Tryz.prog 400 os
noncomputable abbrev door2 (os : Os) : World := ((door os).forCall (fun _ _ => 0) ⟨#[], #[.slice none 0 0, .int .i64 0], []⟩).memory
theorem door_a (os : Os) : (DataW.laidRun Tryz.prog (door2 os) 8 ((laidL.filter fun x => x.2.handleName?.isNone).map (·.1))).map (·.1) = some (laidL.filter fun x => x.2.handleName?.isNone) := by kernel_rfl
theorem door_b (os : Os) : (DataW.laidRun Tryz.prog (door2 os) 8 ((laidL.filter fun x => x.2.handleName?.isNone).map (·.1))).map (fun x => decide x.2.Nodup && laidRowsB Tryz.prog (door2 os) x.2) = some true := by kernel_rfl
theorem door_c (os : Os) : (laidL.filter fun x => x.2.handleName?.isSome && x.2.funcsIn?.isNone).all (handleAtB Tryz.prog (door2 os)) = true := by kernel_rfl
theorem door_d (os : Os) : funcsRun Tryz.prog (door2 os) 8 ((funcsListed laidL).map (·.1)) = some ((funcsListed laidL).map (·.2.funcsOut)) := by kernel_rfl
theorem door_e (os : Os) : ((door os).forCall (fun _ _ => 0) ⟨#[], #[.slice none 0 0, .int .i64 0], []⟩).variablesRefB Tryz.prog = true := by kernel_rfl
theorem door_f (os : Os) : (((door os).forCall (fun _ _ => 0) ⟨#[], #[.slice none 0 0, .int .i64 0], []⟩).heap.toList.drop Tryz.prog.globals.size).take ((begin Tryz.prog (fun _ _ => 0) default).world.heap.size - Tryz.prog.globals.size) = (begin Tryz.prog (fun _ _ => 0) default).world.heap.toList.drop Tryz.prog.globals.size := by kernel_rfl
theorem door_g (os : Os) : Input.okWideB Tryz.prog ((door os).forCall (fun _ _ => 0) ⟨#[], #[.slice none 0 0, .int .i64 0], []⟩) 3 ⟨#[], #[.slice none 0 0, .int .i64 0], []⟩ = true := by kernel_rfl
theorem door_h (os : Os) (H : Type) (enc : TypeId × Value → H) : Rows.topCodecSpec.preB enc Tryz.prog Tryz.f3 [] false ((door os).forCall (fun _ _ => 0) ⟨#[], #[.slice none 0 0, .int .i64 0], []⟩).memory #[.slice none 0 0, .int .i64 0] 8 = true := by kernel_rfl
theorem door_i (os : Os) (H : Type) (enc : TypeId × Value → H) : Rows.topCodecSpec.sizedB enc Tryz.prog Tryz.f3 false ((door os).forCall (fun _ _ => 0) ⟨#[], #[.slice none 0 0, .int .i64 0], []⟩).memory #[.slice none 0 0, .int .i64 0] 8 = true := by kernel_rfl
end Go.Proofs.YtikpobembcgbfaaGreatDoor
