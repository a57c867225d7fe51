/-
  No cell of these rows narrows 'for every input' (looked for: loops, veiled, ifaces, maps, wideKeys, modest, calm, conditions, laid).
  DERIVED. THE GIVEN ROWS OF THIS SEAT. 8 by the template 'for every input the law returns true; each argument reads behind the call as it read before'; 0 by the template 'total and deterministic' (their statements: YtommpclkiiffpaaTotals.lean).
  GIVEN WITH THE SEED: the statements are not yours to turn. If you find one false, say at which input.
  Laid BY PROGRAM, IN A SANDBOX (cutbox-rows.mjs): the forced cells as the released guide's own fill.sh prints them over the translation 3863dea05d397458… (all of the seat's roots in one cut). By AI agents, Wed Nov 11 2026. No macro, syntax, notation, axiom, sorry.
-/
import Derived.Test.YtommpclkiiffpaaChecked
import GoSem.Claim
import GoSem.ClaimJoined
import GoSem.ClaimMapViews
import Derived.JoinedTies
import Derived.KernelRfl
namespace Go.Proofs.Ytommpclkiiffpaa
/- THE CELL 'sum', in the pinned program and in every row, IS THE sha256 OF THE DUMP (.gsa) THAT YtommpclkiiffpaaProg.lean LOADS. Nothing in Lean hashes anything: it is a label: what it is worth is what the hold of that sum in a sandbox is worth. -/
noncomputable def Try.pinned : Pinned := { name := "ytommpclkiiffpaa", sum := "3863dea05d397458c12a014292b05aab7849aa0df36fa279d8693f9226aa1cfd", checked := Try.checked }
namespace Rows
def none {H : Type} : Left H := { results := [], args := [] }

/-- 'anamorphlaw03.RatLaws': WHATEVER THE INPUT: true; the input reads as it did. -/
def ratLawsSpec : ChangeSpec := { name := "ratLaws", fn := fun _ => fun
  | [d] => { results := [.lit (.bool true)], args := [d] }
  | _ => none }
def ratLawsRow : OpenClaim := { program := "ytommpclkiiffpaa", sum := "3863dea05d397458c12a014292b05aab7849aa0df36fa279d8693f9226aa1cfd", func := "anamorph/anamorphlaw03.RatLaws", spec := "ratLaws", inPlace := ["math/bits.Sub64", "math/bits.Add64"], unfollowed := true, recurses := true, apart := false }
def RatLawsSaid : Prop := ratLawsRow.holds Try.pinned (OpenSpec.ofChange ratLawsSpec)

/-- ITS FALSE NEIGHBOUR: 'it returns false'. Refute it at one input. -/
def ratLawsWrong : ChangeSpec := { name := "ratLaws", fn := fun _ => fun
  | [d] => { results := [.lit (.bool false)], args := [d] }
  | _ => none }
def RatLawsWrongFalsely : Prop := ratLawsRow.holds Try.pinned (OpenSpec.ofChange ratLawsWrong)

/-- 'anamorphlaw03.RatSums': WHATEVER THE INPUT: true; the input reads as it did. -/
def ratSumsSpec : ChangeSpec := { name := "ratSums", fn := fun _ => fun
  | [d1, d2] => { results := [.lit (.bool true)], args := [d1, d2] }
  | _ => none }
def ratSumsRow : OpenClaim := { program := "ytommpclkiiffpaa", sum := "3863dea05d397458c12a014292b05aab7849aa0df36fa279d8693f9226aa1cfd", func := "anamorph/anamorphlaw03.RatSums", spec := "ratSums", inPlace := ["math/bits.Sub64", "math/bits.Add64"], unfollowed := true, recurses := true, apart := false }
def RatSumsSaid : Prop := ratSumsRow.holds Try.pinned (OpenSpec.ofChange ratSumsSpec)

/-- ITS FALSE NEIGHBOUR: 'it returns false'. Refute it at one input. -/
def ratSumsWrong : ChangeSpec := { name := "ratSums", fn := fun _ => fun
  | [d1, d2] => { results := [.lit (.bool false)], args := [d1, d2] }
  | _ => none }
def RatSumsWrongFalsely : Prop := ratSumsRow.holds Try.pinned (OpenSpec.ofChange ratSumsWrong)

/-- 'anamorphlaw03.RatOrders': WHATEVER THE INPUT: true; the input reads as it did. -/
def ratOrdersSpec : ChangeSpec := { name := "ratOrders", fn := fun _ => fun
  | [d1, d2] => { results := [.lit (.bool true)], args := [d1, d2] }
  | _ => none }
def ratOrdersRow : OpenClaim := { program := "ytommpclkiiffpaa", sum := "3863dea05d397458c12a014292b05aab7849aa0df36fa279d8693f9226aa1cfd", func := "anamorph/anamorphlaw03.RatOrders", spec := "ratOrders", inPlace := ["math/bits.Sub64", "math/bits.Add64"], unfollowed := true, recurses := true, named := ["math/bits.divideError", "math/bits.overflowError"], apart := false }
def RatOrdersSaid : Prop := ratOrdersRow.holds Try.pinned (OpenSpec.ofChange ratOrdersSpec)

/-- ITS FALSE NEIGHBOUR: 'it returns false'. Refute it at one input. -/
def ratOrdersWrong : ChangeSpec := { name := "ratOrders", fn := fun _ => fun
  | [d1, d2] => { results := [.lit (.bool false)], args := [d1, d2] }
  | _ => none }
def RatOrdersWrongFalsely : Prop := ratOrdersRow.holds Try.pinned (OpenSpec.ofChange ratOrdersWrong)

/-- 'anamorphlaw03.RatSorts': WHATEVER THE INPUT: true; the input reads as it did. -/
def ratSortsSpec : ChangeSpec := { name := "ratSorts", fn := fun _ => fun
  | [d] => { results := [.lit (.bool true)], args := [d] }
  | _ => none }
def ratSortsRow : OpenClaim := { program := "ytommpclkiiffpaa", sum := "3863dea05d397458c12a014292b05aab7849aa0df36fa279d8693f9226aa1cfd", func := "anamorph/anamorphlaw03.RatSorts", spec := "ratSorts", inPlace := ["math/bits.Sub64", "math/bits.Add64"], unfollowed := true, recurses := true, apart := false }
def RatSortsSaid : Prop := ratSortsRow.holds Try.pinned (OpenSpec.ofChange ratSortsSpec)

/-- ITS FALSE NEIGHBOUR: 'it returns false'. Refute it at one input. -/
def ratSortsWrong : ChangeSpec := { name := "ratSorts", fn := fun _ => fun
  | [d] => { results := [.lit (.bool false)], args := [d] }
  | _ => none }
def RatSortsWrongFalsely : Prop := ratSortsRow.holds Try.pinned (OpenSpec.ofChange ratSortsWrong)

/-- 'anamorphlaw22.ShearQuarters': WHATEVER THE INPUT: true; the input reads as it did. -/
def shearQuartersSpec : ChangeSpec := { name := "shearQuarters", fn := fun _ => fun
  | [d1, d2, d3] => { results := [.lit (.bool true)], args := [d1, d2, d3] }
  | _ => none }
def shearQuartersRow : OpenClaim := { program := "ytommpclkiiffpaa", sum := "3863dea05d397458c12a014292b05aab7849aa0df36fa279d8693f9226aa1cfd", func := "anamorph/anamorphlaw22.ShearQuarters", spec := "shearQuarters", inPlace := ["math/bits.Sub64", "math/bits.Add64"], unfollowed := true, recurses := true, named := ["math/bits.divideError", "math/bits.overflowError"], apart := false }
def ShearQuartersSaid : Prop := shearQuartersRow.holds Try.pinned (OpenSpec.ofChange shearQuartersSpec)

/-- ITS FALSE NEIGHBOUR: 'it returns false'. Refute it at one input. -/
def shearQuartersWrong : ChangeSpec := { name := "shearQuarters", fn := fun _ => fun
  | [d1, d2, d3] => { results := [.lit (.bool false)], args := [d1, d2, d3] }
  | _ => none }
def ShearQuartersWrongFalsely : Prop := shearQuartersRow.holds Try.pinned (OpenSpec.ofChange shearQuartersWrong)

/-- 'anamorphlaw22.ShearOnce': WHATEVER THE INPUT: true; the input reads as it did. -/
def shearOnceSpec : ChangeSpec := { name := "shearOnce", fn := fun _ => fun
  | [d1, d2, d3] => { results := [.lit (.bool true)], args := [d1, d2, d3] }
  | _ => none }
def shearOnceRow : OpenClaim := { program := "ytommpclkiiffpaa", sum := "3863dea05d397458c12a014292b05aab7849aa0df36fa279d8693f9226aa1cfd", func := "anamorph/anamorphlaw22.ShearOnce", spec := "shearOnce", inPlace := ["math/bits.Sub64", "math/bits.Add64"], unfollowed := true, recurses := true, named := ["math/bits.divideError", "math/bits.overflowError"], apart := false }
def ShearOnceSaid : Prop := shearOnceRow.holds Try.pinned (OpenSpec.ofChange shearOnceSpec)

/-- ITS FALSE NEIGHBOUR: 'it returns false'. Refute it at one input. -/
def shearOnceWrong : ChangeSpec := { name := "shearOnce", fn := fun _ => fun
  | [d1, d2, d3] => { results := [.lit (.bool false)], args := [d1, d2, d3] }
  | _ => none }
def ShearOnceWrongFalsely : Prop := shearOnceRow.holds Try.pinned (OpenSpec.ofChange shearOnceWrong)

/-- 'anamorphlaw22.ShearAsks': WHATEVER THE INPUT: true; the input reads as it did. -/
def shearAsksSpec : ChangeSpec := { name := "shearAsks", fn := fun _ => fun
  | [d1, d2] => { results := [.lit (.bool true)], args := [d1, d2] }
  | _ => none }
def shearAsksRow : OpenClaim := { program := "ytommpclkiiffpaa", sum := "3863dea05d397458c12a014292b05aab7849aa0df36fa279d8693f9226aa1cfd", func := "anamorph/anamorphlaw22.ShearAsks", spec := "shearAsks", inPlace := ["math/bits.Sub64", "math/bits.Add64"], unfollowed := true, recurses := true, named := ["math/bits.divideError", "math/bits.overflowError"], apart := false }
def ShearAsksSaid : Prop := shearAsksRow.holds Try.pinned (OpenSpec.ofChange shearAsksSpec)

/-- ITS FALSE NEIGHBOUR: 'it returns false'. Refute it at one input. -/
def shearAsksWrong : ChangeSpec := { name := "shearAsks", fn := fun _ => fun
  | [d1, d2] => { results := [.lit (.bool false)], args := [d1, d2] }
  | _ => none }
def ShearAsksWrongFalsely : Prop := shearAsksRow.holds Try.pinned (OpenSpec.ofChange shearAsksWrong)

/-- 'anamorphlaw22.ShearNear': WHATEVER THE INPUT: true; the input reads as it did. -/
def shearNearSpec : ChangeSpec := { name := "shearNear", fn := fun _ => fun
  | [d1, d2, d3] => { results := [.lit (.bool true)], args := [d1, d2, d3] }
  | _ => none }
def shearNearRow : OpenClaim := { program := "ytommpclkiiffpaa", sum := "3863dea05d397458c12a014292b05aab7849aa0df36fa279d8693f9226aa1cfd", func := "anamorph/anamorphlaw22.ShearNear", spec := "shearNear", inPlace := ["math/bits.Sub64", "math/bits.Add64"], unfollowed := true, recurses := true, named := ["math/bits.divideError", "math/bits.overflowError"], apart := false }
def ShearNearSaid : Prop := shearNearRow.holds Try.pinned (OpenSpec.ofChange shearNearSpec)

/-- ITS FALSE NEIGHBOUR: 'it returns false'. Refute it at one input. -/
def shearNearWrong : ChangeSpec := { name := "shearNear", fn := fun _ => fun
  | [d1, d2, d3] => { results := [.lit (.bool false)], args := [d1, d2, d3] }
  | _ => none }
def ShearNearWrongFalsely : Prop := shearNearRow.holds Try.pinned (OpenSpec.ofChange shearNearWrong)

/- THE SECOND FORM. 'bulk': how many values and letters a reading holds, each counted each time it is reached (what is shared counts as often as it is met; a slice's spare places count too). A statement '..UptoSaid' is the law's where the arguments, and the package variables that the reading takes, are together of bulk at most 1048576: NARROWER than '..Said'. Prove '..Said' where nothing that the law and all that it calls make is longer than what came in: it says more and counts as full. Else prove '..UptoSaid'. A law counts once. -/
mutual
def uptoBulk {H : Type} : DataW H → Nat
  | .lit (.string bytes) => bytes.length + 1
  | .lit _ => 1
  | .nil => 1
  | .ptr d => uptoBulk d + 1
  | .slice elems spare => uptoBulkAll elems + uptoBulkAll spare + 1
  | .agg parts => uptoBulkAll parts + 1
  | .iface _ d => uptoBulk d + 1
  | .map entries => uptoBulkEntries entries + 1
  | .held _ => 1
def uptoBulkAll {H : Type} : List (DataW H) → Nat
  | [] => 0
  | d :: r => uptoBulk d + uptoBulkAll r
def uptoBulkEntries {H : Type} : List (Lit × DataW H) → Nat
  | [] => 0
  | x :: r => uptoBulkEntry x + uptoBulkEntries r
def uptoBulkEntry {H : Type} : Lit × DataW H → Nat
  | (.string bytes, d) => bytes.length + uptoBulk d + 1
  | (_, d) => uptoBulk d + 1
 end
def uptoSmall : (H : Type) → List (DataW H) → Bool := fun _ ds => decide (uptoBulkAll ds ≤ 1048576)
def OpenSpec.upto (s : _root_.Go.ChangeSpec) : _root_.Go.OpenSpec := { _root_.Go.OpenSpec.ofChange s with cond := some uptoSmall }

/-- 'anamorphlaw03.RatLaws', WHERE WHAT IT READS IS OF BULK AT MOST 1048576: true; the input reads as it did. -/
def ratLawsUptoRow : OpenClaim := { program := "ytommpclkiiffpaa", sum := "3863dea05d397458c12a014292b05aab7849aa0df36fa279d8693f9226aa1cfd", func := "anamorph/anamorphlaw03.RatLaws", spec := "ratLaws", inPlace := ["math/bits.Sub64", "math/bits.Add64"], unfollowed := true, recurses := true, apart := false, narrowed := true }
def RatLawsUptoSaid : Prop := ratLawsUptoRow.holds Try.pinned (OpenSpec.upto ratLawsSpec)

/-- 'anamorphlaw03.RatSums', WHERE WHAT IT READS IS OF BULK AT MOST 1048576: true; the input reads as it did. -/
def ratSumsUptoRow : OpenClaim := { program := "ytommpclkiiffpaa", sum := "3863dea05d397458c12a014292b05aab7849aa0df36fa279d8693f9226aa1cfd", func := "anamorph/anamorphlaw03.RatSums", spec := "ratSums", inPlace := ["math/bits.Sub64", "math/bits.Add64"], unfollowed := true, recurses := true, apart := false, narrowed := true }
def RatSumsUptoSaid : Prop := ratSumsUptoRow.holds Try.pinned (OpenSpec.upto ratSumsSpec)

/-- 'anamorphlaw03.RatOrders', WHERE WHAT IT READS IS OF BULK AT MOST 1048576: true; the input reads as it did. -/
def ratOrdersUptoRow : OpenClaim := { program := "ytommpclkiiffpaa", sum := "3863dea05d397458c12a014292b05aab7849aa0df36fa279d8693f9226aa1cfd", func := "anamorph/anamorphlaw03.RatOrders", spec := "ratOrders", inPlace := ["math/bits.Sub64", "math/bits.Add64"], unfollowed := true, recurses := true, named := ["math/bits.divideError", "math/bits.overflowError"], apart := false, narrowed := true }
def RatOrdersUptoSaid : Prop := ratOrdersUptoRow.holds Try.pinned (OpenSpec.upto ratOrdersSpec)

/-- 'anamorphlaw03.RatSorts', WHERE WHAT IT READS IS OF BULK AT MOST 1048576: true; the input reads as it did. -/
def ratSortsUptoRow : OpenClaim := { program := "ytommpclkiiffpaa", sum := "3863dea05d397458c12a014292b05aab7849aa0df36fa279d8693f9226aa1cfd", func := "anamorph/anamorphlaw03.RatSorts", spec := "ratSorts", inPlace := ["math/bits.Sub64", "math/bits.Add64"], unfollowed := true, recurses := true, apart := false, narrowed := true }
def RatSortsUptoSaid : Prop := ratSortsUptoRow.holds Try.pinned (OpenSpec.upto ratSortsSpec)

/-- 'anamorphlaw22.ShearQuarters', WHERE WHAT IT READS IS OF BULK AT MOST 1048576: true; the input reads as it did. -/
def shearQuartersUptoRow : OpenClaim := { program := "ytommpclkiiffpaa", sum := "3863dea05d397458c12a014292b05aab7849aa0df36fa279d8693f9226aa1cfd", func := "anamorph/anamorphlaw22.ShearQuarters", spec := "shearQuarters", inPlace := ["math/bits.Sub64", "math/bits.Add64"], unfollowed := true, recurses := true, named := ["math/bits.divideError", "math/bits.overflowError"], apart := false, narrowed := true }
def ShearQuartersUptoSaid : Prop := shearQuartersUptoRow.holds Try.pinned (OpenSpec.upto shearQuartersSpec)

/-- 'anamorphlaw22.ShearOnce', WHERE WHAT IT READS IS OF BULK AT MOST 1048576: true; the input reads as it did. -/
def shearOnceUptoRow : OpenClaim := { program := "ytommpclkiiffpaa", sum := "3863dea05d397458c12a014292b05aab7849aa0df36fa279d8693f9226aa1cfd", func := "anamorph/anamorphlaw22.ShearOnce", spec := "shearOnce", inPlace := ["math/bits.Sub64", "math/bits.Add64"], unfollowed := true, recurses := true, named := ["math/bits.divideError", "math/bits.overflowError"], apart := false, narrowed := true }
def ShearOnceUptoSaid : Prop := shearOnceUptoRow.holds Try.pinned (OpenSpec.upto shearOnceSpec)

/-- 'anamorphlaw22.ShearAsks', WHERE WHAT IT READS IS OF BULK AT MOST 1048576: true; the input reads as it did. -/
def shearAsksUptoRow : OpenClaim := { program := "ytommpclkiiffpaa", sum := "3863dea05d397458c12a014292b05aab7849aa0df36fa279d8693f9226aa1cfd", func := "anamorph/anamorphlaw22.ShearAsks", spec := "shearAsks", inPlace := ["math/bits.Sub64", "math/bits.Add64"], unfollowed := true, recurses := true, named := ["math/bits.divideError", "math/bits.overflowError"], apart := false, narrowed := true }
def ShearAsksUptoSaid : Prop := shearAsksUptoRow.holds Try.pinned (OpenSpec.upto shearAsksSpec)

/-- 'anamorphlaw22.ShearNear', WHERE WHAT IT READS IS OF BULK AT MOST 1048576: true; the input reads as it did. -/
def shearNearUptoRow : OpenClaim := { program := "ytommpclkiiffpaa", sum := "3863dea05d397458c12a014292b05aab7849aa0df36fa279d8693f9226aa1cfd", func := "anamorph/anamorphlaw22.ShearNear", spec := "shearNear", inPlace := ["math/bits.Sub64", "math/bits.Add64"], unfollowed := true, recurses := true, named := ["math/bits.divideError", "math/bits.overflowError"], apart := false, narrowed := true }
def ShearNearUptoSaid : Prop := shearNearUptoRow.holds Try.pinned (OpenSpec.upto shearNearSpec)

end Rows
end Go.Proofs.Ytommpclkiiffpaa
