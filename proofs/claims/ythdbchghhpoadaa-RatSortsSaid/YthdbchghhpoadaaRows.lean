/-
  No cell of these rows narrows 'for every input' (looked for: loops, veiled, ifaces, maps, wideKeys, modest, calm, conditions, laid).
  DERIVED. THE GIVEN ROWS OF THIS SEAT. 5 by the template 'for every input the law returns true; each argument reads behind the call as it read before'; 0 by the template 'total and deterministic' (their statements: YthdbchghhpoadaaTotals.lean).
  GIVEN WITH THE SEED: the statements are not yours to turn. If you find one false, say at which input.
  Laid BY PROGRAM, IN A SANDBOX (cutbox-rows.mjs): the forced cells as the released guide's own fill.sh prints them over the translation fc3c2a1b7713f680… (all of the seat's roots in one cut). By AI agents, Wed Nov 11 2026. No macro, syntax, notation, axiom, sorry.
-/
import Derived.Test.YthdbchghhpoadaaChecked
import GoSem.Claim
import GoSem.ClaimJoined
import GoSem.ClaimMapViews
import Derived.JoinedTies
import Derived.KernelRfl
namespace Go.Proofs.Ythdbchghhpoadaa
/- THE CELL 'sum', in the pinned program and in every row, IS THE sha256 OF THE DUMP (.gsa) THAT YthdbchghhpoadaaProg.lean LOADS. Nothing in Lean hashes anything: it is a label: what it is worth is what the hold of that sum in a sandbox is worth. -/
noncomputable def Try.pinned : Pinned := { name := "ythdbchghhpoadaa", sum := "fc3c2a1b7713f680ae2f26f0317db44a2c75401aea91f966e277757a58a3f504", checked := Try.checked }
namespace Rows
def none {H : Type} : Left H := { results := [], args := [] }

/-- 'anamorphlaw26.SpanRows': WHATEVER THE INPUT: true; the input reads as it did. -/
def spanRowsSpec : ChangeSpec := { name := "spanRows", fn := fun _ => fun
  | [d1, d2] => { results := [.lit (.bool true)], args := [d1, d2] }
  | _ => none }
def spanRowsRow : OpenClaim := { program := "ythdbchghhpoadaa", sum := "fc3c2a1b7713f680ae2f26f0317db44a2c75401aea91f966e277757a58a3f504", func := "anamorph/anamorphlaw26.SpanRows", spec := "spanRows", inPlace := ["math/bits.Sub64", "math/bits.Add64"], unfollowed := true, recurses := true, named := ["math/bits.divideError", "math/bits.overflowError"], apart := false }
def SpanRowsSaid : Prop := spanRowsRow.holds Try.pinned (OpenSpec.ofChange spanRowsSpec)

/-- ITS FALSE NEIGHBOUR: 'it returns false'. Refute it at one input. -/
def spanRowsWrong : ChangeSpec := { name := "spanRows", fn := fun _ => fun
  | [d1, d2] => { results := [.lit (.bool false)], args := [d1, d2] }
  | _ => none }
def SpanRowsWrongFalsely : Prop := spanRowsRow.holds Try.pinned (OpenSpec.ofChange spanRowsWrong)

/-- 'anamorphlaw26.SpanIn': WHATEVER THE INPUT: true; the input reads as it did. -/
def spanInSpec : ChangeSpec := { name := "spanIn", fn := fun _ => fun
  | [d1, d2] => { results := [.lit (.bool true)], args := [d1, d2] }
  | _ => none }
def spanInRow : OpenClaim := { program := "ythdbchghhpoadaa", sum := "fc3c2a1b7713f680ae2f26f0317db44a2c75401aea91f966e277757a58a3f504", func := "anamorph/anamorphlaw26.SpanIn", spec := "spanIn", inPlace := ["math/bits.Sub64", "math/bits.Add64"], unfollowed := true, recurses := true, named := ["math/bits.divideError", "math/bits.overflowError"], apart := false }
def SpanInSaid : Prop := spanInRow.holds Try.pinned (OpenSpec.ofChange spanInSpec)

/-- ITS FALSE NEIGHBOUR: 'it returns false'. Refute it at one input. -/
def spanInWrong : ChangeSpec := { name := "spanIn", fn := fun _ => fun
  | [d1, d2] => { results := [.lit (.bool false)], args := [d1, d2] }
  | _ => none }
def SpanInWrongFalsely : Prop := spanInRow.holds Try.pinned (OpenSpec.ofChange spanInWrong)

/-- 'anamorphlaw26.SpanAll': WHATEVER THE INPUT: true; the input reads as it did. -/
def spanAllSpec : ChangeSpec := { name := "spanAll", fn := fun _ => fun
  | [d1, d2] => { results := [.lit (.bool true)], args := [d1, d2] }
  | _ => none }
def spanAllRow : OpenClaim := { program := "ythdbchghhpoadaa", sum := "fc3c2a1b7713f680ae2f26f0317db44a2c75401aea91f966e277757a58a3f504", func := "anamorph/anamorphlaw26.SpanAll", spec := "spanAll", inPlace := ["math/bits.Sub64", "math/bits.Add64"], unfollowed := true, recurses := true, named := ["math/bits.divideError", "math/bits.overflowError"], apart := false }
def SpanAllSaid : Prop := spanAllRow.holds Try.pinned (OpenSpec.ofChange spanAllSpec)

/-- ITS FALSE NEIGHBOUR: 'it returns false'. Refute it at one input. -/
def spanAllWrong : ChangeSpec := { name := "spanAll", fn := fun _ => fun
  | [d1, d2] => { results := [.lit (.bool false)], args := [d1, d2] }
  | _ => none }
def SpanAllWrongFalsely : Prop := spanAllRow.holds Try.pinned (OpenSpec.ofChange spanAllWrong)

/-- 'anamorphlaw20.LensNear': WHATEVER THE INPUT: true; the input reads as it did. -/
def lensNearSpec : ChangeSpec := { name := "lensNear", fn := fun _ => fun
  | [d1, d2, d3] => { results := [.lit (.bool true)], args := [d1, d2, d3] }
  | _ => none }
def lensNearRow : OpenClaim := { program := "ythdbchghhpoadaa", sum := "fc3c2a1b7713f680ae2f26f0317db44a2c75401aea91f966e277757a58a3f504", func := "anamorph/anamorphlaw20.LensNear", spec := "lensNear", unfollowed := true, recurses := true, apart := false }
def LensNearSaid : Prop := lensNearRow.holds Try.pinned (OpenSpec.ofChange lensNearSpec)

/-- ITS FALSE NEIGHBOUR: 'it returns false'. Refute it at one input. -/
def lensNearWrong : ChangeSpec := { name := "lensNear", fn := fun _ => fun
  | [d1, d2, d3] => { results := [.lit (.bool false)], args := [d1, d2, d3] }
  | _ => none }
def LensNearWrongFalsely : Prop := lensNearRow.holds Try.pinned (OpenSpec.ofChange lensNearWrong)

/-- 'anamorphlaw03.RatSorts': WHATEVER THE INPUT: true; the input reads as it did. -/
def ratSortsSpec : ChangeSpec := { name := "ratSorts", fn := fun _ => fun
  | [d] => { results := [.lit (.bool true)], args := [d] }
  | _ => none }
def ratSortsRow : OpenClaim := { program := "ythdbchghhpoadaa", sum := "fc3c2a1b7713f680ae2f26f0317db44a2c75401aea91f966e277757a58a3f504", func := "anamorph/anamorphlaw03.RatSorts", spec := "ratSorts", inPlace := ["math/bits.Sub64", "math/bits.Add64"], unfollowed := true, recurses := true, apart := false }
def RatSortsSaid : Prop := ratSortsRow.holds Try.pinned (OpenSpec.ofChange ratSortsSpec)

/-- ITS FALSE NEIGHBOUR: 'it returns false'. Refute it at one input. -/
def ratSortsWrong : ChangeSpec := { name := "ratSorts", fn := fun _ => fun
  | [d] => { results := [.lit (.bool false)], args := [d] }
  | _ => none }
def RatSortsWrongFalsely : Prop := ratSortsRow.holds Try.pinned (OpenSpec.ofChange ratSortsWrong)

/- THE SECOND FORM. 'bulk': how many values and letters a reading holds, each counted each time it is reached (what is shared counts as often as it is met; a slice's spare places count too). A statement '..UptoSaid' is the law's where the arguments, and the package variables that the reading takes, are together of bulk at most 1048576: NARROWER than '..Said'. Prove '..Said' where nothing that the law and all that it calls make is longer than what came in: it says more and counts as full. Else prove '..UptoSaid'. A law counts once. -/
mutual
def uptoBulk {H : Type} : DataW H → Nat
  | .lit (.string bytes) => bytes.length + 1
  | .lit _ => 1
  | .nil => 1
  | .ptr d => uptoBulk d + 1
  | .slice elems spare => uptoBulkAll elems + uptoBulkAll spare + 1
  | .agg parts => uptoBulkAll parts + 1
  | .iface _ d => uptoBulk d + 1
  | .map entries => uptoBulkEntries entries + 1
  | .held _ => 1
def uptoBulkAll {H : Type} : List (DataW H) → Nat
  | [] => 0
  | d :: r => uptoBulk d + uptoBulkAll r
def uptoBulkEntries {H : Type} : List (Lit × DataW H) → Nat
  | [] => 0
  | x :: r => uptoBulkEntry x + uptoBulkEntries r
def uptoBulkEntry {H : Type} : Lit × DataW H → Nat
  | (.string bytes, d) => bytes.length + uptoBulk d + 1
  | (_, d) => uptoBulk d + 1
 end
def uptoSmall : (H : Type) → List (DataW H) → Bool := fun _ ds => decide (uptoBulkAll ds ≤ 1048576)
def OpenSpec.upto (s : _root_.Go.ChangeSpec) : _root_.Go.OpenSpec := { _root_.Go.OpenSpec.ofChange s with cond := some uptoSmall }

/-- 'anamorphlaw26.SpanRows', WHERE WHAT IT READS IS OF BULK AT MOST 1048576: true; the input reads as it did. -/
def spanRowsUptoRow : OpenClaim := { program := "ythdbchghhpoadaa", sum := "fc3c2a1b7713f680ae2f26f0317db44a2c75401aea91f966e277757a58a3f504", func := "anamorph/anamorphlaw26.SpanRows", spec := "spanRows", inPlace := ["math/bits.Sub64", "math/bits.Add64"], unfollowed := true, recurses := true, named := ["math/bits.divideError", "math/bits.overflowError"], apart := false, narrowed := true }
def SpanRowsUptoSaid : Prop := spanRowsUptoRow.holds Try.pinned (OpenSpec.upto spanRowsSpec)

/-- 'anamorphlaw26.SpanIn', WHERE WHAT IT READS IS OF BULK AT MOST 1048576: true; the input reads as it did. -/
def spanInUptoRow : OpenClaim := { program := "ythdbchghhpoadaa", sum := "fc3c2a1b7713f680ae2f26f0317db44a2c75401aea91f966e277757a58a3f504", func := "anamorph/anamorphlaw26.SpanIn", spec := "spanIn", inPlace := ["math/bits.Sub64", "math/bits.Add64"], unfollowed := true, recurses := true, named := ["math/bits.divideError", "math/bits.overflowError"], apart := false, narrowed := true }
def SpanInUptoSaid : Prop := spanInUptoRow.holds Try.pinned (OpenSpec.upto spanInSpec)

/-- 'anamorphlaw26.SpanAll', WHERE WHAT IT READS IS OF BULK AT MOST 1048576: true; the input reads as it did. -/
def spanAllUptoRow : OpenClaim := { program := "ythdbchghhpoadaa", sum := "fc3c2a1b7713f680ae2f26f0317db44a2c75401aea91f966e277757a58a3f504", func := "anamorph/anamorphlaw26.SpanAll", spec := "spanAll", inPlace := ["math/bits.Sub64", "math/bits.Add64"], unfollowed := true, recurses := true, named := ["math/bits.divideError", "math/bits.overflowError"], apart := false, narrowed := true }
def SpanAllUptoSaid : Prop := spanAllUptoRow.holds Try.pinned (OpenSpec.upto spanAllSpec)

/-- 'anamorphlaw20.LensNear', WHERE WHAT IT READS IS OF BULK AT MOST 1048576: true; the input reads as it did. -/
def lensNearUptoRow : OpenClaim := { program := "ythdbchghhpoadaa", sum := "fc3c2a1b7713f680ae2f26f0317db44a2c75401aea91f966e277757a58a3f504", func := "anamorph/anamorphlaw20.LensNear", spec := "lensNear", unfollowed := true, recurses := true, apart := false, narrowed := true }
def LensNearUptoSaid : Prop := lensNearUptoRow.holds Try.pinned (OpenSpec.upto lensNearSpec)

/-- 'anamorphlaw03.RatSorts', WHERE WHAT IT READS IS OF BULK AT MOST 1048576: true; the input reads as it did. -/
def ratSortsUptoRow : OpenClaim := { program := "ythdbchghhpoadaa", sum := "fc3c2a1b7713f680ae2f26f0317db44a2c75401aea91f966e277757a58a3f504", func := "anamorph/anamorphlaw03.RatSorts", spec := "ratSorts", inPlace := ["math/bits.Sub64", "math/bits.Add64"], unfollowed := true, recurses := true, apart := false, narrowed := true }
def RatSortsUptoSaid : Prop := ratSortsUptoRow.holds Try.pinned (OpenSpec.upto ratSortsSpec)

end Rows
end Go.Proofs.Ythdbchghhpoadaa
