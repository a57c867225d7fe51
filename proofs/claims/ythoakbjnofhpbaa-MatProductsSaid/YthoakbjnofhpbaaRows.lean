/-
  No cell of these rows narrows 'for every input' (looked for: loops, veiled, ifaces, maps, wideKeys, modest, calm, conditions, laid).
  DERIVED. THE GIVEN ROWS OF THIS SEAT. 12 by the template 'for every input the law returns true; each argument reads behind the call as it read before'; 0 by the template 'total and deterministic' (their statements: YthoakbjnofhpbaaTotals.lean).
  GIVEN WITH THE SEED: the statements are not yours to turn. If you find one false, say at which input.
  Laid BY PROGRAM, IN A SANDBOX (cutbox-rows.mjs): the forced cells as the released guide's own fill.sh prints them over the translation 15dc10698cef9386… (all of the seat's roots in one cut). By AI agents, Wed Nov 11 2026. No macro, syntax, notation, axiom, sorry.
-/
import Derived.Test.YthoakbjnofhpbaaChecked
import GoSem.Claim
import GoSem.ClaimJoined
import GoSem.ClaimMapViews
import Derived.JoinedTies
import Derived.KernelRfl
namespace Go.Proofs.Ythoakbjnofhpbaa
/- THE CELL 'sum', in the pinned program and in every row, IS THE sha256 OF THE DUMP (.gsa) THAT YthoakbjnofhpbaaProg.lean LOADS. Nothing in Lean hashes anything: it is a label: what it is worth is what the hold of that sum in a sandbox is worth. -/
noncomputable def Try.pinned : Pinned := { name := "ythoakbjnofhpbaa", sum := "15dc10698cef938691c0151592cf325db46b79dc2e7e99c0aa540ffc17069fa7", checked := Try.checked }
namespace Rows
def none {H : Type} : Left H := { results := [], args := [] }

/-- 'anamorphlaw21.MeshPlain': WHATEVER THE INPUT: true; the input reads as it did. -/
def meshPlainSpec : ChangeSpec := { name := "meshPlain", fn := fun _ => fun
  | [d1, d2] => { results := [.lit (.bool true)], args := [d1, d2] }
  | _ => none }
def meshPlainRow : OpenClaim := { program := "ythoakbjnofhpbaa", sum := "15dc10698cef938691c0151592cf325db46b79dc2e7e99c0aa540ffc17069fa7", func := "anamorph/anamorphlaw21.MeshPlain", spec := "meshPlain", inPlace := ["math/bits.Sub64", "math/bits.Add64"], unfollowed := true, recurses := true, named := ["math/bits.divideError", "math/bits.overflowError"], apart := false }
def MeshPlainSaid : Prop := meshPlainRow.holds Try.pinned (OpenSpec.ofChange meshPlainSpec)

/-- ITS FALSE NEIGHBOUR: 'it returns false'. Refute it at one input. -/
def meshPlainWrong : ChangeSpec := { name := "meshPlain", fn := fun _ => fun
  | [d1, d2] => { results := [.lit (.bool false)], args := [d1, d2] }
  | _ => none }
def MeshPlainWrongFalsely : Prop := meshPlainRow.holds Try.pinned (OpenSpec.ofChange meshPlainWrong)

/-- 'anamorphlaw21.MeshAsks': WHATEVER THE INPUT: true; the input reads as it did. -/
def meshAsksSpec : ChangeSpec := { name := "meshAsks", fn := fun _ => fun
  | [d1, d2, d3] => { results := [.lit (.bool true)], args := [d1, d2, d3] }
  | _ => none }
def meshAsksRow : OpenClaim := { program := "ythoakbjnofhpbaa", sum := "15dc10698cef938691c0151592cf325db46b79dc2e7e99c0aa540ffc17069fa7", func := "anamorph/anamorphlaw21.MeshAsks", spec := "meshAsks", inPlace := ["math/bits.Sub64", "math/bits.Add64"], unfollowed := true, recurses := true, named := ["math/bits.divideError", "math/bits.overflowError"], apart := false }
def MeshAsksSaid : Prop := meshAsksRow.holds Try.pinned (OpenSpec.ofChange meshAsksSpec)

/-- ITS FALSE NEIGHBOUR: 'it returns false'. Refute it at one input. -/
def meshAsksWrong : ChangeSpec := { name := "meshAsks", fn := fun _ => fun
  | [d1, d2, d3] => { results := [.lit (.bool false)], args := [d1, d2, d3] }
  | _ => none }
def MeshAsksWrongFalsely : Prop := meshAsksRow.holds Try.pinned (OpenSpec.ofChange meshAsksWrong)

/-- 'anamorphlaw21.MeshKnots': WHATEVER THE INPUT: true; the input reads as it did. -/
def meshKnotsSpec : ChangeSpec := { name := "meshKnots", fn := fun _ => fun
  | [d1, d2, d3] => { results := [.lit (.bool true)], args := [d1, d2, d3] }
  | _ => none }
def meshKnotsRow : OpenClaim := { program := "ythoakbjnofhpbaa", sum := "15dc10698cef938691c0151592cf325db46b79dc2e7e99c0aa540ffc17069fa7", func := "anamorph/anamorphlaw21.MeshKnots", spec := "meshKnots", inPlace := ["math/bits.Sub64", "math/bits.Add64"], unfollowed := true, recurses := true, named := ["math/bits.divideError", "math/bits.overflowError"], apart := false }
def MeshKnotsSaid : Prop := meshKnotsRow.holds Try.pinned (OpenSpec.ofChange meshKnotsSpec)

/-- ITS FALSE NEIGHBOUR: 'it returns false'. Refute it at one input. -/
def meshKnotsWrong : ChangeSpec := { name := "meshKnots", fn := fun _ => fun
  | [d1, d2, d3] => { results := [.lit (.bool false)], args := [d1, d2, d3] }
  | _ => none }
def MeshKnotsWrongFalsely : Prop := meshKnotsRow.holds Try.pinned (OpenSpec.ofChange meshKnotsWrong)

/-- 'anamorphlaw21.MeshHulls': WHATEVER THE INPUT: true; the input reads as it did. -/
def meshHullsSpec : ChangeSpec := { name := "meshHulls", fn := fun _ => fun
  | [d1, d2, d3] => { results := [.lit (.bool true)], args := [d1, d2, d3] }
  | _ => none }
def meshHullsRow : OpenClaim := { program := "ythoakbjnofhpbaa", sum := "15dc10698cef938691c0151592cf325db46b79dc2e7e99c0aa540ffc17069fa7", func := "anamorph/anamorphlaw21.MeshHulls", spec := "meshHulls", inPlace := ["math/bits.Sub64", "math/bits.Add64"], unfollowed := true, recurses := true, named := ["math/bits.divideError", "math/bits.overflowError"], apart := false }
def MeshHullsSaid : Prop := meshHullsRow.holds Try.pinned (OpenSpec.ofChange meshHullsSpec)

/-- ITS FALSE NEIGHBOUR: 'it returns false'. Refute it at one input. -/
def meshHullsWrong : ChangeSpec := { name := "meshHulls", fn := fun _ => fun
  | [d1, d2, d3] => { results := [.lit (.bool false)], args := [d1, d2, d3] }
  | _ => none }
def MeshHullsWrongFalsely : Prop := meshHullsRow.holds Try.pinned (OpenSpec.ofChange meshHullsWrong)

/-- 'anamorphlaw05.MatTells': WHATEVER THE INPUT: true; the input reads as it did. -/
def matTellsSpec : ChangeSpec := { name := "matTells", fn := fun _ => fun
  | [d] => { results := [.lit (.bool true)], args := [d] }
  | _ => none }
def matTellsRow : OpenClaim := { program := "ythoakbjnofhpbaa", sum := "15dc10698cef938691c0151592cf325db46b79dc2e7e99c0aa540ffc17069fa7", func := "anamorph/anamorphlaw05.MatTells", spec := "matTells", inPlace := ["math/bits.Sub64", "math/bits.Add64"], unfollowed := true, recurses := true, apart := false }
def MatTellsSaid : Prop := matTellsRow.holds Try.pinned (OpenSpec.ofChange matTellsSpec)

/-- ITS FALSE NEIGHBOUR: 'it returns false'. Refute it at one input. -/
def matTellsWrong : ChangeSpec := { name := "matTells", fn := fun _ => fun
  | [d] => { results := [.lit (.bool false)], args := [d] }
  | _ => none }
def MatTellsWrongFalsely : Prop := matTellsRow.holds Try.pinned (OpenSpec.ofChange matTellsWrong)

/-- 'anamorphlaw05.MatProducts': WHATEVER THE INPUT: true; the input reads as it did. -/
def matProductsSpec : ChangeSpec := { name := "matProducts", fn := fun _ => fun
  | [d1, d2, d3] => { results := [.lit (.bool true)], args := [d1, d2, d3] }
  | _ => none }
def matProductsRow : OpenClaim := { program := "ythoakbjnofhpbaa", sum := "15dc10698cef938691c0151592cf325db46b79dc2e7e99c0aa540ffc17069fa7", func := "anamorph/anamorphlaw05.MatProducts", spec := "matProducts", inPlace := ["math/bits.Sub64", "math/bits.Add64"], unfollowed := true, recurses := true, apart := false }
def MatProductsSaid : Prop := matProductsRow.holds Try.pinned (OpenSpec.ofChange matProductsSpec)

/-- ITS FALSE NEIGHBOUR: 'it returns false'. Refute it at one input. -/
def matProductsWrong : ChangeSpec := { name := "matProducts", fn := fun _ => fun
  | [d1, d2, d3] => { results := [.lit (.bool false)], args := [d1, d2, d3] }
  | _ => none }
def MatProductsWrongFalsely : Prop := matProductsRow.holds Try.pinned (OpenSpec.ofChange matProductsWrong)

/-- 'anamorphlaw05.MatTurned': WHATEVER THE INPUT: true; the input reads as it did. -/
def matTurnedSpec : ChangeSpec := { name := "matTurned", fn := fun _ => fun
  | [d1, d2] => { results := [.lit (.bool true)], args := [d1, d2] }
  | _ => none }
def matTurnedRow : OpenClaim := { program := "ythoakbjnofhpbaa", sum := "15dc10698cef938691c0151592cf325db46b79dc2e7e99c0aa540ffc17069fa7", func := "anamorph/anamorphlaw05.MatTurned", spec := "matTurned", inPlace := ["math/bits.Sub64", "math/bits.Add64"], unfollowed := true, recurses := true, apart := false }
def MatTurnedSaid : Prop := matTurnedRow.holds Try.pinned (OpenSpec.ofChange matTurnedSpec)

/-- ITS FALSE NEIGHBOUR: 'it returns false'. Refute it at one input. -/
def matTurnedWrong : ChangeSpec := { name := "matTurned", fn := fun _ => fun
  | [d1, d2] => { results := [.lit (.bool false)], args := [d1, d2] }
  | _ => none }
def MatTurnedWrongFalsely : Prop := matTurnedRow.holds Try.pinned (OpenSpec.ofChange matTurnedWrong)

/-- 'anamorphlaw20.LensNear': WHATEVER THE INPUT: true; the input reads as it did. -/
def lensNearSpec : ChangeSpec := { name := "lensNear", fn := fun _ => fun
  | [d1, d2, d3] => { results := [.lit (.bool true)], args := [d1, d2, d3] }
  | _ => none }
def lensNearRow : OpenClaim := { program := "ythoakbjnofhpbaa", sum := "15dc10698cef938691c0151592cf325db46b79dc2e7e99c0aa540ffc17069fa7", func := "anamorph/anamorphlaw20.LensNear", spec := "lensNear", unfollowed := true, recurses := true, apart := false }
def LensNearSaid : Prop := lensNearRow.holds Try.pinned (OpenSpec.ofChange lensNearSpec)

/-- ITS FALSE NEIGHBOUR: 'it returns false'. Refute it at one input. -/
def lensNearWrong : ChangeSpec := { name := "lensNear", fn := fun _ => fun
  | [d1, d2, d3] => { results := [.lit (.bool false)], args := [d1, d2, d3] }
  | _ => none }
def LensNearWrongFalsely : Prop := lensNearRow.holds Try.pinned (OpenSpec.ofChange lensNearWrong)

/-- 'anamorphlaw03.RatLaws': WHATEVER THE INPUT: true; the input reads as it did. -/
def ratLawsSpec : ChangeSpec := { name := "ratLaws", fn := fun _ => fun
  | [d] => { results := [.lit (.bool true)], args := [d] }
  | _ => none }
def ratLawsRow : OpenClaim := { program := "ythoakbjnofhpbaa", sum := "15dc10698cef938691c0151592cf325db46b79dc2e7e99c0aa540ffc17069fa7", func := "anamorph/anamorphlaw03.RatLaws", spec := "ratLaws", inPlace := ["math/bits.Sub64", "math/bits.Add64"], unfollowed := true, recurses := true, apart := false }
def RatLawsSaid : Prop := ratLawsRow.holds Try.pinned (OpenSpec.ofChange ratLawsSpec)

/-- ITS FALSE NEIGHBOUR: 'it returns false'. Refute it at one input. -/
def ratLawsWrong : ChangeSpec := { name := "ratLaws", fn := fun _ => fun
  | [d] => { results := [.lit (.bool false)], args := [d] }
  | _ => none }
def RatLawsWrongFalsely : Prop := ratLawsRow.holds Try.pinned (OpenSpec.ofChange ratLawsWrong)

/-- 'anamorphlaw03.RatSums': WHATEVER THE INPUT: true; the input reads as it did. -/
def ratSumsSpec : ChangeSpec := { name := "ratSums", fn := fun _ => fun
  | [d1, d2] => { results := [.lit (.bool true)], args := [d1, d2] }
  | _ => none }
def ratSumsRow : OpenClaim := { program := "ythoakbjnofhpbaa", sum := "15dc10698cef938691c0151592cf325db46b79dc2e7e99c0aa540ffc17069fa7", func := "anamorph/anamorphlaw03.RatSums", spec := "ratSums", inPlace := ["math/bits.Sub64", "math/bits.Add64"], unfollowed := true, recurses := true, apart := false }
def RatSumsSaid : Prop := ratSumsRow.holds Try.pinned (OpenSpec.ofChange ratSumsSpec)

/-- ITS FALSE NEIGHBOUR: 'it returns false'. Refute it at one input. -/
def ratSumsWrong : ChangeSpec := { name := "ratSums", fn := fun _ => fun
  | [d1, d2] => { results := [.lit (.bool false)], args := [d1, d2] }
  | _ => none }
def RatSumsWrongFalsely : Prop := ratSumsRow.holds Try.pinned (OpenSpec.ofChange ratSumsWrong)

/-- 'anamorphlaw03.RatOrders': WHATEVER THE INPUT: true; the input reads as it did. -/
def ratOrdersSpec : ChangeSpec := { name := "ratOrders", fn := fun _ => fun
  | [d1, d2] => { results := [.lit (.bool true)], args := [d1, d2] }
  | _ => none }
def ratOrdersRow : OpenClaim := { program := "ythoakbjnofhpbaa", sum := "15dc10698cef938691c0151592cf325db46b79dc2e7e99c0aa540ffc17069fa7", func := "anamorph/anamorphlaw03.RatOrders", spec := "ratOrders", inPlace := ["math/bits.Sub64", "math/bits.Add64"], unfollowed := true, recurses := true, named := ["math/bits.divideError", "math/bits.overflowError"], apart := false }
def RatOrdersSaid : Prop := ratOrdersRow.holds Try.pinned (OpenSpec.ofChange ratOrdersSpec)

/-- ITS FALSE NEIGHBOUR: 'it returns false'. Refute it at one input. -/
def ratOrdersWrong : ChangeSpec := { name := "ratOrders", fn := fun _ => fun
  | [d1, d2] => { results := [.lit (.bool false)], args := [d1, d2] }
  | _ => none }
def RatOrdersWrongFalsely : Prop := ratOrdersRow.holds Try.pinned (OpenSpec.ofChange ratOrdersWrong)

/-- 'anamorphlaw03.RatSorts': WHATEVER THE INPUT: true; the input reads as it did. -/
def ratSortsSpec : ChangeSpec := { name := "ratSorts", fn := fun _ => fun
  | [d] => { results := [.lit (.bool true)], args := [d] }
  | _ => none }
def ratSortsRow : OpenClaim := { program := "ythoakbjnofhpbaa", sum := "15dc10698cef938691c0151592cf325db46b79dc2e7e99c0aa540ffc17069fa7", func := "anamorph/anamorphlaw03.RatSorts", spec := "ratSorts", inPlace := ["math/bits.Sub64", "math/bits.Add64"], unfollowed := true, recurses := true, apart := false }
def RatSortsSaid : Prop := ratSortsRow.holds Try.pinned (OpenSpec.ofChange ratSortsSpec)

/-- ITS FALSE NEIGHBOUR: 'it returns false'. Refute it at one input. -/
def ratSortsWrong : ChangeSpec := { name := "ratSorts", fn := fun _ => fun
  | [d] => { results := [.lit (.bool false)], args := [d] }
  | _ => none }
def RatSortsWrongFalsely : Prop := ratSortsRow.holds Try.pinned (OpenSpec.ofChange ratSortsWrong)

/- THE SECOND FORM. 'bulk': how many values and letters a reading holds, each counted each time it is reached (what is shared counts as often as it is met; a slice's spare places count too). A statement '..UptoSaid' is the law's where the arguments, and the package variables that the reading takes, are together of bulk at most 1048576: NARROWER than '..Said'. Prove '..Said' where nothing that the law and all that it calls make is longer than what came in: it says more and counts as full. Else prove '..UptoSaid'. A law counts once. -/
mutual
def uptoBulk {H : Type} : DataW H → Nat
  | .lit (.string bytes) => bytes.length + 1
  | .lit _ => 1
  | .nil => 1
  | .ptr d => uptoBulk d + 1
  | .slice elems spare => uptoBulkAll elems + uptoBulkAll spare + 1
  | .agg parts => uptoBulkAll parts + 1
  | .iface _ d => uptoBulk d + 1
  | .map entries => uptoBulkEntries entries + 1
  | .held _ => 1
def uptoBulkAll {H : Type} : List (DataW H) → Nat
  | [] => 0
  | d :: r => uptoBulk d + uptoBulkAll r
def uptoBulkEntries {H : Type} : List (Lit × DataW H) → Nat
  | [] => 0
  | x :: r => uptoBulkEntry x + uptoBulkEntries r
def uptoBulkEntry {H : Type} : Lit × DataW H → Nat
  | (.string bytes, d) => bytes.length + uptoBulk d + 1
  | (_, d) => uptoBulk d + 1
 end
def uptoSmall : (H : Type) → List (DataW H) → Bool := fun _ ds => decide (uptoBulkAll ds ≤ 1048576)
def OpenSpec.upto (s : _root_.Go.ChangeSpec) : _root_.Go.OpenSpec := { _root_.Go.OpenSpec.ofChange s with cond := some uptoSmall }

/-- 'anamorphlaw21.MeshPlain', WHERE WHAT IT READS IS OF BULK AT MOST 1048576: true; the input reads as it did. -/
def meshPlainUptoRow : OpenClaim := { program := "ythoakbjnofhpbaa", sum := "15dc10698cef938691c0151592cf325db46b79dc2e7e99c0aa540ffc17069fa7", func := "anamorph/anamorphlaw21.MeshPlain", spec := "meshPlain", inPlace := ["math/bits.Sub64", "math/bits.Add64"], unfollowed := true, recurses := true, named := ["math/bits.divideError", "math/bits.overflowError"], apart := false, narrowed := true }
def MeshPlainUptoSaid : Prop := meshPlainUptoRow.holds Try.pinned (OpenSpec.upto meshPlainSpec)

/-- 'anamorphlaw21.MeshAsks', WHERE WHAT IT READS IS OF BULK AT MOST 1048576: true; the input reads as it did. -/
def meshAsksUptoRow : OpenClaim := { program := "ythoakbjnofhpbaa", sum := "15dc10698cef938691c0151592cf325db46b79dc2e7e99c0aa540ffc17069fa7", func := "anamorph/anamorphlaw21.MeshAsks", spec := "meshAsks", inPlace := ["math/bits.Sub64", "math/bits.Add64"], unfollowed := true, recurses := true, named := ["math/bits.divideError", "math/bits.overflowError"], apart := false, narrowed := true }
def MeshAsksUptoSaid : Prop := meshAsksUptoRow.holds Try.pinned (OpenSpec.upto meshAsksSpec)

/-- 'anamorphlaw21.MeshKnots', WHERE WHAT IT READS IS OF BULK AT MOST 1048576: true; the input reads as it did. -/
def meshKnotsUptoRow : OpenClaim := { program := "ythoakbjnofhpbaa", sum := "15dc10698cef938691c0151592cf325db46b79dc2e7e99c0aa540ffc17069fa7", func := "anamorph/anamorphlaw21.MeshKnots", spec := "meshKnots", inPlace := ["math/bits.Sub64", "math/bits.Add64"], unfollowed := true, recurses := true, named := ["math/bits.divideError", "math/bits.overflowError"], apart := false, narrowed := true }
def MeshKnotsUptoSaid : Prop := meshKnotsUptoRow.holds Try.pinned (OpenSpec.upto meshKnotsSpec)

/-- 'anamorphlaw21.MeshHulls', WHERE WHAT IT READS IS OF BULK AT MOST 1048576: true; the input reads as it did. -/
def meshHullsUptoRow : OpenClaim := { program := "ythoakbjnofhpbaa", sum := "15dc10698cef938691c0151592cf325db46b79dc2e7e99c0aa540ffc17069fa7", func := "anamorph/anamorphlaw21.MeshHulls", spec := "meshHulls", inPlace := ["math/bits.Sub64", "math/bits.Add64"], unfollowed := true, recurses := true, named := ["math/bits.divideError", "math/bits.overflowError"], apart := false, narrowed := true }
def MeshHullsUptoSaid : Prop := meshHullsUptoRow.holds Try.pinned (OpenSpec.upto meshHullsSpec)

/-- 'anamorphlaw05.MatTells', WHERE WHAT IT READS IS OF BULK AT MOST 1048576: true; the input reads as it did. -/
def matTellsUptoRow : OpenClaim := { program := "ythoakbjnofhpbaa", sum := "15dc10698cef938691c0151592cf325db46b79dc2e7e99c0aa540ffc17069fa7", func := "anamorph/anamorphlaw05.MatTells", spec := "matTells", inPlace := ["math/bits.Sub64", "math/bits.Add64"], unfollowed := true, recurses := true, apart := false, narrowed := true }
def MatTellsUptoSaid : Prop := matTellsUptoRow.holds Try.pinned (OpenSpec.upto matTellsSpec)

/-- 'anamorphlaw05.MatProducts', WHERE WHAT IT READS IS OF BULK AT MOST 1048576: true; the input reads as it did. -/
def matProductsUptoRow : OpenClaim := { program := "ythoakbjnofhpbaa", sum := "15dc10698cef938691c0151592cf325db46b79dc2e7e99c0aa540ffc17069fa7", func := "anamorph/anamorphlaw05.MatProducts", spec := "matProducts", inPlace := ["math/bits.Sub64", "math/bits.Add64"], unfollowed := true, recurses := true, apart := false, narrowed := true }
def MatProductsUptoSaid : Prop := matProductsUptoRow.holds Try.pinned (OpenSpec.upto matProductsSpec)

/-- 'anamorphlaw05.MatTurned', WHERE WHAT IT READS IS OF BULK AT MOST 1048576: true; the input reads as it did. -/
def matTurnedUptoRow : OpenClaim := { program := "ythoakbjnofhpbaa", sum := "15dc10698cef938691c0151592cf325db46b79dc2e7e99c0aa540ffc17069fa7", func := "anamorph/anamorphlaw05.MatTurned", spec := "matTurned", inPlace := ["math/bits.Sub64", "math/bits.Add64"], unfollowed := true, recurses := true, apart := false, narrowed := true }
def MatTurnedUptoSaid : Prop := matTurnedUptoRow.holds Try.pinned (OpenSpec.upto matTurnedSpec)

/-- 'anamorphlaw20.LensNear', WHERE WHAT IT READS IS OF BULK AT MOST 1048576: true; the input reads as it did. -/
def lensNearUptoRow : OpenClaim := { program := "ythoakbjnofhpbaa", sum := "15dc10698cef938691c0151592cf325db46b79dc2e7e99c0aa540ffc17069fa7", func := "anamorph/anamorphlaw20.LensNear", spec := "lensNear", unfollowed := true, recurses := true, apart := false, narrowed := true }
def LensNearUptoSaid : Prop := lensNearUptoRow.holds Try.pinned (OpenSpec.upto lensNearSpec)

/-- 'anamorphlaw03.RatLaws', WHERE WHAT IT READS IS OF BULK AT MOST 1048576: true; the input reads as it did. -/
def ratLawsUptoRow : OpenClaim := { program := "ythoakbjnofhpbaa", sum := "15dc10698cef938691c0151592cf325db46b79dc2e7e99c0aa540ffc17069fa7", func := "anamorph/anamorphlaw03.RatLaws", spec := "ratLaws", inPlace := ["math/bits.Sub64", "math/bits.Add64"], unfollowed := true, recurses := true, apart := false, narrowed := true }
def RatLawsUptoSaid : Prop := ratLawsUptoRow.holds Try.pinned (OpenSpec.upto ratLawsSpec)

/-- 'anamorphlaw03.RatSums', WHERE WHAT IT READS IS OF BULK AT MOST 1048576: true; the input reads as it did. -/
def ratSumsUptoRow : OpenClaim := { program := "ythoakbjnofhpbaa", sum := "15dc10698cef938691c0151592cf325db46b79dc2e7e99c0aa540ffc17069fa7", func := "anamorph/anamorphlaw03.RatSums", spec := "ratSums", inPlace := ["math/bits.Sub64", "math/bits.Add64"], unfollowed := true, recurses := true, apart := false, narrowed := true }
def RatSumsUptoSaid : Prop := ratSumsUptoRow.holds Try.pinned (OpenSpec.upto ratSumsSpec)

/-- 'anamorphlaw03.RatOrders', WHERE WHAT IT READS IS OF BULK AT MOST 1048576: true; the input reads as it did. -/
def ratOrdersUptoRow : OpenClaim := { program := "ythoakbjnofhpbaa", sum := "15dc10698cef938691c0151592cf325db46b79dc2e7e99c0aa540ffc17069fa7", func := "anamorph/anamorphlaw03.RatOrders", spec := "ratOrders", inPlace := ["math/bits.Sub64", "math/bits.Add64"], unfollowed := true, recurses := true, named := ["math/bits.divideError", "math/bits.overflowError"], apart := false, narrowed := true }
def RatOrdersUptoSaid : Prop := ratOrdersUptoRow.holds Try.pinned (OpenSpec.upto ratOrdersSpec)

/-- 'anamorphlaw03.RatSorts', WHERE WHAT IT READS IS OF BULK AT MOST 1048576: true; the input reads as it did. -/
def ratSortsUptoRow : OpenClaim := { program := "ythoakbjnofhpbaa", sum := "15dc10698cef938691c0151592cf325db46b79dc2e7e99c0aa540ffc17069fa7", func := "anamorph/anamorphlaw03.RatSorts", spec := "ratSorts", inPlace := ["math/bits.Sub64", "math/bits.Add64"], unfollowed := true, recurses := true, apart := false, narrowed := true }
def RatSortsUptoSaid : Prop := ratSortsUptoRow.holds Try.pinned (OpenSpec.upto ratSortsSpec)

end Rows
end Go.Proofs.Ythoakbjnofhpbaa
