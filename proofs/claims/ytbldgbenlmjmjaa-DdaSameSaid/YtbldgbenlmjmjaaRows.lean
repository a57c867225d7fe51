/-
  No cell of these rows narrows 'for every input' (looked for: loops, veiled, ifaces, maps, wideKeys, modest, calm, conditions, laid).
  DERIVED. THE GIVEN ROWS OF THIS SEAT. 9 by the template 'for every input the law returns true; each argument reads behind the call as it read before'; 0 by the template 'total and deterministic' (their statements: YtbldgbenlmjmjaaTotals.lean).
  GIVEN WITH THE SEED: the statements are not yours to turn. If you find one false, say at which input.
  Laid BY PROGRAM, IN A SANDBOX (cutbox-rows.mjs): the forced cells as the released guide's own fill.sh prints them over the translation 0275980d184b6a73… (all of the seat's roots in one cut). By AI agents, Wed Nov 11 2026. No macro, syntax, notation, axiom, sorry.
-/
import Derived.Test.YtbldgbenlmjmjaaChecked
import GoSem.Claim
import GoSem.ClaimJoined
import GoSem.ClaimMapViews
import Derived.JoinedTies
import Derived.KernelRfl
namespace Go.Proofs.Ytbldgbenlmjmjaa
/- THE CELL 'sum', in the pinned program and in every row, IS THE sha256 OF THE DUMP (.gsa) THAT YtbldgbenlmjmjaaProg.lean LOADS. Nothing in Lean hashes anything: it is a label: what it is worth is what the hold of that sum in a sandbox is worth. -/
noncomputable def Try.pinned : Pinned := { name := "ytbldgbenlmjmjaa", sum := "0275980d184b6a73496588f99ba3c394123a63f5a489564b9c194402450613ac", checked := Try.checked }
namespace Rows
def none {H : Type} : Left H := { results := [], args := [] }

/-- 'anamorphlaw18.AffineBack': WHATEVER THE INPUT: true; the input reads as it did. -/
def affineBackSpec : ChangeSpec := { name := "affineBack", fn := fun _ => fun
  | [d1, d2, d3] => { results := [.lit (.bool true)], args := [d1, d2, d3] }
  | _ => none }
def affineBackRow : OpenClaim := { program := "ytbldgbenlmjmjaa", sum := "0275980d184b6a73496588f99ba3c394123a63f5a489564b9c194402450613ac", func := "anamorph/anamorphlaw18.AffineBack", spec := "affineBack", inPlace := ["math/bits.Sub64", "math/bits.Add64"], unfollowed := true, recurses := true, named := ["math/bits.divideError", "math/bits.overflowError"], apart := false }
def AffineBackSaid : Prop := affineBackRow.holds Try.pinned (OpenSpec.ofChange affineBackSpec)

/-- ITS FALSE NEIGHBOUR: 'it returns false'. Refute it at one input. -/
def affineBackWrong : ChangeSpec := { name := "affineBack", fn := fun _ => fun
  | [d1, d2, d3] => { results := [.lit (.bool false)], args := [d1, d2, d3] }
  | _ => none }
def AffineBackWrongFalsely : Prop := affineBackRow.holds Try.pinned (OpenSpec.ofChange affineBackWrong)

/-- 'anamorphlaw18.AffineMoves': WHATEVER THE INPUT: true; the input reads as it did. -/
def affineMovesSpec : ChangeSpec := { name := "affineMoves", fn := fun _ => fun
  | [d1, d2, d3] => { results := [.lit (.bool true)], args := [d1, d2, d3] }
  | _ => none }
def affineMovesRow : OpenClaim := { program := "ytbldgbenlmjmjaa", sum := "0275980d184b6a73496588f99ba3c394123a63f5a489564b9c194402450613ac", func := "anamorph/anamorphlaw18.AffineMoves", spec := "affineMoves", inPlace := ["math/bits.Sub64", "math/bits.Add64"], unfollowed := true, recurses := true, named := ["math/bits.divideError", "math/bits.overflowError"], apart := false }
def AffineMovesSaid : Prop := affineMovesRow.holds Try.pinned (OpenSpec.ofChange affineMovesSpec)

/-- ITS FALSE NEIGHBOUR: 'it returns false'. Refute it at one input. -/
def affineMovesWrong : ChangeSpec := { name := "affineMoves", fn := fun _ => fun
  | [d1, d2, d3] => { results := [.lit (.bool false)], args := [d1, d2, d3] }
  | _ => none }
def AffineMovesWrongFalsely : Prop := affineMovesRow.holds Try.pinned (OpenSpec.ofChange affineMovesWrong)

/-- 'anamorphlaw18.AffineAsks': WHATEVER THE INPUT: true; the input reads as it did. -/
def affineAsksSpec : ChangeSpec := { name := "affineAsks", fn := fun _ => fun
  | [d1, d2] => { results := [.lit (.bool true)], args := [d1, d2] }
  | _ => none }
def affineAsksRow : OpenClaim := { program := "ytbldgbenlmjmjaa", sum := "0275980d184b6a73496588f99ba3c394123a63f5a489564b9c194402450613ac", func := "anamorph/anamorphlaw18.AffineAsks", spec := "affineAsks", inPlace := ["math/bits.Sub64", "math/bits.Add64"], unfollowed := true, recurses := true, named := ["math/bits.divideError", "math/bits.overflowError"], apart := false }
def AffineAsksSaid : Prop := affineAsksRow.holds Try.pinned (OpenSpec.ofChange affineAsksSpec)

/-- ITS FALSE NEIGHBOUR: 'it returns false'. Refute it at one input. -/
def affineAsksWrong : ChangeSpec := { name := "affineAsks", fn := fun _ => fun
  | [d1, d2] => { results := [.lit (.bool false)], args := [d1, d2] }
  | _ => none }
def AffineAsksWrongFalsely : Prop := affineAsksRow.holds Try.pinned (OpenSpec.ofChange affineAsksWrong)

/-- 'anamorphlaw18.AffineLines': WHATEVER THE INPUT: true; the input reads as it did. -/
def affineLinesSpec : ChangeSpec := { name := "affineLines", fn := fun _ => fun
  | [d1, d2] => { results := [.lit (.bool true)], args := [d1, d2] }
  | _ => none }
def affineLinesRow : OpenClaim := { program := "ytbldgbenlmjmjaa", sum := "0275980d184b6a73496588f99ba3c394123a63f5a489564b9c194402450613ac", func := "anamorph/anamorphlaw18.AffineLines", spec := "affineLines", inPlace := ["math/bits.Sub64", "math/bits.Add64"], unfollowed := true, recurses := true, named := ["math/bits.divideError", "math/bits.overflowError"], apart := false }
def AffineLinesSaid : Prop := affineLinesRow.holds Try.pinned (OpenSpec.ofChange affineLinesSpec)

/-- ITS FALSE NEIGHBOUR: 'it returns false'. Refute it at one input. -/
def affineLinesWrong : ChangeSpec := { name := "affineLines", fn := fun _ => fun
  | [d1, d2] => { results := [.lit (.bool false)], args := [d1, d2] }
  | _ => none }
def AffineLinesWrongFalsely : Prop := affineLinesRow.holds Try.pinned (OpenSpec.ofChange affineLinesWrong)

/-- 'anamorphlaw26.SpanRows': WHATEVER THE INPUT: true; the input reads as it did. -/
def spanRowsSpec : ChangeSpec := { name := "spanRows", fn := fun _ => fun
  | [d1, d2] => { results := [.lit (.bool true)], args := [d1, d2] }
  | _ => none }
def spanRowsRow : OpenClaim := { program := "ytbldgbenlmjmjaa", sum := "0275980d184b6a73496588f99ba3c394123a63f5a489564b9c194402450613ac", func := "anamorph/anamorphlaw26.SpanRows", spec := "spanRows", inPlace := ["math/bits.Sub64", "math/bits.Add64"], unfollowed := true, recurses := true, named := ["math/bits.divideError", "math/bits.overflowError"], apart := false }
def SpanRowsSaid : Prop := spanRowsRow.holds Try.pinned (OpenSpec.ofChange spanRowsSpec)

/-- ITS FALSE NEIGHBOUR: 'it returns false'. Refute it at one input. -/
def spanRowsWrong : ChangeSpec := { name := "spanRows", fn := fun _ => fun
  | [d1, d2] => { results := [.lit (.bool false)], args := [d1, d2] }
  | _ => none }
def SpanRowsWrongFalsely : Prop := spanRowsRow.holds Try.pinned (OpenSpec.ofChange spanRowsWrong)

/-- 'anamorphlaw26.SpanIn': WHATEVER THE INPUT: true; the input reads as it did. -/
def spanInSpec : ChangeSpec := { name := "spanIn", fn := fun _ => fun
  | [d1, d2] => { results := [.lit (.bool true)], args := [d1, d2] }
  | _ => none }
def spanInRow : OpenClaim := { program := "ytbldgbenlmjmjaa", sum := "0275980d184b6a73496588f99ba3c394123a63f5a489564b9c194402450613ac", func := "anamorph/anamorphlaw26.SpanIn", spec := "spanIn", inPlace := ["math/bits.Sub64", "math/bits.Add64"], unfollowed := true, recurses := true, named := ["math/bits.divideError", "math/bits.overflowError"], apart := false }
def SpanInSaid : Prop := spanInRow.holds Try.pinned (OpenSpec.ofChange spanInSpec)

/-- ITS FALSE NEIGHBOUR: 'it returns false'. Refute it at one input. -/
def spanInWrong : ChangeSpec := { name := "spanIn", fn := fun _ => fun
  | [d1, d2] => { results := [.lit (.bool false)], args := [d1, d2] }
  | _ => none }
def SpanInWrongFalsely : Prop := spanInRow.holds Try.pinned (OpenSpec.ofChange spanInWrong)

/-- 'anamorphlaw26.SpanAll': WHATEVER THE INPUT: true; the input reads as it did. -/
def spanAllSpec : ChangeSpec := { name := "spanAll", fn := fun _ => fun
  | [d1, d2] => { results := [.lit (.bool true)], args := [d1, d2] }
  | _ => none }
def spanAllRow : OpenClaim := { program := "ytbldgbenlmjmjaa", sum := "0275980d184b6a73496588f99ba3c394123a63f5a489564b9c194402450613ac", func := "anamorph/anamorphlaw26.SpanAll", spec := "spanAll", inPlace := ["math/bits.Sub64", "math/bits.Add64"], unfollowed := true, recurses := true, named := ["math/bits.divideError", "math/bits.overflowError"], apart := false }
def SpanAllSaid : Prop := spanAllRow.holds Try.pinned (OpenSpec.ofChange spanAllSpec)

/-- ITS FALSE NEIGHBOUR: 'it returns false'. Refute it at one input. -/
def spanAllWrong : ChangeSpec := { name := "spanAll", fn := fun _ => fun
  | [d1, d2] => { results := [.lit (.bool false)], args := [d1, d2] }
  | _ => none }
def SpanAllWrongFalsely : Prop := spanAllRow.holds Try.pinned (OpenSpec.ofChange spanAllWrong)

/-- 'anamorphlaw34.DdaSame': WHATEVER THE INPUT: true; the input reads as it did. -/
def ddaSameSpec : ChangeSpec := { name := "ddaSame", fn := fun _ => fun
  | [d1, d2, d3] => { results := [.lit (.bool true)], args := [d1, d2, d3] }
  | _ => none }
def ddaSameRow : OpenClaim := { program := "ytbldgbenlmjmjaa", sum := "0275980d184b6a73496588f99ba3c394123a63f5a489564b9c194402450613ac", func := "anamorph/anamorphlaw34.DdaSame", spec := "ddaSame", inPlace := ["math/bits.Sub64", "math/bits.Add64"], unfollowed := true, recurses := true, named := ["math/bits.divideError", "math/bits.overflowError"], apart := false }
def DdaSameSaid : Prop := ddaSameRow.holds Try.pinned (OpenSpec.ofChange ddaSameSpec)

/-- ITS FALSE NEIGHBOUR: 'it returns false'. Refute it at one input. -/
def ddaSameWrong : ChangeSpec := { name := "ddaSame", fn := fun _ => fun
  | [d1, d2, d3] => { results := [.lit (.bool false)], args := [d1, d2, d3] }
  | _ => none }
def DdaSameWrongFalsely : Prop := ddaSameRow.holds Try.pinned (OpenSpec.ofChange ddaSameWrong)

/-- 'anamorphlaw34.DdaWalks': WHATEVER THE INPUT: true; the input reads as it did. -/
def ddaWalksSpec : ChangeSpec := { name := "ddaWalks", fn := fun _ => fun
  | [d1, d2, d3] => { results := [.lit (.bool true)], args := [d1, d2, d3] }
  | _ => none }
def ddaWalksRow : OpenClaim := { program := "ytbldgbenlmjmjaa", sum := "0275980d184b6a73496588f99ba3c394123a63f5a489564b9c194402450613ac", func := "anamorph/anamorphlaw34.DdaWalks", spec := "ddaWalks", inPlace := ["math/bits.Sub64", "math/bits.Add64"], unfollowed := true, recurses := true, named := ["math/bits.divideError", "math/bits.overflowError"], apart := false }
def DdaWalksSaid : Prop := ddaWalksRow.holds Try.pinned (OpenSpec.ofChange ddaWalksSpec)

/-- ITS FALSE NEIGHBOUR: 'it returns false'. Refute it at one input. -/
def ddaWalksWrong : ChangeSpec := { name := "ddaWalks", fn := fun _ => fun
  | [d1, d2, d3] => { results := [.lit (.bool false)], args := [d1, d2, d3] }
  | _ => none }
def DdaWalksWrongFalsely : Prop := ddaWalksRow.holds Try.pinned (OpenSpec.ofChange ddaWalksWrong)

/- THE SECOND FORM. 'bulk': how many values and letters a reading holds, each counted each time it is reached (what is shared counts as often as it is met; a slice's spare places count too). A statement '..UptoSaid' is the law's where the arguments, and the package variables that the reading takes, are together of bulk at most 1048576: NARROWER than '..Said'. Prove '..Said' where nothing that the law and all that it calls make is longer than what came in: it says more and counts as full. Else prove '..UptoSaid'. A law counts once. -/
mutual
def uptoBulk {H : Type} : DataW H → Nat
  | .lit (.string bytes) => bytes.length + 1
  | .lit _ => 1
  | .nil => 1
  | .ptr d => uptoBulk d + 1
  | .slice elems spare => uptoBulkAll elems + uptoBulkAll spare + 1
  | .agg parts => uptoBulkAll parts + 1
  | .iface _ d => uptoBulk d + 1
  | .map entries => uptoBulkEntries entries + 1
  | .held _ => 1
def uptoBulkAll {H : Type} : List (DataW H) → Nat
  | [] => 0
  | d :: r => uptoBulk d + uptoBulkAll r
def uptoBulkEntries {H : Type} : List (Lit × DataW H) → Nat
  | [] => 0
  | x :: r => uptoBulkEntry x + uptoBulkEntries r
def uptoBulkEntry {H : Type} : Lit × DataW H → Nat
  | (.string bytes, d) => bytes.length + uptoBulk d + 1
  | (_, d) => uptoBulk d + 1
 end
def uptoSmall : (H : Type) → List (DataW H) → Bool := fun _ ds => decide (uptoBulkAll ds ≤ 1048576)
def OpenSpec.upto (s : _root_.Go.ChangeSpec) : _root_.Go.OpenSpec := { _root_.Go.OpenSpec.ofChange s with cond := some uptoSmall }

/-- 'anamorphlaw18.AffineBack', WHERE WHAT IT READS IS OF BULK AT MOST 1048576: true; the input reads as it did. -/
def affineBackUptoRow : OpenClaim := { program := "ytbldgbenlmjmjaa", sum := "0275980d184b6a73496588f99ba3c394123a63f5a489564b9c194402450613ac", func := "anamorph/anamorphlaw18.AffineBack", spec := "affineBack", inPlace := ["math/bits.Sub64", "math/bits.Add64"], unfollowed := true, recurses := true, named := ["math/bits.divideError", "math/bits.overflowError"], apart := false, narrowed := true }
def AffineBackUptoSaid : Prop := affineBackUptoRow.holds Try.pinned (OpenSpec.upto affineBackSpec)

/-- 'anamorphlaw18.AffineMoves', WHERE WHAT IT READS IS OF BULK AT MOST 1048576: true; the input reads as it did. -/
def affineMovesUptoRow : OpenClaim := { program := "ytbldgbenlmjmjaa", sum := "0275980d184b6a73496588f99ba3c394123a63f5a489564b9c194402450613ac", func := "anamorph/anamorphlaw18.AffineMoves", spec := "affineMoves", inPlace := ["math/bits.Sub64", "math/bits.Add64"], unfollowed := true, recurses := true, named := ["math/bits.divideError", "math/bits.overflowError"], apart := false, narrowed := true }
def AffineMovesUptoSaid : Prop := affineMovesUptoRow.holds Try.pinned (OpenSpec.upto affineMovesSpec)

/-- 'anamorphlaw18.AffineAsks', WHERE WHAT IT READS IS OF BULK AT MOST 1048576: true; the input reads as it did. -/
def affineAsksUptoRow : OpenClaim := { program := "ytbldgbenlmjmjaa", sum := "0275980d184b6a73496588f99ba3c394123a63f5a489564b9c194402450613ac", func := "anamorph/anamorphlaw18.AffineAsks", spec := "affineAsks", inPlace := ["math/bits.Sub64", "math/bits.Add64"], unfollowed := true, recurses := true, named := ["math/bits.divideError", "math/bits.overflowError"], apart := false, narrowed := true }
def AffineAsksUptoSaid : Prop := affineAsksUptoRow.holds Try.pinned (OpenSpec.upto affineAsksSpec)

/-- 'anamorphlaw18.AffineLines', WHERE WHAT IT READS IS OF BULK AT MOST 1048576: true; the input reads as it did. -/
def affineLinesUptoRow : OpenClaim := { program := "ytbldgbenlmjmjaa", sum := "0275980d184b6a73496588f99ba3c394123a63f5a489564b9c194402450613ac", func := "anamorph/anamorphlaw18.AffineLines", spec := "affineLines", inPlace := ["math/bits.Sub64", "math/bits.Add64"], unfollowed := true, recurses := true, named := ["math/bits.divideError", "math/bits.overflowError"], apart := false, narrowed := true }
def AffineLinesUptoSaid : Prop := affineLinesUptoRow.holds Try.pinned (OpenSpec.upto affineLinesSpec)

/-- 'anamorphlaw26.SpanRows', WHERE WHAT IT READS IS OF BULK AT MOST 1048576: true; the input reads as it did. -/
def spanRowsUptoRow : OpenClaim := { program := "ytbldgbenlmjmjaa", sum := "0275980d184b6a73496588f99ba3c394123a63f5a489564b9c194402450613ac", func := "anamorph/anamorphlaw26.SpanRows", spec := "spanRows", inPlace := ["math/bits.Sub64", "math/bits.Add64"], unfollowed := true, recurses := true, named := ["math/bits.divideError", "math/bits.overflowError"], apart := false, narrowed := true }
def SpanRowsUptoSaid : Prop := spanRowsUptoRow.holds Try.pinned (OpenSpec.upto spanRowsSpec)

/-- 'anamorphlaw26.SpanIn', WHERE WHAT IT READS IS OF BULK AT MOST 1048576: true; the input reads as it did. -/
def spanInUptoRow : OpenClaim := { program := "ytbldgbenlmjmjaa", sum := "0275980d184b6a73496588f99ba3c394123a63f5a489564b9c194402450613ac", func := "anamorph/anamorphlaw26.SpanIn", spec := "spanIn", inPlace := ["math/bits.Sub64", "math/bits.Add64"], unfollowed := true, recurses := true, named := ["math/bits.divideError", "math/bits.overflowError"], apart := false, narrowed := true }
def SpanInUptoSaid : Prop := spanInUptoRow.holds Try.pinned (OpenSpec.upto spanInSpec)

/-- 'anamorphlaw26.SpanAll', WHERE WHAT IT READS IS OF BULK AT MOST 1048576: true; the input reads as it did. -/
def spanAllUptoRow : OpenClaim := { program := "ytbldgbenlmjmjaa", sum := "0275980d184b6a73496588f99ba3c394123a63f5a489564b9c194402450613ac", func := "anamorph/anamorphlaw26.SpanAll", spec := "spanAll", inPlace := ["math/bits.Sub64", "math/bits.Add64"], unfollowed := true, recurses := true, named := ["math/bits.divideError", "math/bits.overflowError"], apart := false, narrowed := true }
def SpanAllUptoSaid : Prop := spanAllUptoRow.holds Try.pinned (OpenSpec.upto spanAllSpec)

/-- 'anamorphlaw34.DdaSame', WHERE WHAT IT READS IS OF BULK AT MOST 1048576: true; the input reads as it did. -/
def ddaSameUptoRow : OpenClaim := { program := "ytbldgbenlmjmjaa", sum := "0275980d184b6a73496588f99ba3c394123a63f5a489564b9c194402450613ac", func := "anamorph/anamorphlaw34.DdaSame", spec := "ddaSame", inPlace := ["math/bits.Sub64", "math/bits.Add64"], unfollowed := true, recurses := true, named := ["math/bits.divideError", "math/bits.overflowError"], apart := false, narrowed := true }
def DdaSameUptoSaid : Prop := ddaSameUptoRow.holds Try.pinned (OpenSpec.upto ddaSameSpec)

/-- 'anamorphlaw34.DdaWalks', WHERE WHAT IT READS IS OF BULK AT MOST 1048576: true; the input reads as it did. -/
def ddaWalksUptoRow : OpenClaim := { program := "ytbldgbenlmjmjaa", sum := "0275980d184b6a73496588f99ba3c394123a63f5a489564b9c194402450613ac", func := "anamorph/anamorphlaw34.DdaWalks", spec := "ddaWalks", inPlace := ["math/bits.Sub64", "math/bits.Add64"], unfollowed := true, recurses := true, named := ["math/bits.divideError", "math/bits.overflowError"], apart := false, narrowed := true }
def DdaWalksUptoSaid : Prop := ddaWalksUptoRow.holds Try.pinned (OpenSpec.upto ddaWalksSpec)

end Rows
end Go.Proofs.Ytbldgbenlmjmjaa
