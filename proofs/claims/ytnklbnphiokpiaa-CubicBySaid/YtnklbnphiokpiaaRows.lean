/-
  No cell of these rows narrows 'for every input' (looked for: loops, veiled, ifaces, maps, wideKeys, modest, calm, conditions, laid).
  DERIVED. THE GIVEN ROWS OF THIS SEAT. 11 by the template 'for every input the law returns true; each argument reads behind the call as it read before'; 0 by the template 'total and deterministic' (their statements: YtnklbnphiokpiaaTotals.lean).
  GIVEN WITH THE SEED: the statements are not yours to turn. If you find one false, say at which input.
  Laid BY PROGRAM, IN A SANDBOX (cutbox-rows.mjs): the forced cells as the released guide's own fill.sh prints them over the translation f6552f2ffbc13591… (all of the seat's roots in one cut). By AI agents, Wed Nov 11 2026. No macro, syntax, notation, axiom, sorry.
-/
import Derived.Test.YtnklbnphiokpiaaChecked
import GoSem.Claim
import GoSem.ClaimJoined
import GoSem.ClaimMapViews
import Derived.JoinedTies
import Derived.KernelRfl
namespace Go.Proofs.Ytnklbnphiokpiaa
/- THE CELL 'sum', in the pinned program and in every row, IS THE sha256 OF THE DUMP (.gsa) THAT YtnklbnphiokpiaaProg.lean LOADS. Nothing in Lean hashes anything: it is a label: what it is worth is what the hold of that sum in a sandbox is worth. -/
noncomputable def Try.pinned : Pinned := { name := "ytnklbnphiokpiaa", sum := "f6552f2ffbc135916e32b1d857332636633a0410a52217a1a5844866d1877ccd", checked := Try.checked }
namespace Rows
def none {H : Type} : Left H := { results := [], args := [] }

/-- 'anamorphlaw27.WeightSums': WHATEVER THE INPUT: true; the input reads as it did. -/
def weightSumsSpec : ChangeSpec := { name := "weightSums", fn := fun _ => fun
  | [d1, d2, d3] => { results := [.lit (.bool true)], args := [d1, d2, d3] }
  | _ => none }
def weightSumsRow : OpenClaim := { program := "ytnklbnphiokpiaa", sum := "f6552f2ffbc135916e32b1d857332636633a0410a52217a1a5844866d1877ccd", func := "anamorph/anamorphlaw27.WeightSums", spec := "weightSums", inPlace := ["math/bits.Sub64", "math/bits.Add64"], named := ["math/bits.divideError", "math/bits.overflowError"], apart := false }
def WeightSumsSaid : Prop := weightSumsRow.holds Try.pinned (OpenSpec.ofChange weightSumsSpec)

/-- ITS FALSE NEIGHBOUR: 'it returns false'. Refute it at one input. -/
def weightSumsWrong : ChangeSpec := { name := "weightSums", fn := fun _ => fun
  | [d1, d2, d3] => { results := [.lit (.bool false)], args := [d1, d2, d3] }
  | _ => none }
def WeightSumsWrongFalsely : Prop := weightSumsRow.holds Try.pinned (OpenSpec.ofChange weightSumsWrong)

/-- 'anamorphlaw27.WeightMixes': WHATEVER THE INPUT: true; the input reads as it did. -/
def weightMixesSpec : ChangeSpec := { name := "weightMixes", fn := fun _ => fun
  | [d1, d2, d3] => { results := [.lit (.bool true)], args := [d1, d2, d3] }
  | _ => none }
def weightMixesRow : OpenClaim := { program := "ytnklbnphiokpiaa", sum := "f6552f2ffbc135916e32b1d857332636633a0410a52217a1a5844866d1877ccd", func := "anamorph/anamorphlaw27.WeightMixes", spec := "weightMixes", inPlace := ["math/bits.Sub64", "math/bits.Add64"], named := ["math/bits.divideError", "math/bits.overflowError"], apart := false }
def WeightMixesSaid : Prop := weightMixesRow.holds Try.pinned (OpenSpec.ofChange weightMixesSpec)

/-- ITS FALSE NEIGHBOUR: 'it returns false'. Refute it at one input. -/
def weightMixesWrong : ChangeSpec := { name := "weightMixes", fn := fun _ => fun
  | [d1, d2, d3] => { results := [.lit (.bool false)], args := [d1, d2, d3] }
  | _ => none }
def WeightMixesWrongFalsely : Prop := weightMixesRow.holds Try.pinned (OpenSpec.ofChange weightMixesWrong)

/-- 'anamorphlaw28.NearBy': WHATEVER THE INPUT: true; the input reads as it did. -/
def nearBySpec : ChangeSpec := { name := "nearBy", fn := fun _ => fun
  | [d1, d2, d3] => { results := [.lit (.bool true)], args := [d1, d2, d3] }
  | _ => none }
def nearByRow : OpenClaim := { program := "ytnklbnphiokpiaa", sum := "f6552f2ffbc135916e32b1d857332636633a0410a52217a1a5844866d1877ccd", func := "anamorph/anamorphlaw28.NearBy", spec := "nearBy", unfollowed := true, recurses := true, apart := false }
def NearBySaid : Prop := nearByRow.holds Try.pinned (OpenSpec.ofChange nearBySpec)

/-- ITS FALSE NEIGHBOUR: 'it returns false'. Refute it at one input. -/
def nearByWrong : ChangeSpec := { name := "nearBy", fn := fun _ => fun
  | [d1, d2, d3] => { results := [.lit (.bool false)], args := [d1, d2, d3] }
  | _ => none }
def NearByWrongFalsely : Prop := nearByRow.holds Try.pinned (OpenSpec.ofChange nearByWrong)

/-- 'anamorphlaw28.NearAt': WHATEVER THE INPUT: true; the input reads as it did. -/
def nearAtSpec : ChangeSpec := { name := "nearAt", fn := fun _ => fun
  | [d1, d2, d3] => { results := [.lit (.bool true)], args := [d1, d2, d3] }
  | _ => none }
def nearAtRow : OpenClaim := { program := "ytnklbnphiokpiaa", sum := "f6552f2ffbc135916e32b1d857332636633a0410a52217a1a5844866d1877ccd", func := "anamorph/anamorphlaw28.NearAt", spec := "nearAt", unfollowed := true, recurses := true, apart := false }
def NearAtSaid : Prop := nearAtRow.holds Try.pinned (OpenSpec.ofChange nearAtSpec)

/-- ITS FALSE NEIGHBOUR: 'it returns false'. Refute it at one input. -/
def nearAtWrong : ChangeSpec := { name := "nearAt", fn := fun _ => fun
  | [d1, d2, d3] => { results := [.lit (.bool false)], args := [d1, d2, d3] }
  | _ => none }
def NearAtWrongFalsely : Prop := nearAtRow.holds Try.pinned (OpenSpec.ofChange nearAtWrong)

/-- 'anamorphlaw08.BorderPixels': WHATEVER THE INPUT: true; the input reads as it did. -/
def borderPixelsSpec : ChangeSpec := { name := "borderPixels", fn := fun _ => fun
  | [d1, d2, d3] => { results := [.lit (.bool true)], args := [d1, d2, d3] }
  | _ => none }
def borderPixelsRow : OpenClaim := { program := "ytnklbnphiokpiaa", sum := "f6552f2ffbc135916e32b1d857332636633a0410a52217a1a5844866d1877ccd", func := "anamorph/anamorphlaw08.BorderPixels", spec := "borderPixels", unfollowed := true, recurses := true, apart := false }
def BorderPixelsSaid : Prop := borderPixelsRow.holds Try.pinned (OpenSpec.ofChange borderPixelsSpec)

/-- ITS FALSE NEIGHBOUR: 'it returns false'. Refute it at one input. -/
def borderPixelsWrong : ChangeSpec := { name := "borderPixels", fn := fun _ => fun
  | [d1, d2, d3] => { results := [.lit (.bool false)], args := [d1, d2, d3] }
  | _ => none }
def BorderPixelsWrongFalsely : Prop := borderPixelsRow.holds Try.pinned (OpenSpec.ofChange borderPixelsWrong)

/-- 'anamorphlaw30.CubicBy': WHATEVER THE INPUT: true; the input reads as it did. -/
def cubicBySpec : ChangeSpec := { name := "cubicBy", fn := fun _ => fun
  | [d1, d2, d3] => { results := [.lit (.bool true)], args := [d1, d2, d3] }
  | _ => none }
def cubicByRow : OpenClaim := { program := "ytnklbnphiokpiaa", sum := "f6552f2ffbc135916e32b1d857332636633a0410a52217a1a5844866d1877ccd", func := "anamorph/anamorphlaw30.CubicBy", spec := "cubicBy", inPlace := ["math/bits.Sub64", "math/bits.Add64"], unfollowed := true, recurses := true, named := ["math/bits.divideError", "math/bits.overflowError"], apart := false }
def CubicBySaid : Prop := cubicByRow.holds Try.pinned (OpenSpec.ofChange cubicBySpec)

/-- ITS FALSE NEIGHBOUR: 'it returns false'. Refute it at one input. -/
def cubicByWrong : ChangeSpec := { name := "cubicBy", fn := fun _ => fun
  | [d1, d2, d3] => { results := [.lit (.bool false)], args := [d1, d2, d3] }
  | _ => none }
def CubicByWrongFalsely : Prop := cubicByRow.holds Try.pinned (OpenSpec.ofChange cubicByWrong)

/-- 'anamorphlaw30.CubicAt': WHATEVER THE INPUT: true; the input reads as it did. -/
def cubicAtSpec : ChangeSpec := { name := "cubicAt", fn := fun _ => fun
  | [d1, d2, d3] => { results := [.lit (.bool true)], args := [d1, d2, d3] }
  | _ => none }
def cubicAtRow : OpenClaim := { program := "ytnklbnphiokpiaa", sum := "f6552f2ffbc135916e32b1d857332636633a0410a52217a1a5844866d1877ccd", func := "anamorph/anamorphlaw30.CubicAt", spec := "cubicAt", inPlace := ["math/bits.Sub64", "math/bits.Add64"], unfollowed := true, recurses := true, named := ["math/bits.divideError", "math/bits.overflowError"], apart := false }
def CubicAtSaid : Prop := cubicAtRow.holds Try.pinned (OpenSpec.ofChange cubicAtSpec)

/-- ITS FALSE NEIGHBOUR: 'it returns false'. Refute it at one input. -/
def cubicAtWrong : ChangeSpec := { name := "cubicAt", fn := fun _ => fun
  | [d1, d2, d3] => { results := [.lit (.bool false)], args := [d1, d2, d3] }
  | _ => none }
def CubicAtWrongFalsely : Prop := cubicAtRow.holds Try.pinned (OpenSpec.ofChange cubicAtWrong)

/-- 'anamorphlaw29.LinearReach': WHATEVER THE INPUT: true; the input reads as it did. -/
def linearReachSpec : ChangeSpec := { name := "linearReach", fn := fun _ => fun
  | [d1, d2] => { results := [.lit (.bool true)], args := [d1, d2] }
  | _ => none }
def linearReachRow : OpenClaim := { program := "ytnklbnphiokpiaa", sum := "f6552f2ffbc135916e32b1d857332636633a0410a52217a1a5844866d1877ccd", func := "anamorph/anamorphlaw29.LinearReach", spec := "linearReach", inPlace := ["math/bits.Sub64", "math/bits.Add64"], unfollowed := true, recurses := true, named := ["math/bits.divideError", "math/bits.overflowError"], apart := false }
def LinearReachSaid : Prop := linearReachRow.holds Try.pinned (OpenSpec.ofChange linearReachSpec)

/-- ITS FALSE NEIGHBOUR: 'it returns false'. Refute it at one input. -/
def linearReachWrong : ChangeSpec := { name := "linearReach", fn := fun _ => fun
  | [d1, d2] => { results := [.lit (.bool false)], args := [d1, d2] }
  | _ => none }
def LinearReachWrongFalsely : Prop := linearReachRow.holds Try.pinned (OpenSpec.ofChange linearReachWrong)

/-- 'anamorphlaw29.LinearBy': WHATEVER THE INPUT: true; the input reads as it did. -/
def linearBySpec : ChangeSpec := { name := "linearBy", fn := fun _ => fun
  | [d1, d2, d3] => { results := [.lit (.bool true)], args := [d1, d2, d3] }
  | _ => none }
def linearByRow : OpenClaim := { program := "ytnklbnphiokpiaa", sum := "f6552f2ffbc135916e32b1d857332636633a0410a52217a1a5844866d1877ccd", func := "anamorph/anamorphlaw29.LinearBy", spec := "linearBy", inPlace := ["math/bits.Sub64", "math/bits.Add64"], unfollowed := true, recurses := true, named := ["math/bits.divideError", "math/bits.overflowError"], apart := false }
def LinearBySaid : Prop := linearByRow.holds Try.pinned (OpenSpec.ofChange linearBySpec)

/-- ITS FALSE NEIGHBOUR: 'it returns false'. Refute it at one input. -/
def linearByWrong : ChangeSpec := { name := "linearBy", fn := fun _ => fun
  | [d1, d2, d3] => { results := [.lit (.bool false)], args := [d1, d2, d3] }
  | _ => none }
def LinearByWrongFalsely : Prop := linearByRow.holds Try.pinned (OpenSpec.ofChange linearByWrong)

/-- 'anamorphlaw29.LinearAt': WHATEVER THE INPUT: true; the input reads as it did. -/
def linearAtSpec : ChangeSpec := { name := "linearAt", fn := fun _ => fun
  | [d1, d2, d3] => { results := [.lit (.bool true)], args := [d1, d2, d3] }
  | _ => none }
def linearAtRow : OpenClaim := { program := "ytnklbnphiokpiaa", sum := "f6552f2ffbc135916e32b1d857332636633a0410a52217a1a5844866d1877ccd", func := "anamorph/anamorphlaw29.LinearAt", spec := "linearAt", inPlace := ["math/bits.Sub64", "math/bits.Add64"], unfollowed := true, recurses := true, named := ["math/bits.divideError", "math/bits.overflowError"], apart := false }
def LinearAtSaid : Prop := linearAtRow.holds Try.pinned (OpenSpec.ofChange linearAtSpec)

/-- ITS FALSE NEIGHBOUR: 'it returns false'. Refute it at one input. -/
def linearAtWrong : ChangeSpec := { name := "linearAt", fn := fun _ => fun
  | [d1, d2, d3] => { results := [.lit (.bool false)], args := [d1, d2, d3] }
  | _ => none }
def LinearAtWrongFalsely : Prop := linearAtRow.holds Try.pinned (OpenSpec.ofChange linearAtWrong)

/-- 'anamorphlaw29.LinearBetween': WHATEVER THE INPUT: true; the input reads as it did. -/
def linearBetweenSpec : ChangeSpec := { name := "linearBetween", fn := fun _ => fun
  | [d1, d2, d3] => { results := [.lit (.bool true)], args := [d1, d2, d3] }
  | _ => none }
def linearBetweenRow : OpenClaim := { program := "ytnklbnphiokpiaa", sum := "f6552f2ffbc135916e32b1d857332636633a0410a52217a1a5844866d1877ccd", func := "anamorph/anamorphlaw29.LinearBetween", spec := "linearBetween", inPlace := ["math/bits.Sub64", "math/bits.Add64"], unfollowed := true, recurses := true, named := ["math/bits.divideError", "math/bits.overflowError"], apart := false }
def LinearBetweenSaid : Prop := linearBetweenRow.holds Try.pinned (OpenSpec.ofChange linearBetweenSpec)

/-- ITS FALSE NEIGHBOUR: 'it returns false'. Refute it at one input. -/
def linearBetweenWrong : ChangeSpec := { name := "linearBetween", fn := fun _ => fun
  | [d1, d2, d3] => { results := [.lit (.bool false)], args := [d1, d2, d3] }
  | _ => none }
def LinearBetweenWrongFalsely : Prop := linearBetweenRow.holds Try.pinned (OpenSpec.ofChange linearBetweenWrong)

/- THE SECOND FORM. 'bulk': how many values and letters a reading holds, each counted each time it is reached (what is shared counts as often as it is met; a slice's spare places count too). A statement '..UptoSaid' is the law's where the arguments, and the package variables that the reading takes, are together of bulk at most 1048576: NARROWER than '..Said'. Prove '..Said' where nothing that the law and all that it calls make is longer than what came in: it says more and counts as full. Else prove '..UptoSaid'. A law counts once. -/
mutual
def uptoBulk {H : Type} : DataW H → Nat
  | .lit (.string bytes) => bytes.length + 1
  | .lit _ => 1
  | .nil => 1
  | .ptr d => uptoBulk d + 1
  | .slice elems spare => uptoBulkAll elems + uptoBulkAll spare + 1
  | .agg parts => uptoBulkAll parts + 1
  | .iface _ d => uptoBulk d + 1
  | .map entries => uptoBulkEntries entries + 1
  | .held _ => 1
def uptoBulkAll {H : Type} : List (DataW H) → Nat
  | [] => 0
  | d :: r => uptoBulk d + uptoBulkAll r
def uptoBulkEntries {H : Type} : List (Lit × DataW H) → Nat
  | [] => 0
  | x :: r => uptoBulkEntry x + uptoBulkEntries r
def uptoBulkEntry {H : Type} : Lit × DataW H → Nat
  | (.string bytes, d) => bytes.length + uptoBulk d + 1
  | (_, d) => uptoBulk d + 1
 end
def uptoSmall : (H : Type) → List (DataW H) → Bool := fun _ ds => decide (uptoBulkAll ds ≤ 1048576)
def OpenSpec.upto (s : _root_.Go.ChangeSpec) : _root_.Go.OpenSpec := { _root_.Go.OpenSpec.ofChange s with cond := some uptoSmall }

/-- 'anamorphlaw27.WeightSums', WHERE WHAT IT READS IS OF BULK AT MOST 1048576: true; the input reads as it did. -/
def weightSumsUptoRow : OpenClaim := { program := "ytnklbnphiokpiaa", sum := "f6552f2ffbc135916e32b1d857332636633a0410a52217a1a5844866d1877ccd", func := "anamorph/anamorphlaw27.WeightSums", spec := "weightSums", inPlace := ["math/bits.Sub64", "math/bits.Add64"], named := ["math/bits.divideError", "math/bits.overflowError"], apart := false, narrowed := true }
def WeightSumsUptoSaid : Prop := weightSumsUptoRow.holds Try.pinned (OpenSpec.upto weightSumsSpec)

/-- 'anamorphlaw27.WeightMixes', WHERE WHAT IT READS IS OF BULK AT MOST 1048576: true; the input reads as it did. -/
def weightMixesUptoRow : OpenClaim := { program := "ytnklbnphiokpiaa", sum := "f6552f2ffbc135916e32b1d857332636633a0410a52217a1a5844866d1877ccd", func := "anamorph/anamorphlaw27.WeightMixes", spec := "weightMixes", inPlace := ["math/bits.Sub64", "math/bits.Add64"], named := ["math/bits.divideError", "math/bits.overflowError"], apart := false, narrowed := true }
def WeightMixesUptoSaid : Prop := weightMixesUptoRow.holds Try.pinned (OpenSpec.upto weightMixesSpec)

/-- 'anamorphlaw28.NearBy', WHERE WHAT IT READS IS OF BULK AT MOST 1048576: true; the input reads as it did. -/
def nearByUptoRow : OpenClaim := { program := "ytnklbnphiokpiaa", sum := "f6552f2ffbc135916e32b1d857332636633a0410a52217a1a5844866d1877ccd", func := "anamorph/anamorphlaw28.NearBy", spec := "nearBy", unfollowed := true, recurses := true, apart := false, narrowed := true }
def NearByUptoSaid : Prop := nearByUptoRow.holds Try.pinned (OpenSpec.upto nearBySpec)

/-- 'anamorphlaw28.NearAt', WHERE WHAT IT READS IS OF BULK AT MOST 1048576: true; the input reads as it did. -/
def nearAtUptoRow : OpenClaim := { program := "ytnklbnphiokpiaa", sum := "f6552f2ffbc135916e32b1d857332636633a0410a52217a1a5844866d1877ccd", func := "anamorph/anamorphlaw28.NearAt", spec := "nearAt", unfollowed := true, recurses := true, apart := false, narrowed := true }
def NearAtUptoSaid : Prop := nearAtUptoRow.holds Try.pinned (OpenSpec.upto nearAtSpec)

/-- 'anamorphlaw08.BorderPixels', WHERE WHAT IT READS IS OF BULK AT MOST 1048576: true; the input reads as it did. -/
def borderPixelsUptoRow : OpenClaim := { program := "ytnklbnphiokpiaa", sum := "f6552f2ffbc135916e32b1d857332636633a0410a52217a1a5844866d1877ccd", func := "anamorph/anamorphlaw08.BorderPixels", spec := "borderPixels", unfollowed := true, recurses := true, apart := false, narrowed := true }
def BorderPixelsUptoSaid : Prop := borderPixelsUptoRow.holds Try.pinned (OpenSpec.upto borderPixelsSpec)

/-- 'anamorphlaw30.CubicBy', WHERE WHAT IT READS IS OF BULK AT MOST 1048576: true; the input reads as it did. -/
def cubicByUptoRow : OpenClaim := { program := "ytnklbnphiokpiaa", sum := "f6552f2ffbc135916e32b1d857332636633a0410a52217a1a5844866d1877ccd", func := "anamorph/anamorphlaw30.CubicBy", spec := "cubicBy", inPlace := ["math/bits.Sub64", "math/bits.Add64"], unfollowed := true, recurses := true, named := ["math/bits.divideError", "math/bits.overflowError"], apart := false, narrowed := true }
def CubicByUptoSaid : Prop := cubicByUptoRow.holds Try.pinned (OpenSpec.upto cubicBySpec)

/-- 'anamorphlaw30.CubicAt', WHERE WHAT IT READS IS OF BULK AT MOST 1048576: true; the input reads as it did. -/
def cubicAtUptoRow : OpenClaim := { program := "ytnklbnphiokpiaa", sum := "f6552f2ffbc135916e32b1d857332636633a0410a52217a1a5844866d1877ccd", func := "anamorph/anamorphlaw30.CubicAt", spec := "cubicAt", inPlace := ["math/bits.Sub64", "math/bits.Add64"], unfollowed := true, recurses := true, named := ["math/bits.divideError", "math/bits.overflowError"], apart := false, narrowed := true }
def CubicAtUptoSaid : Prop := cubicAtUptoRow.holds Try.pinned (OpenSpec.upto cubicAtSpec)

/-- 'anamorphlaw29.LinearReach', WHERE WHAT IT READS IS OF BULK AT MOST 1048576: true; the input reads as it did. -/
def linearReachUptoRow : OpenClaim := { program := "ytnklbnphiokpiaa", sum := "f6552f2ffbc135916e32b1d857332636633a0410a52217a1a5844866d1877ccd", func := "anamorph/anamorphlaw29.LinearReach", spec := "linearReach", inPlace := ["math/bits.Sub64", "math/bits.Add64"], unfollowed := true, recurses := true, named := ["math/bits.divideError", "math/bits.overflowError"], apart := false, narrowed := true }
def LinearReachUptoSaid : Prop := linearReachUptoRow.holds Try.pinned (OpenSpec.upto linearReachSpec)

/-- 'anamorphlaw29.LinearBy', WHERE WHAT IT READS IS OF BULK AT MOST 1048576: true; the input reads as it did. -/
def linearByUptoRow : OpenClaim := { program := "ytnklbnphiokpiaa", sum := "f6552f2ffbc135916e32b1d857332636633a0410a52217a1a5844866d1877ccd", func := "anamorph/anamorphlaw29.LinearBy", spec := "linearBy", inPlace := ["math/bits.Sub64", "math/bits.Add64"], unfollowed := true, recurses := true, named := ["math/bits.divideError", "math/bits.overflowError"], apart := false, narrowed := true }
def LinearByUptoSaid : Prop := linearByUptoRow.holds Try.pinned (OpenSpec.upto linearBySpec)

/-- 'anamorphlaw29.LinearAt', WHERE WHAT IT READS IS OF BULK AT MOST 1048576: true; the input reads as it did. -/
def linearAtUptoRow : OpenClaim := { program := "ytnklbnphiokpiaa", sum := "f6552f2ffbc135916e32b1d857332636633a0410a52217a1a5844866d1877ccd", func := "anamorph/anamorphlaw29.LinearAt", spec := "linearAt", inPlace := ["math/bits.Sub64", "math/bits.Add64"], unfollowed := true, recurses := true, named := ["math/bits.divideError", "math/bits.overflowError"], apart := false, narrowed := true }
def LinearAtUptoSaid : Prop := linearAtUptoRow.holds Try.pinned (OpenSpec.upto linearAtSpec)

/-- 'anamorphlaw29.LinearBetween', WHERE WHAT IT READS IS OF BULK AT MOST 1048576: true; the input reads as it did. -/
def linearBetweenUptoRow : OpenClaim := { program := "ytnklbnphiokpiaa", sum := "f6552f2ffbc135916e32b1d857332636633a0410a52217a1a5844866d1877ccd", func := "anamorph/anamorphlaw29.LinearBetween", spec := "linearBetween", inPlace := ["math/bits.Sub64", "math/bits.Add64"], unfollowed := true, recurses := true, named := ["math/bits.divideError", "math/bits.overflowError"], apart := false, narrowed := true }
def LinearBetweenUptoSaid : Prop := linearBetweenUptoRow.holds Try.pinned (OpenSpec.upto linearBetweenSpec)

end Rows
end Go.Proofs.Ytnklbnphiokpiaa
