/-
  No cell of these rows narrows 'for every input' (looked for: loops, veiled, ifaces, maps, wideKeys, modest, calm, conditions, laid).
  DERIVED. THE GIVEN ROWS OF THIS SEAT. 12 by the template 'for every input the law returns true; each argument reads behind the call as it read before'; 0 by the template 'total and deterministic' (their statements: YtmipcahdmenpcaaTotals.lean).
  GIVEN WITH THE SEED: the statements are not yours to turn. If you find one false, say at which input.
  Laid BY PROGRAM, IN A SANDBOX (cutbox-rows.mjs): the forced cells as the released guide's own fill.sh prints them over the translation f87b8f05066d8572… (all of the seat's roots in one cut). By AI agents, Wed Nov 11 2026. No macro, syntax, notation, axiom, sorry.
-/
import Derived.Test.YtmipcahdmenpcaaChecked
import GoSem.Claim
import GoSem.ClaimJoined
import GoSem.ClaimMapViews
import Derived.JoinedTies
import Derived.KernelRfl
namespace Go.Proofs.Ytmipcahdmenpcaa
/- THE CELL 'sum', in the pinned program and in every row, IS THE sha256 OF THE DUMP (.gsa) THAT YtmipcahdmenpcaaProg.lean LOADS. Nothing in Lean hashes anything: it is a label: what it is worth is what the hold of that sum in a sandbox is worth. -/
noncomputable def Try.pinned : Pinned := { name := "ytmipcahdmenpcaa", sum := "f87b8f05066d8572ed36b42571b3c3a117244adc7e98a400bffe03da25e271b7", checked := Try.checked }
namespace Rows
def none {H : Type} : Left H := { results := [], args := [] }

/-- 'anamorphlaw28.NearReach': WHATEVER THE INPUT: true; the input reads as it did. -/
def nearReachSpec : ChangeSpec := { name := "nearReach", fn := fun _ => fun
  | [d1, d2] => { results := [.lit (.bool true)], args := [d1, d2] }
  | _ => none }
def nearReachRow : OpenClaim := { program := "ytmipcahdmenpcaa", sum := "f87b8f05066d8572ed36b42571b3c3a117244adc7e98a400bffe03da25e271b7", func := "anamorph/anamorphlaw28.NearReach", spec := "nearReach", apart := false }
def NearReachSaid : Prop := nearReachRow.holds Try.pinned (OpenSpec.ofChange nearReachSpec)

/-- ITS FALSE NEIGHBOUR: 'it returns false'. Refute it at one input. -/
def nearReachWrong : ChangeSpec := { name := "nearReach", fn := fun _ => fun
  | [d1, d2] => { results := [.lit (.bool false)], args := [d1, d2] }
  | _ => none }
def NearReachWrongFalsely : Prop := nearReachRow.holds Try.pinned (OpenSpec.ofChange nearReachWrong)

/-- 'anamorphlaw30.CubicReach': WHATEVER THE INPUT: true; the input reads as it did. -/
def cubicReachSpec : ChangeSpec := { name := "cubicReach", fn := fun _ => fun
  | [d1, d2] => { results := [.lit (.bool true)], args := [d1, d2] }
  | _ => none }
def cubicReachRow : OpenClaim := { program := "ytmipcahdmenpcaa", sum := "f87b8f05066d8572ed36b42571b3c3a117244adc7e98a400bffe03da25e271b7", func := "anamorph/anamorphlaw30.CubicReach", spec := "cubicReach", apart := false }
def CubicReachSaid : Prop := cubicReachRow.holds Try.pinned (OpenSpec.ofChange cubicReachSpec)

/-- ITS FALSE NEIGHBOUR: 'it returns false'. Refute it at one input. -/
def cubicReachWrong : ChangeSpec := { name := "cubicReach", fn := fun _ => fun
  | [d1, d2] => { results := [.lit (.bool false)], args := [d1, d2] }
  | _ => none }
def CubicReachWrongFalsely : Prop := cubicReachRow.holds Try.pinned (OpenSpec.ofChange cubicReachWrong)

/-- 'anamorphlaw28.NearBy': WHATEVER THE INPUT: true; the input reads as it did. -/
def nearBySpec : ChangeSpec := { name := "nearBy", fn := fun _ => fun
  | [d1, d2, d3] => { results := [.lit (.bool true)], args := [d1, d2, d3] }
  | _ => none }
def nearByRow : OpenClaim := { program := "ytmipcahdmenpcaa", sum := "f87b8f05066d8572ed36b42571b3c3a117244adc7e98a400bffe03da25e271b7", func := "anamorph/anamorphlaw28.NearBy", spec := "nearBy", unfollowed := true, recurses := true, apart := false }
def NearBySaid : Prop := nearByRow.holds Try.pinned (OpenSpec.ofChange nearBySpec)

/-- ITS FALSE NEIGHBOUR: 'it returns false'. Refute it at one input. -/
def nearByWrong : ChangeSpec := { name := "nearBy", fn := fun _ => fun
  | [d1, d2, d3] => { results := [.lit (.bool false)], args := [d1, d2, d3] }
  | _ => none }
def NearByWrongFalsely : Prop := nearByRow.holds Try.pinned (OpenSpec.ofChange nearByWrong)

/-- 'anamorphlaw27.WeightTells': WHATEVER THE INPUT: true; the input reads as it did. -/
def weightTellsSpec : ChangeSpec := { name := "weightTells", fn := fun _ => fun
  | [d1, d2] => { results := [.lit (.bool true)], args := [d1, d2] }
  | _ => none }
def weightTellsRow : OpenClaim := { program := "ytmipcahdmenpcaa", sum := "f87b8f05066d8572ed36b42571b3c3a117244adc7e98a400bffe03da25e271b7", func := "anamorph/anamorphlaw27.WeightTells", spec := "weightTells", apart := false }
def WeightTellsSaid : Prop := weightTellsRow.holds Try.pinned (OpenSpec.ofChange weightTellsSpec)

/-- ITS FALSE NEIGHBOUR: 'it returns false'. Refute it at one input. -/
def weightTellsWrong : ChangeSpec := { name := "weightTells", fn := fun _ => fun
  | [d1, d2] => { results := [.lit (.bool false)], args := [d1, d2] }
  | _ => none }
def WeightTellsWrongFalsely : Prop := weightTellsRow.holds Try.pinned (OpenSpec.ofChange weightTellsWrong)

/-- 'anamorphlaw08.BorderIndex': WHATEVER THE INPUT: true; the input reads as it did. -/
def borderIndexSpec : ChangeSpec := { name := "borderIndex", fn := fun _ => fun
  | [d1, d2, d3] => { results := [.lit (.bool true)], args := [d1, d2, d3] }
  | _ => none }
def borderIndexRow : OpenClaim := { program := "ytmipcahdmenpcaa", sum := "f87b8f05066d8572ed36b42571b3c3a117244adc7e98a400bffe03da25e271b7", func := "anamorph/anamorphlaw08.BorderIndex", spec := "borderIndex", unfollowed := true, recurses := true, apart := false }
def BorderIndexSaid : Prop := borderIndexRow.holds Try.pinned (OpenSpec.ofChange borderIndexSpec)

/-- ITS FALSE NEIGHBOUR: 'it returns false'. Refute it at one input. -/
def borderIndexWrong : ChangeSpec := { name := "borderIndex", fn := fun _ => fun
  | [d1, d2, d3] => { results := [.lit (.bool false)], args := [d1, d2, d3] }
  | _ => none }
def BorderIndexWrongFalsely : Prop := borderIndexRow.holds Try.pinned (OpenSpec.ofChange borderIndexWrong)

/-- 'anamorphlaw08.BorderPeriod': WHATEVER THE INPUT: true; the input reads as it did. -/
def borderPeriodSpec : ChangeSpec := { name := "borderPeriod", fn := fun _ => fun
  | [d] => { results := [.lit (.bool true)], args := [d] }
  | _ => none }
def borderPeriodRow : OpenClaim := { program := "ytmipcahdmenpcaa", sum := "f87b8f05066d8572ed36b42571b3c3a117244adc7e98a400bffe03da25e271b7", func := "anamorph/anamorphlaw08.BorderPeriod", spec := "borderPeriod", unfollowed := true, recurses := true, apart := false }
def BorderPeriodSaid : Prop := borderPeriodRow.holds Try.pinned (OpenSpec.ofChange borderPeriodSpec)

/-- ITS FALSE NEIGHBOUR: 'it returns false'. Refute it at one input. -/
def borderPeriodWrong : ChangeSpec := { name := "borderPeriod", fn := fun _ => fun
  | [d] => { results := [.lit (.bool false)], args := [d] }
  | _ => none }
def BorderPeriodWrongFalsely : Prop := borderPeriodRow.holds Try.pinned (OpenSpec.ofChange borderPeriodWrong)

/-- 'anamorphlaw20.LensIn': WHATEVER THE INPUT: true; the input reads as it did. -/
def lensInSpec : ChangeSpec := { name := "lensIn", fn := fun _ => fun
  | [d1, d2, d3] => { results := [.lit (.bool true)], args := [d1, d2, d3] }
  | _ => none }
def lensInRow : OpenClaim := { program := "ytmipcahdmenpcaa", sum := "f87b8f05066d8572ed36b42571b3c3a117244adc7e98a400bffe03da25e271b7", func := "anamorph/anamorphlaw20.LensIn", spec := "lensIn", unfollowed := true, recurses := true, apart := false }
def LensInSaid : Prop := lensInRow.holds Try.pinned (OpenSpec.ofChange lensInSpec)

/-- ITS FALSE NEIGHBOUR: 'it returns false'. Refute it at one input. -/
def lensInWrong : ChangeSpec := { name := "lensIn", fn := fun _ => fun
  | [d1, d2, d3] => { results := [.lit (.bool false)], args := [d1, d2, d3] }
  | _ => none }
def LensInWrongFalsely : Prop := lensInRow.holds Try.pinned (OpenSpec.ofChange lensInWrong)

/-- 'anamorphlaw20.LensPlain': WHATEVER THE INPUT: true; the input reads as it did. -/
def lensPlainSpec : ChangeSpec := { name := "lensPlain", fn := fun _ => fun
  | [d1, d2, d3] => { results := [.lit (.bool true)], args := [d1, d2, d3] }
  | _ => none }
def lensPlainRow : OpenClaim := { program := "ytmipcahdmenpcaa", sum := "f87b8f05066d8572ed36b42571b3c3a117244adc7e98a400bffe03da25e271b7", func := "anamorph/anamorphlaw20.LensPlain", spec := "lensPlain", unfollowed := true, recurses := true, apart := false }
def LensPlainSaid : Prop := lensPlainRow.holds Try.pinned (OpenSpec.ofChange lensPlainSpec)

/-- ITS FALSE NEIGHBOUR: 'it returns false'. Refute it at one input. -/
def lensPlainWrong : ChangeSpec := { name := "lensPlain", fn := fun _ => fun
  | [d1, d2, d3] => { results := [.lit (.bool false)], args := [d1, d2, d3] }
  | _ => none }
def LensPlainWrongFalsely : Prop := lensPlainRow.holds Try.pinned (OpenSpec.ofChange lensPlainWrong)

/-- 'anamorphlaw20.LensNear': WHATEVER THE INPUT: true; the input reads as it did. -/
def lensNearSpec : ChangeSpec := { name := "lensNear", fn := fun _ => fun
  | [d1, d2, d3] => { results := [.lit (.bool true)], args := [d1, d2, d3] }
  | _ => none }
def lensNearRow : OpenClaim := { program := "ytmipcahdmenpcaa", sum := "f87b8f05066d8572ed36b42571b3c3a117244adc7e98a400bffe03da25e271b7", func := "anamorph/anamorphlaw20.LensNear", spec := "lensNear", unfollowed := true, recurses := true, apart := false }
def LensNearSaid : Prop := lensNearRow.holds Try.pinned (OpenSpec.ofChange lensNearSpec)

/-- ITS FALSE NEIGHBOUR: 'it returns false'. Refute it at one input. -/
def lensNearWrong : ChangeSpec := { name := "lensNear", fn := fun _ => fun
  | [d1, d2, d3] => { results := [.lit (.bool false)], args := [d1, d2, d3] }
  | _ => none }
def LensNearWrongFalsely : Prop := lensNearRow.holds Try.pinned (OpenSpec.ofChange lensNearWrong)

/-- 'anamorphlaw20.LensAsks': WHATEVER THE INPUT: true; the input reads as it did. -/
def lensAsksSpec : ChangeSpec := { name := "lensAsks", fn := fun _ => fun
  | [d1, d2, d3] => { results := [.lit (.bool true)], args := [d1, d2, d3] }
  | _ => none }
def lensAsksRow : OpenClaim := { program := "ytmipcahdmenpcaa", sum := "f87b8f05066d8572ed36b42571b3c3a117244adc7e98a400bffe03da25e271b7", func := "anamorph/anamorphlaw20.LensAsks", spec := "lensAsks", unfollowed := true, recurses := true, apart := false }
def LensAsksSaid : Prop := lensAsksRow.holds Try.pinned (OpenSpec.ofChange lensAsksSpec)

/-- ITS FALSE NEIGHBOUR: 'it returns false'. Refute it at one input. -/
def lensAsksWrong : ChangeSpec := { name := "lensAsks", fn := fun _ => fun
  | [d1, d2, d3] => { results := [.lit (.bool false)], args := [d1, d2, d3] }
  | _ => none }
def LensAsksWrongFalsely : Prop := lensAsksRow.holds Try.pinned (OpenSpec.ofChange lensAsksWrong)

/-- 'anamorphlaw08.BorderPixels': WHATEVER THE INPUT: true; the input reads as it did. -/
def borderPixelsSpec : ChangeSpec := { name := "borderPixels", fn := fun _ => fun
  | [d1, d2, d3] => { results := [.lit (.bool true)], args := [d1, d2, d3] }
  | _ => none }
def borderPixelsRow : OpenClaim := { program := "ytmipcahdmenpcaa", sum := "f87b8f05066d8572ed36b42571b3c3a117244adc7e98a400bffe03da25e271b7", func := "anamorph/anamorphlaw08.BorderPixels", spec := "borderPixels", unfollowed := true, recurses := true, apart := false }
def BorderPixelsSaid : Prop := borderPixelsRow.holds Try.pinned (OpenSpec.ofChange borderPixelsSpec)

/-- ITS FALSE NEIGHBOUR: 'it returns false'. Refute it at one input. -/
def borderPixelsWrong : ChangeSpec := { name := "borderPixels", fn := fun _ => fun
  | [d1, d2, d3] => { results := [.lit (.bool false)], args := [d1, d2, d3] }
  | _ => none }
def BorderPixelsWrongFalsely : Prop := borderPixelsRow.holds Try.pinned (OpenSpec.ofChange borderPixelsWrong)

/-- 'anamorphlaw28.NearAt': WHATEVER THE INPUT: true; the input reads as it did. -/
def nearAtSpec : ChangeSpec := { name := "nearAt", fn := fun _ => fun
  | [d1, d2, d3] => { results := [.lit (.bool true)], args := [d1, d2, d3] }
  | _ => none }
def nearAtRow : OpenClaim := { program := "ytmipcahdmenpcaa", sum := "f87b8f05066d8572ed36b42571b3c3a117244adc7e98a400bffe03da25e271b7", func := "anamorph/anamorphlaw28.NearAt", spec := "nearAt", unfollowed := true, recurses := true, apart := false }
def NearAtSaid : Prop := nearAtRow.holds Try.pinned (OpenSpec.ofChange nearAtSpec)

/-- ITS FALSE NEIGHBOUR: 'it returns false'. Refute it at one input. -/
def nearAtWrong : ChangeSpec := { name := "nearAt", fn := fun _ => fun
  | [d1, d2, d3] => { results := [.lit (.bool false)], args := [d1, d2, d3] }
  | _ => none }
def NearAtWrongFalsely : Prop := nearAtRow.holds Try.pinned (OpenSpec.ofChange nearAtWrong)

/- THE SECOND FORM. 'bulk': how many values and letters a reading holds, each counted each time it is reached (what is shared counts as often as it is met; a slice's spare places count too). A statement '..UptoSaid' is the law's where the arguments, and the package variables that the reading takes, are together of bulk at most 1048576: NARROWER than '..Said'. Prove '..Said' where nothing that the law and all that it calls make is longer than what came in: it says more and counts as full. Else prove '..UptoSaid'. A law counts once. -/
mutual
def uptoBulk {H : Type} : DataW H → Nat
  | .lit (.string bytes) => bytes.length + 1
  | .lit _ => 1
  | .nil => 1
  | .ptr d => uptoBulk d + 1
  | .slice elems spare => uptoBulkAll elems + uptoBulkAll spare + 1
  | .agg parts => uptoBulkAll parts + 1
  | .iface _ d => uptoBulk d + 1
  | .map entries => uptoBulkEntries entries + 1
  | .held _ => 1
def uptoBulkAll {H : Type} : List (DataW H) → Nat
  | [] => 0
  | d :: r => uptoBulk d + uptoBulkAll r
def uptoBulkEntries {H : Type} : List (Lit × DataW H) → Nat
  | [] => 0
  | x :: r => uptoBulkEntry x + uptoBulkEntries r
def uptoBulkEntry {H : Type} : Lit × DataW H → Nat
  | (.string bytes, d) => bytes.length + uptoBulk d + 1
  | (_, d) => uptoBulk d + 1
 end
def uptoSmall : (H : Type) → List (DataW H) → Bool := fun _ ds => decide (uptoBulkAll ds ≤ 1048576)
def OpenSpec.upto (s : _root_.Go.ChangeSpec) : _root_.Go.OpenSpec := { _root_.Go.OpenSpec.ofChange s with cond := some uptoSmall }

/-- 'anamorphlaw28.NearReach', WHERE WHAT IT READS IS OF BULK AT MOST 1048576: true; the input reads as it did. -/
def nearReachUptoRow : OpenClaim := { program := "ytmipcahdmenpcaa", sum := "f87b8f05066d8572ed36b42571b3c3a117244adc7e98a400bffe03da25e271b7", func := "anamorph/anamorphlaw28.NearReach", spec := "nearReach", apart := false, narrowed := true }
def NearReachUptoSaid : Prop := nearReachUptoRow.holds Try.pinned (OpenSpec.upto nearReachSpec)

/-- 'anamorphlaw30.CubicReach', WHERE WHAT IT READS IS OF BULK AT MOST 1048576: true; the input reads as it did. -/
def cubicReachUptoRow : OpenClaim := { program := "ytmipcahdmenpcaa", sum := "f87b8f05066d8572ed36b42571b3c3a117244adc7e98a400bffe03da25e271b7", func := "anamorph/anamorphlaw30.CubicReach", spec := "cubicReach", apart := false, narrowed := true }
def CubicReachUptoSaid : Prop := cubicReachUptoRow.holds Try.pinned (OpenSpec.upto cubicReachSpec)

/-- 'anamorphlaw28.NearBy', WHERE WHAT IT READS IS OF BULK AT MOST 1048576: true; the input reads as it did. -/
def nearByUptoRow : OpenClaim := { program := "ytmipcahdmenpcaa", sum := "f87b8f05066d8572ed36b42571b3c3a117244adc7e98a400bffe03da25e271b7", func := "anamorph/anamorphlaw28.NearBy", spec := "nearBy", unfollowed := true, recurses := true, apart := false, narrowed := true }
def NearByUptoSaid : Prop := nearByUptoRow.holds Try.pinned (OpenSpec.upto nearBySpec)

/-- 'anamorphlaw27.WeightTells', WHERE WHAT IT READS IS OF BULK AT MOST 1048576: true; the input reads as it did. -/
def weightTellsUptoRow : OpenClaim := { program := "ytmipcahdmenpcaa", sum := "f87b8f05066d8572ed36b42571b3c3a117244adc7e98a400bffe03da25e271b7", func := "anamorph/anamorphlaw27.WeightTells", spec := "weightTells", apart := false, narrowed := true }
def WeightTellsUptoSaid : Prop := weightTellsUptoRow.holds Try.pinned (OpenSpec.upto weightTellsSpec)

/-- 'anamorphlaw08.BorderIndex', WHERE WHAT IT READS IS OF BULK AT MOST 1048576: true; the input reads as it did. -/
def borderIndexUptoRow : OpenClaim := { program := "ytmipcahdmenpcaa", sum := "f87b8f05066d8572ed36b42571b3c3a117244adc7e98a400bffe03da25e271b7", func := "anamorph/anamorphlaw08.BorderIndex", spec := "borderIndex", unfollowed := true, recurses := true, apart := false, narrowed := true }
def BorderIndexUptoSaid : Prop := borderIndexUptoRow.holds Try.pinned (OpenSpec.upto borderIndexSpec)

/-- 'anamorphlaw08.BorderPeriod', WHERE WHAT IT READS IS OF BULK AT MOST 1048576: true; the input reads as it did. -/
def borderPeriodUptoRow : OpenClaim := { program := "ytmipcahdmenpcaa", sum := "f87b8f05066d8572ed36b42571b3c3a117244adc7e98a400bffe03da25e271b7", func := "anamorph/anamorphlaw08.BorderPeriod", spec := "borderPeriod", unfollowed := true, recurses := true, apart := false, narrowed := true }
def BorderPeriodUptoSaid : Prop := borderPeriodUptoRow.holds Try.pinned (OpenSpec.upto borderPeriodSpec)

/-- 'anamorphlaw20.LensIn', WHERE WHAT IT READS IS OF BULK AT MOST 1048576: true; the input reads as it did. -/
def lensInUptoRow : OpenClaim := { program := "ytmipcahdmenpcaa", sum := "f87b8f05066d8572ed36b42571b3c3a117244adc7e98a400bffe03da25e271b7", func := "anamorph/anamorphlaw20.LensIn", spec := "lensIn", unfollowed := true, recurses := true, apart := false, narrowed := true }
def LensInUptoSaid : Prop := lensInUptoRow.holds Try.pinned (OpenSpec.upto lensInSpec)

/-- 'anamorphlaw20.LensPlain', WHERE WHAT IT READS IS OF BULK AT MOST 1048576: true; the input reads as it did. -/
def lensPlainUptoRow : OpenClaim := { program := "ytmipcahdmenpcaa", sum := "f87b8f05066d8572ed36b42571b3c3a117244adc7e98a400bffe03da25e271b7", func := "anamorph/anamorphlaw20.LensPlain", spec := "lensPlain", unfollowed := true, recurses := true, apart := false, narrowed := true }
def LensPlainUptoSaid : Prop := lensPlainUptoRow.holds Try.pinned (OpenSpec.upto lensPlainSpec)

/-- 'anamorphlaw20.LensNear', WHERE WHAT IT READS IS OF BULK AT MOST 1048576: true; the input reads as it did. -/
def lensNearUptoRow : OpenClaim := { program := "ytmipcahdmenpcaa", sum := "f87b8f05066d8572ed36b42571b3c3a117244adc7e98a400bffe03da25e271b7", func := "anamorph/anamorphlaw20.LensNear", spec := "lensNear", unfollowed := true, recurses := true, apart := false, narrowed := true }
def LensNearUptoSaid : Prop := lensNearUptoRow.holds Try.pinned (OpenSpec.upto lensNearSpec)

/-- 'anamorphlaw20.LensAsks', WHERE WHAT IT READS IS OF BULK AT MOST 1048576: true; the input reads as it did. -/
def lensAsksUptoRow : OpenClaim := { program := "ytmipcahdmenpcaa", sum := "f87b8f05066d8572ed36b42571b3c3a117244adc7e98a400bffe03da25e271b7", func := "anamorph/anamorphlaw20.LensAsks", spec := "lensAsks", unfollowed := true, recurses := true, apart := false, narrowed := true }
def LensAsksUptoSaid : Prop := lensAsksUptoRow.holds Try.pinned (OpenSpec.upto lensAsksSpec)

/-- 'anamorphlaw08.BorderPixels', WHERE WHAT IT READS IS OF BULK AT MOST 1048576: true; the input reads as it did. -/
def borderPixelsUptoRow : OpenClaim := { program := "ytmipcahdmenpcaa", sum := "f87b8f05066d8572ed36b42571b3c3a117244adc7e98a400bffe03da25e271b7", func := "anamorph/anamorphlaw08.BorderPixels", spec := "borderPixels", unfollowed := true, recurses := true, apart := false, narrowed := true }
def BorderPixelsUptoSaid : Prop := borderPixelsUptoRow.holds Try.pinned (OpenSpec.upto borderPixelsSpec)

/-- 'anamorphlaw28.NearAt', WHERE WHAT IT READS IS OF BULK AT MOST 1048576: true; the input reads as it did. -/
def nearAtUptoRow : OpenClaim := { program := "ytmipcahdmenpcaa", sum := "f87b8f05066d8572ed36b42571b3c3a117244adc7e98a400bffe03da25e271b7", func := "anamorph/anamorphlaw28.NearAt", spec := "nearAt", unfollowed := true, recurses := true, apart := false, narrowed := true }
def NearAtUptoSaid : Prop := nearAtUptoRow.holds Try.pinned (OpenSpec.upto nearAtSpec)

end Rows
end Go.Proofs.Ytmipcahdmenpcaa
