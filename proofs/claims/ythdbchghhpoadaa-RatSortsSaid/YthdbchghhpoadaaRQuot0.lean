/- Walks of the document's quotients: ref02's Floor, Left. -/
import Derived.Test.YthdbchghhpoadaaFlo4
import Derived.Test.YthdbchghhpoadaaJC
import Derived.Deep.DeepCutAuto
set_option linter.unusedVariables false
namespace Go.Proofs.Ythdbchghhpoadaa
open Go.RowKit

theorem br_zero (w : World) : BR w (.agg #[.bool false, .slice none 0 0]) 0 := ⟨_, rfl, _, DR.nil w, Canon.nil, rfl⟩
theorem br_set {z : Int} {w w1 w2 : World} {A : Option Addr} {n cap p : Nat} {c : Array Value} (hb : Below w.heap.size w w1) (hn : BR w1 (.agg #[.bool (sgn z), .slice A n cap]) z) (hp : AtB w1 p c 52) (hpw : w.heap.size ≤ p)
    (e2 : w2 = (w1.setCell ⟨p, 0, none⟩ (.bool (sgn z))).setCell ⟨p, 1, none⟩ (.slice A n cap)) : Below w.heap.size w w2 ∧ BR w2 (.agg #[.bool (sgn z), .slice A n cap]) z := by
  obtain ⟨r, e, h1, h2⟩ := give_res hb hn hp hpw e2
  injection e with e; subst e
  exact ⟨h1, h2⟩
/-- A number of the document and a bool. -/
def GiveBB (z : Int) (b : Bool) (w : World) (e : Ending) (w' : World) : Prop := ∃ r, e = .returned (.tuple #[r, .bool b]) ∧ Below w.heap.size w w' ∧ BR w' r z

end Go.Proofs.Ythdbchghhpoadaa
