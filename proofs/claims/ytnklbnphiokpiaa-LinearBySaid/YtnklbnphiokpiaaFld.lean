/- A field of the document's number. -/
import Derived.Test.YtnklbnphiokpiaaFlo0
set_option linter.unusedVariables false
namespace Go.Proofs.Ytnklbnphiokpiaa
open Go.RowKit

theorem field_big_1 (s : Bool) (A : Option Addr) (n cap : Nat) (w : World) : (Instr.field 38 (.agg #[.bool s, .slice A n cap]) 1).run Try.prog w = .ok (.slice A n cap) w := by
  kernel_rfl

theorem field_big_0 (s : Bool) (A : Option Addr) (n cap : Nat) (w : World) : (Instr.field 38 (.agg #[.bool s, .slice A n cap]) 0).run Try.prog w = .ok (.bool s) w := by
  kernel_rfl
attribute [go_sem] field_big_0 field_big_1

end Go.Proofs.Ytnklbnphiokpiaa
