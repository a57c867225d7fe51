/- Walks of border.Check and of the law BorderIndex. -/
import Derived.Test.YtnklbnphiokpiaaBIdx
set_option linter.unusedVariables false
namespace Go.Proofs.Ytnklbnphiokpiaa
open Go.RowKit

def bC (mode : Int) : Int := if mode < 0 ∨ 3 < mode then 10 else 0
theorem bcheck_any (mode c0 c1 c2 c3 : Int) (w : World) :
    Calls Try.prog 74 #[.agg #[.int .i64 mode, .int .u8 c0, .int .u8 c1, .int .u8 c2, .int .u8 c3]] w fun e w' => e = .returned (.int .i64 (bC mode)) ∧ Below w.heap.size w w' := by
  rcases dec_cases' (mode < 0) with ⟨h, hd⟩ | ⟨h, hd⟩
  · have H := Lib.hid (show bC mode = 10 from if_pos (.inl h))
    clear h
    go_enter Try.func74, Try.ntmps74
    go_wp2
    go_ret
    exact ⟨ret_int H.out.symm, by repeat (first | exact Below.refl _ _ | apply below_new)⟩
  · rcases dec_cases' (mode > 3) with ⟨h', hd'⟩ | ⟨h', hd'⟩
    · have H := Lib.hid (show bC mode = 10 from if_pos (.inr h'))
      clear h h'
      go_enter Try.func74, Try.ntmps74
      go_wp2
      go_ret
      exact ⟨ret_int H.out.symm, by repeat (first | exact Below.refl _ _ | apply below_new)⟩
    · have H := Lib.hid (show bC mode = 0 from if_neg (by omega))
      clear h h'
      go_enter Try.func74, Try.ntmps74
      go_wp2
      go_ret
      exact ⟨ret_int H.out.symm, by repeat (first | exact Below.refl _ _ | apply below_new)⟩

end Go.Proofs.Ytnklbnphiokpiaa
