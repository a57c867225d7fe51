/- Contracts of the small functions of the lens: in, down, axis; of the document's In and Down. -/
import Derived.Test.YthdbchghhpoadaaJD
import Derived.Test.YthdbchghhpoadaaJA
set_option linter.unusedVariables false
namespace Go.Proofs.Ythdbchghhpoadaa
open Go.RowKit

theorem lin (x m : Int) (hm : 0 ≤ m) (hm' : m ≤ 9223372036854775807) (w : World) : Calls Try.prog 41 #[.int .i64 x, .int .i64 m] w fun e w' => e = .returned (.bool (inI x m)) ∧ w = w' := by
  have E1 : wrap64 (-m) = -m := wr_in (by omega) (by omega)
  rcases dec_both (x ≥ -m) with ⟨h, hd⟩ | ⟨h, hd⟩
  · rcases dec_both (x ≤ m) with ⟨h', hd'⟩ | ⟨h', hd'⟩
    · have H := Lib.hid (show inI x m = true from decide_eq_true ⟨h, h'⟩)
      clear h h' hm hm'
      go_enter Try.func41, Try.ntmps41
      go_wp2
      go_ret
      exact ⟨ret_bool H.out.symm, rfl⟩
    · have H := Lib.hid (show inI x m = false from decide_eq_false (fun k => h' k.2))
      clear h h' hm hm'
      go_enter Try.func41, Try.ntmps41
      go_wp2
      go_ret
      exact ⟨ret_bool H.out.symm, rfl⟩
  · have H := Lib.hid (show inI x m = false from decide_eq_false (fun k => h k.1))
    clear h hm hm'
    go_enter Try.func41, Try.ntmps41
    go_wp2
    go_ret
    exact ⟨ret_bool H.out.symm, rfl⟩

theorem ldown (x : Int) (w : World) : Calls Try.prog 75 #[.int .i64 x] w fun e w' => e = .returned (.int .i64 (x / 65536)) ∧ w = w' := by
  go_enter Try.func75, Try.ntmps75
  go_wp2
  go_ret
  exact ⟨rfl, rfl⟩


end Go.Proofs.Ythdbchghhpoadaa
