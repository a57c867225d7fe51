/- Walk of anamorphlaw01's 'alive'. -/
import Derived.Test.YtalihekeipbafaaWText
import Derived.Test.YtalihekeipbafaaWide3
set_option linter.unusedVariables false
namespace Go.Proofs.Ytalihekeipbafaa
open Go.RowKit

theorem txt_alive : txt (-18446744073709551616) = ⟨#[45, 49, 56, 52, 52, 54, 55, 52, 52, 48, 55, 51, 55, 48, 57, 53, 53, 49, 54, 49, 54]⟩ := by decide +kernel

theorem alive1_any (w : World) : Calls Try.prog 25 #[] w fun e w' => e = .returned (.bool true) ∧ Below w.heap.size w w' := by
  have C1 := Lib.hid (fun w => wmul 4611686018427387904 4 ⟨by omega, by omega⟩ ⟨by omega, by omega⟩ w)
  have C2 := Lib.hid (fun w => wtext_any (-18446744073709551616) (-1) 0 ⟨⟨by omega, by omega⟩, ⟨by omega, by omega⟩, by omega⟩ w)
  rw [txt_alive] at C2
  go_enter Try.func25, Try.ntmps25
  go_wp2_with fail
  have BB : Hid (Below w.heap.size w w) := Below.refl _ _
  refine (C1.out _).mono ?_
  rintro e w1 ⟨hi, lo, rfl, hb, h1⟩
  replace BB := Lib.hid (below_next BB.out hb)
  clear hb
  obtain rfl : hi = 1 := by unfold W128 U64 at h1; omega
  obtain rfl : lo = 0 := by unfold W128 U64 at h1; omega
  clear h1
  go_wp2_with fail
  refine (C2.out _).mono ?_
  rintro e w2 ⟨rfl, hb⟩
  replace BB := Lib.hid (below_next BB.out hb)
  clear hb
  go_wp2_with fail
  go_ret
  exact ⟨rfl, BB.out⟩

end Go.Proofs.Ytalihekeipbafaa
