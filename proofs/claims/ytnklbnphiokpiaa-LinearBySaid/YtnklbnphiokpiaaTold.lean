/- Walk of anamorphlaw01's 'Told': what is told of a number is the number, or that there is no room. -/
import Derived.Test.YtnklbnphiokpiaaRFits
import Derived.Test.YtnklbnphiokpiaaRWide
set_option linter.unusedVariables false
namespace Go.Proofs.Ytnklbnphiokpiaa
open Go.RowKit

theorem fits_128 {z : Int} : fitsB z 127 = true ↔ I128 z := by
  unfold fitsB I128
  rw [show (2 : Int) ^ 127 = 170141183460469231731687303715884105728 by decide]
  simp; omega
theorem fits_128f {z : Int} (h : ¬ I128 z) : fitsB z 127 = false := by
  cases hb : fitsB z 127
  · rfl
  · exact absurd (fits_128.1 hb) h
theorem i128_wd {z : Int} (h : I128 z) : Wd 127 z := by
  unfold Wd; rw [show (2 : Int) ^ 127 = 170141183460469231731687303715884105728 by decide]; unfold I128 at h; omega

end Go.Proofs.Ytnklbnphiokpiaa
