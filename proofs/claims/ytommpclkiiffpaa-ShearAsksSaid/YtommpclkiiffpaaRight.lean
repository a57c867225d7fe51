/- Whether a place is right: the test, and the document's Right. -/
import Derived.Test.YtommpclkiiffpaaKit
set_option linter.unusedVariables false
namespace Go.Proofs.Ytommpclkiiffpaa
open Go.RowKit

/-- Whether a place is right. -/
def rightI (px py d : Int) : Bool := inI px 1048576 && inI py 1048576 && decide (1 ≤ d) && decide (d ≤ 16)
theorem rightI_iff {px py d : Int} : rightI px py d = true ↔ (-1048576 ≤ px ∧ px ≤ 1048576) ∧ (-1048576 ≤ py ∧ py ≤ 1048576) ∧ 1 ≤ d ∧ d ≤ 16 := by
  unfold rightI inI; simp [and_assoc]
theorem right_last {px py d : Int} (hp : rightI px py d = false) (hb : inI px 1048576 = true) (hb1 : inI py 1048576 = true) (h : 1 ≤ d) : d > 16 := by
  refine Decidable.byContradiction fun h' => ?_
  have := rightI_iff (px := px) (py := py) (d := d)
  rw [hp] at this
  exact absurd (this.2 ⟨inI_iff.1 hb, inI_iff.1 hb1, by omega, by omega⟩) (by simp)

set_option maxRecDepth 100000 in
theorem rright (px py d : Int) (w : World) : Calls Try.prog 32 #[.int .i64 px, .int .i64 py, .int .i64 d] w fun e w' => e = .returned (.bool (rightI px py d)) ∧ w = w' := by
  have CI := Lib.hid (fun x w => rin x 1048576 (by omega) (by omega) w)
  have HR : Hid (rightI px py d = (inI px 1048576 && inI py 1048576 && decide (1 ≤ d) && decide (d ≤ 16))) := rfl
  generalize rightI px py d = R at *
  rcases hb : inI px 1048576 with _ | _
  · rw [hb] at HR
    go_enter Try.func32, Try.ntmps32
    go_wp2_with fail
    have BB : Hid (Below w.heap.size w w) := Below.refl _ _
    refine (CI.out _ _).mono ?_
    rintro e w9 ⟨rfl, rfl⟩
    rw [hb]
    go_wp2_with fail
    go_ret
    exact ⟨ret_bool (by rw [HR.out]; simp), rfl⟩
  rcases hb1 : inI py 1048576 with _ | _
  · rw [hb1] at HR
    go_enter Try.func32, Try.ntmps32
    go_wp2_with fail
    have BB : Hid (Below w.heap.size w w) := Below.refl _ _
    refine (CI.out _ _).mono ?_
    rintro e w9 ⟨rfl, rfl⟩
    rw [hb]
    go_wp2_with fail
    refine (CI.out _ _).mono ?_
    rintro e w9 ⟨rfl, rfl⟩
    rw [hb1]
    go_wp2_with fail
    go_ret
    exact ⟨ret_bool (by rw [HR.out]; simp), rfl⟩
  rw [hb, hb1] at HR
  rcases dec_both (d ≥ 1) with ⟨h, hd⟩ | ⟨h, hd⟩
  · rw [decide_eq_true h] at HR
    rcases dec_both (d ≤ 16) with ⟨h', hd'⟩ | ⟨h', hd'⟩
    · rw [decide_eq_true h'] at HR
      clear h h'
      go_enter Try.func32, Try.ntmps32
      go_wp2_with fail
      have BB : Hid (Below w.heap.size w w) := Below.refl _ _
      refine (CI.out _ _).mono ?_
      rintro e w9 ⟨rfl, rfl⟩
      rw [hb]
      go_wp2_with fail
      refine (CI.out _ _).mono ?_
      rintro e w9 ⟨rfl, rfl⟩
      rw [hb1]
      go_wp2_with fail
      go_ret
      exact ⟨ret_bool (by rw [HR.out]; simp), rfl⟩
    · rw [decide_eq_false h'] at HR
      clear h h'
      go_enter Try.func32, Try.ntmps32
      go_wp2_with fail
      have BB : Hid (Below w.heap.size w w) := Below.refl _ _
      refine (CI.out _ _).mono ?_
      rintro e w9 ⟨rfl, rfl⟩
      rw [hb]
      go_wp2_with fail
      refine (CI.out _ _).mono ?_
      rintro e w9 ⟨rfl, rfl⟩
      rw [hb1]
      go_wp2_with fail
      go_ret
      exact ⟨ret_bool (by rw [HR.out]; simp), rfl⟩
  · rw [decide_eq_false h] at HR
    clear h
    go_enter Try.func32, Try.ntmps32
    go_wp2_with fail
    have BB : Hid (Below w.heap.size w w) := Below.refl _ _
    refine (CI.out _ _).mono ?_
    rintro e w9 ⟨rfl, rfl⟩
    rw [hb]
    go_wp2_with fail
    refine (CI.out _ _).mono ?_
    rintro e w9 ⟨rfl, rfl⟩
    rw [hb1]
    go_wp2_with fail
    go_ret
    exact ⟨ret_bool (by rw [HR.out]; simp), rfl⟩


end Go.Proofs.Ytommpclkiiffpaa
