/- Contracts of quot.Floor and quot.Mod at a divisor above 0. -/
import Derived.Test.YtnklbnphiokpiaaJA
set_option linter.unusedVariables false
namespace Go.Proofs.Ytnklbnphiokpiaa
open Go.RowKit

theorem ret_intbool {k : IntKind} {a b : Int} {c d : Bool} (h : a = b) (h' : c = d) : Ending.returned (.tuple #[.int k a, .bool c]) = .returned (.tuple #[.int k b, .bool d]) := by rw [h, h']

theorem qfloor_pos (a b : Int) (ha : I64 a) (hb : 0 < b) (hb' : b ≤ 9223372036854775807) (w : World) :
    Calls Try.prog 117 #[.int .i64 a, .int .i64 b] w fun e w' => e = .returned (.tuple #[.int .i64 (a / b), .bool true]) ∧ w = w' := by
  have HB := Lib.hid (ediv_bounds ha hb)
  obtain ⟨h1, h2⟩ := ha
  have hb1 : (b == 0) = false := by simp; omega
  have hb2 : (b == -1) = false := by simp; omega
  have hbn : decide (b < 0) = false := by simp; omega
  have H0 := Lib.hid (Int.mul_ediv_add_emod a b)
  cases hm : (a == -9223372036854775808)
  all_goals
    cases h : (a.tmod b != 0)
    · have h' : a.tmod b = 0 := by simpa using h
      have H := Lib.hid (tdiv_exact h')
      clear h'
      go_enter Try.func117, Try.ntmps117
      go_wp2
      all_goals (go_ret2; exact ⟨ret_intbool (by first | exact H.out | rfl) rfl, rfl⟩)
    · have h' : ¬ a.tmod b = 0 := by simpa using h
      rcases Int.lt_or_le a 0 with h0 | h0
      · have e1 : decide (a < 0) = true := by simp [h0]
        have e2 : a.tdiv b - 1 = a / b := by rw [tdiv_neg_step h0 hb h']; omega
        have H2 := Lib.hid e2
        clear e2 h'
        go_enter Try.func117, Try.ntmps117
        go_wp2
        all_goals (go_ret2; exact ⟨ret_intbool (by rw [H2.out]; exact IntWalk.wrap64_in _ ⟨HB.out.1, HB.out.2⟩) rfl, rfl⟩)
      · have e1 : decide (a < 0) = false := by simp; omega
        clear h'
        go_enter Try.func117, Try.ntmps117
        go_wp2
        all_goals (go_ret2; exact ⟨rfl, rfl⟩)

theorem tmod_neg_step {a b : Int} (ha : a < 0) (hb : 0 < b) (h : a.tmod b ≠ 0) : a.tmod b + b = a % b := by
  rw [Int.tmod_eq_emod, if_neg]
  · omega
  · rintro (h1 | h1)
    · omega
    · exact h (Int.tmod_eq_zero_of_dvd h1)

theorem qmod_pos (a b : Int) (ha : I64 a) (hb : 0 < b) (hb' : b ≤ 9223372036854775807) (w : World) :
    Calls Try.prog 116 #[.int .i64 a, .int .i64 b] w fun e w' => e = .returned (.tuple #[.int .i64 (a % b), .bool true]) ∧ w = w' := by
  obtain ⟨h1, h2⟩ := ha
  have hb1 : (b == 0) = false := by simp; omega
  have hm1 := Int.emod_nonneg a (show b ≠ 0 by omega)
  have hm2 := Int.emod_lt_of_pos a hb
  have hbn : decide (b < 0) = false := by simp; omega
  by_cases h : a.tmod b = 0
  · have e : (a.tmod b != 0) = false := by simp [h]
    have h' : a % b = 0 := tmod_zero_iff.1 h
    have H' := Lib.hid h'
    clear h' hm1 hm2
    go_enter Try.func116, Try.ntmps116
    go_wp2
    all_goals (go_ret2; exact ⟨ret_intbool (by rw [H'.out]) rfl, rfl⟩)
  · have e : (a.tmod b != 0) = true := by simp [h]
    rcases Int.lt_or_le a 0 with h0 | h0
    · have e2 := tmod_neg_step h0 hb h
      have e1 : decide (a.tmod b < 0) = true := by simp; omega
      have H2 := Lib.hid e2
      clear e2
      go_enter Try.func116, Try.ntmps116
      go_wp2
      all_goals (go_ret2; exact ⟨ret_intbool (by rw [H2.out]; first | rfl | exact IntWalk.wrap64_in _ ⟨by omega, by omega⟩) rfl, rfl⟩)
    · have e2 := tmod_exact (b := b) h0
      have e1 : decide (a.tmod b < 0) = false := by simp; omega
      have H2 := Lib.hid e2
      clear e2 e h H2
      go_enter Try.func116, Try.ntmps116
      go_wp2
      all_goals (go_ret2; exact ⟨ret_intbool (by first | rfl | (symm; assumption)) rfl, rfl⟩)

end Go.Proofs.Ytnklbnphiokpiaa
