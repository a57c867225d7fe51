/- Contracts of quot.Floor and quot.Mod at every divisor. -/
import Derived.Test.YtnklbnphiokpiaaQuotLaw
import Derived.Test.YtnklbnphiokpiaaWFits
set_option linter.unusedVariables false
namespace Go.Proofs.Ytnklbnphiokpiaa
open Go.RowKit

/-- What is told of a quotient: itself where it has room and there is one. -/
def TQ (z : Int) (has : Bool) (x : Int) (is : Bool) : Prop := (has = true ∧ I64 z ∧ is = true ∧ x = z) ∨ (¬ (has = true ∧ I64 z) ∧ is = false ∧ x = 0)
def GiveQ (z : Int) (has : Bool) (w : World) (e : Ending) (w' : World) : Prop := ∃ x is, e = .returned (.tuple #[.int .i64 x, .bool is]) ∧ w = w' ∧ TQ z has x is

theorem fdiv_near {a b : Int} (h0 : b ≠ 0) : a.fdiv b = a.tdiv b ∨ a.fdiv b = a.tdiv b - 1 := by
  by_cases h : a.tmod b = 0
  · exact .inl (fdiv_exact h0 h).1.symm
  · by_cases h' : a.tmod b < 0 ↔ b < 0
    · exact .inl (fdiv_like h0 h').1.symm
    · exact .inr (fdiv_unlike h0 h h').1.symm
theorem fdiv_room {a b : Int} (ha : I64 a) (hb : I64 b) (h0 : b ≠ 0) (h : ¬ (a = -9223372036854775808 ∧ b = -1)) : I64 (a.fdiv b) := by
  by_cases h1 : b = 1
  · subst h1; rw [Int.fdiv_one]; exact ha
  · by_cases h2 : b = -1
    · subst h2
      rw [(fdiv_uniq (a := a) (b := -1) (q := -a) (r := 0) (by omega) (by omega) (by omega)).1]
      unfold I64 at *; omega
    · have e : (a.tdiv b).natAbs = a.natAbs / b.natAbs := Int.natAbs_tdiv a b
      have l : a.natAbs / b.natAbs ≤ a.natAbs / 2 := Nat.div_le_div_left (by omega) (by omega)
      have k := fdiv_near (a := a) h0
      unfold I64 at *
      omega

theorem tdiv_room {a b : Int} (ha : I64 a) (hb : I64 b) (h0 : b ≠ 0) (h : ¬ (a = -9223372036854775808 ∧ b = -1)) : I64 (a.tdiv b) := by
  by_cases h1 : b = 1
  · subst h1; rw [Int.tdiv_one]; exact ha
  · by_cases h2 : b = -1
    · subst h2
      rw [Int.tdiv_neg, Int.tdiv_one]
      unfold I64 at *; omega
    · have e : (a.tdiv b).natAbs = a.natAbs / b.natAbs := Int.natAbs_tdiv a b
      have l : a.natAbs / b.natAbs ≤ a.natAbs / 2 := Nat.div_le_div_left (by omega) (by omega)
      unfold I64 at *
      omega
theorem wrap64_room {x : Int} (h : I64 x) : wrap64 x = x := IntWalk.wrap64_in _ ⟨h.1, h.2⟩

set_option maxHeartbeats 1000000 in
theorem qfloor (a b : Int) (ha : I64 a) (hb : I64 b) (w : World) : Calls Try.prog 117 #[.int .i64 a, .int .i64 b] w (GiveQ (a.fdiv b) (b != 0) w) := by
  suffices H : ∀ x is, TQ (a.fdiv b) (b != 0) x is → Calls Try.prog 117 #[.int .i64 a, .int .i64 b] w (fun e w' => e = .returned (.tuple #[.int .i64 x, .bool is]) ∧ w = w') → Calls Try.prog 117 #[.int .i64 a, .int .i64 b] w (GiveQ (a.fdiv b) (b != 0) w) by
    by_cases h0 : b = 0
    · subst h0
      refine H 0 false (.inr ⟨by simp, rfl, rfl⟩) ?_
      clear H ha hb
      go_enter Try.func117, Try.ntmps117
      go_wp2
      go_ret2
      exact ⟨rfl, rfl⟩
    · have hb1 : (b == 0) = false := by simpa using h0
      by_cases hm : a = -9223372036854775808 ∧ b = -1
      · obtain ⟨rfl, rfl⟩ := hm
        refine H 0 false (.inr ⟨?_, rfl, rfl⟩) ?_
        · rintro ⟨-, h1, h2⟩
          rw [(fdiv_uniq (a := -9223372036854775808) (b := -1) (q := 9223372036854775808) (r := 0) (by omega) (by omega) (by omega)).1] at h2
          omega
        · clear H ha hb hb1
          go_enter Try.func117, Try.ntmps117
          go_wp2
          go_ret2
          exact ⟨rfl, rfl⟩
      · have HR := Lib.hid (fdiv_room ha hb h0 hm)
        have HW := Lib.hid (wrap64_room (tdiv_room ha hb h0 hm))
        refine H (a.fdiv b) true (.inl ⟨by simpa using h0, HR.out, rfl, rfl⟩) ?_
        have hm' : (a == -9223372036854775808) = false ∨ ((a == -9223372036854775808) = true ∧ (b == -1) = false) := by
          by_cases h : a = -9223372036854775808
          · right; simp [h]; exact fun h' => hm ⟨h, h'⟩
          · left; simpa using h
        obtain ⟨a1, a2⟩ := ha
        clear H hm hb
        by_cases hr : a.tmod b = 0
        · have e1 : (a.tmod b != 0) = false := by simpa using hr
          have HX := Lib.hid (fdiv_exact h0 hr).1
          clear hr
          rcases hm' with h1 | ⟨h1, h2⟩
          all_goals
            go_enter Try.func117, Try.ntmps117
            go_wp2
            go_ret2
            exact ⟨ret_i64bool (HW.out.trans HX.out) rfl, rfl⟩
        · have e1 : (a.tmod b != 0) = true := by simpa using hr
          have hs := tmod_sign h0 hr
          by_cases hl : a.tmod b < 0 ↔ b < 0
          · have HX := Lib.hid (fdiv_like h0 hl).1
            have e2 : decide (a < 0) = decide (b < 0) := decide_eq_decide.2 (hs.symm.trans hl)
            clear hr hs hl
            rcases hm' with h1 | ⟨h1, h2⟩
            all_goals
              cases h3 : decide (b < 0)
              all_goals
                rw [h3] at e2
                go_enter Try.func117, Try.ntmps117
                go_wp2
                go_ret2
                exact ⟨ret_i64bool (HW.out.trans HX.out) rfl, rfl⟩
          · have HX := Lib.hid (fdiv_unlike h0 hr hl).1
            have e2 : (decide (a < 0) = true ∧ decide (b < 0) = false) ∨ (decide (a < 0) = false ∧ decide (b < 0) = true) := by
              simp only [decide_eq_true_eq, decide_eq_false_iff_not]; omega
            clear hr hs hl
            rcases hm' with h1 | ⟨h1, h2⟩
            all_goals
              rcases e2 with ⟨e2, e3⟩ | ⟨e2, e3⟩
              all_goals
                go_enter Try.func117, Try.ntmps117
                go_wp2
                go_ret2
                exact ⟨ret_i64bool (by first | (rw [HX.out]; exact wrap64_room HR.out) | (rw [HW.out, HX.out]; exact wrap64_room HR.out)) rfl, rfl⟩
  rintro x is hT hC
  exact hC.mono fun e w' ⟨h1, h2⟩ => ⟨x, is, h1, h2, hT⟩

set_option maxHeartbeats 1000000 in
theorem qmod (a b : Int) (ha : I64 a) (hb : I64 b) (w : World) : Calls Try.prog 116 #[.int .i64 a, .int .i64 b] w (GiveQ (a.fmod b) (b != 0) w) := by
  suffices H : ∀ x is, TQ (a.fmod b) (b != 0) x is → Calls Try.prog 116 #[.int .i64 a, .int .i64 b] w (fun e w' => e = .returned (.tuple #[.int .i64 x, .bool is]) ∧ w = w') → Calls Try.prog 116 #[.int .i64 a, .int .i64 b] w (GiveQ (a.fmod b) (b != 0) w) by
    by_cases h0 : b = 0
    · subst h0
      refine H 0 false (.inr ⟨by simp, rfl, rfl⟩) ?_
      clear H ha hb
      go_enter Try.func116, Try.ntmps116
      go_wp2
      go_ret2
      exact ⟨rfl, rfl⟩
    · have hb1 : (b == 0) = false := by simpa using h0
      have hm : I64 (a.fmod b) := by have := fmod_bounds (a := a) h0; unfold I64 at *; omega
      have HR := Lib.hid (wrap64_room hm)
      refine H (a.fmod b) true (.inl ⟨by simpa using h0, hm, rfl, rfl⟩) ?_
      obtain ⟨a1, a2⟩ := ha
      clear H hm hb
      by_cases hr : a.tmod b = 0
      · have e1 : (a.tmod b != 0) = false := by simpa using hr
        have HX := Lib.hid (hr.trans (fdiv_exact h0 hr).2.symm)
        clear hr
        go_enter Try.func116, Try.ntmps116
        go_wp2
        go_ret2
        exact ⟨ret_i64bool HX.out rfl, rfl⟩
      · have e1 : (a.tmod b != 0) = true := by simpa using hr
        by_cases hl : a.tmod b < 0 ↔ b < 0
        · have HX := Lib.hid (fdiv_like h0 hl).2
          have e2 : decide (a.tmod b < 0) = decide (b < 0) := decide_eq_decide.2 hl
          clear hr hl
          cases h3 : decide (b < 0)
          all_goals
            rw [h3] at e2
            go_enter Try.func116, Try.ntmps116
            go_wp2
            go_ret2
            exact ⟨ret_i64bool HX.out rfl, rfl⟩
        · have HX := Lib.hid (fdiv_unlike h0 hr hl).2
          have e2 : (decide (a.tmod b < 0) = true ∧ decide (b < 0) = false) ∨ (decide (a.tmod b < 0) = false ∧ decide (b < 0) = true) := by
            simp only [decide_eq_true_eq, decide_eq_false_iff_not]; omega
          clear hr hl
          rcases e2 with ⟨e2, e3⟩ | ⟨e2, e3⟩
          all_goals
            go_enter Try.func116, Try.ntmps116
            go_wp2
            go_ret2
            exact ⟨ret_i64bool (by rw [HX.out]; exact HR.out) rfl, rfl⟩
  rintro x is hT hC
  exact hC.mono fun e w' ⟨h1, h2⟩ => ⟨x, is, h1, h2, hT⟩

end Go.Proofs.Ytnklbnphiokpiaa
