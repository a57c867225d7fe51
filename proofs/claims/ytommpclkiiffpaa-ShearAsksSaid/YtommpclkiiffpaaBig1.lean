/- Walks of the document's 'less', 'sum' and 'rest': digits compared, added, taken off. -/
import Derived.Test.YtommpclkiiffpaaBig0
set_option linter.unusedVariables false
namespace Go.Proofs.Ytommpclkiiffpaa
open Go.RowKit

def cmpI (x y : Int) : Int := if x < y then -1 else if y < x then 1 else 0
theorem cmpI_lt {x y : Int} (h : x < y) : cmpI x y = -1 := if_pos h
theorem cmpI_gt {x y : Int} (h : y < x) : cmpI x y = 1 := by unfold cmpI; rw [if_neg (by omega), if_pos h]
theorem cmpI_eq (x : Int) : cmpI x x = 0 := by unfold cmpI; rw [if_neg (by omega), if_neg (by omega)]

theorem dg_pred (ds : List Int) (j : Nat) (hj : 0 < j) : dg ds ((j : Int) - 1) = ds.getD (j - 1) 0 := by
  rw [show (j : Int) - 1 = ((j - 1 : Nat) : Int) by omega, dg_nat]

theorem drop_step {a b : List Int} {j : Nat} (hj : 0 < j) (h : bval (a.drop j) = bval (b.drop j)) (hd : a.getD (j - 1) 0 = b.getD (j - 1) 0) : bval (a.drop (j - 1)) = bval (b.drop (j - 1)) := by
  rw [drop_val a (j - 1), drop_val b (j - 1), hd, show j - 1 + 1 = j by omega, h]
theorem drop_less {a b : List Int} {j : Nat} (ha : Dig a) (hb : Dig b) (hj : 0 < j) (h : bval (a.drop j) = bval (b.drop j)) (hd : a.getD (j - 1) 0 < b.getD (j - 1) 0) : bval a < bval b :=
  less_of_digit ha hb (i := j - 1) (by rw [show j - 1 + 1 = j by omega]; exact h) hd

theorem less_any (s t : Value) (x y : Int) (w : World) (hs : NR w s x) (ht : NR w t y) (hx : x < HUGE) (hy : y < HUGE) :
    Calls Try.prog 85 #[s, t] w fun e w' => e = .returned (.int .i64 (cmpI x y)) ∧ w = w' := by
  obtain ⟨a, ha, ca, rfl⟩ := hs
  obtain ⟨b, hb, cb, rfl⟩ := ht
  have la := huge_len ca hx
  have lb := huge_len cb hy
  have DA := fun i => Lib.hid (digit_any s a i w ha (by omega))
  have DB := fun i => Lib.hid (digit_any t b i w hb (by omega))
  obtain ⟨A, capa, rfl⟩ := ha.form
  obtain ⟨B, capb, rfl⟩ := hb.form
  clear ha hb hx hy
  obtain ⟨m, hm, hma, hmb⟩ : ∃ m : Nat, ((a.length : Int) < b.length ∧ m = b.length ∨ (b.length : Int) ≤ a.length ∧ m = a.length) ∧ a.length ≤ m ∧ b.length ≤ m := by
    by_cases h : (a.length : Int) < b.length
    · exact ⟨b.length, .inl ⟨h, rfl⟩, by omega, Nat.le_refl _⟩
    · exact ⟨a.length, .inr ⟨by omega, rfl⟩, Nat.le_refl _, by omega⟩
  have hE : Hid (bval (a.drop m) = bval (b.drop m)) := by
    show _ = _
    rw [List.drop_of_length_le hma, List.drop_of_length_le hmb]
  have HE0 : Hid (bval (a.drop 0) = bval (b.drop 0) → cmpI (bval a) (bval b) = 0) := fun h => by
    rw [List.drop_zero, List.drop_zero] at h; rw [h]; exact cmpI_eq _
  rcases hm with ⟨hle, rfl⟩ | ⟨hle, rfl⟩
  all_goals
    go_enter Try.func85, Try.ntmps85
    go_wp2
    go_loop [5] (fun i => ∃ j : Nat, j ≤ 2000 ∧ i = .int .i64 ((j : Int) - 1) ∧ bval (a.drop j) = bval (b.drop j)) (fun i => (intOf i + 1).toNat)
    case atStart => exact ⟨_, by omega, rfl, hE.out⟩
    case round =>
      obtain ⟨j, hj, rfl, hr⟩ := hrel
      have HR := Lib.hid hr
      clear hr
      by_cases hj0 : j = 0
      · subst hj0
        go_wp2
        go_ret
        exact ⟨ret_int (HE0.out HR.out).symm, rfl⟩
      · have HA := DA ((j : Int) - 1)
        have HB := DB ((j : Int) - 1)
        rw [dg_pred a j (by omega)] at HA
        rw [dg_pred b j (by omega)] at HB
        have HL : Hid (a.getD (j - 1) 0 < b.getD (j - 1) 0 → cmpI (bval a) (bval b) = -1) := fun h => cmpI_lt (drop_less ca.1 cb.1 (by omega) HR.out h)
        have HG : Hid (b.getD (j - 1) 0 < a.getD (j - 1) 0 → cmpI (bval a) (bval b) = 1) := fun h => cmpI_gt (drop_less cb.1 ca.1 (by omega) HR.out.symm h)
        have HQ : Hid (a.getD (j - 1) 0 = b.getD (j - 1) 0 → bval (a.drop (j - 1)) = bval (b.drop (j - 1))) := fun h => drop_step (by omega) HR.out h
        generalize a.getD (j - 1) 0 = u at HA HL HG HQ
        generalize b.getD (j - 1) 0 = v at HB HL HG HQ
        rcases Int.lt_trichotomy u v with h | h | h
        · go_wp2_with fail
          refine HA.out.mono ?_; rintro e w' ⟨rfl, rfl⟩
          go_wp2_with fail
          refine HB.out.mono ?_; rintro e w' ⟨rfl, rfl⟩
          go_wp2_with fail
          go_ret
          exact ⟨ret_int (HL.out h).symm, rfl⟩
        · subst h
          go_wp2_with fail
          refine HA.out.mono ?_; rintro e w' ⟨rfl, rfl⟩
          go_wp2_with fail
          refine HB.out.mono ?_; rintro e w' ⟨rfl, rfl⟩
          go_wp2_with fail
          refine HA.out.mono ?_; rintro e w' ⟨rfl, rfl⟩
          go_wp2_with fail
          refine HB.out.mono ?_; rintro e w' ⟨rfl, rfl⟩
          go_wp2_with fail
          go_round
          case rel => exact ⟨j - 1, by omega, by go_num, HQ.out (by first | exact rfl | trivial)⟩
          case measure => simp [intOf]; omega
        · go_wp2_with fail
          refine HA.out.mono ?_; rintro e w' ⟨rfl, rfl⟩
          go_wp2_with fail
          refine HB.out.mono ?_; rintro e w' ⟨rfl, rfl⟩
          go_wp2_with fail
          refine HA.out.mono ?_; rintro e w' ⟨rfl, rfl⟩
          go_wp2_with fail
          refine HB.out.mono ?_; rintro e w' ⟨rfl, rfl⟩
          go_wp2_with fail
          go_ret
          exact ⟨ret_int (HG.out h).symm, rfl⟩

end Go.Proofs.Ytommpclkiiffpaa
