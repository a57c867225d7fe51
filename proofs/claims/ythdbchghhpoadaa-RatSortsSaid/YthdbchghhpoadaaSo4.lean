/- Contract of slices.rotateCmpFunc. -/
import Derived.Test.YthdbchghhpoadaaSo3
set_option linter.unusedVariables false
set_option linter.unusedSimpArgs false
namespace Go.Proofs.Ythdbchghhpoadaa
open Go.RowKit
set_option maxRecDepth 100000 in
set_option maxHeartbeats 2000000 in
theorem rotate_any (W0 : World) (b c n : Nat) (hn : n ≤ 1000) (x m y : Nat) (hx : x < m) (hm : m < y) (hy : y ≤ n) (f : Value) (D : Nat → E3) (w : World) (h : SRw W0 b n D w) :
    Calls Try.prog 123 #[.slice (some ⟨b, 0, none⟩) n c, .int .i64 (x : Int), .int .i64 (m : Int), .int .i64 (y : Int), f] w fun e w' => e = .returned (.tuple #[]) ∧ SRw W0 b n (rot D x m y) w' := by
  have CS := Lib.hid (fun x y m h1 h2 D w h => swapRange_any W0 b c n hn x y m h1 h2 f D w h)
  have e1 : IntKind.i64.wrap ((m : Int) - (x : Int)) = ((m - x : Nat) : Int) := by rw [show ((m - x : Nat) : Int) = (m : Int) - (x : Int) by omega]; exact iw ⟨by omega, by omega⟩
  have e2 : IntKind.i64.wrap ((y : Int) - (m : Int)) = ((y - m : Nat) : Int) := by rw [show ((y - m : Nat) : Int) = (y : Int) - (m : Int) by omega]; exact iw ⟨by omega, by omega⟩
  obtain ⟨i0, hi0⟩ : ∃ p, p = m - x := ⟨_, rfl⟩
  obtain ⟨j0, hj0⟩ : ∃ p, p = y - m := ⟨_, rfl⟩
  rw [← hi0] at e1; rw [← hj0] at e2
  have hI : Hid (∃ E, SRw W0 b n E w ∧ rot E (m - i0) m (m + j0) = rot D x m y) := ⟨D, h, by rw [show m - i0 = x by omega, show m + j0 = y by omega]⟩
  have hi1 : 0 < i0 := by omega
  have hj1 : 0 < j0 := by omega
  have hi2 : i0 ≤ m := by omega
  have hj2 : m + j0 ≤ n := by omega
  generalize rot D x m y = R at *
  clear h hi0 hj0 hx hm hy
  go_enter Try.func123, Try.ntmps123
  go_wp2_with fail
  go_loopw [10, 11] (fun a d wr => ∃ i j : Nat, 0 < i ∧ 0 < j ∧ i ≤ m ∧ m + j ≤ n ∧ a = .int .i64 (i : Int) ∧ d = .int .i64 (j : Int) ∧ Hid (∃ E, SRw W0 b n E wr ∧ rot E (m - i) m (m + j) = R)) (fun a d _ => (intOf a).toNat + (intOf d).toNat)
  case atStart => exact ⟨i0, j0, hi1, hj1, hi2, hj2, rfl, rfl, hI⟩
  case round =>
    clear hI hi1 hj1 hi2 hj2 e1 e2
    obtain ⟨i, j, hi, hj, him, hjn, rfl, rfl, hI⟩ := hrel
    obtain ⟨E, hE, hR⟩ := hI.out
    replace hE := Lib.hid hE; replace hR := Lib.hid hR
    have e1 : IntKind.i64.wrap ((m : Int) - (i : Int)) = ((m - i : Nat) : Int) := by rw [show ((m - i : Nat) : Int) = (m : Int) - (i : Int) by omega]; exact iw ⟨by omega, by omega⟩
    clear hI
    by_cases heq : i = j
    · subst heq
      have CS1 := Lib.hid (CS.out (m - i) m i (by omega) (by omega) E)
      have hR2 := Lib.hid (show swr E (m - i) m i = R by rw [← hR.out]; exact rot_eq E him)
      clear hR
      obtain ⟨p, hp⟩ : ∃ p, p = m - i := ⟨_, rfl⟩
      rw [← hp] at e1 CS1 hR2
      clear hp
      go_wp2_with fail
      refine (CS1.out _ hE.out).mono ?_; rintro e w' ⟨rfl, hS⟩
      rw [hR2.out] at hS
      replace hS := Lib.hid hS
      go_wp2_with fail
      go_end0
      exact ⟨rfl, hS.out⟩
    · by_cases hlt : j < i
      · have CS1 := Lib.hid (CS.out (m - i) m j (by omega) (by omega) E)
        have e2 : IntKind.i64.wrap ((i : Int) - (j : Int)) = ((i - j : Nat) : Int) := by rw [show ((i - j : Nat) : Int) = (i : Int) - (j : Int) by omega]; exact iw ⟨by omega, by omega⟩
        have hR2 := Lib.hid (show rot (swr E (m - i) m j) (m - (i - j)) m (m + j) = R by rw [← hR.out]; exact rot_left E him hj hlt)
        have g1 : ¬ ((i : Int) = (j : Int)) := by omega
        have g2 : (j : Int) < (i : Int) := by omega
        obtain ⟨q, hq⟩ : ∃ q, q = i - j := ⟨_, rfl⟩
        have hqs := Lib.hid (show 0 < q ∧ q ≤ m ∧ q + j < i + j by omega)
        clear hR
        rw [← hq] at e2 hR2
        clear hq
        obtain ⟨p, hp⟩ : ∃ p, p = m - i := ⟨_, rfl⟩
        rw [← hp] at e1 CS1 hR2
        clear hp
        go_wp2_with fail
        refine (CS1.out _ hE.out).mono ?_; rintro e w' ⟨rfl, hS⟩
        replace hS := Lib.hid hS
        go_wp2_with fail
        go_roundw
        case rel => exact ⟨q, j, hqs.out.1, hj, hqs.out.2.1, hjn, rfl, rfl, _, hS.out, hR2.out⟩
        case measure => have := hqs.out; simp [intOf]; omega
      · have CS1 := Lib.hid (CS.out (m - i) (m + j - i) i (by omega) (by omega) E)
        have e2 : IntKind.i64.wrap ((j : Int) - (i : Int)) = ((j - i : Nat) : Int) := by rw [show ((j - i : Nat) : Int) = (j : Int) - (i : Int) by omega]; exact iw ⟨by omega, by omega⟩
        obtain ⟨u, hu⟩ : ∃ u, u = m + j := ⟨_, rfl⟩
        have e3 : IntKind.i64.wrap ((m : Int) + (j : Int)) = ((u : Nat) : Int) := by rw [show ((u : Nat) : Int) = (m : Int) + (j : Int) by omega]; exact iw ⟨by omega, by omega⟩
        have e4 : IntKind.i64.wrap ((u : Int) - (i : Int)) = ((u - i : Nat) : Int) := by rw [show ((u - i : Nat) : Int) = (u : Int) - (i : Int) by omega]; exact iw ⟨by omega, by omega⟩
        have hR2 := Lib.hid (show rot (swr E (m - i) (m + j - i) i) (m - i) m (m + (j - i)) = R by rw [← hR.out]; exact rot_right E him hi (by omega))
        have g1 : ¬ ((i : Int) = (j : Int)) := by omega
        have g2 : ¬ ((j : Int) < (i : Int)) := by omega
        have g3 : i < j := by omega
        obtain ⟨q, hq⟩ : ∃ q, q = j - i := ⟨_, rfl⟩
        have hqs := Lib.hid (show 0 < q ∧ m + q ≤ n ∧ i + q < i + j by omega)
        clear hR
        rw [← hq] at e2 hR2
        clear hq
        obtain ⟨p, hp⟩ : ∃ p, p = m - i := ⟨_, rfl⟩
        have hR3 : Hid (rot (swr E p (m + j - i) i) (m - i) m (m + q) = R) := by rw [hp]; exact hR2
        clear hR2
        obtain ⟨t, ht⟩ : ∃ t, t = u - i := ⟨_, rfl⟩
        rw [← hp] at e1
        rw [← hp, ← hu, ← ht] at CS1
        rw [← hu, ← ht] at hR3
        rw [← ht] at e4
        clear ht hu hp
        go_wp2_with fail
        refine (CS1.out _ hE.out).mono ?_; rintro e w' ⟨rfl, hS⟩
        replace hS := Lib.hid hS
        go_wp2_with fail
        go_roundw
        case rel => exact ⟨i, q, hi, hqs.out.1, him, hqs.out.2.1, rfl, rfl, _, hS.out, hR3.out⟩
        case measure => have := hqs.out; simp [intOf]; omega
end Go.Proofs.Ythdbchghhpoadaa
