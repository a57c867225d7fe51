/- Contract of slices.swapRangeCmpFunc and of slices.rotateCmpFunc. -/
import Derived.Test.YthdbchghhpoadaaSo2
set_option linter.unusedVariables false
set_option linter.unusedSimpArgs false
namespace Go.Proofs.Ythdbchghhpoadaa
open Go.RowKit
structure SRw (W0 : World) (b n : Nat) (D : Nat → E3) (w : World) : Prop where
  sr : SR w b n D
  bl : Below W0.heap.size W0 w
  lo : W0.heap.size ≤ b
theorem SRw.below {W0 w w1 : World} {b n : Nat} {D : Nat → E3} (h : SRw W0 b n D w) (hb : Below w.heap.size w w1) : SRw W0 b n D w1 := ⟨h.sr.below hb, below_next h.bl hb, h.lo⟩
theorem SRw.drew {W0 w : World} {b n : Nat} {D : Nat → E3} (h : SRw W0 b n D w) : SRw W0 b n D w.drew := h.below (below_drew (Below.refl _ _))
theorem SRw.swp {W0 w : World} {b n : Nat} {D : Nat → E3} (h : SRw W0 b n D w) {i j : Nat} (hi : i < n) (hj : j < n) :
    SRw W0 b n (swp D i j) ((((w.setCell ⟨b, i * 2, none⟩ (.int .i64 (D j).1.1)).setCell ⟨b, i * 2 + 1, none⟩ (.int .i64 (D j).1.2)).setCell ⟨b, j * 2, none⟩ (.int .i64 (D i).1.1)).setCell ⟨b, j * 2 + 1, none⟩ (.int .i64 (D i).1.2)) :=
  ⟨h.sr.swp hi hj, below_set (below_set (below_set (below_set h.bl h.lo _) h.lo _) h.lo _) h.lo _, h.lo⟩
set_option maxRecDepth 100000 in
set_option maxHeartbeats 2000000 in
theorem swapRange_any (W0 : World) (b c n : Nat) (hn : n ≤ 1000) (x y m : Nat) (hxy : x + m ≤ y) (hy : y + m ≤ n) (f : Value) (D : Nat → E3) (w : World) (h : SRw W0 b n D w) :
    Calls Try.prog 134 #[.slice (some ⟨b, 0, none⟩) n c, .int .i64 (x : Int), .int .i64 (y : Int), .int .i64 (m : Int), f] w fun e w' => e = .returned (.tuple #[]) ∧ SRw W0 b n (swr D x y m) w' := by
  go_enter Try.func134, Try.ntmps134
  go_wp2_with fail
  replace h := Lib.hid h
  go_loopw [10] (fun a wr => ∃ i : Nat, i ≤ m ∧ a = .int .i64 (i : Int) ∧ Hid (SRw W0 b n (swr D x y i) wr)) (fun a _ => m - (intOf a).toNat)
  case atStart => exact ⟨0, by omega, rfl, by show SRw _ _ _ _ _; rw [swr_zero]; exact h.out⟩
  case round =>
    clear h
    obtain ⟨i, him, rfl, hI⟩ := hrel
    by_cases hlt : i < m
    · have hlt' : (i : Int) < (m : Int) := by omega
      have e1 : IntKind.i64.wrap ((x : Int) + (i : Int)) = ((x + i : Nat) : Int) := by rw [show ((x + i : Nat) : Int) = (x : Int) + (i : Int) by omega]; exact iw ⟨by omega, by omega⟩
      have e2 : IntKind.i64.wrap ((y : Int) + (i : Int)) = ((y + i : Nat) : Int) := by rw [show ((y + i : Nat) : Int) = (y : Int) + (i : Int) by omega]; exact iw ⟨by omega, by omega⟩
      have e3 : IntKind.i64.wrap ((i : Int) + 1) = ((i + 1 : Nat) : Int) := by rw [show ((i + 1 : Nat) : Int) = (i : Int) + 1 by omega]; exact iw ⟨by omega, by omega⟩
      obtain ⟨p, hp⟩ : ∃ p, p = x + i := ⟨_, rfl⟩
      obtain ⟨q, hq⟩ : ∃ q, q = y + i := ⟨_, rfl⟩
      rw [← hp] at e1; rw [← hq] at e2
      have hpn : p < n := by omega
      have hqn : q < n := by omega
      have hpq : p < q := by omega
      have hS := Lib.hid (hI.out.swp hpn hqn)
      have hE := Lib.hid (show swp (swr D x y i) p q = swr D x y (i + 1) by rw [hp, hq]; exact (swr_succ D (by omega)).symm)
      clear hp hq
      obtain ⟨a1, a2, a3, a4⟩ := hI.out.sr.cells hpn
      obtain ⟨b1, b2, b3, b4⟩ := hI.out.sr.cells hqn
      generalize (swr D x y i p).1.1 = u1 at *
      generalize (swr D x y i p).1.2 = u2 at *
      generalize (swr D x y i q).1.1 = v1 at *
      generalize (swr D x y i q).1.2 = v2 at *
      go_wp2_with fail
      go_region
      all_goals (
        have hS2 := hS.out.drew
        rw [hE.out] at hS2
        replace hS := Lib.hid hS2
        clear hS2 hI a1 a2 a3 a4 b1 b2 b3 b4
        go_wp2_with fail
        go_roundw
        case rel => exact ⟨i + 1, by omega, by go_num, hS⟩
        case measure => simp [intOf]; omega)
    · obtain rfl : i = m := by omega
      go_wp2_with fail
      go_end0
      exact ⟨rfl, hI.out⟩
end Go.Proofs.Ythdbchghhpoadaa
