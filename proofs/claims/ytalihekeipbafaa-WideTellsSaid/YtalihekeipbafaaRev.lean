/- slices.Reverse at bytes: a row of the call's own, turned round in place. -/
import Derived.Test.YtalihekeipbafaaBase
import Derived.Deep.OwnRows
import Derived.BigRegion
set_option linter.unusedVariables false
namespace Go.Proofs.Ytalihekeipbafaa
open Go.RowKit

/-- A row of which the first k pairs have changed places. -/
def revF (n k : Nat) (f : Nat → Value) (i : Nat) : Value := if i < n ∧ (i < k ∨ n - k ≤ i) then f (n - 1 - i) else f i

theorem revF_zero (n : Nat) (f : Nat → Value) (i : Nat) : f i = revF n 0 f i := by unfold revF; rw [if_neg (by omega)]
theorem revF_end (n k : Nat) (f : Nat → Value) (h : n ≤ 2 * k + 1) (i : Nat) (hi : i < n) : revF n k f i = f (n - 1 - i) := by
  unfold revF
  by_cases h2 : i < k ∨ n - k ≤ i
  · rw [if_pos ⟨hi, h2⟩]
  · rw [if_neg (by omega)]; congr 1; omega
theorem revF_step (n k : Nat) (f : Nat → Value) (h : 2 * k + 1 < n) (i : Nat) :
    (if i = n - 1 - k then f k else if i = k then f (n - 1 - k) else revF n k f i) = revF n (k + 1) f i := by
  unfold revF
  by_cases h1 : i = n - 1 - k
  · subst h1; rw [if_pos rfl, if_pos (by omega)]; congr 1; omega
  · rw [if_neg h1]
    by_cases h2 : i = k
    · subst h2; rw [if_pos rfl, if_pos (by omega)]
    · rw [if_neg h2]
      by_cases h3 : i < n ∧ (i < k ∨ n - k ≤ i)
      · rw [if_pos h3, if_pos (by omega)]
      · rw [if_neg h3, if_neg (by omega)]

def RevPost (g n cap : Nat) (f : Nat → Value) (w : World) (e : Ending) (w' : World) : Prop :=
  e = .returned (.tuple #[]) ∧ w'.rowIs g 5 cap (fun i => if i < n then f (n - 1 - i) else f i) ∧ Below g w w'

set_option maxHeartbeats 1000000 in
theorem reverse_any (g n cap : Nat) (f : Nat → Value) (hn : n ≤ cap) (hc : n ≤ 4611686018427387904) (hf : ∀ i, i < n → ∃ x : Int, f i = .int .u8 x) (w : World) (h : w.rowIs g 5 cap f) :
    Calls Try.prog 83 #[.slice (some ⟨g, 0, none⟩) n cap] w (RevPost g n cap f w) := by
  have H := Lib.hid h
  have hlt := h.lt
  have HF := Lib.hid hf
  clear h hf
  go_enter Try.func83, Try.ntmps83
  go_wp2
  go_loopw [2, 3] (fun x y wr => ∃ k : Nat, k ≤ n ∧ x = .int .i64 k ∧ y = .int .i64 ((n : Int) - 1 - k) ∧ Hid (wr.rowIs g 5 cap (revF n k f) ∧ Below g w wr)) (fun x _ _ => n - (intOf x).toNat)
  case atStart => exact ⟨0, by omega, rfl, by simp, ⟨H.out.congr fun i _ => revF_zero n f i, Below.refl _ _⟩⟩
  case round =>
    obtain ⟨k, hk, rfl, rfl, hI⟩ := hrel
    by_cases hlt2 : 2 * k + 1 < n
    · obtain ⟨hr, hb⟩ := hI.out
      obtain ⟨x, hx⟩ := HF.out k (by omega)
      obtain ⟨y, hy⟩ := HF.out (n - 1 - k) (by omega)
      have c1 := hr.cell (i := k) (by omega)
      have c2 := hr.cell (i := n - 1 - k) (by omega)
      have f1 := hr.frozen k
      have f2 := hr.frozen (n - 1 - k)
      have g1 := hr.lt
      have e1 : revF n k f k = .int .u8 x := by unfold revF; rw [if_neg (by omega)]; exact hx
      have e2 : revF n k f (n - 1 - k) = .int .u8 y := by unfold revF; rw [if_neg (by omega)]; exact hy
      rw [e1] at c1
      rw [e2] at c2
      have HX := Lib.hid (And.intro hx hy)
      obtain ⟨j, hj⟩ : ∃ j : Nat, j = n - 1 - k := ⟨_, rfl⟩
      have ej : (n : Int) - 1 - k = j := by omega
      rw [← hj] at c2 f2
      have j1 : k < j := by omega
      have j2 : (j : Int) < n := by omega
      have HJ := Lib.hid hj
      clear hj hr hb e1 e2 hx hy
      rw [ej]
      have EJ := Lib.hid ej
      clear ej
      go_wp2_with fail
      go_region
      go_wp2_with fail
      go_roundw
      case rel =>
        obtain ⟨hr, hb⟩ := hI.out
        have hj := HJ.out
        refine ⟨k + 1, by omega, by go_num, by have := EJ.out; go_num, ⟨(((hr.set k _).set j _).drew).congr fun i hi => ?_, ((hb.setCell (p := ⟨g, k, none⟩) (Nat.le_refl _) _).setCell (p := ⟨g, j, none⟩) (Nat.le_refl _) _).drew⟩⟩
        rw [← HX.out.1, ← HX.out.2, hj]
        exact revF_step n k f hlt2 i
      case measure => simp [intOf]; omega
    · have h3 : ¬ (k : Int) < n - 1 - k := by omega
      go_wp2_with fail
      go_end0
      obtain ⟨hr, hb⟩ := hI.out
      refine ⟨rfl, hr.congr fun i hi => ?_, hb⟩
      show revF n k f i = if i < n then f (n - 1 - i) else f i
      by_cases hin : i < n
      · rw [if_pos hin]; exact revF_end n k f (by omega) i hin
      · rw [if_neg hin]; unfold revF; rw [if_neg (by omega)]

end Go.Proofs.Ytalihekeipbafaa
