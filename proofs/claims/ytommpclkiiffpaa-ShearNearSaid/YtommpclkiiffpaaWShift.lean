/- Walks of wide.Shr, shl, Shl. -/
import Derived.Test.YtommpclkiiffpaaShiftLaw
set_option linter.unusedVariables false
namespace Go.Proofs.Ytommpclkiiffpaa
open Go.RowKit

theorem give_w_res {z hi lo : Int} {w w1 : World} {e : Ending} (he : e = .returned (wv hi lo)) (hb : Below w.heap.size w w1) (h : W128 z hi lo) : GiveW z w e w1 := ⟨_, _, he, hb, h⟩

set_option maxRecDepth 100000 in
theorem wshr_mid (x ah al : Int) (n : Nat) (h0 : 0 < n) (h1 : n < 64) (h : W128 x ah al) (w : World) : Calls Try.prog 103 #[wv ah al, .int .i64 (n : Int)] w (GiveW (x / 2 ^ n) w) := by
  have HL := Lib.hid (shr_mid_law h h0 h1)
  obtain ⟨⟨a10, a11⟩, ⟨a20, a21⟩, _⟩ := h
  have h2 : ¬ (n : Int) ≤ 0 := by omega
  have h3 : ¬ 64 ≤ (n : Int) := by omega
  go_enter Try.func103, Try.ntmps103
  go_wp2
  exact bodyPost_ret (v := wv _ _) (by unfold results; simp only [Try.results103]; go_simp) rfl (give_w_res rfl (below_new (below_new (Below.refl _ _) _) _) HL.out)
set_option maxRecDepth 100000 in
theorem wshr_far (x ah al : Int) (n : Nat) (h0 : 64 ≤ n) (h1 : n ≤ 9223372036854775807) (h : W128 x ah al) (w : World) : Calls Try.prog 103 #[wv ah al, .int .i64 (n : Int)] w (GiveW (x / 2 ^ n) w) := by
  have hh := h
  obtain ⟨⟨a10, a11⟩, ⟨a20, a21⟩, _⟩ := h
  have h2 : ¬ (n : Int) ≤ 0 := by omega
  have h3 : 64 ≤ (n : Int) := by omega
  have hn0 : (n = 0) = False := by simp; omega
  by_cases h4 : 63 < n - 64
  · have h5 : (63 : Int) < (n : Int) - 64 := by omega
    have HL := Lib.hid (shr_far_law (y := ah / 9223372036854775808) hh h0 (div_far hh.1 (by omega)).symm)
    clear hh
    go_enter Try.func103, Try.ntmps103
    go_wp2
    all_goals exact bodyPost_ret (v := wv _ _) (by unfold results; simp only [Try.results103]; go_simp) rfl (give_w_res rfl (below_new (below_new (Below.refl _ _) _) _) HL.out)
  · have h5 : ¬ (63 : Int) < (n : Int) - 64 := by omega
    have HL := Lib.hid (shr_far_law (y := ah / 2 ^ (n - 64)) hh h0 rfl)
    clear hh
    go_enter Try.func103, Try.ntmps103
    go_wp2
    all_goals exact bodyPost_ret (v := wv _ _) (by unfold results; simp only [Try.results103]; go_simp) rfl (give_w_res rfl (below_new (below_new (Below.refl _ _) _) _) HL.out)
set_option maxRecDepth 100000 in
theorem wshr_none (x ah al n : Int) (hn : n ≤ 0) (h : W128 x ah al) (w : World) : Calls Try.prog 103 #[wv ah al, .int .i64 n] w fun e w' => e = .returned (wv ah al) ∧ Below w.heap.size w w' := by
  clear h
  go_enter Try.func103, Try.ntmps103
  go_wp2
  exact bodyPost_ret (v := wv _ _) (by unfold results; simp only [Try.results103]; go_simp) rfl ⟨rfl, below_new (below_new (Below.refl _ _) _) _⟩
theorem wshr (x ah al : Int) (n : Nat) (h1 : n ≤ 9223372036854775807) (h : W128 x ah al) (w : World) : Calls Try.prog 103 #[wv ah al, .int .i64 (n : Int)] w (GiveW (x / 2 ^ n) w) := by
  by_cases h0 : n = 0
  · subst h0
    refine (wshr_none x ah al 0 (by omega) h w).mono ?_
    rintro e w' ⟨rfl, hb⟩
    exact ⟨_, _, rfl, hb, by simpa using h⟩
  · by_cases h2 : n < 64
    · exact wshr_mid x ah al n (by omega) h2 h w
    · exact wshr_far x ah al n (by omega) h1 h w

def GiveW2 (z : Int) (w : World) (e : Ending) (w' : World) : Prop := ∃ hi lo k, e = .returned (wv hi lo) ∧ Below w.heap.size w w' ∧ W128 (z + k * 340282366920938463463374607431768211456) hi lo
theorem cmpI_nz {x : Int} (h : cmpI x 0 = 0) : x = 0 := by unfold cmpI at h; split at h <;> (try split at h) <;> omega
theorem W128.halves {z hi lo : Int} (h : W128 z hi lo) : hi = z / 18446744073709551616 ∧ lo = z % 18446744073709551616 := by unfold W128 U64 at h; omega
theorem W128.mk {z : Int} (h : I128 z) : W128 z (z / 18446744073709551616) (z % 18446744073709551616) := by unfold I128 at h; unfold W128 I64 U64; omega
theorem GiveW.fixed {z : Int} {w : World} {e : Ending} {w' : World} (h : GiveW z w e w') : e = .returned (wv (z / 18446744073709551616) (z % 18446744073709551616)) ∧ Below w.heap.size w w' := by
  obtain ⟨hi, lo, rfl, hb, h⟩ := h
  rw [← h.halves.1, ← h.halves.2]; exact ⟨rfl, hb⟩
theorem I128.shr {z : Int} (h : I128 z) (n : Nat) : I128 (z / 2 ^ n) := by
  have p := two_pos n
  have e := Int.mul_ediv_add_emod z (2 ^ n)
  unfold I128 at *
  rcases Int.lt_or_le z 0 with hz | hz
  · have h1 : z / 2 ^ n < 0 := Int.ediv_neg_of_neg_of_pos hz p
    have h2 : z * 1 ≤ z / 2 ^ n := by
      refine Int.le_ediv_of_mul_le p ?_
      rw [Int.mul_one]
      have : z * 2 ^ n ≤ z * 1 := Int.mul_le_mul_of_nonpos_left (by omega) (by omega)
      omega
    omega
  · have h1 : 0 ≤ z / 2 ^ n := Int.ediv_nonneg hz (by omega)
    have h2 : z / 2 ^ n ≤ z := Int.ediv_le_self _ hz
    omega
theorem I128.of_mul {x p : Int} (hp : 0 < p) (h : I128 (x * p)) : I128 x := by
  unfold I128 at *
  have h1 : x.natAbs ≤ (x * p).natAbs := by
    rw [Int.natAbs_mul]; exact Nat.le_mul_of_pos_right _ (by omega)
  rcases Int.lt_or_le x 0 with hx | hx
  · have : x * p ≤ x * 1 := Int.mul_le_mul_of_nonpos_left (by omega) (by omega)
    omega
  · have : x * 1 ≤ x * p := Int.mul_le_mul_of_nonneg_left (by omega) hx
    omega
theorem not_room {x : Int} (hx : x ≠ 0) {n : Nat} (hn : 128 ≤ n) : ¬ I128 (x * 2 ^ n) := by
  intro h
  have en : 128 + (n - 128) = n := by omega
  have e : (2 : Int) ^ n = 2 ^ 128 * 2 ^ (n - 128) := by rw [← Int.pow_add, en]
  rw [e, ← Int.mul_assoc] at h
  have h2 := I128.of_mul (two_pos _) h
  have e64 : (2 : Int) ^ 64 = 18446744073709551616 := by decide
  have e128 : (2 : Int) ^ 128 = 18446744073709551616 * 18446744073709551616 := by rw [← e64]; exact Int.pow_add 2 64 64
  rw [e128] at h2
  unfold I128 at h2; omega
theorem wide_eq {x y ah al bh bl : Int} (hx : W128 x ah al) (hy : W128 y bh bl) : (ah == bh && al == bl) = true ↔ x = y := by
  have := (W128.cmp hx hy).2
  simp only [Bool.and_eq_true, beq_iff_eq]; omega

end Go.Proofs.Ytommpclkiiffpaa
