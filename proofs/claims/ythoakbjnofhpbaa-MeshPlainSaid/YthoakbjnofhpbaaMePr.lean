/- Contract of ref21.Plain. -/
import Derived.Test.YthoakbjnofhpbaaMeQ
import Derived.Test.YthoakbjnofhpbaaMeR
set_option linter.unusedVariables false
set_option linter.unusedSimpArgs false
namespace Go.Proofs.Ythoakbjnofhpbaa
open Go.RowKit
theorem r21plain_no (gx gy nx ny : Int) (hf : fitsM gx gy nx ny = false) (w : World) : Calls Try.prog 16 #[.int .i64 gx, .int .i64 gy, .int .i64 nx, .int .i64 ny] w fun e w' => e = .returned (.slice none 0 0) ∧ Below w.heap.size w w' := by
  have CF := Lib.hid (fun w => r21fits gx gy nx ny w)
  rw [hf] at CF
  clear hf
  go_enter Try.func16, Try.ntmps16
  go_wp2_with fail
  have BB : Hid (Below w.heap.size w w) := Below.refl _ _
  refine (CF.out _).mono ?_
  rintro e w9 ⟨rfl, rfl⟩
  go_wp2_with fail
  go_ret
  exact ⟨rfl, BB.out⟩
set_option maxRecDepth 100000 in
set_option maxHeartbeats 8000000 in
theorem r21plain_ok (gx gy nx ny : Int) (hf : fitsM gx gy nx ny = true) (w : World) : Calls Try.prog 16 #[.int .i64 gx, .int .i64 gy, .int .i64 nx, .int .i64 ny] w fun e w' => ∃ r, e = .returned r ∧ Below w.heap.size w w' ∧ IS w' r (plL gx gy nx ny) := by
  obtain ⟨i0, hi0, hz0, hz1, hz2⟩ := info_parts info_l64
  obtain ⟨g1, g2, g3, g4⟩ := fitsM_iff.1 hf
  have CF := Lib.hid (fun w => r21fits gx gy nx ny w)
  rw [hf] at CF
  obtain ⟨m, hm⟩ : ∃ m, m = (nx + 1).toNat := ⟨_, rfl⟩
  obtain ⟨l, hl⟩ : ∃ m, m = (ny + 1).toNat := ⟨_, rfl⟩
  have hG := Lib.hid (And.intro g1 (And.intro g2 (And.intro g3 g4)))
  have hml := Lib.hid (show m ≤ 65 ∧ l ≤ 65 ∧ (m : Int) = nx + 1 ∧ (l : Int) = ny + 1 by omega)
  obtain ⟨a, ha⟩ : ∃ v, v = 65536 * gx := ⟨_, rfl⟩
  obtain ⟨b, hb⟩ : ∃ v, v = 65536 * gy := ⟨_, rfl⟩
  have e3 : IntKind.i64.wrap (65536 * gx) = a := by rw [ha]; exact iw ⟨by omega, by omega⟩
  have e4 : IntKind.i64.wrap (65536 * gy) = b := by rw [hb]; exact iw ⟨by omega, by omega⟩
  have HW : Hid (∀ k : Nat, k ≤ 65 → IntKind.i64.wrap (a * (k : Int)) = 65536 * gx * (k : Int) ∧ IntKind.i64.wrap (b * (k : Int)) = 65536 * gy * (k : Int)) := fun k hk => by
    rw [ha, hb]
    have q1 : 65536 * gx * (k : Int) ≤ 67108864 * 65 := Int.mul_le_mul (by omega) (by omega) (by omega) (by omega)
    have q2 : 65536 * gy * (k : Int) ≤ 67108864 * 65 := Int.mul_le_mul (by omega) (by omega) (by omega) (by omega)
    have q3 : 0 ≤ 65536 * gx * (k : Int) := Int.mul_nonneg (by omega) (by omega)
    have q4 : 0 ≤ 65536 * gy * (k : Int) := Int.mul_nonneg (by omega) (by omega)
    exact ⟨iw ⟨by omega, by omega⟩, iw ⟨by omega, by omega⟩⟩
  unfold plL
  rw [← hm, ← hl]
  clear hf ha hb hm hl g1 g2 g3 g4
  go_enter Try.func16, Try.ntmps16
  go_wp2_with fail
  have BB : Hid (Below w.heap.size w w) := Below.refl _ _
  refine (CF.out _).mono ?_
  rintro e w9 ⟨rfl, rfl⟩
  go_upto_region 4 with fail
  obtain ⟨hb, r_c⟩ := laid w #[.int .i64 gx, .int .i64 gy, .int .i64 nx, .int .i64 ny] 2
  replace BB := Lib.hid (below_next BB.out hb)
  replace r_c := Lib.hid r_c
  clear hb
  generalize w.alloc (.cells #[.int .i64 gx, .int .i64 gy, .int .i64 nx, .int .i64 ny] 2) = w1 at *
  have h_o := Lib.hid (four_row (base := w.heap.size) r_c.out (Nat.le_refl _))
  clear r_c
  go_wp2_with fail
  go_loopw [9, 10, 11] (fun v c _ wr => ∃ k : Nat, k ≤ l ∧ c = .int .i64 (k : Int) ∧ Hid (OI wr w.heap.size v ([gx, gy, nx, ny] ++ plRows gx gy m k) ∧ Below w.heap.size w wr)) (fun _ c _ _ => l - (intOf c).toNat)
  case atStart => exact ⟨0, by omega, rfl, ⟨h_o.out, BB.out⟩⟩
  case round =>
    clear BB h_o
    obtain ⟨k, hk, rfl, hinv⟩ := hrel
    obtain ⟨h_o, BB⟩ := hinv.out
    replace h_o := Lib.hid h_o; replace BB := Lib.hid BB
    clear hinv
    by_cases hlt : k < l
    · have k0 : (k : Int) ≤ ny := by have := hml.out; omega
      go_wp2_with fail
      go_loopw [9, 11] (fun v c wr => ∃ i : Nat, i ≤ m ∧ c = .int .i64 (i : Int) ∧ Hid (OI wr w.heap.size v (([gx, gy, nx, ny] ++ plRows gx gy m k) ++ plRow gx gy k i) ∧ Below w.heap.size w wr)) (fun _ c _ => m - (intOf c).toNat)
      case atStart => exact ⟨0, by omega, rfl, ⟨by simpa [plRow] using h_o.out, BB.out⟩⟩
      case round =>
        clear BB h_o
        obtain ⟨i, hi, rfl, hinv⟩ := hrel
        obtain ⟨h_o, BB⟩ := hinv.out
        replace h_o := Lib.hid h_o; replace BB := Lib.hid BB
        clear hinv
        by_cases hlt2 : i < m
        · have i1 : (i : Int) ≤ nx := by have := hml.out; omega
          have hm6 := hml.out.1
          have hw1 := (HW.out i (by have := hml.out; omega)).1
          have hw2 := (HW.out k (by have := hml.out; omega)).2
          have hlen : Hid ((([gx, gy, nx, ny] ++ plRows gx gy m k) ++ plRow gx gy k i).length ≤ 100000) := by
            show _ ≤ _
            rw [List.length_append, List.length_append, plRows_len, plRow_len]
            have q := hml.out
            have q1 : k * (m * 2) ≤ 65 * (65 * 2) := Nat.mul_le_mul (by omega) (by omega)
            simp
            omega
          have hstep : Hid ((([gx, gy, nx, ny] ++ plRows gx gy m k) ++ plRow gx gy k (i + 1)) = (([gx, gy, nx, ny] ++ plRows gx gy m k) ++ plRow gx gy k i) ++ [65536 * gx * (i : Int), 65536 * gy * (k : Int)]) := by
            show _ = _
            rw [plRow_succ]; simp only [List.append_assoc]
          generalize 65536 * gx * (i : Int) = z0 at *
          generalize 65536 * gy * (k : Int) = z1 at *
          generalize ([gx, gy, nx, ny] ++ plRows gx gy m k) ++ plRow gx gy k i = zs at *
          have ho' := (show World.ownsRow _ _ _ _ _ _ _ from h_o.out)
          have hlen' := hlen.out
          have hsz' := BB.out.size
          go_wp2_with (first | (at_builtin; refine wpList_append_own _ rfl (.tmp 33) (.tmp 42) 25 rfl w.heap.size 2 i0 (.int .i64 0) 1 8 Try.underlying25 hi0 hz0 hz1 hz2 rfl (by decide) _ _ _ rfl (ho'.alloc _) ⟨wr.heap.size, 0, none⟩ 2 2 [.int .i64 z0, .int .i64 z1] rfl rfl (two_new _ _ _ _) (two_ints _ _) (by unfold maxLen; omega) (by omega) (by simp; omega) ?_))
          intro v' w8 hown' hgrow _
          have HB1 := Lib.hid (below_app BB.out ho' hgrow)
          have HO1 := Lib.hid (OI.app hown')
          clear hown' hgrow ho'
          go_wp2_with fail
          go_roundw
          case rel => exact ⟨i + 1, by omega, by go_num, ⟨by rw [hstep.out]; exact HO1.out, HB1.out⟩⟩
          case measure => simp [intOf]; omega
        · obtain rfl : i = m := by omega
          have i1 : ¬ (i : Int) ≤ nx := by have := hml.out; omega
          rw [List.append_assoc, ← plRows_succ] at h_o
          have hl6 := hml.out.2.1
          go_wp2_with fail
          go_roundw
          case rel => exact ⟨k + 1, by omega, by go_num, ⟨h_o.out, BB.out⟩⟩
          case measure => simp [intOf]; omega
    · obtain rfl : k = l := by omega
      have k0 : ¬ (k : Int) ≤ ny := by have := hml.out; omega
      go_wp2_with fail
      go_ret
      refine ⟨_, rfl, BB.out, h_o.out.is (plL_in hG.out hml.out) ?_⟩
      rw [List.length_append, plRows_len]
      have q := hml.out
      have q1 : k * (m * 2) ≤ 65 * (65 * 2) := Nat.mul_le_mul (by omega) (by omega)
      simp
      omega
end Go.Proofs.Ythoakbjnofhpbaa
