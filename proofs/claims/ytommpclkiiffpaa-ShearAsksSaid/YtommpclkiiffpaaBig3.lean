/- The walk of the document's 'rest': digits taken off others that aren't less. -/
import Derived.Test.YtommpclkiiffpaaBig2
set_option linter.unusedVariables false
namespace Go.Proofs.Ytommpclkiiffpaa
open Go.RowKit

theorem rest_step {a b os : List Int} {k : Nat} {c q r : Int} (hl : os.length = k) (h : bval os - P2 k * c = bval (a.take k) - bval (b.take k)) (hq : q - 32768 * r = a.getD k 0 - b.getD k 0 - c) :
    bval (os ++ [q]) - P2 (k + 1) * r = bval (a.take (k + 1)) - bval (b.take (k + 1)) := by
  rw [bval_snoc, take_succ_val, take_succ_val, hl, P2_succ]
  generalize P2 k = p at *
  grind

theorem rest_end {a b os : List Int} {c : Int} (ca : Canon a) (cb : Canon b) (hle : bval b ≤ bval a) (hl : os.length = a.length) (hd : Dig os) (h : bval os - P2 a.length * c = bval (a.take a.length) - bval (b.take a.length)) (c0 : 0 ≤ c) (c1 : c ≤ 1) :
    bval os = bval a - bval b := by
  have h1 := bval_lt ca.1
  have h2 := cb.length_le (show bval b < P2 a.length by omega)
  rw [List.take_of_length_le (Nat.le_refl _), List.take_of_length_le h2] at h
  have h3 := bval_lt hd
  rw [hl] at h3
  have : c = 0 ∨ c = 1 := by omega
  rcases this with rfl | rfl
  · omega
  · omega

set_option maxRecDepth 100000 in
theorem rest_any (s t : Value) (x y : Int) (w : World) (hs : NR w s x) (ht : NR w t y) (hx : x < HUGE) (hyx : y ≤ x) :
    Calls Try.prog 86 #[s, t] w (GiveN (x - y) w) := by
  obtain ⟨a, ha, ca, rfl⟩ := hs
  obtain ⟨b, hb, cb, rfl⟩ := ht
  have la := huge_len ca hx
  have lb := huge_len cb (show bval b < HUGE by omega)
  have DA := Lib.hid (fun i wr (hw : Below w.heap.size w wr) => digit_any s a i wr (ha.below hw) (by omega))
  have DB := Lib.hid (fun i wr (hw : Below w.heap.size w wr) => digit_any t b i wr (hb.below hw) (by omega))
  have HX := Lib.hid hyx
  obtain ⟨A, capa, rfl⟩ := ha.form
  obtain ⟨B, capb, rfl⟩ := hb.form
  clear ha hb hx hyx
  obtain ⟨i0, hi, hz0, hz1, hz2⟩ := info_parts info_int
  go_enter Try.func86, Try.ntmps86
  go_wp2
  go_loopw [5, 6, 7] (fun v cy i wr => ∃ (k : Nat) (c : Int) (os : List Int), k ≤ a.length ∧ i = .int .i64 k ∧ cy = .int .i64 c ∧ 0 ≤ c ∧ c ≤ 1 ∧ wr.ownsRow w.heap.size 3 1 v os.length (os.map (Value.int .i64)) ∧
      Hid (os.length = k ∧ Dig os ∧ bval os - P2 k * c = bval (a.take k) - bval (b.take k)) ∧ Below w.heap.size w wr) (fun _ _ i _ => 2001 - (intOf i).toNat)
  case atStart => exact ⟨0, 0, [], by omega, rfl, rfl, by omega, by omega, World.ownsRow_nil _ _ _ _, ⟨rfl, Dig.nil, by simp [bval]⟩, Below.refl _ _⟩
  case round =>
    obtain ⟨k, c, os, hk, rfl, rfl, c0, c1, hown, hinv, hbel⟩ := hrel
    have HO := Lib.hid hown
    clear hown
    have hos : os.length ≤ 2001 := by have := hinv.out.1; omega
    have hns : w.heap.size ≤ wr.heap.size := hbel.size
    by_cases hlt : (k : Int) < a.length
    · have HA := DA.out (k : Int) wr hbel
      have HB := DB.out (k : Int) wr hbel
      rw [dg_nat] at HA HB
      have dA := ca.1.at k
      have dB := cb.1.at k
      have HS : Hid (∀ q r : Int, q - 32768 * r = a.getD k 0 - b.getD k 0 - c → bval (os ++ [q]) - P2 (k + 1) * r = bval (a.take (k + 1)) - bval (b.take (k + 1))) := fun q r => rest_step hinv.out.1 hinv.out.2.2
      generalize a.getD k 0 = u at HA HS dA
      generalize b.getD k 0 = v at HB HS dB
      obtain ⟨dA0, dA1⟩ := dA
      obtain ⟨dB0, dB1⟩ := dB
      have HA := Lib.hid HA
      have HB := Lib.hid HB
      by_cases hneg : u - v - c < 0
      · go_wp2_with fail
        refine HA.out.mono ?_; rintro e w' ⟨rfl, rfl⟩
        go_wp2_with fail
        refine HB.out.mono ?_; rintro e w' ⟨rfl, rfl⟩
        go_wp2_with (first | (at_builtin; refine wpList_append_own _ rfl (.tmp 28) (.tmp 30) 35 rfl w.heap.size 3 i0 (.int .i64 0) 1 8 Try.underlying35 hi hz0 hz1 hz2 rfl (by decide) _ _ _ rfl (HO.out.alloc _) ⟨wr.heap.size, 0, none⟩ 1 1 [.int .i64 (u - v - c + 32768)] rfl rfl (one_new _ _ _) (one_cell _ _) (by unfold maxLen; omega) (by omega) (by simp; omega) ?_))
        intro v' w1 hown' hgrow _
        have HB1 := Lib.hid (below_app hbel HO.out hgrow)
        have HO1 := Lib.hid (own_one hown')
        clear hown' hgrow
        go_wp2_with fail
        go_roundw
        case rel =>
          have hd := hinv.out
          exact ⟨k + 1, 1, os ++ [u - v - c + 32768], by omega, by go_num, rfl, by omega, by omega, HO1.out, ⟨by simp; omega, hd.2.1.snoc ⟨by omega, by omega⟩, HS.out _ 1 (by omega)⟩, HB1.out⟩
        case measure => simp [intOf]; omega
      · go_wp2_with fail
        refine HA.out.mono ?_; rintro e w' ⟨rfl, rfl⟩
        go_wp2_with fail
        refine HB.out.mono ?_; rintro e w' ⟨rfl, rfl⟩
        go_wp2_with (first | (at_builtin; refine wpList_append_own _ rfl (.tmp 28) (.tmp 30) 35 rfl w.heap.size 3 i0 (.int .i64 0) 1 8 Try.underlying35 hi hz0 hz1 hz2 rfl (by decide) _ _ _ rfl (HO.out.alloc _) ⟨wr.heap.size, 0, none⟩ 1 1 [.int .i64 (u - v - c)] rfl rfl (one_new _ _ _) (one_cell _ _) (by unfold maxLen; omega) (by omega) (by simp; omega) ?_))
        intro v' w1 hown' hgrow _
        have HB1 := Lib.hid (below_app hbel HO.out hgrow)
        have HO1 := Lib.hid (own_one hown')
        clear hown' hgrow
        go_wp2_with fail
        go_roundw
        case rel =>
          have hd := hinv.out
          exact ⟨k + 1, 0, os ++ [u - v - c], by omega, by go_num, rfl, by omega, by omega, HO1.out, ⟨by simp; omega, hd.2.1.snoc ⟨by omega, by omega⟩, HS.out _ 0 (by omega)⟩, HB1.out⟩
        case measure => simp [intOf]; omega
    · obtain rfl : k = a.length := by omega
      have hd := Lib.hid hinv.out
      have HC := Lib.hid (trim_give hbel (DR.of_own HO.out) hd.out.2.1 (by omega) (rest_end ca cb HX.out hd.out.1 hd.out.2.1 hd.out.2.2 c0 c1))
      go_wp2_with fail
      refine HC.out.mono ?_; rintro e w2 ⟨r, rfl, hb2, hr⟩
      have HR := Lib.hid hr
      clear hr
      go_wp2_with fail
      go_ret
      exact ⟨_, rfl, hb2, HR.out⟩

end Go.Proofs.Ytommpclkiiffpaa
