/- Contracts of quot.Near, Cut, beyond, Place. -/
import Derived.Test.YtnklbnphiokpiaaQuot4
set_option linter.unusedVariables false
namespace Go.Proofs.Ytnklbnphiokpiaa
open Go.RowKit

theorem near_i128 {a b : Int} (ha : I64 a) (h0 : b ≠ 0) : I128 (nearI a b) := by
  have l := fdiv_abs_le (z := a) h0
  have k := near_law (z := a) h0
  unfold I128; unfold I64 at ha
  by_cases hc : (a.fmod b).natAbs < (b.natAbs : Int) - (a.fmod b).natAbs
  · rw [k.1 hc]; omega
  · rw [k.2 hc]; omega
def GiveQ1 (z : Int) (has : Bool) (w : World) (e : Ending) (w' : World) : Prop := ∃ x is, e = .returned (.tuple #[.int .i64 x, .bool is]) ∧ Below w.heap.size w w' ∧ TQ z has x is

set_option maxRecDepth 100000 in
set_option maxHeartbeats 2000000 in
theorem qnear (a b : Int) (ha : I64 a) (hb : I64 b) (w : World) : Calls Try.prog 58 #[.int .i64 a, .int .i64 b] w (GiveQ1 (nearI a b) (b != 0) w) := by
  have CO := Lib.hid (fun w => wof a ha w)
  have CH := Lib.hid (fun oh ol (ho : W128 a oh ol) w => qhalf a oh ol b ho hb w)
  have CF := Lib.hid (fun fh fl (hf : W128 (nearI a b) fh fl) w => wfits _ fh fl hf w)
  have HR := Lib.hid (fun h0 => near_i128 (b := b) ha h0)
  have HT : Hid (b ≠ 0 → TQ (nearI a b) (b != 0) (fitX (nearI a b)) (fitsB (nearI a b) 63)) := fun h0 => by
    by_cases h : I64 (nearI a b)
    · exact .inl ⟨by simpa using h0, h, fits_63.2 h, by unfold fitX; rw [fits_63.2 h]; rfl⟩
    · have hf : fitsB (nearI a b) 63 = false := by
        cases hb : fitsB (nearI a b) 63
        · rfl
        · exact absurd (fits_63.1 hb) h
      exact .inr ⟨fun h' => h h'.2, hf, by unfold fitX; rw [hf]; rfl⟩
  clear ha hb
  generalize hzz : nearI a b = z at *
  have HZ := Lib.hid hzz
  clear hzz
  go_enter Try.func58, Try.ntmps58
  go_wp2_with fail
  have BB : Hid (Below w.heap.size w w) := Below.refl _ _
  refine (CO.out _).mono ?_
  rintro e w1 ⟨oh, ol, rfl, hb, ho⟩
  replace BB := Lib.hid (below_next BB.out hb)
  clear hb
  have CH1 := Lib.hid (fun w => CH.out oh ol ho w)
  clear CH ho CO
  go_wp2_with fail
  refine (CH1.out _).mono ?_
  rintro e w2 ⟨xh, xl, xo, rfl, hb, hx⟩
  replace BB := Lib.hid (below_next BB.out hb)
  clear hb
  clear CH1
  rcases hx with ⟨h0, ⟨-, rfl, hx⟩ | ⟨hn, -, -, -⟩⟩ | ⟨rfl, rfl, rfl, rfl⟩
  · have HF := Lib.hid (HT.out h0)
    rw [HZ.out] at hx
    have CF1 := Lib.hid (fun w => CF.out xh xl hx w)
    clear hx CF HT HR h0
    go_wp2_with fail
    have d_q := Lib.hid (And.intro BB.out.size (True.intro))
    obtain ⟨hb, r_q⟩ := laid w2 #[.int .i64 xh, .int .u64 xl] 125
    replace BB := Lib.hid (below_next BB.out hb)
    replace r_q := Lib.hid r_q
    clear hb
    generalize w2.alloc (.cells #[.int .i64 xh, .int .u64 xl] 125) = w3 at *
    generalize w2.heap.size = g_q at *
    obtain ⟨c_q0, c_q1, f_q0, f_q1⟩ := reads2 r_q.out
    have l_q := r_q.out.lt
    go_wp2_with fail
    refine (CF1.out _).mono ?_
    rintro e w4 ⟨rfl, hb⟩
    clear c_q0 c_q1 f_q0 f_q1 l_q
    replace r_q := Lib.hid (r_q.out.keep hb)
    replace BB := Lib.hid (below_next BB.out hb)
    clear hb
    clear CF1
    go_wp2_with fail
    go_ret2
    exact ⟨_, _, rfl, (by repeat (first | with_reducible exact BB.out | with_reducible exact Below.refl _ _ | with_reducible apply below_new | with_reducible apply below_drawn | with_reducible apply below_drew | (with_reducible refine below_set ?_ (by omega) _))), HF.out⟩
  · rw [HZ.out] at hn; exact absurd (HR.out h0) hn
  · skip
    clear CF HT HR
    go_wp2_with fail
    go_ret2
    exact ⟨_, _, rfl, (by repeat (first | with_reducible exact BB.out | with_reducible exact Below.refl _ _ | with_reducible apply below_new | with_reducible apply below_drawn | with_reducible apply below_drew | (with_reducible refine below_set ?_ (by omega) _))), .inr ⟨by simp, rfl, rfl⟩⟩

/-- A number as a place. -/
def cutI (z : Int) : Int := if z < -70368744177664 then -70368744177664 else if 70368744177664 < z then 70368744177664 else z
theorem cut_far {z : Int} (h : ¬ (I64 z ∧ -70368744177664 ≤ z ∧ z ≤ 70368744177664)) : cutI z = if z < 0 then -70368744177664 else 70368744177664 := by
  unfold cutI; unfold I64 at h; split <;> split <;> (try split) <;> omega
theorem cut_near {z : Int} (h0 : -70368744177664 ≤ z) (h1 : z ≤ 70368744177664) : cutI z = z := by
  unfold cutI; rw [if_neg (by omega), if_neg (by omega)]
theorem cmp0_neg {z : Int} : decide (cmpI z 0 < 0) = decide (z < 0) := by
  rcases Int.lt_trichotomy z 0 with h | h | h
  · rw [cmpI_lt h]; simp [h]
  · subst h; rw [cmpI_eq]; all_goals simp
  · rw [cmpI_gt (by omega)]; all_goals simp [show ¬ z < 0 by omega]

theorem place_beyond {z b : Int} (hb : I64 b) (h0 : b ≠ 0) (h : ¬ I128 (z * 65536)) : cutI ((z * 65536).fdiv b) = if (z < 0 ↔ b < 0) then 70368744177664 else -70368744177664 := by
  have hx : z * 65536 < 0 ↔ z < 0 := by omega
  generalize z * 65536 = x at *
  have hn : 170141183460469231731687303715884105728 - 1 < (x.natAbs : Int) := by unfold I128 at h; omega
  have hq : 18446744073709551616 ≤ (x.natAbs : Int) / b.natAbs := Int.le_ediv_of_mul_le (by omega) (by unfold I64 at hb; omega)
  by_cases hs : x < 0 ↔ b < 0
  · rw [if_pos (hx.symm.trans hs), (quot_like h0 hs).1]; unfold cutI; rw [if_neg (by omega), if_pos (by omega)]
  · rw [if_neg (fun h => hs (hx.trans h))]
    have m := Int.emod_nonneg (x.natAbs : Int) (show (b.natAbs : Int) ≠ 0 by omega)
    rcases Int.lt_or_eq_of_le m with hr | hr
    · rw [(quot_unlike1 h0 hs hr).1]; unfold cutI; rw [if_pos (by omega)]
    · rw [(quot_unlike0 h0 hs hr.symm).1]; unfold cutI; rw [if_pos (by omega)]
theorem place_great {x b : Int} (hx : I128 x) (h0 : b ≠ 0) (h : ¬ I128 (x.fdiv b)) : cutI (x.fdiv b) = 70368744177664 := by
  have l := fdiv_abs_le (z := x) h0
  unfold I128 at *
  unfold cutI; rw [if_neg (by omega), if_pos (by omega)]

end Go.Proofs.Ytnklbnphiokpiaa
