/- Contracts of quot.Near, Cut, beyond, Place. -/
import Derived.Test.YtbldgbenlmjmjaaQuot4
set_option linter.unusedVariables false
namespace Go.Proofs.Ytbldgbenlmjmjaa
open Go.RowKit

theorem near_i128 {a b : Int} (ha : I64 a) (h0 : b ≠ 0) : I128 (nearI a b) := by
  have l := fdiv_abs_le (z := a) h0
  have k := near_law (z := a) h0
  unfold I128; unfold I64 at ha
  by_cases hc : (a.fmod b).natAbs < (b.natAbs : Int) - (a.fmod b).natAbs
  · rw [k.1 hc]; omega
  · rw [k.2 hc]; omega
def GiveQ1 (z : Int) (has : Bool) (w : World) (e : Ending) (w' : World) : Prop := ∃ x is, e = .returned (.tuple #[.int .i64 x, .bool is]) ∧ Below w.heap.size w w' ∧ TQ z has x is

/-- A number as a place. -/
def cutI (z : Int) : Int := if z < -70368744177664 then -70368744177664 else if 70368744177664 < z then 70368744177664 else z
theorem cut_far {z : Int} (h : ¬ (I64 z ∧ -70368744177664 ≤ z ∧ z ≤ 70368744177664)) : cutI z = if z < 0 then -70368744177664 else 70368744177664 := by
  unfold cutI; unfold I64 at h; split <;> split <;> (try split) <;> omega
theorem cut_near {z : Int} (h0 : -70368744177664 ≤ z) (h1 : z ≤ 70368744177664) : cutI z = z := by
  unfold cutI; rw [if_neg (by omega), if_neg (by omega)]
theorem cmp0_neg {z : Int} : decide (cmpI z 0 < 0) = decide (z < 0) := by
  rcases Int.lt_trichotomy z 0 with h | h | h
  · rw [cmpI_lt h]; simp [h]
  · subst h; rw [cmpI_eq]; all_goals simp
  · rw [cmpI_gt (by omega)]; all_goals simp [show ¬ z < 0 by omega]

set_option maxRecDepth 100000 in
set_option maxHeartbeats 2000000 in
theorem qcut (z ah al : Int) (hz : W128 z ah al) (w : World) : Calls Try.prog 69 #[wv ah al] w fun e w' => e = .returned (.int .i64 (cutI z)) ∧ Below w.heap.size w w' := by
  have CF := Lib.hid (fun w => wfits z ah al hz w)
  have CS := Lib.hid (fun w => wsign z ah al hz w)
  have EC := cmp0_neg (z := z)
  by_cases hi : I64 z ∧ -70368744177664 ≤ z ∧ z ≤ 70368744177664
  · obtain ⟨h0, h1, h2⟩ := hi
    have HF := Lib.hid (cut_near h1 h2)
    have hf := fits_63.2 h0
    rw [show fitX z = z by unfold fitX; rw [hf]; rfl, hf] at CF
    have d1 : decide (z ≥ -70368744177664) = true := by simpa using h1
    have d2 : decide (z ≤ 70368744177664) = true := by simpa using h2
    clear hz CS hf h0 EC
    go_enter Try.func69, Try.ntmps69
    go_wp2_with fail
    have BB := start1 w #[.int .i64 ah, .int .u64 al] 88
    obtain ⟨BB, hsz, r_a⟩ := BB
    generalize (w.alloc (.cells #[.int .i64 ah, .int .u64 al] 88)) = w0 at *
    replace BB := Lib.hid BB
    replace r_a := Lib.hid r_a
    clear hsz
    refine (CF.out _).mono ?_
    rintro e w1 ⟨rfl, hb⟩
    replace r_a := Lib.hid (r_a.out.keep hb)
    replace BB := Lib.hid (below_next BB.out hb)
    clear hb
    clear CF
    go_wp2_with fail
    go_ret
    exact ⟨ret_int HF.out.symm, BB.out⟩
  · have HF := Lib.hid (cut_far hi)
    have hx : fitsB z 63 = false ∨ (fitsB z 63 = true ∧ fitX z = z) := by
      cases h : fitsB z 63
      · exact .inl rfl
      · exact .inr ⟨rfl, by unfold fitX; rw [h]; rfl⟩
    have HI : Hid (fitsB z 63 = true → z < -70368744177664 ∨ (¬ z < -70368744177664 ∧ 70368744177664 < z)) := fun h => by
      have := fits_63.1 h; unfold I64 at *; omega
    have HX : Hid (fitsB z 63 = true → fitX z = z) := fun h => by unfold fitX; rw [h]; rfl
    clear hz hi hx
    generalize cutI z = C at *
    generalize fitX z = x at *
    generalize cmpI z 0 = s at *
    go_enter Try.func69, Try.ntmps69
    go_wp2_with fail
    have BB := start1 w #[.int .i64 ah, .int .u64 al] 88
    obtain ⟨BB, hsz, r_a⟩ := BB
    generalize (w.alloc (.cells #[.int .i64 ah, .int .u64 al] 88)) = w0 at *
    replace BB := Lib.hid BB
    replace r_a := Lib.hid r_a
    clear hsz
    cases hf : fitsB z 63
    · rw [hf] at CF
      clear HI HX hf
      refine (CF.out _).mono ?_
      rintro e w1 ⟨rfl, hb⟩
      replace r_a := Lib.hid (r_a.out.keep hb)
      replace BB := Lib.hid (below_next BB.out hb)
      clear hb
      clear CF
      obtain ⟨c_a0, c_a1, f_a0, f_a1⟩ := reads2 r_a.out
      have l_a := r_a.out.lt
      go_wp2_with fail
      refine (CS.out _).mono ?_
      rintro e w2 ⟨rfl, hb⟩
      clear c_a0 c_a1 f_a0 f_a1 l_a
      replace r_a := Lib.hid (r_a.out.keep hb)
      replace BB := Lib.hid (below_next BB.out hb)
      clear hb
      clear CS
      rcases dec_cases (z < 0) with ⟨hn, hd⟩ | ⟨hn, hd⟩
      · rw [hd] at EC
        rw [if_pos hn] at HF
        clear hn hd
        go_wp2_with fail
        go_ret
        exact ⟨ret_int HF.out.symm, BB.out⟩
      · rw [hd] at EC
        rw [if_neg hn] at HF
        clear hn hd
        go_wp2_with fail
        go_ret
        exact ⟨ret_int HF.out.symm, BB.out⟩
    · rw [hf] at CF
      have e := (HX.out hf).symm
      subst e
      replace HI := HI.out hf
      clear HX hf
      refine (CF.out _).mono ?_
      rintro e w1 ⟨rfl, hb⟩
      replace r_a := Lib.hid (r_a.out.keep hb)
      replace BB := Lib.hid (below_next BB.out hb)
      clear hb
      clear CF
      obtain ⟨c_a0, c_a1, f_a0, f_a1⟩ := reads2 r_a.out
      have l_a := r_a.out.lt
      rcases HI with h1 | ⟨h1, h2⟩
      · have d1 : decide (z ≥ -70368744177664) = false := by simpa using h1
        have hd : decide (z < 0) = true := decide_eq_true (by omega)
        rw [hd] at EC
        rw [if_pos (by omega)] at HF
        clear hd h1
        go_wp2_with fail
        refine (CS.out _).mono ?_
        rintro e w2 ⟨rfl, hb⟩
        clear c_a0 c_a1 f_a0 f_a1 l_a
        replace r_a := Lib.hid (r_a.out.keep hb)
        replace BB := Lib.hid (below_next BB.out hb)
        clear hb
        clear CS
        go_wp2_with fail
        go_ret
        exact ⟨ret_int HF.out.symm, BB.out⟩
      · have d1 : decide (z ≥ -70368744177664) = true := decide_eq_true (by omega)
        have d2 : decide (z ≤ 70368744177664) = false := by simpa using h2
        have hd : decide (z < 0) = false := decide_eq_false (by omega)
        rw [hd] at EC
        rw [if_neg (by omega)] at HF
        clear hd h1 h2
        go_wp2_with fail
        refine (CS.out _).mono ?_
        rintro e w2 ⟨rfl, hb⟩
        clear c_a0 c_a1 f_a0 f_a1 l_a
        replace r_a := Lib.hid (r_a.out.keep hb)
        replace BB := Lib.hid (below_next BB.out hb)
        clear hb
        clear CS
        go_wp2_with fail
        go_ret
        exact ⟨ret_int HF.out.symm, BB.out⟩

theorem place_beyond {z b : Int} (hb : I64 b) (h0 : b ≠ 0) (h : ¬ I128 (z * 65536)) : cutI ((z * 65536).fdiv b) = if (z < 0 ↔ b < 0) then 70368744177664 else -70368744177664 := by
  have hx : z * 65536 < 0 ↔ z < 0 := by omega
  generalize z * 65536 = x at *
  have hn : 170141183460469231731687303715884105728 - 1 < (x.natAbs : Int) := by unfold I128 at h; omega
  have hq : 18446744073709551616 ≤ (x.natAbs : Int) / b.natAbs := Int.le_ediv_of_mul_le (by omega) (by unfold I64 at hb; omega)
  by_cases hs : x < 0 ↔ b < 0
  · rw [if_pos (hx.symm.trans hs), (quot_like h0 hs).1]; unfold cutI; rw [if_neg (by omega), if_pos (by omega)]
  · rw [if_neg (fun h => hs (hx.trans h))]
    have m := Int.emod_nonneg (x.natAbs : Int) (show (b.natAbs : Int) ≠ 0 by omega)
    rcases Int.lt_or_eq_of_le m with hr | hr
    · rw [(quot_unlike1 h0 hs hr).1]; unfold cutI; rw [if_pos (by omega)]
    · rw [(quot_unlike0 h0 hs hr.symm).1]; unfold cutI; rw [if_pos (by omega)]
theorem place_great {x b : Int} (hx : I128 x) (h0 : b ≠ 0) (h : ¬ I128 (x.fdiv b)) : cutI (x.fdiv b) = 70368744177664 := by
  have l := fdiv_abs_le (z := x) h0
  unfold I128 at *
  unfold cutI; rw [if_neg (by omega), if_pos (by omega)]

set_option maxRecDepth 100000 in
set_option maxHeartbeats 2000000 in
theorem qbeyond (z ah al b : Int) (hz : W128 z ah al) (w : World) : Calls Try.prog 67 #[wv ah al, .int .i64 b] w fun e w' => e = .returned (.int .i64 (if (z < 0 ↔ b < 0) then 70368744177664 else -70368744177664)) ∧ Below w.heap.size w w' := by
  have CS := Lib.hid (fun w => wsign z ah al hz w)
  have EC := cmp0_neg (z := z)
  clear hz
  generalize cmpI z 0 = s at *
  rcases dec_cases (z < 0) with ⟨h1, d1⟩ | ⟨h1, d1⟩ <;> rcases dec_cases (b < 0) with ⟨h2, d2⟩ | ⟨h2, d2⟩
  · rw [if_pos ⟨fun _ => h2, fun _ => h1⟩]
    rw [d1] at EC
    clear h1 h2 d1
    go_enter Try.func67, Try.ntmps67
    go_wp2_with fail
    have BB := start1 w #[.int .i64 ah, .int .u64 al] 88
    obtain ⟨BB, hsz, r_a⟩ := BB
    generalize (w.alloc (.cells #[.int .i64 ah, .int .u64 al] 88)) = w0 at *
    replace BB := Lib.hid BB
    replace r_a := Lib.hid r_a
    clear hsz
    refine (CS.out _).mono ?_
    rintro e w1 ⟨rfl, hb⟩
    replace r_a := Lib.hid (r_a.out.keep hb)
    replace BB := Lib.hid (below_next BB.out hb)
    clear hb
    clear CS
    go_wp2_with fail
    go_ret
    exact ⟨rfl, BB.out⟩
  · rw [if_neg (fun h => h2 (h.1 h1))]
    rw [d1] at EC
    clear h1 h2 d1
    go_enter Try.func67, Try.ntmps67
    go_wp2_with fail
    have BB := start1 w #[.int .i64 ah, .int .u64 al] 88
    obtain ⟨BB, hsz, r_a⟩ := BB
    generalize (w.alloc (.cells #[.int .i64 ah, .int .u64 al] 88)) = w0 at *
    replace BB := Lib.hid BB
    replace r_a := Lib.hid r_a
    clear hsz
    refine (CS.out _).mono ?_
    rintro e w1 ⟨rfl, hb⟩
    replace r_a := Lib.hid (r_a.out.keep hb)
    replace BB := Lib.hid (below_next BB.out hb)
    clear hb
    clear CS
    go_wp2_with fail
    go_ret
    exact ⟨rfl, BB.out⟩
  · rw [if_neg (fun h => h1 (h.2 h2))]
    rw [d1] at EC
    clear h1 h2 d1
    go_enter Try.func67, Try.ntmps67
    go_wp2_with fail
    have BB := start1 w #[.int .i64 ah, .int .u64 al] 88
    obtain ⟨BB, hsz, r_a⟩ := BB
    generalize (w.alloc (.cells #[.int .i64 ah, .int .u64 al] 88)) = w0 at *
    replace BB := Lib.hid BB
    replace r_a := Lib.hid r_a
    clear hsz
    refine (CS.out _).mono ?_
    rintro e w1 ⟨rfl, hb⟩
    replace r_a := Lib.hid (r_a.out.keep hb)
    replace BB := Lib.hid (below_next BB.out hb)
    clear hb
    clear CS
    go_wp2_with fail
    go_ret
    exact ⟨rfl, BB.out⟩
  · rw [if_pos ⟨fun h => absurd h h1, fun h => absurd h h2⟩]
    rw [d1] at EC
    clear h1 h2 d1
    go_enter Try.func67, Try.ntmps67
    go_wp2_with fail
    have BB := start1 w #[.int .i64 ah, .int .u64 al] 88
    obtain ⟨BB, hsz, r_a⟩ := BB
    generalize (w.alloc (.cells #[.int .i64 ah, .int .u64 al] 88)) = w0 at *
    replace BB := Lib.hid BB
    replace r_a := Lib.hid r_a
    clear hsz
    refine (CS.out _).mono ?_
    rintro e w1 ⟨rfl, hb⟩
    replace r_a := Lib.hid (r_a.out.keep hb)
    replace BB := Lib.hid (below_next BB.out hb)
    clear hb
    clear CS
    go_wp2_with fail
    go_ret
    exact ⟨rfl, BB.out⟩

set_option maxRecDepth 100000 in
set_option maxHeartbeats 2000000 in
theorem qplace (z ah al b : Int) (hz : W128 z ah al) (hb : I64 b) (h0 : b ≠ 0) (w : World) : Calls Try.prog 47 #[wv ah al, .int .i64 b] w fun e w' => e = .returned (.tuple #[.int .i64 (cutI ((z * 65536).fdiv b)), .bool true]) ∧ Below w.heap.size w w' := by
  have CH := Lib.hid (fun w => wshl z ah al 16 (by omega) hz w)
  rw [show (2 : Int) ^ 16 = 65536 by decide] at CH
  have CB := Lib.hid (fun w => qbeyond z ah al b hz w)
  have CW := Lib.hid (fun xh xl (hx : W128 (z * 65536) xh xl) w => qwide (z * 65536) xh xl b hx hb w)
  have CC := Lib.hid (fun qh ql (hq : W128 ((z * 65536).fdiv b) qh ql) w => qcut _ qh ql hq w)
  have HP := Lib.hid (place_beyond (z := z) hb h0)
  have HG := Lib.hid (fun hx => place_great (x := z * 65536) hx h0)
  have hb1 : (b == 0) = false := by simpa using h0
  clear hz hb
  generalize z * 65536 = x at *
  generalize cutI (x.fdiv b) = C at *
  go_enter Try.func47, Try.ntmps47
  go_wp2_with fail
  have BB := start1 w #[.int .i64 ah, .int .u64 al] 88
  obtain ⟨BB, hsz, r_a⟩ := BB
  generalize (w.alloc (.cells #[.int .i64 ah, .int .u64 al] 88)) = w0 at *
  replace BB := Lib.hid BB
  replace r_a := Lib.hid r_a
  clear hsz
  refine (CH.out _).mono ?_
  rintro e w1 ⟨xh, xl, xo, rfl, hb, hx⟩
  replace r_a := Lib.hid (r_a.out.keep hb)
  replace BB := Lib.hid (below_next BB.out hb)
  clear hb
  clear CH
  rcases hx with ⟨-, rfl, hx⟩ | ⟨hn, rfl, rfl, rfl⟩
  · have CW1 := Lib.hid (fun w => CW.out xh xl hx w)
    replace HG := Lib.hid (HG.out hx.room)
    clear HP CB CW hx
    go_wp2_with fail
    have d_q := Lib.hid (And.intro BB.out.size (And.intro r_a.out.lt (True.intro)))
    obtain ⟨hb, r_q⟩ := laid w1 #[.int .i64 xh, .int .u64 xl] 88
    replace r_a := Lib.hid (r_a.out.keep hb)
    replace BB := Lib.hid (below_next BB.out hb)
    replace r_q := Lib.hid r_q
    clear hb
    generalize w1.alloc (.cells #[.int .i64 xh, .int .u64 xl] 88) = w2 at *
    generalize w1.heap.size = g_q at *
    obtain ⟨c_q0, c_q1, f_q0, f_q1⟩ := reads2 r_q.out
    have l_q := r_q.out.lt
    go_wp2_with fail
    refine (CW1.out _).mono ?_
    rintro e w3 ⟨qh, ql, r, qo, rfl, hb, hq⟩
    clear c_q0 c_q1 f_q0 f_q1 l_q
    replace r_a := Lib.hid (r_a.out.keep hb)
    replace r_q := Lib.hid (r_q.out.keep hb)
    replace BB := Lib.hid (below_next BB.out hb)
    clear hb
    clear CW1
    rcases hq with ⟨-, -, rfl, hq, rfl⟩ | ⟨hn, rfl, rfl, rfl, rfl⟩
    · have CC1 := Lib.hid (fun w => CC.out qh ql hq w)
      clear HG CC hq
      go_wp2_with fail
      have d_p := Lib.hid (And.intro BB.out.size (And.intro r_a.out.lt (And.intro r_q.out.lt (True.intro))))
      obtain ⟨hb, r_p⟩ := laid w3 #[.int .i64 qh, .int .u64 ql] 88
      replace r_a := Lib.hid (r_a.out.keep hb)
      replace r_q := Lib.hid (r_q.out.keep hb)
      replace BB := Lib.hid (below_next BB.out hb)
      replace r_p := Lib.hid r_p
      clear hb
      generalize w3.alloc (.cells #[.int .i64 qh, .int .u64 ql] 88) = w4 at *
      generalize w3.heap.size = g_p at *
      obtain ⟨c_p0, c_p1, f_p0, f_p1⟩ := reads2 r_p.out
      have l_p := r_p.out.lt
      go_wp2_with fail
      refine (CC1.out _).mono ?_
      rintro e w5 ⟨rfl, hb⟩
      clear c_p0 c_p1 f_p0 f_p1 l_p
      replace r_a := Lib.hid (r_a.out.keep hb)
      replace r_q := Lib.hid (r_q.out.keep hb)
      replace r_p := Lib.hid (r_p.out.keep hb)
      replace BB := Lib.hid (below_next BB.out hb)
      clear hb
      clear CC1
      go_wp2_with fail
      go_ret2
      exact ⟨rfl, BB.out⟩
    · have HF := Lib.hid (HG.out (by rcases hn with h | h; exact absurd h h0; exact h))
      clear HG CC hn
      go_wp2_with fail
      go_ret2
      exact ⟨ret_i64bool HF.out.symm rfl, (by repeat (first | with_reducible exact BB.out | with_reducible exact Below.refl _ _ | with_reducible apply below_new | with_reducible apply below_drawn | with_reducible apply below_drew | (with_reducible refine below_set ?_ (by omega) _)))⟩
  · have HF := Lib.hid (HP.out hn)
    clear HG CW CC HP hn
    generalize (if (z < 0 ↔ b < 0) then (70368744177664 : Int) else -70368744177664) = D at *
    obtain ⟨c_a0, c_a1, f_a0, f_a1⟩ := reads2 r_a.out
    have l_a := r_a.out.lt
    go_wp2_with fail
    clear c_a0 c_a1 f_a0 f_a1 l_a
    have d_q := Lib.hid (And.intro BB.out.size (And.intro r_a.out.lt (True.intro)))
    obtain ⟨hb, r_q⟩ := laid w1 #[.int .i64 0, .int .u64 0] 88
    replace r_a := Lib.hid (r_a.out.keep hb)
    replace BB := Lib.hid (below_next BB.out hb)
    replace r_q := Lib.hid r_q
    clear hb
    generalize w1.alloc (.cells #[.int .i64 0, .int .u64 0] 88) = w2 at *
    generalize w1.heap.size = g_q at *
    refine (CB.out _).mono ?_
    rintro e w3 ⟨rfl, hb⟩
    replace r_a := Lib.hid (r_a.out.keep hb)
    replace r_q := Lib.hid (r_q.out.keep hb)
    replace BB := Lib.hid (below_next BB.out hb)
    clear hb
    clear CB
    go_wp2_with fail
    go_ret2
    exact ⟨ret_i64bool HF.out.symm rfl, BB.out⟩

theorem qplace_zero (ah al : Int) (w : World) : Calls Try.prog 47 #[wv ah al, .int .i64 0] w fun e w' => e = .returned (.tuple #[.int .i64 0, .bool false]) ∧ Below w.heap.size w w' := by
  go_enter Try.func47, Try.ntmps47
  go_wp2
  go_ret2
  exact ⟨rfl, by repeat (first | exact Below.refl _ _ | apply below_new)⟩

end Go.Proofs.Ytbldgbenlmjmjaa
