/- The walk of RatLaws. -/
import Derived.Test.YthoakbjnofhpbaaRt2
set_option linter.unusedVariables false
set_option linter.unusedSimpArgs false
namespace Go.Proofs.Ythoakbjnofhpbaa
open Go.RowKit
abbrev T3T : TypeId := 106
theorem cmpI_mul {a b k : Int} (hk : 0 < k) : cmpI (a * k) (b * k) = cmpI a b := by
  have h1 : a * k < b * k ↔ a < b := Int.mul_lt_mul_right hk
  have h2 : b * k < a * k ↔ b < a := Int.mul_lt_mul_right hk
  unfold cmpI
  simp only [h1, h2]
theorem cmpI_addr (a b t : Int) : cmpI (a + t) (b + t) = cmpI a b := by
  unfold cmpI
  simp only [Int.add_lt_add_iff_right]
theorem cmpI_le {a b : Int} : cmpI a b ≤ 0 ↔ a ≤ b := by
  unfold cmpI
  split
  · omega
  · split <;> omega
theorem cmpI_lt0 {a b : Int} : cmpI a b < 0 ↔ a < b := by
  unfold cmpI
  split
  · omega
  · split <;> omega
theorem rat_le {an ad bn bd cn cd : Int} (ha : 0 < ad) (hb : 0 < bd) (hc : 0 < cd) (h1 : an * bd ≤ bn * ad) (h2 : bn * cd ≤ cn * bd) : an * cd ≤ cn * ad := by
  have k1 := Int.mul_le_mul_of_nonneg_right h1 (Int.le_of_lt hc)
  have k2 := Int.mul_le_mul_of_nonneg_right h2 (Int.le_of_lt ha)
  have k3 : an * cd * bd ≤ cn * ad * bd := by
    rw [show an * cd * bd = an * bd * cd by rw [Int.mul_assoc, Int.mul_comm cd, Int.mul_assoc], show cn * ad * bd = cn * bd * ad by rw [Int.mul_assoc, Int.mul_comm ad, Int.mul_assoc]]
    rw [show bn * ad * cd = bn * cd * ad by rw [Int.mul_assoc, Int.mul_comm ad, Int.mul_assoc]] at k1
    omega
  exact Int.le_of_mul_le_mul_right k3 hb
theorem rat_lt {an ad bn bd cn cd : Int} (ha : 0 < ad) (hb : 0 < bd) (hc : 0 < cd) (h1 : an * bd < bn * ad) (h2 : bn * cd ≤ cn * bd) : an * cd < cn * ad := by
  have k1 := (Int.mul_lt_mul_right hc).2 h1
  have k2 := Int.mul_le_mul_of_nonneg_right h2 (Int.le_of_lt ha)
  have k3 : an * cd * bd < cn * ad * bd := by
    rw [show an * cd * bd = an * bd * cd by rw [Int.mul_assoc, Int.mul_comm cd, Int.mul_assoc], show cn * ad * bd = cn * bd * ad by rw [Int.mul_assoc, Int.mul_comm ad, Int.mul_assoc]]
    rw [show bn * ad * cd = bn * cd * ad by rw [Int.mul_assoc, Int.mul_comm ad, Int.mul_assoc]] at k1
    omega
  exact (Int.mul_lt_mul_right hb).1 k3
theorem lq_pos {n d x y : Int} (hd : 0 < d) (h : LQ n d x y true) : ∃ g, 0 < g ∧ x * g = n ∧ y * g = d ∧ 0 < y ∧ I64 x ∧ I64 y := by
  rcases h with ⟨i1, i2, -, rfl, rfl⟩ | ⟨-, h1, -⟩
  · have g0 := gI_pos (n := n) hd
    have e1 := Int.ediv_mul_cancel (gI_dvd_l n d)
    have e2 := Int.ediv_mul_cancel (gI_dvd_r n d)
    refine ⟨gI n d, g0, e1, e2, ?_, i1, i2⟩
    have := gI_le (n := n) hd
    exact Int.ediv_pos_of_pos_of_dvd hd (Int.le_of_lt g0) (gI_dvd_r n d)
  · cases h1
theorem rat_add_cmp {an ad bn bd cn cd xn xd yn yd : Int} (ha : 0 < ad) (hb : 0 < bd) (hc : 0 < cd) (hx : LQ (an * cd + cn * ad) (ad * cd) xn xd true) (hy : LQ (bn * cd + cn * bd) (bd * cd) yn yd true) : cmpI (xn * yd) (yn * xd) = cmpI (an * bd) (bn * ad) := by
  obtain ⟨g, g0, x1, x2, -⟩ := lq_pos (Int.mul_pos ha hc) hx
  obtain ⟨k, k0, y1, y2, -⟩ := lq_pos (Int.mul_pos hb hc) hy
  rw [← cmpI_mul (Int.mul_pos g0 k0), ← cmpI_mul (a := an * bd) (Int.mul_pos hc hc), ← cmpI_addr (an * bd * (cd * cd)) _ (cn * ad * bd * cd)]
  have e1 : xn * yd * (g * k) = an * bd * (cd * cd) + cn * ad * bd * cd := by
    have : xn * yd * (g * k) = (xn * g) * (yd * k) := by grind
    rw [this, x1, y2]; grind
  have e2 : yn * xd * (g * k) = bn * ad * (cd * cd) + cn * ad * bd * cd := by
    have : yn * xd * (g * k) = (yn * k) * (xd * g) := by grind
    rw [this, y1, x2]; grind
  rw [e1, e2]
theorem qcmp_gen (n1 d1 n2 d2 : Int) (h1 : I64 n1) (h2 : I64 d1) (h3 : I64 n2) (h4 : I64 d2) (w : World) : Calls Try.prog 57 #[qv n1 d1, qv n2 d2] w (fun e w' => ∃ c ok, e = .returned (.tuple #[.int .i64 c, .bool ok]) ∧ Below w.heap.size w w') := by
  by_cases h : 0 < d1 ∧ 0 < d2
  · exact (qcmp n1 d1 n2 d2 h1 h2 h3 h4 h.1 h.2 w).mono fun e w' k => ⟨_, _, k.1, k.2⟩
  · exact (qcmp_no n1 d1 n2 d2 h w).mono fun e w' k => ⟨_, _, k.1, k.2⟩
set_option maxRecDepth 100000 in
set_option maxHeartbeats 4000000 in
theorem ratLaws_ab (an ad bn bd cn cd : Int) (a1 : I64 an) (a2 : I64 ad) (b1 : I64 bn) (b2 : I64 bd) (c1 : I64 cn) (c2 : I64 cd) (h : ¬ (0 < ad ∧ 0 < bd)) (w : World) :
    Calls Try.prog 11 #[.agg #[.int .i64 an, .int .i64 ad, .int .i64 bn, .int .i64 bd, .int .i64 cn, .int .i64 cd]] w fun e w' => e = .returned (.bool true) ∧ Below w.heap.size w w' := by
  have C1 := Lib.hid (fun w => qcmp_no an ad bn bd h w)
  have C2 := Lib.hid (fun w => qcmp_gen bn bd cn cd b1 b2 c1 c2 w)
  have C3 := Lib.hid (fun w => qcmp_gen an ad cn cd a1 a2 c1 c2 w)
  have CL := Lib.hid (fun w => alive03 w)
  clear h a1 a2 b1 b2 c1 c2
  go_enter Try.func11, Try.ntmps11
  go_wp2_with fail
  have BB := start1 w #[.int .i64 an, .int .i64 ad, .int .i64 bn, .int .i64 bd, .int .i64 cn, .int .i64 cd] T3T
  obtain ⟨BB, hsz, r_t⟩ := BB
  generalize (w.alloc (.cells #[.int .i64 an, .int .i64 ad, .int .i64 bn, .int .i64 bd, .int .i64 cn, .int .i64 cd] T3T)) = w0 at *
  replace BB := Lib.hid BB
  replace r_t := Lib.hid r_t
  clear hsz
  obtain ⟨c_t0, c_t1, c_t2, c_t3, c_t4, c_t5, f_t0, f_t1, f_t2, f_t3, f_t4, f_t5⟩ := reads6 r_t.out
  have l_t := r_t.out.lt
  go_wp2_with fail
  refine (C1.out _).mono ?_
  rintro e w1 ⟨rfl, hb⟩
  clear c_t0 c_t1 c_t2 c_t3 c_t4 c_t5 f_t0 f_t1 f_t2 f_t3 f_t4 f_t5 l_t
  replace r_t := Lib.hid (r_t.out.keep hb)
  replace BB := Lib.hid (below_next BB.out hb)
  clear hb
  obtain ⟨c_t0, c_t1, c_t2, c_t3, c_t4, c_t5, f_t0, f_t1, f_t2, f_t3, f_t4, f_t5⟩ := reads6 r_t.out
  have l_t := r_t.out.lt
  go_wp2_with fail
  refine (C2.out _).mono ?_
  rintro e w2 ⟨y, ok2, rfl, hb⟩
  clear c_t0 c_t1 c_t2 c_t3 c_t4 c_t5 f_t0 f_t1 f_t2 f_t3 f_t4 f_t5 l_t
  replace r_t := Lib.hid (r_t.out.keep hb)
  replace BB := Lib.hid (below_next BB.out hb)
  clear hb
  obtain ⟨c_t0, c_t1, c_t2, c_t3, c_t4, c_t5, f_t0, f_t1, f_t2, f_t3, f_t4, f_t5⟩ := reads6 r_t.out
  have l_t := r_t.out.lt
  go_wp2_with fail
  refine (C3.out _).mono ?_
  rintro e w3 ⟨z, ok3, rfl, hb⟩
  clear c_t0 c_t1 c_t2 c_t3 c_t4 c_t5 f_t0 f_t1 f_t2 f_t3 f_t4 f_t5 l_t
  replace r_t := Lib.hid (r_t.out.keep hb)
  replace BB := Lib.hid (below_next BB.out hb)
  clear hb
  go_wp2_with fail
  refine (CL.out _).mono ?_
  rintro e w4 ⟨rfl, hb⟩
  replace r_t := Lib.hid (r_t.out.keep hb)
  replace BB := Lib.hid (below_next BB.out hb)
  clear hb
  go_wp2_with fail
  go_ret
  exact ⟨rfl, BB.out⟩
set_option maxRecDepth 100000 in
set_option maxHeartbeats 4000000 in
theorem ratLaws_bc (an ad bn bd cn cd : Int) (a1 : I64 an) (a2 : I64 ad) (b1 : I64 bn) (b2 : I64 bd) (c1 : I64 cn) (c2 : I64 cd) (ha : 0 < ad) (hb' : 0 < bd) (h : ¬ 0 < cd) (w : World) :
    Calls Try.prog 11 #[.agg #[.int .i64 an, .int .i64 ad, .int .i64 bn, .int .i64 bd, .int .i64 cn, .int .i64 cd]] w fun e w' => e = .returned (.bool true) ∧ Below w.heap.size w w' := by
  have C1 := Lib.hid (fun w => qcmp an ad bn bd a1 a2 b1 b2 ha hb' w)
  have C2 := Lib.hid (fun w => qcmp_no bn bd cn cd (fun k => h k.2) w)
  have C3 := Lib.hid (fun w => qcmp_gen an ad cn cd a1 a2 c1 c2 w)
  have CL := Lib.hid (fun w => alive03 w)
  generalize cmpI (an * bd) (bn * ad) = ab at *
  clear h a1 a2 b1 b2 c1 c2 ha hb'
  go_enter Try.func11, Try.ntmps11
  go_wp2_with fail
  have BB := start1 w #[.int .i64 an, .int .i64 ad, .int .i64 bn, .int .i64 bd, .int .i64 cn, .int .i64 cd] T3T
  obtain ⟨BB, hsz, r_t⟩ := BB
  generalize (w.alloc (.cells #[.int .i64 an, .int .i64 ad, .int .i64 bn, .int .i64 bd, .int .i64 cn, .int .i64 cd] T3T)) = w0 at *
  replace BB := Lib.hid BB
  replace r_t := Lib.hid r_t
  clear hsz
  obtain ⟨c_t0, c_t1, c_t2, c_t3, c_t4, c_t5, f_t0, f_t1, f_t2, f_t3, f_t4, f_t5⟩ := reads6 r_t.out
  have l_t := r_t.out.lt
  go_wp2_with fail
  refine (C1.out _).mono ?_
  rintro e w1 ⟨rfl, hb⟩
  clear c_t0 c_t1 c_t2 c_t3 c_t4 c_t5 f_t0 f_t1 f_t2 f_t3 f_t4 f_t5 l_t
  replace r_t := Lib.hid (r_t.out.keep hb)
  replace BB := Lib.hid (below_next BB.out hb)
  clear hb
  obtain ⟨c_t0, c_t1, c_t2, c_t3, c_t4, c_t5, f_t0, f_t1, f_t2, f_t3, f_t4, f_t5⟩ := reads6 r_t.out
  have l_t := r_t.out.lt
  go_wp2_with fail
  refine (C2.out _).mono ?_
  rintro e w2 ⟨rfl, hb⟩
  clear c_t0 c_t1 c_t2 c_t3 c_t4 c_t5 f_t0 f_t1 f_t2 f_t3 f_t4 f_t5 l_t
  replace r_t := Lib.hid (r_t.out.keep hb)
  replace BB := Lib.hid (below_next BB.out hb)
  clear hb
  obtain ⟨c_t0, c_t1, c_t2, c_t3, c_t4, c_t5, f_t0, f_t1, f_t2, f_t3, f_t4, f_t5⟩ := reads6 r_t.out
  have l_t := r_t.out.lt
  go_wp2_with fail
  refine (C3.out _).mono ?_
  rintro e w3 ⟨z, ok3, rfl, hb⟩
  clear c_t0 c_t1 c_t2 c_t3 c_t4 c_t5 f_t0 f_t1 f_t2 f_t3 f_t4 f_t5 l_t
  replace r_t := Lib.hid (r_t.out.keep hb)
  replace BB := Lib.hid (below_next BB.out hb)
  clear hb
  go_wp2_with fail
  refine (CL.out _).mono ?_
  rintro e w4 ⟨rfl, hb⟩
  replace r_t := Lib.hid (r_t.out.keep hb)
  replace BB := Lib.hid (below_next BB.out hb)
  clear hb
  go_wp2_with fail
  go_ret
  exact ⟨rfl, BB.out⟩
set_option maxRecDepth 100000 in
set_option maxHeartbeats 8000000 in
theorem ratLaws_ok (an ad bn bd cn cd : Int) (a1 : I64 an) (a2 : I64 ad) (b1 : I64 bn) (b2 : I64 bd) (c1 : I64 cn) (c2 : I64 cd) (ha : 0 < ad) (hb' : 0 < bd) (hc : 0 < cd) (w : World) :
    Calls Try.prog 11 #[.agg #[.int .i64 an, .int .i64 ad, .int .i64 bn, .int .i64 bd, .int .i64 cn, .int .i64 cd]] w fun e w' => e = .returned (.bool true) ∧ Below w.heap.size w w' := by
  have C1 := Lib.hid (fun w => qcmp an ad bn bd a1 a2 b1 b2 ha hb' w)
  have C2 := Lib.hid (fun w => qcmp bn bd cn cd b1 b2 c1 c2 hb' hc w)
  have C3 := Lib.hid (fun w => qcmp an ad cn cd a1 a2 c1 c2 ha hc w)
  have CX := Lib.hid (fun w => qadd an ad cn cd a1 a2 c1 c2 ha hc w)
  have CY := Lib.hid (fun w => qadd bn bd cn cd b1 b2 c1 c2 hb' hc w)
  have CL := Lib.hid (fun w => alive03 w)
  have PX := Lib.hid (Int.mul_pos ha hc)
  have PY := Lib.hid (Int.mul_pos hb' hc)
  have HE := Lib.hid (fun xn xd yn yd hx hy => rat_add_cmp (an := an) (ad := ad) (bn := bn) (bd := bd) (cn := cn) (cd := cd) (xn := xn) (xd := xd) (yn := yn) (yd := yd) ha hb' hc hx hy)
  have L1 : cmpI (an * bd) (bn * ad) ≤ 0 → cmpI (bn * cd) (cn * bd) ≤ 0 → cmpI (an * cd) (cn * ad) ≤ 0 := fun h1 h2 => cmpI_le.2 (rat_le ha hb' hc (cmpI_le.1 h1) (cmpI_le.1 h2))
  have L2 : cmpI (an * bd) (bn * ad) < 0 → cmpI (bn * cd) (cn * bd) ≤ 0 → cmpI (an * cd) (cn * ad) < 0 := fun h1 h2 => cmpI_lt0.2 (rat_lt ha hb' hc (cmpI_lt0.1 h1) (cmpI_le.1 h2))
  generalize cmpI (an * bd) (bn * ad) = ab at *
  generalize cmpI (bn * cd) (cn * bd) = bc at *
  generalize cmpI (an * cd) (cn * ad) = ac at *
  clear a1 a2 b1 b2 c1 c2 ha hb' hc
  go_enter Try.func11, Try.ntmps11
  go_wp2_with fail
  have BB := start1 w #[.int .i64 an, .int .i64 ad, .int .i64 bn, .int .i64 bd, .int .i64 cn, .int .i64 cd] T3T
  obtain ⟨BB, hsz, r_t⟩ := BB
  generalize (w.alloc (.cells #[.int .i64 an, .int .i64 ad, .int .i64 bn, .int .i64 bd, .int .i64 cn, .int .i64 cd] T3T)) = w0 at *
  replace BB := Lib.hid BB
  replace r_t := Lib.hid r_t
  clear hsz
  obtain ⟨c_t0, c_t1, c_t2, c_t3, c_t4, c_t5, f_t0, f_t1, f_t2, f_t3, f_t4, f_t5⟩ := reads6 r_t.out
  have l_t := r_t.out.lt
  go_wp2_with fail
  refine (C1.out _).mono ?_
  rintro e w1 ⟨rfl, hb⟩
  clear c_t0 c_t1 c_t2 c_t3 c_t4 c_t5 f_t0 f_t1 f_t2 f_t3 f_t4 f_t5 l_t
  replace r_t := Lib.hid (r_t.out.keep hb)
  replace BB := Lib.hid (below_next BB.out hb)
  clear hb
  obtain ⟨c_t0, c_t1, c_t2, c_t3, c_t4, c_t5, f_t0, f_t1, f_t2, f_t3, f_t4, f_t5⟩ := reads6 r_t.out
  have l_t := r_t.out.lt
  go_wp2_with fail
  refine (C2.out _).mono ?_
  rintro e w2 ⟨rfl, hb⟩
  clear c_t0 c_t1 c_t2 c_t3 c_t4 c_t5 f_t0 f_t1 f_t2 f_t3 f_t4 f_t5 l_t
  replace r_t := Lib.hid (r_t.out.keep hb)
  replace BB := Lib.hid (below_next BB.out hb)
  clear hb
  obtain ⟨c_t0, c_t1, c_t2, c_t3, c_t4, c_t5, f_t0, f_t1, f_t2, f_t3, f_t4, f_t5⟩ := reads6 r_t.out
  have l_t := r_t.out.lt
  go_wp2_with fail
  refine (C3.out _).mono ?_
  rintro e w3 ⟨rfl, hb⟩
  clear c_t0 c_t1 c_t2 c_t3 c_t4 c_t5 f_t0 f_t1 f_t2 f_t3 f_t4 f_t5 l_t
  replace r_t := Lib.hid (r_t.out.keep hb)
  replace BB := Lib.hid (below_next BB.out hb)
  clear hb
  clear C1 C2 C3
  go_upto_region 6 with fail
  by_cases h1 : ab ≤ 0
  · have d1 : decide (ab ≤ 0) = true := decide_eq_true h1
    by_cases h2 : bc ≤ 0
    · have d2 : decide (bc ≤ 0) = true := decide_eq_true h2
      have d3 : decide (ac > 0) = false := decide_eq_false (by have := L1 h1 h2; omega)
      by_cases h3 : ab < 0
      · have d4 : decide (ab < 0) = true := decide_eq_true h3
        have d5 : decide (ac ≥ 0) = false := decide_eq_false (by have := L2 h3 h2; omega)
        clear L1 L2 h1 h2 h3
        obtain ⟨c_t0, c_t1, c_t2, c_t3, c_t4, c_t5, f_t0, f_t1, f_t2, f_t3, f_t4, f_t5⟩ := reads6 r_t.out
        have l_t := r_t.out.lt
        go_wp2_with fail
        refine (CX.out _).mono ?_
        rintro e w4 ⟨xn, xd, ok4, rfl, hb, hx⟩
        clear c_t0 c_t1 c_t2 c_t3 c_t4 c_t5 f_t0 f_t1 f_t2 f_t3 f_t4 f_t5 l_t
        replace r_t := Lib.hid (r_t.out.keep hb)
        replace BB := Lib.hid (below_next BB.out hb)
        clear hb
        have hx := Lib.hid hx
        go_upto_region 9 with fail
        have d_x := Lib.hid (And.intro BB.out.size (And.intro r_t.out.lt (True.intro)))
        obtain ⟨hb, r_x⟩ := laid w4 #[.int .i64 xn, .int .i64 xd] QT
        replace r_t := Lib.hid (r_t.out.keep hb)
        replace BB := Lib.hid (below_next BB.out hb)
        replace r_x := Lib.hid r_x
        clear hb
        generalize w4.alloc (.cells #[.int .i64 xn, .int .i64 xd] QT) = w5 at *
        generalize w4.heap.size = g_x at *
        obtain ⟨c_t0, c_t1, c_t2, c_t3, c_t4, c_t5, f_t0, f_t1, f_t2, f_t3, f_t4, f_t5⟩ := reads6 r_t.out
        have l_t := r_t.out.lt
        go_wp2_with fail
        refine (CY.out _).mono ?_
        rintro e w6 ⟨yn, yd, ok5, rfl, hb, hy⟩
        clear c_t0 c_t1 c_t2 c_t3 c_t4 c_t5 f_t0 f_t1 f_t2 f_t3 f_t4 f_t5 l_t
        replace r_t := Lib.hid (r_t.out.keep hb)
        replace r_x := Lib.hid (r_x.out.keep hb)
        replace BB := Lib.hid (below_next BB.out hb)
        clear hb
        have hy := Lib.hid hy
        go_upto_region 10 with fail
        have d_y := Lib.hid (And.intro BB.out.size (And.intro r_t.out.lt (And.intro r_x.out.lt (True.intro))))
        obtain ⟨hb, r_y⟩ := laid w6 #[.int .i64 yn, .int .i64 yd] QT
        replace r_t := Lib.hid (r_t.out.keep hb)
        replace r_x := Lib.hid (r_x.out.keep hb)
        replace BB := Lib.hid (below_next BB.out hb)
        replace r_y := Lib.hid r_y
        clear hb
        generalize w6.alloc (.cells #[.int .i64 yn, .int .i64 yd] QT) = w7 at *
        generalize w6.heap.size = g_y at *
        cases ok4 with
        | false =>
          go_wp2_with fail
          refine (CL.out _).mono ?_
          rintro e w8 ⟨rfl, hb⟩
          replace r_t := Lib.hid (r_t.out.keep hb)
          replace r_x := Lib.hid (r_x.out.keep hb)
          replace r_y := Lib.hid (r_y.out.keep hb)
          replace BB := Lib.hid (below_next BB.out hb)
          clear hb
          go_wp2_with fail
          go_ret
          exact ⟨rfl, BB.out⟩
        | true =>
          cases ok5 with
          | false =>
            go_wp2_with fail
            refine (CL.out _).mono ?_
            rintro e w8 ⟨rfl, hb⟩
            replace r_t := Lib.hid (r_t.out.keep hb)
            replace r_x := Lib.hid (r_x.out.keep hb)
            replace r_y := Lib.hid (r_y.out.keep hb)
            replace BB := Lib.hid (below_next BB.out hb)
            clear hb
            go_wp2_with fail
            go_ret
            exact ⟨rfl, BB.out⟩
          | true =>
            obtain ⟨g, -, -, -, px, ix, jx⟩ := lq_pos PX.out hx.out
            obtain ⟨k, -, -, -, py, iy, jy⟩ := lq_pos PY.out hy.out
            have CE := Lib.hid (fun w => qcmp xn xd yn yd ix jx iy jy px py w)
            rw [HE.out _ _ _ _ hx.out hy.out] at CE
            clear ix jx iy jy px py
            obtain ⟨c_x0, c_x1, f_x0, f_x1⟩ := reads2 r_x.out
            have l_x := r_x.out.lt
            obtain ⟨c_y0, c_y1, f_y0, f_y1⟩ := reads2 r_y.out
            have l_y := r_y.out.lt
            go_wp2_with fail
            refine (CE.out _).mono ?_
            rintro e w8 ⟨rfl, hb⟩
            clear c_x0 c_x1 f_x0 f_x1 l_x c_y0 c_y1 f_y0 f_y1 l_y
            replace r_t := Lib.hid (r_t.out.keep hb)
            replace r_x := Lib.hid (r_x.out.keep hb)
            replace r_y := Lib.hid (r_y.out.keep hb)
            replace BB := Lib.hid (below_next BB.out hb)
            clear hb
            go_wp2_with fail
            refine (CL.out _).mono ?_
            rintro e w10 ⟨rfl, hb⟩
            replace r_t := Lib.hid (r_t.out.keep hb)
            replace r_x := Lib.hid (r_x.out.keep hb)
            replace r_y := Lib.hid (r_y.out.keep hb)
            replace BB := Lib.hid (below_next BB.out hb)
            clear hb
            go_wp2_with fail
            go_ret
            exact ⟨rfl, BB.out⟩
      · have d4 : decide (ab < 0) = false := decide_eq_false h3
        clear L1 L2 h1 h2 h3
        obtain ⟨c_t0, c_t1, c_t2, c_t3, c_t4, c_t5, f_t0, f_t1, f_t2, f_t3, f_t4, f_t5⟩ := reads6 r_t.out
        have l_t := r_t.out.lt
        go_wp2_with fail
        refine (CX.out _).mono ?_
        rintro e w4 ⟨xn, xd, ok4, rfl, hb, hx⟩
        clear c_t0 c_t1 c_t2 c_t3 c_t4 c_t5 f_t0 f_t1 f_t2 f_t3 f_t4 f_t5 l_t
        replace r_t := Lib.hid (r_t.out.keep hb)
        replace BB := Lib.hid (below_next BB.out hb)
        clear hb
        have hx := Lib.hid hx
        go_upto_region 9 with fail
        have d_x := Lib.hid (And.intro BB.out.size (And.intro r_t.out.lt (True.intro)))
        obtain ⟨hb, r_x⟩ := laid w4 #[.int .i64 xn, .int .i64 xd] QT
        replace r_t := Lib.hid (r_t.out.keep hb)
        replace BB := Lib.hid (below_next BB.out hb)
        replace r_x := Lib.hid r_x
        clear hb
        generalize w4.alloc (.cells #[.int .i64 xn, .int .i64 xd] QT) = w5 at *
        generalize w4.heap.size = g_x at *
        obtain ⟨c_t0, c_t1, c_t2, c_t3, c_t4, c_t5, f_t0, f_t1, f_t2, f_t3, f_t4, f_t5⟩ := reads6 r_t.out
        have l_t := r_t.out.lt
        go_wp2_with fail
        refine (CY.out _).mono ?_
        rintro e w6 ⟨yn, yd, ok5, rfl, hb, hy⟩
        clear c_t0 c_t1 c_t2 c_t3 c_t4 c_t5 f_t0 f_t1 f_t2 f_t3 f_t4 f_t5 l_t
        replace r_t := Lib.hid (r_t.out.keep hb)
        replace r_x := Lib.hid (r_x.out.keep hb)
        replace BB := Lib.hid (below_next BB.out hb)
        clear hb
        have hy := Lib.hid hy
        go_upto_region 10 with fail
        have d_y := Lib.hid (And.intro BB.out.size (And.intro r_t.out.lt (And.intro r_x.out.lt (True.intro))))
        obtain ⟨hb, r_y⟩ := laid w6 #[.int .i64 yn, .int .i64 yd] QT
        replace r_t := Lib.hid (r_t.out.keep hb)
        replace r_x := Lib.hid (r_x.out.keep hb)
        replace BB := Lib.hid (below_next BB.out hb)
        replace r_y := Lib.hid r_y
        clear hb
        generalize w6.alloc (.cells #[.int .i64 yn, .int .i64 yd] QT) = w7 at *
        generalize w6.heap.size = g_y at *
        cases ok4 with
        | false =>
          go_wp2_with fail
          refine (CL.out _).mono ?_
          rintro e w8 ⟨rfl, hb⟩
          replace r_t := Lib.hid (r_t.out.keep hb)
          replace r_x := Lib.hid (r_x.out.keep hb)
          replace r_y := Lib.hid (r_y.out.keep hb)
          replace BB := Lib.hid (below_next BB.out hb)
          clear hb
          go_wp2_with fail
          go_ret
          exact ⟨rfl, BB.out⟩
        | true =>
          cases ok5 with
          | false =>
            go_wp2_with fail
            refine (CL.out _).mono ?_
            rintro e w8 ⟨rfl, hb⟩
            replace r_t := Lib.hid (r_t.out.keep hb)
            replace r_x := Lib.hid (r_x.out.keep hb)
            replace r_y := Lib.hid (r_y.out.keep hb)
            replace BB := Lib.hid (below_next BB.out hb)
            clear hb
            go_wp2_with fail
            go_ret
            exact ⟨rfl, BB.out⟩
          | true =>
            obtain ⟨g, -, -, -, px, ix, jx⟩ := lq_pos PX.out hx.out
            obtain ⟨k, -, -, -, py, iy, jy⟩ := lq_pos PY.out hy.out
            have CE := Lib.hid (fun w => qcmp xn xd yn yd ix jx iy jy px py w)
            rw [HE.out _ _ _ _ hx.out hy.out] at CE
            clear ix jx iy jy px py
            obtain ⟨c_x0, c_x1, f_x0, f_x1⟩ := reads2 r_x.out
            have l_x := r_x.out.lt
            obtain ⟨c_y0, c_y1, f_y0, f_y1⟩ := reads2 r_y.out
            have l_y := r_y.out.lt
            go_wp2_with fail
            refine (CE.out _).mono ?_
            rintro e w8 ⟨rfl, hb⟩
            clear c_x0 c_x1 f_x0 f_x1 l_x c_y0 c_y1 f_y0 f_y1 l_y
            replace r_t := Lib.hid (r_t.out.keep hb)
            replace r_x := Lib.hid (r_x.out.keep hb)
            replace r_y := Lib.hid (r_y.out.keep hb)
            replace BB := Lib.hid (below_next BB.out hb)
            clear hb
            go_wp2_with fail
            refine (CL.out _).mono ?_
            rintro e w10 ⟨rfl, hb⟩
            replace r_t := Lib.hid (r_t.out.keep hb)
            replace r_x := Lib.hid (r_x.out.keep hb)
            replace r_y := Lib.hid (r_y.out.keep hb)
            replace BB := Lib.hid (below_next BB.out hb)
            clear hb
            go_wp2_with fail
            go_ret
            exact ⟨rfl, BB.out⟩
    · have d2 : decide (bc ≤ 0) = false := decide_eq_false h2
      by_cases h3 : ab < 0
      · have d4 : decide (ab < 0) = true := decide_eq_true h3
        clear L1 L2 h1 h2 h3
        obtain ⟨c_t0, c_t1, c_t2, c_t3, c_t4, c_t5, f_t0, f_t1, f_t2, f_t3, f_t4, f_t5⟩ := reads6 r_t.out
        have l_t := r_t.out.lt
        go_wp2_with fail
        refine (CX.out _).mono ?_
        rintro e w4 ⟨xn, xd, ok4, rfl, hb, hx⟩
        clear c_t0 c_t1 c_t2 c_t3 c_t4 c_t5 f_t0 f_t1 f_t2 f_t3 f_t4 f_t5 l_t
        replace r_t := Lib.hid (r_t.out.keep hb)
        replace BB := Lib.hid (below_next BB.out hb)
        clear hb
        have hx := Lib.hid hx
        go_upto_region 9 with fail
        have d_x := Lib.hid (And.intro BB.out.size (And.intro r_t.out.lt (True.intro)))
        obtain ⟨hb, r_x⟩ := laid w4 #[.int .i64 xn, .int .i64 xd] QT
        replace r_t := Lib.hid (r_t.out.keep hb)
        replace BB := Lib.hid (below_next BB.out hb)
        replace r_x := Lib.hid r_x
        clear hb
        generalize w4.alloc (.cells #[.int .i64 xn, .int .i64 xd] QT) = w5 at *
        generalize w4.heap.size = g_x at *
        obtain ⟨c_t0, c_t1, c_t2, c_t3, c_t4, c_t5, f_t0, f_t1, f_t2, f_t3, f_t4, f_t5⟩ := reads6 r_t.out
        have l_t := r_t.out.lt
        go_wp2_with fail
        refine (CY.out _).mono ?_
        rintro e w6 ⟨yn, yd, ok5, rfl, hb, hy⟩
        clear c_t0 c_t1 c_t2 c_t3 c_t4 c_t5 f_t0 f_t1 f_t2 f_t3 f_t4 f_t5 l_t
        replace r_t := Lib.hid (r_t.out.keep hb)
        replace r_x := Lib.hid (r_x.out.keep hb)
        replace BB := Lib.hid (below_next BB.out hb)
        clear hb
        have hy := Lib.hid hy
        go_upto_region 10 with fail
        have d_y := Lib.hid (And.intro BB.out.size (And.intro r_t.out.lt (And.intro r_x.out.lt (True.intro))))
        obtain ⟨hb, r_y⟩ := laid w6 #[.int .i64 yn, .int .i64 yd] QT
        replace r_t := Lib.hid (r_t.out.keep hb)
        replace r_x := Lib.hid (r_x.out.keep hb)
        replace BB := Lib.hid (below_next BB.out hb)
        replace r_y := Lib.hid r_y
        clear hb
        generalize w6.alloc (.cells #[.int .i64 yn, .int .i64 yd] QT) = w7 at *
        generalize w6.heap.size = g_y at *
        cases ok4 with
        | false =>
          go_wp2_with fail
          refine (CL.out _).mono ?_
          rintro e w8 ⟨rfl, hb⟩
          replace r_t := Lib.hid (r_t.out.keep hb)
          replace r_x := Lib.hid (r_x.out.keep hb)
          replace r_y := Lib.hid (r_y.out.keep hb)
          replace BB := Lib.hid (below_next BB.out hb)
          clear hb
          go_wp2_with fail
          go_ret
          exact ⟨rfl, BB.out⟩
        | true =>
          cases ok5 with
          | false =>
            go_wp2_with fail
            refine (CL.out _).mono ?_
            rintro e w8 ⟨rfl, hb⟩
            replace r_t := Lib.hid (r_t.out.keep hb)
            replace r_x := Lib.hid (r_x.out.keep hb)
            replace r_y := Lib.hid (r_y.out.keep hb)
            replace BB := Lib.hid (below_next BB.out hb)
            clear hb
            go_wp2_with fail
            go_ret
            exact ⟨rfl, BB.out⟩
          | true =>
            obtain ⟨g, -, -, -, px, ix, jx⟩ := lq_pos PX.out hx.out
            obtain ⟨k, -, -, -, py, iy, jy⟩ := lq_pos PY.out hy.out
            have CE := Lib.hid (fun w => qcmp xn xd yn yd ix jx iy jy px py w)
            rw [HE.out _ _ _ _ hx.out hy.out] at CE
            clear ix jx iy jy px py
            obtain ⟨c_x0, c_x1, f_x0, f_x1⟩ := reads2 r_x.out
            have l_x := r_x.out.lt
            obtain ⟨c_y0, c_y1, f_y0, f_y1⟩ := reads2 r_y.out
            have l_y := r_y.out.lt
            go_wp2_with fail
            refine (CE.out _).mono ?_
            rintro e w8 ⟨rfl, hb⟩
            clear c_x0 c_x1 f_x0 f_x1 l_x c_y0 c_y1 f_y0 f_y1 l_y
            replace r_t := Lib.hid (r_t.out.keep hb)
            replace r_x := Lib.hid (r_x.out.keep hb)
            replace r_y := Lib.hid (r_y.out.keep hb)
            replace BB := Lib.hid (below_next BB.out hb)
            clear hb
            go_wp2_with fail
            refine (CL.out _).mono ?_
            rintro e w10 ⟨rfl, hb⟩
            replace r_t := Lib.hid (r_t.out.keep hb)
            replace r_x := Lib.hid (r_x.out.keep hb)
            replace r_y := Lib.hid (r_y.out.keep hb)
            replace BB := Lib.hid (below_next BB.out hb)
            clear hb
            go_wp2_with fail
            go_ret
            exact ⟨rfl, BB.out⟩
      · have d4 : decide (ab < 0) = false := decide_eq_false h3
        clear L1 L2 h1 h2 h3
        obtain ⟨c_t0, c_t1, c_t2, c_t3, c_t4, c_t5, f_t0, f_t1, f_t2, f_t3, f_t4, f_t5⟩ := reads6 r_t.out
        have l_t := r_t.out.lt
        go_wp2_with fail
        refine (CX.out _).mono ?_
        rintro e w4 ⟨xn, xd, ok4, rfl, hb, hx⟩
        clear c_t0 c_t1 c_t2 c_t3 c_t4 c_t5 f_t0 f_t1 f_t2 f_t3 f_t4 f_t5 l_t
        replace r_t := Lib.hid (r_t.out.keep hb)
        replace BB := Lib.hid (below_next BB.out hb)
        clear hb
        have hx := Lib.hid hx
        go_upto_region 9 with fail
        have d_x := Lib.hid (And.intro BB.out.size (And.intro r_t.out.lt (True.intro)))
        obtain ⟨hb, r_x⟩ := laid w4 #[.int .i64 xn, .int .i64 xd] QT
        replace r_t := Lib.hid (r_t.out.keep hb)
        replace BB := Lib.hid (below_next BB.out hb)
        replace r_x := Lib.hid r_x
        clear hb
        generalize w4.alloc (.cells #[.int .i64 xn, .int .i64 xd] QT) = w5 at *
        generalize w4.heap.size = g_x at *
        obtain ⟨c_t0, c_t1, c_t2, c_t3, c_t4, c_t5, f_t0, f_t1, f_t2, f_t3, f_t4, f_t5⟩ := reads6 r_t.out
        have l_t := r_t.out.lt
        go_wp2_with fail
        refine (CY.out _).mono ?_
        rintro e w6 ⟨yn, yd, ok5, rfl, hb, hy⟩
        clear c_t0 c_t1 c_t2 c_t3 c_t4 c_t5 f_t0 f_t1 f_t2 f_t3 f_t4 f_t5 l_t
        replace r_t := Lib.hid (r_t.out.keep hb)
        replace r_x := Lib.hid (r_x.out.keep hb)
        replace BB := Lib.hid (below_next BB.out hb)
        clear hb
        have hy := Lib.hid hy
        go_upto_region 10 with fail
        have d_y := Lib.hid (And.intro BB.out.size (And.intro r_t.out.lt (And.intro r_x.out.lt (True.intro))))
        obtain ⟨hb, r_y⟩ := laid w6 #[.int .i64 yn, .int .i64 yd] QT
        replace r_t := Lib.hid (r_t.out.keep hb)
        replace r_x := Lib.hid (r_x.out.keep hb)
        replace BB := Lib.hid (below_next BB.out hb)
        replace r_y := Lib.hid r_y
        clear hb
        generalize w6.alloc (.cells #[.int .i64 yn, .int .i64 yd] QT) = w7 at *
        generalize w6.heap.size = g_y at *
        cases ok4 with
        | false =>
          go_wp2_with fail
          refine (CL.out _).mono ?_
          rintro e w8 ⟨rfl, hb⟩
          replace r_t := Lib.hid (r_t.out.keep hb)
          replace r_x := Lib.hid (r_x.out.keep hb)
          replace r_y := Lib.hid (r_y.out.keep hb)
          replace BB := Lib.hid (below_next BB.out hb)
          clear hb
          go_wp2_with fail
          go_ret
          exact ⟨rfl, BB.out⟩
        | true =>
          cases ok5 with
          | false =>
            go_wp2_with fail
            refine (CL.out _).mono ?_
            rintro e w8 ⟨rfl, hb⟩
            replace r_t := Lib.hid (r_t.out.keep hb)
            replace r_x := Lib.hid (r_x.out.keep hb)
            replace r_y := Lib.hid (r_y.out.keep hb)
            replace BB := Lib.hid (below_next BB.out hb)
            clear hb
            go_wp2_with fail
            go_ret
            exact ⟨rfl, BB.out⟩
          | true =>
            obtain ⟨g, -, -, -, px, ix, jx⟩ := lq_pos PX.out hx.out
            obtain ⟨k, -, -, -, py, iy, jy⟩ := lq_pos PY.out hy.out
            have CE := Lib.hid (fun w => qcmp xn xd yn yd ix jx iy jy px py w)
            rw [HE.out _ _ _ _ hx.out hy.out] at CE
            clear ix jx iy jy px py
            obtain ⟨c_x0, c_x1, f_x0, f_x1⟩ := reads2 r_x.out
            have l_x := r_x.out.lt
            obtain ⟨c_y0, c_y1, f_y0, f_y1⟩ := reads2 r_y.out
            have l_y := r_y.out.lt
            go_wp2_with fail
            refine (CE.out _).mono ?_
            rintro e w8 ⟨rfl, hb⟩
            clear c_x0 c_x1 f_x0 f_x1 l_x c_y0 c_y1 f_y0 f_y1 l_y
            replace r_t := Lib.hid (r_t.out.keep hb)
            replace r_x := Lib.hid (r_x.out.keep hb)
            replace r_y := Lib.hid (r_y.out.keep hb)
            replace BB := Lib.hid (below_next BB.out hb)
            clear hb
            go_wp2_with fail
            refine (CL.out _).mono ?_
            rintro e w10 ⟨rfl, hb⟩
            replace r_t := Lib.hid (r_t.out.keep hb)
            replace r_x := Lib.hid (r_x.out.keep hb)
            replace r_y := Lib.hid (r_y.out.keep hb)
            replace BB := Lib.hid (below_next BB.out hb)
            clear hb
            go_wp2_with fail
            go_ret
            exact ⟨rfl, BB.out⟩
  · have d1 : decide (ab ≤ 0) = false := decide_eq_false h1
    have d4 : decide (ab < 0) = false := decide_eq_false (by omega)
    clear L1 L2 h1
    obtain ⟨c_t0, c_t1, c_t2, c_t3, c_t4, c_t5, f_t0, f_t1, f_t2, f_t3, f_t4, f_t5⟩ := reads6 r_t.out
    have l_t := r_t.out.lt
    go_wp2_with fail
    refine (CX.out _).mono ?_
    rintro e w4 ⟨xn, xd, ok4, rfl, hb, hx⟩
    clear c_t0 c_t1 c_t2 c_t3 c_t4 c_t5 f_t0 f_t1 f_t2 f_t3 f_t4 f_t5 l_t
    replace r_t := Lib.hid (r_t.out.keep hb)
    replace BB := Lib.hid (below_next BB.out hb)
    clear hb
    have hx := Lib.hid hx
    go_upto_region 9 with fail
    have d_x := Lib.hid (And.intro BB.out.size (And.intro r_t.out.lt (True.intro)))
    obtain ⟨hb, r_x⟩ := laid w4 #[.int .i64 xn, .int .i64 xd] QT
    replace r_t := Lib.hid (r_t.out.keep hb)
    replace BB := Lib.hid (below_next BB.out hb)
    replace r_x := Lib.hid r_x
    clear hb
    generalize w4.alloc (.cells #[.int .i64 xn, .int .i64 xd] QT) = w5 at *
    generalize w4.heap.size = g_x at *
    obtain ⟨c_t0, c_t1, c_t2, c_t3, c_t4, c_t5, f_t0, f_t1, f_t2, f_t3, f_t4, f_t5⟩ := reads6 r_t.out
    have l_t := r_t.out.lt
    go_wp2_with fail
    refine (CY.out _).mono ?_
    rintro e w6 ⟨yn, yd, ok5, rfl, hb, hy⟩
    clear c_t0 c_t1 c_t2 c_t3 c_t4 c_t5 f_t0 f_t1 f_t2 f_t3 f_t4 f_t5 l_t
    replace r_t := Lib.hid (r_t.out.keep hb)
    replace r_x := Lib.hid (r_x.out.keep hb)
    replace BB := Lib.hid (below_next BB.out hb)
    clear hb
    have hy := Lib.hid hy
    go_upto_region 10 with fail
    have d_y := Lib.hid (And.intro BB.out.size (And.intro r_t.out.lt (And.intro r_x.out.lt (True.intro))))
    obtain ⟨hb, r_y⟩ := laid w6 #[.int .i64 yn, .int .i64 yd] QT
    replace r_t := Lib.hid (r_t.out.keep hb)
    replace r_x := Lib.hid (r_x.out.keep hb)
    replace BB := Lib.hid (below_next BB.out hb)
    replace r_y := Lib.hid r_y
    clear hb
    generalize w6.alloc (.cells #[.int .i64 yn, .int .i64 yd] QT) = w7 at *
    generalize w6.heap.size = g_y at *
    cases ok4 with
    | false =>
      go_wp2_with fail
      refine (CL.out _).mono ?_
      rintro e w8 ⟨rfl, hb⟩
      replace r_t := Lib.hid (r_t.out.keep hb)
      replace r_x := Lib.hid (r_x.out.keep hb)
      replace r_y := Lib.hid (r_y.out.keep hb)
      replace BB := Lib.hid (below_next BB.out hb)
      clear hb
      go_wp2_with fail
      go_ret
      exact ⟨rfl, BB.out⟩
    | true =>
      cases ok5 with
      | false =>
        go_wp2_with fail
        refine (CL.out _).mono ?_
        rintro e w8 ⟨rfl, hb⟩
        replace r_t := Lib.hid (r_t.out.keep hb)
        replace r_x := Lib.hid (r_x.out.keep hb)
        replace r_y := Lib.hid (r_y.out.keep hb)
        replace BB := Lib.hid (below_next BB.out hb)
        clear hb
        go_wp2_with fail
        go_ret
        exact ⟨rfl, BB.out⟩
      | true =>
        obtain ⟨g, -, -, -, px, ix, jx⟩ := lq_pos PX.out hx.out
        obtain ⟨k, -, -, -, py, iy, jy⟩ := lq_pos PY.out hy.out
        have CE := Lib.hid (fun w => qcmp xn xd yn yd ix jx iy jy px py w)
        rw [HE.out _ _ _ _ hx.out hy.out] at CE
        clear ix jx iy jy px py
        obtain ⟨c_x0, c_x1, f_x0, f_x1⟩ := reads2 r_x.out
        have l_x := r_x.out.lt
        obtain ⟨c_y0, c_y1, f_y0, f_y1⟩ := reads2 r_y.out
        have l_y := r_y.out.lt
        go_wp2_with fail
        refine (CE.out _).mono ?_
        rintro e w8 ⟨rfl, hb⟩
        clear c_x0 c_x1 f_x0 f_x1 l_x c_y0 c_y1 f_y0 f_y1 l_y
        replace r_t := Lib.hid (r_t.out.keep hb)
        replace r_x := Lib.hid (r_x.out.keep hb)
        replace r_y := Lib.hid (r_y.out.keep hb)
        replace BB := Lib.hid (below_next BB.out hb)
        clear hb
        go_wp2_with fail
        refine (CL.out _).mono ?_
        rintro e w10 ⟨rfl, hb⟩
        replace r_t := Lib.hid (r_t.out.keep hb)
        replace r_x := Lib.hid (r_x.out.keep hb)
        replace r_y := Lib.hid (r_y.out.keep hb)
        replace BB := Lib.hid (below_next BB.out hb)
        clear hb
        go_wp2_with fail
        go_ret
        exact ⟨rfl, BB.out⟩
theorem ratLaws_any (an ad bn bd cn cd : Int) (a1 : I64 an) (a2 : I64 ad) (b1 : I64 bn) (b2 : I64 bd) (c1 : I64 cn) (c2 : I64 cd) (w : World) :
    Calls Try.prog 11 #[.agg #[.int .i64 an, .int .i64 ad, .int .i64 bn, .int .i64 bd, .int .i64 cn, .int .i64 cd]] w fun e w' => e = .returned (.bool true) ∧ Below w.heap.size w w' := by
  by_cases h : 0 < ad ∧ 0 < bd
  · by_cases hc : 0 < cd
    · exact ratLaws_ok an ad bn bd cn cd a1 a2 b1 b2 c1 c2 h.1 h.2 hc w
    · exact ratLaws_bc an ad bn bd cn cd a1 a2 b1 b2 c1 c2 h.1 h.2 hc w
  · exact ratLaws_ab an ad bn bd cn cd a1 a2 b1 b2 c1 c2 h w
end Go.Proofs.Ythoakbjnofhpbaa
