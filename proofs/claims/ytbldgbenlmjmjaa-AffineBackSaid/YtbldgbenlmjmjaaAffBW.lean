/- Walk of the law AffineBack. -/
import Derived.Test.YtbldgbenlmjmjaaAffL
set_option linter.unusedVariables false
namespace Go.Proofs.Ytbldgbenlmjmjaa
open Go.RowKit Go.ChangeShapes Go.WideShapes Go.ChangeAt Go.Deep

set_option maxRecDepth 100000 in
set_option maxHeartbeats 8000000 in
theorem affineBack_bad (v : Value) (zs : List Int) (x y : Int) (hC : afC zs ≠ 0) (w : World) (hv : IS w v zs) :
    Calls Try.prog 3 #[v, .int .i16 x, .int .i16 y] w fun e w' => e = .returned (.bool true) ∧ Below w.heap.size w w' := by
  have CN := Lib.hid (fun w hv => afnew v zs w hv)
  have CD := Lib.hid (fun w hv => rcheck18 v zs w hv)
  have CA := Lib.hid (fun w => alive18 w)
  obtain ⟨A, cap, rfl⟩ := hv.form
  have hv := Lib.hid hv
  have hC' : (afC zs != 0) = true := by simpa using hC
  have HC := Lib.hid hC
  clear hC
  generalize zs.length = n1 at *
  generalize hCe : afC zs = C at *
  have hCe := Lib.hid hCe
  go_enter Try.func3, Try.ntmps3
  go_wp2_with fail
  have BB : Hid (Below w.heap.size w w) := Below.refl _ _
  have h_v := Lib.hid (hv.out.below BB.out)
  refine (CN.out _ h_v.out).mono ?_
  rintro e w1 ⟨m, rfl, hb, hn, -⟩
  replace h_v := Lib.hid (IS.below h_v.out hb)
  replace BB := Lib.hid (below_next BB.out hb)
  clear hb
  rw [hCe.out] at hn ⊢
  obtain rfl := hn HC.out
  clear hn CN
  go_wp2_with fail
  refine (CD.out _ h_v.out).mono ?_
  rintro e w9 ⟨rfl, m_q, rfl⟩
  have hb := below_drawn (Below.refl w1.heap.size w1) m_q
  generalize w1.drewN m_q = w2 at *
  replace h_v := Lib.hid (IS.below h_v.out hb)
  replace BB := Lib.hid (below_next BB.out hb)
  clear hb
  clear CD
  go_wp2_with fail
  refine (CA.out _).mono ?_
  rintro e w3 ⟨rfl, hb⟩
  replace h_v := Lib.hid (IS.below h_v.out hb)
  replace BB := Lib.hid (below_next BB.out hb)
  clear hb
  go_wp2_with fail
  go_ret
  exact ⟨rfl, BB.out⟩

/-- The plain law: asked backwards, it is that pixel. -/
theorem back_U {c0 c1 c2 c3 c4 c5 x y p q : Int} (hz : detI c0 c1 c3 c4 ≠ 0) (hx : -32768 ≤ x ∧ x ≤ 32767) (hy : -32768 ≤ y ∧ y ≤ 32767) (hp : 4096 * p = c0 * x + c1 * y + c2) (hq : 4096 * q = c3 * x + c4 * y + c5) :
    plU (65536 * c4) (-65536 * c1) (c1 * c5 - c4 * c2) (detI c0 c1 c3 c4) p q 16 = 65536 * x ∧ plU (-65536 * c3) (65536 * c0) (c3 * c2 - c0 * c5) (detI c0 c1 c3 c4) p q 16 = 65536 * y := by
  have e1 : (65536 * c4 * p + -65536 * c1 * q + (c1 * c5 - c4 * c2) * 16) * 65536 = (65536 * x) * (detI c0 c1 c3 c4 * 16) := by unfold detI; grind
  have e2 : (-65536 * c3 * p + 65536 * c0 * q + (c3 * c2 - c0 * c5) * 16) * 65536 = (65536 * y) * (detI c0 c1 c3 c4 * 16) := by unfold detI; grind
  have hn : detI c0 c1 c3 c4 * 16 ≠ 0 := Int.mul_ne_zero hz (by omega)
  constructor
  · unfold plU; rw [e1, Int.mul_fdiv_cancel _ hn]; exact cut_near (by omega) (by omega)
  · unfold plU; rw [e2, Int.mul_fdiv_cancel _ hn]; exact cut_near (by omega) (by omega)

set_option maxRecDepth 100000 in
set_option maxHeartbeats 16000000 in
theorem affineBack_ok (v : Value) (c0 c1 c2 c3 c4 c5 x y : Int) (hC : afC [c0, c1, c2, c3, c4, c5] = 0) (hM : AM c0 c1 c2 c3 c4 c5) (hx : -32768 ≤ x ∧ x ≤ 32767) (hy : -32768 ≤ y ∧ y ≤ 32767) (w : World) (hv : IS w v [c0, c1, c2, c3, c4, c5]) :
    Calls Try.prog 3 #[v, .int .i16 x, .int .i16 y] w fun e w' => e = .returned (.bool true) ∧ Below w.heap.size w w' := by
  have CN := Lib.hid (fun w hv => afnew v [c0, c1, c2, c3, c4, c5] w hv)
  have CD := Lib.hid (fun w hv => rcheck18 v [c0, c1, c2, c3, c4, c5] w hv)
  have CR := Lib.hid (fun p q w => rright p q 16 w)
  have CA := Lib.hid (fun w => alive18 w)
  have T3 := Lib.hid (fun g px py hp w hm => afat_ok g _ _ _ _ _ _ _ px py 16 hp hM.lines.1 hM.lines.2 w hm)
  have HB := Lib.hid (fun p q hp hq => back_U (c2 := c2) (c5 := c5) (p := p) (q := q) hM.det hx hy hp hq)
  have m1 := mul_in hM.a (show -32768 ≤ x ∧ x ≤ 32768 by omega)
  have m2 := mul_in hM.b (show -32768 ≤ y ∧ y ≤ 32768 by omega)
  have m3 := mul_in hM.d (show -32768 ≤ x ∧ x ≤ 32768 by omega)
  have m4 := mul_in hM.e (show -32768 ≤ y ∧ y ≤ 32768 by omega)
  obtain ⟨ha, hb, hc, hd, he, hf, -⟩ := hM
  have j1 : IntKind.i64.wrap x = x := iw (by omega)
  have j2 : IntKind.i64.wrap y = y := iw (by omega)
  have i1 : IntKind.i64.wrap (c0 * x) = c0 * x := iw (by omega)
  have i2 : IntKind.i64.wrap (c1 * y) = c1 * y := iw (by omega)
  have i3 : IntKind.i64.wrap (c0 * x + c1 * y) = c0 * x + c1 * y := iw (by omega)
  have i4 : IntKind.i64.wrap (c0 * x + c1 * y + c2) = c0 * x + c1 * y + c2 := iw (by omega)
  have i5 : IntKind.i64.wrap (c3 * x) = c3 * x := iw (by omega)
  have i6 : IntKind.i64.wrap (c4 * y) = c4 * y := iw (by omega)
  have i7 : IntKind.i64.wrap (c3 * x + c4 * y) = c3 * x + c4 * y := iw (by omega)
  have i8 : IntKind.i64.wrap (c3 * x + c4 * y + c5) = c3 * x + c4 * y + c5 := iw (by omega)
  have e1 : wrap64 (65536 * x) = 65536 * x := ww (by omega)
  have e2 : wrap64 (65536 * y) = 65536 * y := ww (by omega)
  have hv' := Lib.hid hv
  obtain ⟨bk, off, cap, rfl, hcap, h2', hlt, hS⟩ := hv.six
  have KS := Lib.hid (fun w9 h => (hS.keep hlt h : S6 bk off c0 c1 c2 c3 c4 c5 w9))
  rw [hC] at CD
  have HC := Lib.hid hC
  have HPb : -17592186044416 ≤ c0 * x + c1 * y + c2 ∧ c0 * x + c1 * y + c2 ≤ 17592186044416 := by omega
  have HQb : -17592186044416 ≤ c3 * x + c4 * y + c5 ∧ c3 * x + c4 * y + c5 ≤ 17592186044416 := by omega
  clear hC ha hb hc hd he hf m1 m2 m3 m4 hx hy hS hv
  generalize hP : c0 * x + c1 * y + c2 = P at *
  generalize hQ : c3 * x + c4 * y + c5 = Q at *
  have f1 : 4096 * P.tdiv 4096 + P.tmod 4096 = P := Int.mul_tdiv_add_tmod P 4096
  have f2 : 4096 * Q.tdiv 4096 + Q.tmod 4096 = Q := Int.mul_tdiv_add_tmod Q 4096
  have f3 := Int.tmod_lt_of_pos P (show (0 : Int) < 4096 by omega)
  have f4 := Int.tmod_lt_of_pos Q (show (0 : Int) < 4096 by omega)
  have f5 := Int.lt_tmod_of_pos P (show (0 : Int) < 4096 by omega)
  have f6 := Int.lt_tmod_of_pos Q (show (0 : Int) < 4096 by omega)
  have ww1 : wrap64 (P.tdiv 4096) = P.tdiv 4096 := ww (by omega)
  have ww2 : wrap64 (Q.tdiv 4096) = Q.tdiv 4096 := ww (by omega)
  replace f1 := Lib.hid f1; replace f2 := Lib.hid f2
  clear f3 f4 f5 f6
  have hPr : -9223372036854775808 ≤ P ∧ P ≤ 9223372036854775807 := by omega
  have hQr : -9223372036854775808 ≤ Q ∧ Q ≤ 9223372036854775807 := by omega
  have k1 : IntKind.i64.wrap (c0 * x + c1 * y + c2) = P := by rw [hP]; exact iw hPr
  have k2 : IntKind.i64.wrap (c3 * x + c4 * y + c5) = Q := by rw [hQ]; exact iw hQr
  have k3 : wrap64 (c0 * x + c1 * y + c2) = P := by rw [hP]; exact ww hPr
  have k4 : wrap64 (c3 * x + c4 * y + c5) = Q := by rw [hQ]; exact ww hQr
  clear i4 i8
  replace hP := Lib.hid hP; replace hQ := Lib.hid hQ
  clear hPr hQr
  rcases hp : (P.tmod 4096 != 0) with _ | _
  · rcases hq : (Q.tmod 4096 != 0) with _ | _
    · have hp' : P.tmod 4096 = 0 := by simpa using hp
      have hq' : Q.tmod 4096 = 0 := by simpa using hq
      have h1 : 4096 * P.tdiv 4096 = c0 * x + c1 * y + c2 := by have h := f1.out; rw [hp', Int.add_zero] at h; exact h.trans hP.out.symm
      have h2 : 4096 * Q.tdiv 4096 = c3 * x + c4 * y + c5 := by have h := f2.out; rw [hq', Int.add_zero] at h; exact h.trans hQ.out.symm
      obtain ⟨b1, b2⟩ := HB.out _ _ (h1.trans hP.out) (h2.trans hQ.out)
      clear hp' hq' h1 h2 HB hP hQ HPb HQb f1 f2
      generalize hpp : P.tdiv 4096 = p at *
      generalize hqq : Q.tdiv 4096 = q at *
      replace CR := Lib.hid (fun w => CR.out p q w)
      cases hr : rightI p q 16
      · rw [hr] at CR
        clear T3 b1 b2 hr
        go_enter Try.func3, Try.ntmps3
        go_wp2_with fail
        have BB : Hid (Below w.heap.size w w) := Below.refl _ _
        have h_v := Lib.hid (hv'.out.below BB.out)
        refine (CN.out _ h_v.out).mono ?_
        rintro e w1 ⟨m, rfl, hb, -, hp⟩
        replace h_v := Lib.hid (IS.below h_v.out hb)
        replace BB := Lib.hid (below_next BB.out hb)
        clear hb
        obtain ⟨g, x0, x1, x2, x3, x4, x5, rfl, hz, -, r_m⟩ := hp HC.out
        simp only [List.cons.injEq, and_true] at hz
        obtain ⟨rfl, rfl, rfl, rfl, rfl, rfl⟩ := hz
        rw [HC.out]
        replace r_m := Lib.hid r_m
        clear hp CN HC
        go_wp2_with fail
        refine (CD.out _ h_v.out).mono ?_
        rintro e w9 ⟨rfl, m_q, rfl⟩
        have hb := below_drawn (Below.refl w1.heap.size w1) m_q
        generalize w1.drewN m_q = w2 at *
        replace r_m := Lib.hid (r_m.out.keep hb)
        replace h_v := Lib.hid (IS.below h_v.out hb)
        replace BB := Lib.hid (below_next BB.out hb)
        clear hb
        clear CD
        go_wp2_with fail
        obtain ⟨s0, s1, s2, s3, s4, s5⟩ := KS.out _ BB.out
        have kl := Nat.lt_of_lt_of_le hlt BB.out.size
        go_quiet (fail)
        have hb := below_drawn (Below.refl w2.heap.size w2) nq
        generalize w2.drewN nq = w3 at *
        replace r_m := Lib.hid (r_m.out.keep hb)
        replace h_v := Lib.hid (IS.below h_v.out hb)
        replace BB := Lib.hid (below_next BB.out hb)
        clear hb nq
        clear s0 s1 s2 s3 s4 s5 kl
        obtain ⟨s0, s1, s2, s3, s4, s5⟩ := KS.out _ BB.out
        have kl := Nat.lt_of_lt_of_le hlt BB.out.size
        go_wp2_with fail
        go_quiet (fail)
        have hb := below_drawn (Below.refl w3.heap.size w3) nq
        generalize w3.drewN nq = w4 at *
        replace r_m := Lib.hid (r_m.out.keep hb)
        replace h_v := Lib.hid (IS.below h_v.out hb)
        replace BB := Lib.hid (below_next BB.out hb)
        clear hb nq
        clear s0 s1 s2 s3 s4 s5 kl
        go_wp2_with fail
        refine (CR.out _).mono ?_
        rintro e w9 ⟨rfl, rfl⟩
        go_wp2_with fail
        refine (CA.out _).mono ?_
        rintro e w5 ⟨rfl, hb⟩
        replace r_m := Lib.hid (r_m.out.keep hb)
        replace h_v := Lib.hid (IS.below h_v.out hb)
        replace BB := Lib.hid (below_next BB.out hb)
        clear hb
        go_wp2_with fail
        go_ret
        exact ⟨rfl, BB.out⟩
      · rw [hr] at CR
        replace T3 := Lib.hid (fun g w hm => T3.out g p q hr w hm)
        rw [b1, b2] at T3
        clear b1 b2 hr
        go_enter Try.func3, Try.ntmps3
        go_wp2_with fail
        have BB : Hid (Below w.heap.size w w) := Below.refl _ _
        have h_v := Lib.hid (hv'.out.below BB.out)
        refine (CN.out _ h_v.out).mono ?_
        rintro e w1 ⟨m, rfl, hb, -, hp⟩
        replace h_v := Lib.hid (IS.below h_v.out hb)
        replace BB := Lib.hid (below_next BB.out hb)
        clear hb
        obtain ⟨g, x0, x1, x2, x3, x4, x5, rfl, hz, -, r_m⟩ := hp HC.out
        simp only [List.cons.injEq, and_true] at hz
        obtain ⟨rfl, rfl, rfl, rfl, rfl, rfl⟩ := hz
        rw [HC.out]
        replace r_m := Lib.hid r_m
        clear hp CN HC
        go_wp2_with fail
        refine (CD.out _ h_v.out).mono ?_
        rintro e w9 ⟨rfl, m_q, rfl⟩
        have hb := below_drawn (Below.refl w1.heap.size w1) m_q
        generalize w1.drewN m_q = w2 at *
        replace r_m := Lib.hid (r_m.out.keep hb)
        replace h_v := Lib.hid (IS.below h_v.out hb)
        replace BB := Lib.hid (below_next BB.out hb)
        clear hb
        clear CD
        go_wp2_with fail
        obtain ⟨s0, s1, s2, s3, s4, s5⟩ := KS.out _ BB.out
        have kl := Nat.lt_of_lt_of_le hlt BB.out.size
        go_quiet (fail)
        have hb := below_drawn (Below.refl w2.heap.size w2) nq
        generalize w2.drewN nq = w3 at *
        replace r_m := Lib.hid (r_m.out.keep hb)
        replace h_v := Lib.hid (IS.below h_v.out hb)
        replace BB := Lib.hid (below_next BB.out hb)
        clear hb nq
        clear s0 s1 s2 s3 s4 s5 kl
        obtain ⟨s0, s1, s2, s3, s4, s5⟩ := KS.out _ BB.out
        have kl := Nat.lt_of_lt_of_le hlt BB.out.size
        go_wp2_with fail
        go_quiet (fail)
        have hb := below_drawn (Below.refl w3.heap.size w3) nq
        generalize w3.drewN nq = w4 at *
        replace r_m := Lib.hid (r_m.out.keep hb)
        replace h_v := Lib.hid (IS.below h_v.out hb)
        replace BB := Lib.hid (below_next BB.out hb)
        clear hb nq
        clear s0 s1 s2 s3 s4 s5 kl
        go_wp2_with fail
        refine (CR.out _).mono ?_
        rintro e w9 ⟨rfl, rfl⟩
        go_wp2_with fail
        refine (T3.out _ _ r_m.out).mono ?_
        rintro e w5 ⟨rfl, hb⟩
        replace r_m := Lib.hid (r_m.out.keep hb)
        replace h_v := Lib.hid (IS.below h_v.out hb)
        replace BB := Lib.hid (below_next BB.out hb)
        clear hb
        go_wp2_with fail
        refine (CA.out _).mono ?_
        rintro e w6 ⟨rfl, hb⟩
        replace r_m := Lib.hid (r_m.out.keep hb)
        replace h_v := Lib.hid (IS.below h_v.out hb)
        replace BB := Lib.hid (below_next BB.out hb)
        clear hb
        go_wp2_with fail
        go_ret
        exact ⟨rfl, BB.out⟩
    · clear HB T3 hP hQ HPb HQb f1 f2
      go_enter Try.func3, Try.ntmps3
      go_wp2_with fail
      have BB : Hid (Below w.heap.size w w) := Below.refl _ _
      have h_v := Lib.hid (hv'.out.below BB.out)
      refine (CN.out _ h_v.out).mono ?_
      rintro e w1 ⟨m, rfl, hb, -, hp⟩
      replace h_v := Lib.hid (IS.below h_v.out hb)
      replace BB := Lib.hid (below_next BB.out hb)
      clear hb
      obtain ⟨g, x0, x1, x2, x3, x4, x5, rfl, hz, -, r_m⟩ := hp HC.out
      simp only [List.cons.injEq, and_true] at hz
      obtain ⟨rfl, rfl, rfl, rfl, rfl, rfl⟩ := hz
      rw [HC.out]
      replace r_m := Lib.hid r_m
      clear hp CN HC
      go_wp2_with fail
      refine (CD.out _ h_v.out).mono ?_
      rintro e w9 ⟨rfl, m_q, rfl⟩
      have hb := below_drawn (Below.refl w1.heap.size w1) m_q
      generalize w1.drewN m_q = w2 at *
      replace r_m := Lib.hid (r_m.out.keep hb)
      replace h_v := Lib.hid (IS.below h_v.out hb)
      replace BB := Lib.hid (below_next BB.out hb)
      clear hb
      clear CD
      go_wp2_with fail
      obtain ⟨s0, s1, s2, s3, s4, s5⟩ := KS.out _ BB.out
      have kl := Nat.lt_of_lt_of_le hlt BB.out.size
      go_quiet (fail)
      have hb := below_drawn (Below.refl w2.heap.size w2) nq
      generalize w2.drewN nq = w3 at *
      replace r_m := Lib.hid (r_m.out.keep hb)
      replace h_v := Lib.hid (IS.below h_v.out hb)
      replace BB := Lib.hid (below_next BB.out hb)
      clear hb nq
      clear s0 s1 s2 s3 s4 s5 kl
      obtain ⟨s0, s1, s2, s3, s4, s5⟩ := KS.out _ BB.out
      have kl := Nat.lt_of_lt_of_le hlt BB.out.size
      go_wp2_with fail
      go_quiet (fail)
      have hb := below_drawn (Below.refl w3.heap.size w3) nq
      generalize w3.drewN nq = w4 at *
      replace r_m := Lib.hid (r_m.out.keep hb)
      replace h_v := Lib.hid (IS.below h_v.out hb)
      replace BB := Lib.hid (below_next BB.out hb)
      clear hb nq
      clear s0 s1 s2 s3 s4 s5 kl
      go_wp2_with fail
      refine (CA.out _).mono ?_
      rintro e w5 ⟨rfl, hb⟩
      replace r_m := Lib.hid (r_m.out.keep hb)
      replace h_v := Lib.hid (IS.below h_v.out hb)
      replace BB := Lib.hid (below_next BB.out hb)
      clear hb
      go_wp2_with fail
      go_ret
      exact ⟨rfl, BB.out⟩
  · clear HB T3 hP hQ HPb HQb f1 f2
    go_enter Try.func3, Try.ntmps3
    go_wp2_with fail
    have BB : Hid (Below w.heap.size w w) := Below.refl _ _
    have h_v := Lib.hid (hv'.out.below BB.out)
    refine (CN.out _ h_v.out).mono ?_
    rintro e w1 ⟨m, rfl, hb, -, hp⟩
    replace h_v := Lib.hid (IS.below h_v.out hb)
    replace BB := Lib.hid (below_next BB.out hb)
    clear hb
    obtain ⟨g, x0, x1, x2, x3, x4, x5, rfl, hz, -, r_m⟩ := hp HC.out
    simp only [List.cons.injEq, and_true] at hz
    obtain ⟨rfl, rfl, rfl, rfl, rfl, rfl⟩ := hz
    rw [HC.out]
    replace r_m := Lib.hid r_m
    clear hp CN HC
    go_wp2_with fail
    refine (CD.out _ h_v.out).mono ?_
    rintro e w9 ⟨rfl, m_q, rfl⟩
    have hb := below_drawn (Below.refl w1.heap.size w1) m_q
    generalize w1.drewN m_q = w2 at *
    replace r_m := Lib.hid (r_m.out.keep hb)
    replace h_v := Lib.hid (IS.below h_v.out hb)
    replace BB := Lib.hid (below_next BB.out hb)
    clear hb
    clear CD
    go_wp2_with fail
    obtain ⟨s0, s1, s2, s3, s4, s5⟩ := KS.out _ BB.out
    have kl := Nat.lt_of_lt_of_le hlt BB.out.size
    go_quiet (fail)
    have hb := below_drawn (Below.refl w2.heap.size w2) nq
    generalize w2.drewN nq = w3 at *
    replace r_m := Lib.hid (r_m.out.keep hb)
    replace h_v := Lib.hid (IS.below h_v.out hb)
    replace BB := Lib.hid (below_next BB.out hb)
    clear hb nq
    clear s0 s1 s2 s3 s4 s5 kl
    obtain ⟨s0, s1, s2, s3, s4, s5⟩ := KS.out _ BB.out
    have kl := Nat.lt_of_lt_of_le hlt BB.out.size
    go_wp2_with fail
    go_quiet (fail)
    have hb := below_drawn (Below.refl w3.heap.size w3) nq
    generalize w3.drewN nq = w4 at *
    replace r_m := Lib.hid (r_m.out.keep hb)
    replace h_v := Lib.hid (IS.below h_v.out hb)
    replace BB := Lib.hid (below_next BB.out hb)
    clear hb nq
    clear s0 s1 s2 s3 s4 s5 kl
    go_wp2_with fail
    refine (CA.out _).mono ?_
    rintro e w5 ⟨rfl, hb⟩
    replace r_m := Lib.hid (r_m.out.keep hb)
    replace h_v := Lib.hid (IS.below h_v.out hb)
    replace BB := Lib.hid (below_next BB.out hb)
    clear hb
    go_wp2_with fail
    go_ret
    exact ⟨rfl, BB.out⟩

theorem affineBack_any (v : Value) (zs : List Int) (x y : Int) (hx : -32768 ≤ x ∧ x ≤ 32767) (hy : -32768 ≤ y ∧ y ≤ 32767) (w : World) (hv : IS w v zs) :
    Calls Try.prog 3 #[v, .int .i16 x, .int .i16 y] w fun e w' => e = .returned (.bool true) ∧ Below w.heap.size w w' := by
  by_cases hC : afC zs = 0
  · obtain ⟨c0, c1, c2, c3, c4, c5, rfl, hM⟩ := afC_zero hC
    exact affineBack_ok v c0 c1 c2 c3 c4 c5 x y hC hM hx hy w hv
  · exact affineBack_bad v zs x y hC w hv

end Go.Proofs.Ytbldgbenlmjmjaa
