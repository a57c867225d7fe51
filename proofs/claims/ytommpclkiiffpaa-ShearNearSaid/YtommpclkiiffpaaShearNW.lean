/- Walk of the law ShearNear. -/
import Derived.Test.YtommpclkiiffpaaShearR2
import Derived.Test.YtommpclkiiffpaaShearL
set_option linter.unusedVariables false
namespace Go.Proofs.Ytommpclkiiffpaa
open Go.RowKit

set_option maxRecDepth 100000 in
set_option maxHeartbeats 8000000 in
theorem shearNear_bad (v : Value) (zs : List Int) (x y : Int) (hC : shC zs ≠ 0) (w : World) (hv : IS w v zs) :
    Calls Try.prog 10 #[v, .int .i64 x, .int .i64 y] w fun e w' => e = .returned (.bool true) ∧ Below w.heap.size w w' := by
  have CN := Lib.hid (fun w hv => shnew v zs w hv)
  have CT := Lib.hid (fun w => shat_nil x y 1 w)
  have CD := Lib.hid (fun w hv => rshcheck v zs w hv)
  have CA := Lib.hid (fun w => alive22 w)
  obtain ⟨A, cap, rfl⟩ := hv.form
  have hv := Lib.hid hv
  have HC := Lib.hid hC
  have hC3 : (shC zs != 0) = true := by simpa using hC
  clear hC
  generalize zs.length = n at *
  generalize hCe : shC zs = C at *
  have hCe := Lib.hid hCe
  go_enter Try.func10, Try.ntmps10
  go_wp2_with fail
  have BB : Hid (Below w.heap.size w w) := Below.refl _ _
  have h_v := Lib.hid (hv.out.below BB.out)
  refine (CN.out _ hv.out).mono ?_
  rintro e w1 ⟨m, rfl, hb, hn, -⟩
  replace h_v := Lib.hid (IS.below h_v.out hb)
  replace BB := Lib.hid (below_next BB.out hb)
  clear hb
  rw [hCe.out] at hn ⊢
  obtain rfl := hn HC.out
  clear hn CN
  go_wp2_with fail
  refine (CT.out _).mono ?_
  rintro e w9 ⟨rfl, rfl⟩
  go_wp2_with fail
  refine (CD.out _ h_v.out).mono ?_
  rintro e w9 ⟨rfl, rfl⟩
  go_wp2_with fail
  refine (CA.out _).mono ?_
  rintro e w2 ⟨rfl, hb⟩
  replace h_v := Lib.hid (IS.below h_v.out hb)
  replace BB := Lib.hid (below_next BB.out hb)
  clear hb
  go_wp2_with fail
  go_ret
  exact ⟨rfl, BB.out⟩


set_option maxRecDepth 100000 in
set_option maxHeartbeats 8000000 in
theorem shearNear_far (v : Value) (a b cx cy x y : Int) (hC : shC [a, b, cx, cy] = 0) (hr : rightI x y 1 = false) (w : World) (hv : IS w v [a, b, cx, cy]) :
    Calls Try.prog 10 #[v, .int .i64 x, .int .i64 y] w fun e w' => e = .returned (.bool true) ∧ Below w.heap.size w w' := by
  have CN := Lib.hid (fun w hv => shnew v [a, b, cx, cy] w hv)
  have CD := Lib.hid (fun w hv => rshcheck v [a, b, cx, cy] w hv)
  have CT := Lib.hid (fun g w => shat_bad g x y 1 hr w)
  have CR := Lib.hid (fun w => rright x y 1 w)
  have CA := Lib.hid (fun w => alive22 w)
  rw [hr] at CR
  rw [hC] at CD
  have HC := Lib.hid hC
  have hv := Lib.hid hv
  clear hC hr
  go_enter Try.func10, Try.ntmps10
  go_wp2_with fail
  have BB : Hid (Below w.heap.size w w) := Below.refl _ _
  have h_v := Lib.hid (hv.out.below BB.out)
  refine (CN.out _ hv.out).mono ?_
  rintro e w1 ⟨m, rfl, hb, -, hp⟩
  replace h_v := Lib.hid (IS.below h_v.out hb)
  replace BB := Lib.hid (below_next BB.out hb)
  clear hb
  obtain ⟨g, x0, x1, x2, x3, rfl, hz, -, r_m⟩ := hp HC.out
  simp only [List.cons.injEq, and_true] at hz
  obtain ⟨rfl, rfl, rfl, rfl⟩ := hz
  rw [HC.out]
  replace r_m := Lib.hid r_m
  clear hp CN HC
  go_wp2_with fail
  refine (CT.out _ _).mono ?_
  rintro e w9 ⟨rfl, rfl⟩
  go_wp2_with fail
  refine (CD.out _ h_v.out).mono ?_
  rintro e w9 ⟨rfl, rfl⟩
  go_wp2_with fail
  refine (CR.out _).mono ?_
  rintro e w9 ⟨rfl, rfl⟩
  go_wp2_with fail
  refine (CA.out _).mono ?_
  rintro e w2 ⟨rfl, hb⟩
  replace r_m := Lib.hid (r_m.out.keep hb)
  replace h_v := Lib.hid (IS.below h_v.out hb)
  replace BB := Lib.hid (below_next BB.out hb)
  clear hb
  go_wp2_with fail
  go_ret
  exact ⟨rfl, BB.out⟩

theorem wd_between {n : Nat} {l h p : Int} (hl : Wd n l) (hh : Wd n h) (h1 : l ≤ p) (h2 : p ≤ h) : Wd n p := ⟨Int.le_trans hl.1 h1, Int.le_trans h2 hh.2⟩
theorem bnd_in {a b : Int} (ha : -262144 ≤ a ∧ a ≤ 262144) (hb : -262144 ≤ b ∧ b ≤ 262144) : (0 ≤ bndX a b ∧ bndX a b ≤ 1048576) ∧ (0 ≤ bndY b ∧ bndY b ≤ 262144) := by
  unfold bndX bndY
  have m1 := mul_in (a := (a.natAbs : Int)) (A := 262144) (b := 65536 + (b.natAbs : Int)) (B := 327680) (by omega) (by omega)
  have m0 : 0 ≤ (a.natAbs : Int) * (65536 + (b.natAbs : Int)) := Int.mul_nonneg (by omega) (by omega)
  generalize (a.natAbs : Int) * (65536 + (b.natAbs : Int)) = M at *
  omega

set_option maxRecDepth 100000 in
set_option maxHeartbeats 16000000 in
theorem shearNear_ok (v : Value) (a b cx cy x y : Int) (hC : shC [a, b, cx, cy] = 0) (hM : SM a b cx cy) (hr : rightI x y 1 = true) (w : World) (hv : IS w v [a, b, cx, cy]) :
    Calls Try.prog 10 #[v, .int .i64 x, .int .i64 y] w fun e w' => e = .returned (.bool true) ∧ Below w.heap.size w w' := by
  have CN := Lib.hid (fun w hv => shnew v [a, b, cx, cy] w hv)
  have CD := Lib.hid (fun w hv => rshcheck v [a, b, cx, cy] w hv)
  have CT := Lib.hid (fun g w hm => shat_one g a b cx cy x y hr hM w hm)
  have CR := Lib.hid (fun w => rright x y 1 w)
  have CB := Lib.hid (fun g w hm => shbounds g a b cx cy hM w hm)
  have CA := Lib.hid (fun w => alive22 w)
  obtain ⟨p0, p1⟩ := right_one.1 hr
  have CE := Lib.hid (fun w hv => rexact22 v a b cx cy x y hM p0 p1 w hv)
  obtain ⟨b1, b2⟩ := bnd_in hM.a hM.b
  obtain ⟨n1, n2⟩ := near_x a b (x - cx) (y - cy) cx
  obtain ⟨n3, n4⟩ := near_y a b (x - cx) (y - cy) cy
  obtain ⟨-, f1, f2⟩ := sh_facts (x0 := x - cx) (y0 := y - cy) hM.a hM.b (by have := hM.x; omega) (by have := hM.y; omega)
  have hX := hM.x
  have hY := hM.y
  generalize 65536 * (exX2 a b (x - cx) (y - cy) + cx * 18446744073709551616) = P at *
  generalize 65536 * (exY1 a b (x - cx) (y - cy) + cy * 4294967296) = Q at *
  generalize hU : 65536 * (shX2 a b (x - cx) (y - cy) + cx) = U at *
  generalize hV : 65536 * (shY1 a b (x - cx) (y - cy) + cy) = V at *
  generalize bndX a b = k1 at *
  generalize bndY b = k2 at *
  have i1 : I64 (U - k1) := ⟨by omega, by omega⟩
  have i2 : I64 (U + k1) := ⟨by omega, by omega⟩
  have i3 : I64 (V - k2) := ⟨by omega, by omega⟩
  have i4 : I64 (V + k2) := ⟨by omega, by omega⟩
  have w64 : Wd 64 18446744073709551616 := wd_lit 64 18446744073709551616 (by decide)
  have w32 : Wd 32 4294967296 := wd_lit 32 4294967296 (by decide)
  have W1 := Lib.hid (fun (v : Value) w hv => rwithin v U k1 P 18446744073709551616 (wd_between ((i64_wd i1).mul w64) ((i64_wd i2).mul w64) n1 n2) w64 (by omega) i1 i2 n1 n2 w hv)
  have W2 := Lib.hid (fun (v : Value) w hv => rwithin v V k2 Q 4294967296 (wd_between ((i64_wd i3).mul w32) ((i64_wd i4).mul w32) n3 n4) w32 (by omega) i3 i4 n3 n4 w hv)
  rw [hr] at CR
  rw [hC] at CD
  have HC := Lib.hid hC
  have hv := Lib.hid hv
  clear hC hr hM p0 p1 b1 b2 n1 n2 n3 n4 f1 f2 hX hY hU hV i1 i2 i3 i4 w64 w32
  generalize (18446744073709551616 : Int) = D2 at *
  generalize (4294967296 : Int) = D1 at *
  go_enter Try.func10, Try.ntmps10
  go_wp2_with fail
  have BB : Hid (Below w.heap.size w w) := Below.refl _ _
  have h_v := Lib.hid (hv.out.below BB.out)
  refine (CN.out _ hv.out).mono ?_
  rintro e w1 ⟨m, rfl, hb, -, hp⟩
  replace h_v := Lib.hid (IS.below h_v.out hb)
  replace BB := Lib.hid (below_next BB.out hb)
  clear hb
  obtain ⟨g, x0, x1, x2, x3, rfl, hz, -, r_m⟩ := hp HC.out
  simp only [List.cons.injEq, and_true] at hz
  obtain ⟨rfl, rfl, rfl, rfl⟩ := hz
  rw [HC.out]
  replace r_m := Lib.hid r_m
  clear hp CN HC
  go_wp2_with fail
  refine (CT.out _ _ r_m.out).mono ?_
  rintro e w2 ⟨rfl, hb⟩
  replace r_m := Lib.hid (r_m.out.keep hb)
  replace h_v := Lib.hid (IS.below h_v.out hb)
  replace BB := Lib.hid (below_next BB.out hb)
  clear hb
  go_wp2_with fail
  refine (CD.out _ h_v.out).mono ?_
  rintro e w9 ⟨rfl, rfl⟩
  go_wp2_with fail
  refine (CR.out _).mono ?_
  rintro e w9 ⟨rfl, rfl⟩
  go_wp2_with fail
  refine (CE.out _ h_v.out).mono ?_
  rintro e w3 ⟨v_p, v_q, rfl, hb, h_p, h_q⟩
  replace r_m := Lib.hid (r_m.out.keep hb)
  replace h_v := Lib.hid (IS.below h_v.out hb)
  replace BB := Lib.hid (below_next BB.out hb)
  clear hb
  obtain ⟨A_p, n_p, cap_p, B_p, m_p, cup_p, rfl, -, -⟩ := id h_p.form
  obtain ⟨A_q, n_q, cap_q, B_q, m_q, cup_q, rfl, -, -⟩ := id h_q.form
  replace h_p := Lib.hid h_p; replace h_q := Lib.hid h_q
  go_wp2_with fail
  have d_p := Lib.hid (And.intro BB.out.size (And.intro r_m.out.lt (True.intro)))
  obtain ⟨hb, -, r_p, r_q⟩ := start2 w3 #[.bool (sgn (P)), .slice A_p n_p cap_p, .bool (sgn (D2)), .slice B_p m_p cup_p] 39 #[.bool (sgn (Q)), .slice A_q n_q cap_q, .bool (sgn (D1)), .slice B_q m_q cup_q] 39
  replace r_m := Lib.hid (r_m.out.keep hb)
  replace h_p := Lib.hid (h_p.out.below hb)
  replace h_q := Lib.hid (h_q.out.below hb)
  replace h_v := Lib.hid (IS.below h_v.out hb)
  replace BB := Lib.hid (below_next BB.out hb)
  clear hb
  replace r_p := Lib.hid r_p; replace r_q := Lib.hid r_q
  generalize (w3.alloc (.cells #[.bool (sgn (P)), .slice A_p n_p cap_p, .bool (sgn (D2)), .slice B_p m_p cup_p] 39)).alloc (.cells #[.bool (sgn (Q)), .slice A_q n_q cap_q, .bool (sgn (D1)), .slice B_q m_q cup_q] 39) = w4 at *
  generalize w3.heap.size = g_p at *
  have d_q := d_p
  refine (CB.out _ _ r_m.out).mono ?_
  rintro e w5 ⟨rfl, hb⟩
  replace r_m := Lib.hid (r_m.out.keep hb)
  replace r_p := Lib.hid (r_p.out.keep hb)
  replace r_q := Lib.hid (r_q.out.keep hb)
  replace h_p := Lib.hid (h_p.out.below hb)
  replace h_q := Lib.hid (h_q.out.below hb)
  replace h_v := Lib.hid (IS.below h_v.out hb)
  replace BB := Lib.hid (below_next BB.out hb)
  clear hb
  obtain ⟨c_p0, c_p1, c_p2, c_p3, f_p0, f_p1, f_p2, f_p3⟩ := reads4 r_p.out
  have l_p := r_p.out.lt
  obtain ⟨c_q0, c_q1, c_q2, c_q3, f_q0, f_q1, f_q2, f_q3⟩ := reads4 r_q.out
  have l_q := r_q.out.lt
  go_wp2_with fail
  refine (W1.out _ _ h_p.out).mono ?_
  rintro e w6 ⟨rfl, hb⟩
  clear c_p0 c_p1 c_p2 c_p3 f_p0 f_p1 f_p2 f_p3 l_p c_q0 c_q1 c_q2 c_q3 f_q0 f_q1 f_q2 f_q3 l_q
  replace r_m := Lib.hid (r_m.out.keep hb)
  replace r_p := Lib.hid (r_p.out.keep hb)
  replace r_q := Lib.hid (r_q.out.keep hb)
  replace h_p := Lib.hid (h_p.out.below hb)
  replace h_q := Lib.hid (h_q.out.below hb)
  replace h_v := Lib.hid (IS.below h_v.out hb)
  replace BB := Lib.hid (below_next BB.out hb)
  clear hb
  obtain ⟨c_p0, c_p1, c_p2, c_p3, f_p0, f_p1, f_p2, f_p3⟩ := reads4 r_p.out
  have l_p := r_p.out.lt
  obtain ⟨c_q0, c_q1, c_q2, c_q3, f_q0, f_q1, f_q2, f_q3⟩ := reads4 r_q.out
  have l_q := r_q.out.lt
  go_wp2_with fail
  refine (W2.out _ _ h_q.out).mono ?_
  rintro e w7 ⟨rfl, hb⟩
  clear c_p0 c_p1 c_p2 c_p3 f_p0 f_p1 f_p2 f_p3 l_p c_q0 c_q1 c_q2 c_q3 f_q0 f_q1 f_q2 f_q3 l_q
  replace r_m := Lib.hid (r_m.out.keep hb)
  replace r_p := Lib.hid (r_p.out.keep hb)
  replace r_q := Lib.hid (r_q.out.keep hb)
  replace h_p := Lib.hid (h_p.out.below hb)
  replace h_q := Lib.hid (h_q.out.below hb)
  replace h_v := Lib.hid (IS.below h_v.out hb)
  replace BB := Lib.hid (below_next BB.out hb)
  clear hb
  go_wp2_with fail
  refine (CA.out _).mono ?_
  rintro e w8 ⟨rfl, hb⟩
  replace r_m := Lib.hid (r_m.out.keep hb)
  replace r_p := Lib.hid (r_p.out.keep hb)
  replace r_q := Lib.hid (r_q.out.keep hb)
  replace h_p := Lib.hid (h_p.out.below hb)
  replace h_q := Lib.hid (h_q.out.below hb)
  replace h_v := Lib.hid (IS.below h_v.out hb)
  replace BB := Lib.hid (below_next BB.out hb)
  clear hb
  go_wp2_with fail
  go_ret
  exact ⟨rfl, BB.out⟩

theorem shearNear_any (v : Value) (zs : List Int) (x y : Int) (w : World) (hv : IS w v zs) :
    Calls Try.prog 10 #[v, .int .i64 x, .int .i64 y] w fun e w' => e = .returned (.bool true) ∧ Below w.heap.size w w' := by
  by_cases hC : shC zs = 0
  · obtain ⟨a, b, cx, cy, rfl, hM⟩ := shC_zero hC
    cases hr : rightI x y 1
    · exact shearNear_far v a b cx cy x y hC hr w hv
    · exact shearNear_ok v a b cx cy x y hC hM hr w hv
  · exact shearNear_bad v zs x y hC w hv

end Go.Proofs.Ytommpclkiiffpaa
