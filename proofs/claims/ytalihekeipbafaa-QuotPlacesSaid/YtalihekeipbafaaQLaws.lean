/- Walks of anamorphlaw02: told, alive, QuotSmall. -/
import Derived.Test.YtalihekeipbafaaRQuot1
set_option linter.unusedVariables false
namespace Go.Proofs.Ytalihekeipbafaa
open Go.RowKit

theorem bne_false {b : Int} (h : b = 0) : (b != 0) = false := by simpa using h
theorem bne_true {b : Int} (h : b ≠ 0) : (b != 0) = true := by simpa using h
theorem r2floor_u (u : Value) (z b : Int) (w : World) (hu : BR w u z) (hz : Wd 1000 z) (hb : I64 b) : Calls Try.prog 43 #[u, .int .i64 b] w (GiveBB (z.fdiv b) (b != 0) w) := by
  by_cases h0 : b = 0
  · subst h0; rw [Int.fdiv_zero]; exact r2floor_zero u z w hu
  · rw [bne_true h0]; exact r2floor u z b w hu hz hb h0
theorem r2near_u (u : Value) (z b : Int) (w : World) (hu : BR w u z) (hz : Wd 1000 z) (hb : I64 b) : Calls Try.prog 44 #[u, .int .i64 b] w (GiveBB (nearI z b) (b != 0) w) := by
  by_cases h0 : b = 0
  · subst h0; rw [show nearI z 0 = 0 by unfold nearI; rw [Int.mul_zero, Int.fdiv_zero]]; exact r2near_zero u z w hu
  · rw [bne_true h0]; exact r2near u z b w hu hz hb h0
def leftI (z b : Int) : Int := if b = 0 then 0 else z.fmod b
theorem r2left_u (u : Value) (z b : Int) (w : World) (hu : BR w u z) (hz : Wd 1000 z) (hb : I64 b) : Calls Try.prog 46 #[u, .int .i64 b] w (GiveB (leftI z b) w) := by
  by_cases h0 : b = 0
  · subst h0; exact r2left_zero u z w hu
  · rw [show leftI z b = z.fmod b from if_neg h0]; exact r2left u z b w hu hz hb h0

theorem fits_63f {z : Int} (h : ¬ I64 z) : fitsB z 63 = false := by
  cases hb : fitsB z 63
  · rfl
  · exact absurd (fits_63.1 hb) h

set_option maxRecDepth 100000 in
set_option maxHeartbeats 2000000 in
theorem told2_any (v : Value) (z' z x : Int) (has is : Bool) (w : World) (hv : BR w v z') (hz : Wd 1400 z') (hzz : has = true → z' = z) (h : TQ z has x is) :
    Calls Try.prog 45 #[.int .i64 x, .bool is, v, .bool has] w fun e w' => e = .returned (.bool true) ∧ Below w.heap.size w w' := by
  obtain ⟨A, m, cap, rfl, -⟩ := id hv.form
  replace hv := Lib.hid hv
  rcases h with ⟨rfl, hr, rfl, rfl⟩ | ⟨hr, rfl, rfl⟩
  · obtain rfl := hzz rfl
    have CF := Lib.hid (fun (a : Value) w1 (ha : BR w1 a z') => rfits_any a z' 63 (by omega) w1 ha hz)
    rw [fits_63.2 hr] at CF
    have CO := Lib.hid (fun w1 => of_any z' hr w1)
    have CC := Lib.hid (fun (a b : Value) w1 (ha : BR w1 a z') (hb : BR w1 b z') => cmp_any a b z' z' w1 ha hb (hz.mid (by omega)) (hz.mid (by omega)))
    rw [cmpI_eq] at CC
    clear hr hz hzz
    go_enter Try.func45, Try.ntmps45
    go_wp2_with fail
    have BB := start1 w #[.bool (sgn z'), .slice A m cap] 27
    obtain ⟨BB, hsz, r_z⟩ := BB
    generalize (w.alloc (.cells #[.bool (sgn z'), .slice A m cap] 27)) = w0 at *
    replace BB := Lib.hid BB
    replace r_z := Lib.hid r_z
    clear hsz
    have h_z := Lib.hid (hv.out.below BB.out)
    refine (CF.out _ _ h_z.out).mono ?_
    rintro e w1 ⟨rfl, hb⟩
    replace r_z := Lib.hid (r_z.out.keep hb)
    replace h_z := Lib.hid (h_z.out.below hb)
    replace BB := Lib.hid (below_next BB.out hb)
    clear hb
    obtain ⟨c_z0, c_z1, f_z0, f_z1⟩ := reads2 r_z.out
    have l_z := r_z.out.lt
    go_wp2_with fail
    clear c_z0 c_z1 f_z0 f_z1 l_z
    have KK := Lib.hid (fun (w9 : World) (h : Below w1.heap.size w1 w9) => (cells2 (r_z.out.keep h) : (w9.cell? ⟨w.heap.size, 0, none⟩ = some (.bool (sgn z')) ∧ w9.cell? ⟨w.heap.size, 1, none⟩ = some (.slice A m cap))))
    have K0 := KK.out w1 (Below.refl _ _)
    have KD := KK.out w1.drew (below_drew (Below.refl _ _))
    go_region_held3 (fun w9 => (w9.cell? ⟨w.heap.size, 0, none⟩ = some (.bool (sgn z')) ∧ w9.cell? ⟨w.heap.size, 1, none⟩ = some (.slice A m cap)))
        (first | with_reducible exact KD | with_reducible exact K0 | with_reducible exact K_w2 | with_reducible exact K_w3)
        (first
          | (go_at_call 24
             refine (CO.out _).mono ?_
             rintro e w2 ⟨v_b, rfl, hb, h_b⟩
             obtain ⟨A_b, n_b, cap_b, rfl, -⟩ := id h_b.form
             replace h_b := Lib.hid h_b
             have B_w2 := Lib.hid (reg_next (w0 := w1) (by repeat (first | with_reducible exact Below.refl _ _ | with_reducible apply below_drew | with_reducible apply below_new)) hb)
             have K_w2 := KK.out _ B_w2.out
             clear hb)
          | (go_at_call 31
             refine (CC.out _ _ _ h_b.out (h_z.out.below B_w2.out)).mono ?_
             rintro e w3 ⟨rfl, hb⟩
             replace h_b := Lib.hid (h_b.out.below hb)
             have B_w3 := Lib.hid (below_next B_w2.out hb)
             have K_w3 := KK.out _ B_w3.out
             clear hb))
    clear KK K0 KD K_w2 K_w3
    replace r_z := Lib.hid (r_z.out.keep B_w3.out)
    replace h_z := Lib.hid (h_z.out.below B_w3.out)
    replace BB := Lib.hid (below_next BB.out B_w3.out)
    clear B_w2 B_w3
    go_wp2_with fail
    go_ret
    exact ⟨rfl, BB.out⟩
  · cases has
    · clear hzz hr hz
      go_enter Try.func45, Try.ntmps45
      go_wp2_with fail
      have BB := start1 w #[.bool (sgn z'), .slice A m cap] 27
      obtain ⟨BB, hsz, r_z⟩ := BB
      generalize (w.alloc (.cells #[.bool (sgn z'), .slice A m cap] 27)) = w0 at *
      replace BB := Lib.hid BB
      replace r_z := Lib.hid r_z
      clear hsz
      go_ret
      exact ⟨rfl, BB.out⟩
    · obtain rfl := hzz rfl
      have CF := Lib.hid (fun (a : Value) w1 (ha : BR w1 a z') => rfits_any a z' 63 (by omega) w1 ha hz)
      rw [fits_63f (fun h => hr ⟨rfl, h⟩)] at CF
      clear hr hz hzz
      go_enter Try.func45, Try.ntmps45
      go_wp2_with fail
      have BB := start1 w #[.bool (sgn z'), .slice A m cap] 27
      obtain ⟨BB, hsz, r_z⟩ := BB
      generalize (w.alloc (.cells #[.bool (sgn z'), .slice A m cap] 27)) = w0 at *
      replace BB := Lib.hid BB
      replace r_z := Lib.hid r_z
      clear hsz
      have h_z := Lib.hid (hv.out.below BB.out)
      refine (CF.out _ _ h_z.out).mono ?_
      rintro e w1 ⟨rfl, hb⟩
      replace r_z := Lib.hid (r_z.out.keep hb)
      replace h_z := Lib.hid (h_z.out.below hb)
      replace BB := Lib.hid (below_next BB.out hb)
      clear hb
      obtain ⟨c_z0, c_z1, f_z0, f_z1⟩ := reads2 r_z.out
      have l_z := r_z.out.lt
      go_wp2_with fail
      go_ret
      exact ⟨rfl, BB.out⟩

theorem TQ.yes {z x : Int} {has is : Bool} (h : TQ z has x is) (h1 : has = true) (h2 : I64 z) : is = true ∧ x = z := by
  rcases h with ⟨_, _, a, b⟩ | ⟨a, _⟩
  · exact ⟨a, b⟩
  · exact absurd ⟨h1, h2⟩ a

theorem qfloor_is (a b q : Int) (ha : I64 a) (hb : I64 b) (h0 : b ≠ 0) (hq : a.fdiv b = q) (hr : I64 q) (w : World) : Calls Try.prog 40 #[.int .i64 a, .int .i64 b] w fun e w' => e = .returned (.tuple #[.int .i64 q, .bool true]) ∧ w = w' := by
  refine (qfloor a b ha hb w).mono ?_
  rintro e w' ⟨x, is, rfl, rfl, h⟩
  subst hq
  obtain ⟨rfl, rfl⟩ := h.yes (bne_true h0) hr
  exact ⟨rfl, rfl⟩
theorem qmod_is (a b q : Int) (ha : I64 a) (hb : I64 b) (h0 : b ≠ 0) (hq : a.fmod b = q) (hr : I64 q) (w : World) : Calls Try.prog 41 #[.int .i64 a, .int .i64 b] w fun e w' => e = .returned (.tuple #[.int .i64 q, .bool true]) ∧ w = w' := by
  refine (qmod a b ha hb w).mono ?_
  rintro e w' ⟨x, is, rfl, rfl, h⟩
  subst hq
  obtain ⟨rfl, rfl⟩ := h.yes (bne_true h0) hr
  exact ⟨rfl, rfl⟩
theorem qnear_is (a b q : Int) (ha : I64 a) (hb : I64 b) (h0 : b ≠ 0) (hq : nearI a b = q) (hr : I64 q) (w : World) : Calls Try.prog 42 #[.int .i64 a, .int .i64 b] w fun e w' => e = .returned (.tuple #[.int .i64 q, .bool true]) ∧ Below w.heap.size w w' := by
  refine (qnear a b ha hb w).mono ?_
  rintro e w' ⟨x, is, rfl, hb, h⟩
  subst hq
  obtain ⟨rfl, rfl⟩ := h.yes (bne_true h0) hr
  exact ⟨rfl, hb⟩

set_option maxRecDepth 100000 in
set_option maxHeartbeats 2000000 in
theorem alive2_any (w : World) : Calls Try.prog 47 #[] w fun e w' => e = .returned (.bool true) ∧ Below w.heap.size w w' := by
  have C1 := Lib.hid (fun w => qfloor_is (-7) 2 (-4) ⟨by omega, by omega⟩ ⟨by omega, by omega⟩ (by omega) (by decide) ⟨by omega, by omega⟩ w)
  have C2 := Lib.hid (fun w => qmod_is (-7) 2 1 ⟨by omega, by omega⟩ ⟨by omega, by omega⟩ (by omega) (by decide) ⟨by omega, by omega⟩ w)
  have C3 := Lib.hid (fun w => qnear_is (-7) 2 (-3) ⟨by omega, by omega⟩ ⟨by omega, by omega⟩ (by omega) (by decide) ⟨by omega, by omega⟩ w)
  have C4 := Lib.hid (fun w => qmod_is 7 (-2) (-1) ⟨by omega, by omega⟩ ⟨by omega, by omega⟩ (by omega) (by decide) ⟨by omega, by omega⟩ w)
  go_enter Try.func47, Try.ntmps47
  go_wp2_with fail
  have BB : Hid (Below w.heap.size w w) := Below.refl _ _
  refine (C1.out _).mono ?_
  rintro e w9 ⟨rfl, rfl⟩
  go_wp2_with fail
  refine (C2.out _).mono ?_
  rintro e w9 ⟨rfl, rfl⟩
  go_wp2_with fail
  refine (C3.out _).mono ?_
  rintro e w1 ⟨rfl, hb⟩
  replace BB := Lib.hid (below_next BB.out hb)
  clear hb
  go_wp2_with fail
  refine (C4.out _).mono ?_
  rintro e w9 ⟨rfl, rfl⟩
  go_wp2_with fail
  go_ret
  exact ⟨rfl, BB.out⟩

theorem leftI_wd {z b : Int} (hb : I64 b) : Wd 63 (leftI z b) := by
  unfold leftI
  split
  · unfold Wd; have := two_pos 63; omega
  · rename_i h0
    have := fmod_bounds (a := z) h0
    refine i64_wd ?_
    unfold I64 at *; omega

set_option maxRecDepth 100000 in
set_option maxHeartbeats 4000000 in
theorem quotSmall_any (a b : Int) (ha : I64 a) (hb : I64 b) (w : World) :
    Calls Try.prog 8 #[.int .i64 a, .int .i64 b] w fun e w' => e = .returned (.bool true) ∧ Below w.heap.size w w' := by
  have CO := Lib.hid (fun w => of_any a ha w)
  have CF := Lib.hid (fun w => qfloor a b ha hb w)
  have CM := Lib.hid (fun w => qmod a b ha hb w)
  have CN := Lib.hid (fun w => qnear a b ha hb w)
  have RF := Lib.hid (fun (u : Value) w (hu : BR w u a) => r2floor_u u a b w hu ((i64_wd ha).up (by omega)) hb)
  have RN := Lib.hid (fun (u : Value) w (hu : BR w u a) => r2near_u u a b w hu ((i64_wd ha).up (by omega)) hb)
  have RL := Lib.hid (fun (u : Value) w (hu : BR w u a) => r2left_u u a b w hu ((i64_wd ha).up (by omega)) hb)
  have w1 : Wd 64 (a.fdiv b) := (i64_wd ha).fdiv
  have w3 : Wd 66 (nearI a b) := by
    have h : Wd 65 (2 * a + b) := by
      have h1 : Wd 64 (2 * a) := by have := (i64_wd ha).add (i64_wd ha); rwa [show a + a = 2 * a by omega] at this
      exact h1.add ((i64_wd hb).up (by omega))
    exact h.fdiv
  have T1 := Lib.hid (fun (v : Value) x is w1' (hv : BR w1' v (a.fdiv b)) (h : TQ (a.fdiv b) (b != 0) x is) => told2_any v _ _ x _ is w1' hv (w1.up (by omega)) (fun _ => rfl) h)
  have T2 := Lib.hid (fun (v : Value) x is w1' (hv : BR w1' v (leftI a b)) (h : TQ (a.fmod b) (b != 0) x is) => told2_any v _ _ x _ is w1' hv ((leftI_wd hb).up (by omega)) (fun h => if_neg (by simpa using h)) h)
  have T3 := Lib.hid (fun (v : Value) x is w1' (hv : BR w1' v (nearI a b)) (h : TQ (nearI a b) (b != 0) x is) => told2_any v _ _ x _ is w1' hv (w3.up (by omega)) (fun _ => rfl) h)
  have CA := Lib.hid (fun w => alive2_any w)
  clear ha hb w1 w3
  generalize a.fdiv b = q at *
  generalize a.fmod b = m at *
  generalize nearI a b = n at *
  generalize leftI a b = l at *
  generalize (b != 0) = has at *
  go_enter Try.func8, Try.ntmps8
  go_wp2_with fail
  have BB : Hid (Below w.heap.size w w) := Below.refl _ _
  refine (CO.out _).mono ?_
  rintro e w1 ⟨v_a, rfl, hb, h_a⟩
  obtain ⟨A_a, n_a, cap_a, rfl, -⟩ := id h_a.form
  replace h_a := Lib.hid h_a
  replace BB := Lib.hid (below_next BB.out hb)
  clear hb
  go_wp2_with fail
  have d_a := Lib.hid (And.intro BB.out.size (True.intro))
  obtain ⟨hb, r_a⟩ := laid w1 #[.bool (sgn (a)), .slice A_a n_a cap_a] 27
  replace h_a := Lib.hid (h_a.out.below hb)
  replace BB := Lib.hid (below_next BB.out hb)
  replace r_a := Lib.hid r_a
  clear hb
  generalize w1.alloc (.cells #[.bool (sgn (a)), .slice A_a n_a cap_a] 27) = w2 at *
  generalize w1.heap.size = g_a at *
  refine (CF.out _).mono ?_
  rintro e w9 ⟨f, one, rfl, rfl, t1⟩
  replace t1 := Lib.hid t1
  go_wp2_with fail
  refine (CM.out _).mono ?_
  rintro e w9 ⟨m', two, rfl, rfl, t2⟩
  replace t2 := Lib.hid t2
  go_wp2_with fail
  refine (CN.out _).mono ?_
  rintro e w3 ⟨n', three, rfl, hb, t3⟩
  replace r_a := Lib.hid (r_a.out.keep hb)
  replace h_a := Lib.hid (h_a.out.below hb)
  replace BB := Lib.hid (below_next BB.out hb)
  clear hb
  replace t3 := Lib.hid t3
  obtain ⟨c_a0, c_a1, f_a0, f_a1⟩ := reads2 r_a.out
  have l_a := r_a.out.lt
  go_wp2_with fail
  refine (RF.out _ _ h_a.out).mono ?_
  rintro e w4 ⟨v_p, rfl, hb, h_p⟩
  clear c_a0 c_a1 f_a0 f_a1 l_a
  replace r_a := Lib.hid (r_a.out.keep hb)
  replace h_a := Lib.hid (h_a.out.below hb)
  replace BB := Lib.hid (below_next BB.out hb)
  clear hb
  obtain ⟨A_p, n_p, cap_p, rfl, -⟩ := id h_p.form
  replace h_p := Lib.hid h_p
  obtain ⟨c_a0, c_a1, f_a0, f_a1⟩ := reads2 r_a.out
  have l_a := r_a.out.lt
  go_wp2_with fail
  clear c_a0 c_a1 f_a0 f_a1 l_a
  have d_p := Lib.hid (And.intro BB.out.size (And.intro r_a.out.lt (True.intro)))
  obtain ⟨hb, r_p⟩ := laid w4 #[.bool (sgn (q)), .slice A_p n_p cap_p] 27
  replace r_a := Lib.hid (r_a.out.keep hb)
  replace h_a := Lib.hid (h_a.out.below hb)
  replace h_p := Lib.hid (h_p.out.below hb)
  replace BB := Lib.hid (below_next BB.out hb)
  replace r_p := Lib.hid r_p
  clear hb
  generalize w4.alloc (.cells #[.bool (sgn (q)), .slice A_p n_p cap_p] 27) = w5 at *
  generalize w4.heap.size = g_p at *
  refine (RN.out _ _ h_a.out).mono ?_
  rintro e w6 ⟨v_q, rfl, hb, h_q⟩
  replace r_a := Lib.hid (r_a.out.keep hb)
  replace r_p := Lib.hid (r_p.out.keep hb)
  replace h_a := Lib.hid (h_a.out.below hb)
  replace h_p := Lib.hid (h_p.out.below hb)
  replace BB := Lib.hid (below_next BB.out hb)
  clear hb
  obtain ⟨A_q, n_q, cap_q, rfl, -⟩ := id h_q.form
  replace h_q := Lib.hid h_q
  obtain ⟨c_a0, c_a1, f_a0, f_a1⟩ := reads2 r_a.out
  have l_a := r_a.out.lt
  obtain ⟨c_p0, c_p1, f_p0, f_p1⟩ := reads2 r_p.out
  have l_p := r_p.out.lt
  go_wp2_with fail
  clear c_a0 c_a1 f_a0 f_a1 l_a c_p0 c_p1 f_p0 f_p1 l_p
  have d_q := Lib.hid (And.intro BB.out.size (And.intro r_a.out.lt (And.intro r_p.out.lt (True.intro))))
  obtain ⟨hb, r_q⟩ := laid w6 #[.bool (sgn (n)), .slice A_q n_q cap_q] 27
  replace r_a := Lib.hid (r_a.out.keep hb)
  replace r_p := Lib.hid (r_p.out.keep hb)
  replace h_a := Lib.hid (h_a.out.below hb)
  replace h_p := Lib.hid (h_p.out.below hb)
  replace h_q := Lib.hid (h_q.out.below hb)
  replace BB := Lib.hid (below_next BB.out hb)
  replace r_q := Lib.hid r_q
  clear hb
  generalize w6.alloc (.cells #[.bool (sgn (n)), .slice A_q n_q cap_q] 27) = w7 at *
  generalize w6.heap.size = g_q at *
  refine (T1.out _ _ _ _ h_p.out t1.out).mono ?_
  rintro e w8 ⟨rfl, hb⟩
  replace r_a := Lib.hid (r_a.out.keep hb)
  replace r_p := Lib.hid (r_p.out.keep hb)
  replace r_q := Lib.hid (r_q.out.keep hb)
  replace h_a := Lib.hid (h_a.out.below hb)
  replace h_p := Lib.hid (h_p.out.below hb)
  replace h_q := Lib.hid (h_q.out.below hb)
  replace BB := Lib.hid (below_next BB.out hb)
  clear hb
  obtain ⟨c_a0, c_a1, f_a0, f_a1⟩ := reads2 r_a.out
  have l_a := r_a.out.lt
  obtain ⟨c_q0, c_q1, f_q0, f_q1⟩ := reads2 r_q.out
  have l_q := r_q.out.lt
  go_wp2_with fail
  refine (RL.out _ _ h_a.out).mono ?_
  rintro e w9 ⟨v_l, rfl, hb, h_l⟩
  obtain ⟨A_l, n_l, cap_l, rfl, -⟩ := id h_l.form
  replace h_l := Lib.hid h_l
  clear c_a0 c_a1 f_a0 f_a1 l_a c_q0 c_q1 f_q0 f_q1 l_q
  replace r_a := Lib.hid (r_a.out.keep hb)
  replace r_p := Lib.hid (r_p.out.keep hb)
  replace r_q := Lib.hid (r_q.out.keep hb)
  replace h_a := Lib.hid (h_a.out.below hb)
  replace h_p := Lib.hid (h_p.out.below hb)
  replace h_q := Lib.hid (h_q.out.below hb)
  replace BB := Lib.hid (below_next BB.out hb)
  clear hb
  go_wp2_with fail
  refine (T2.out _ _ _ _ h_l.out t2.out).mono ?_
  rintro e w10 ⟨rfl, hb⟩
  replace r_a := Lib.hid (r_a.out.keep hb)
  replace r_p := Lib.hid (r_p.out.keep hb)
  replace r_q := Lib.hid (r_q.out.keep hb)
  replace h_a := Lib.hid (h_a.out.below hb)
  replace h_p := Lib.hid (h_p.out.below hb)
  replace h_q := Lib.hid (h_q.out.below hb)
  replace h_l := Lib.hid (h_l.out.below hb)
  replace BB := Lib.hid (below_next BB.out hb)
  clear hb
  obtain ⟨c_q0, c_q1, f_q0, f_q1⟩ := reads2 r_q.out
  have l_q := r_q.out.lt
  go_wp2_with fail
  refine (T3.out _ _ _ _ h_q.out t3.out).mono ?_
  rintro e w11 ⟨rfl, hb⟩
  clear c_q0 c_q1 f_q0 f_q1 l_q
  replace r_a := Lib.hid (r_a.out.keep hb)
  replace r_p := Lib.hid (r_p.out.keep hb)
  replace r_q := Lib.hid (r_q.out.keep hb)
  replace h_a := Lib.hid (h_a.out.below hb)
  replace h_p := Lib.hid (h_p.out.below hb)
  replace h_q := Lib.hid (h_q.out.below hb)
  replace h_l := Lib.hid (h_l.out.below hb)
  replace BB := Lib.hid (below_next BB.out hb)
  clear hb
  go_wp2_with fail
  refine (CA.out _).mono ?_
  rintro e w12 ⟨rfl, hb⟩
  replace r_a := Lib.hid (r_a.out.keep hb)
  replace r_p := Lib.hid (r_p.out.keep hb)
  replace r_q := Lib.hid (r_q.out.keep hb)
  replace h_a := Lib.hid (h_a.out.below hb)
  replace h_p := Lib.hid (h_p.out.below hb)
  replace h_q := Lib.hid (h_q.out.below hb)
  replace h_l := Lib.hid (h_l.out.below hb)
  replace BB := Lib.hid (below_next BB.out hb)
  clear hb
  go_wp2_with fail
  go_ret
  exact ⟨rfl, BB.out⟩

end Go.Proofs.Ytalihekeipbafaa
