/- Contracts of rat.least, Least, Right, Cmp, Add, Mul, and law 3's alive. -/
import Derived.Test.YthdbchghhpoadaaRt1
set_option linter.unusedVariables false
set_option linter.unusedSimpArgs false
namespace Go.Proofs.Ythdbchghhpoadaa
open Go.RowKit
abbrev QT : TypeId := 63
abbrev qv (n d : Int) : Value := .agg #[.int .i64 n, .int .i64 d]
/-- The greatest number that divides both. -/
def gI (n d : Int) : Int := (Int.gcd n d : Int)
theorem gI_pos {n d : Int} (h : 0 < d) : 0 < gI n d := by
  unfold gI
  have := Int.gcd_pos_of_ne_zero_right n (show d ≠ 0 by omega)
  omega
theorem gI_le {n d : Int} (h : 0 < d) : gI n d ≤ d := Int.le_of_dvd h (Int.gcd_dvd_right n d)
theorem gI_dvd_l (n d : Int) : gI n d ∣ n := Int.gcd_dvd_left n d
theorem gI_dvd_r (n d : Int) : gI n d ∣ d := Int.gcd_dvd_right n d
theorem over_exact {z g : Int} (hg : 0 < g) (h : g ∣ z) : (if z < 0 then -((z.natAbs : Int) / g) else (z.natAbs : Int) / g) = z / g := by
  obtain ⟨q, rfl⟩ := h
  rw [Int.mul_ediv_cancel_left _ (by omega)]
  by_cases hz : g * q < 0
  · rw [if_pos hz, show ((g * q).natAbs : Int) = g * (-q) by rw [Int.mul_neg]; omega, Int.mul_ediv_cancel_left _ (by omega)]; omega
  · rw [if_neg hz, show ((g * q).natAbs : Int) = g * q by omega, Int.mul_ediv_cancel_left _ (by omega)]
/-- A fraction in its least form, or none. -/
def LQ (n d x y : Int) (ok : Bool) : Prop := (I64 (n / gI n d) ∧ I64 (d / gI n d) ∧ ok = true ∧ x = n / gI n d ∧ y = d / gI n d) ∨ (¬ (I64 (n / gI n d) ∧ I64 (d / gI n d)) ∧ ok = false ∧ x = 0 ∧ y = 0)
def GiveLQ (n d : Int) (w : World) (e : Ending) (w' : World) : Prop := ∃ x y ok, e = .returned (.tuple #[qv x y, .bool ok]) ∧ Below w.heap.size w w' ∧ LQ n d x y ok
theorem fits_t {z : Int} (h : I64 z) : fitsB z 63 = true := fits_63.2 h
theorem fits_f {z : Int} (h : ¬ I64 z) : fitsB z 63 = false := by
  cases hb : fitsB z 63
  · rfl
  · exact absurd (fits_63.1 hb) h
set_option maxRecDepth 100000 in
set_option maxHeartbeats 4000000 in
theorem rleast (n d nh nl dh dl : Int) (hn : W128 n nh nl) (hd : W128 d dh dl) (hmn : IM n) (hmd : 0 < d ∧ IM d) (w : World) : Calls Try.prog 83 #[wv nh nl, wv dh dl] w (GiveLQ n d w) := by
  have CG := Lib.hid (fun w => rgcdW n d nh nl dh dl hn hd hmn hmd.2 w)
  change Hid (∀ w, Calls _ _ _ w (GiveW (gI n d) w)) at CG
  have g0 := gI_pos (n := n) hmd.1
  have g1 : IM (gI n d) := by have := gI_le (n := n) hmd.1; have := hmd.2; unfold IM at *; omega
  have C1 := Lib.hid (fun w gh gl (hg : W128 (gI n d) gh gl) => roverW n (gI n d) nh nl gh gl hn hg hmn ⟨g0, g1⟩ w)
  have C2 := Lib.hid (fun w gh gl (hg : W128 (gI n d) gh gl) => roverW d (gI n d) dh dl gh gl hd hg hmd.2 ⟨g0, g1⟩ w)
  rw [over_exact g0 (gI_dvd_l n d)] at C1
  rw [over_exact g0 (gI_dvd_r n d)] at C2
  unfold GiveLQ LQ
  generalize n / gI n d = N at *
  generalize d / gI n d = D at *
  generalize gI n d = G at *
  clear g0 g1 hn hd hmn hmd
  by_cases hN : I64 N
  · rw [fits_t hN] at C1
    have eN : fitX N = N := by unfold fitX; rw [fits_t hN]; rfl
    rw [eN] at C1
    by_cases hD : I64 D
    · rw [fits_t hD] at C2
      have eD : fitX D = D := by unfold fitX; rw [fits_t hD]; rfl
      rw [eD] at C2
      clear eN eD
      replace hN := Lib.hid hN; replace hD := Lib.hid hD
      go_enter Try.func83, Try.ntmps83
      go_wp2_with fail
      have BB := start3 w #[.int .i64 nh, .int .u64 nl] WT #[.int .i64 dh, .int .u64 dl] WT #[.int .i64 0, .int .i64 0] QT
      obtain ⟨BB, hsz, r_n, r_d, r_res⟩ := BB
      generalize (((w.alloc (.cells #[.int .i64 nh, .int .u64 nl] WT)).alloc (.cells #[.int .i64 dh, .int .u64 dl] WT)).alloc (.cells #[.int .i64 0, .int .i64 0] QT)) = w0 at *
      replace BB := Lib.hid BB
      replace r_n := Lib.hid r_n
      replace r_d := Lib.hid r_d
      replace r_res := Lib.hid r_res
      clear hsz
      obtain ⟨c_n0, c_n1, f_n0, f_n1⟩ := reads2 r_n.out
      have l_n := r_n.out.lt
      obtain ⟨c_d0, c_d1, f_d0, f_d1⟩ := reads2 r_d.out
      have l_d := r_d.out.lt
      go_wp2_with fail
      refine (CG.out _).mono ?_
      rintro e w1 ⟨gh, gl, rfl, hb, hg⟩
      clear c_n0 c_n1 f_n0 f_n1 l_n c_d0 c_d1 f_d0 f_d1 l_d
      replace r_n := Lib.hid (r_n.out.keep hb)
      replace r_d := Lib.hid (r_d.out.keep hb)
      replace r_res := Lib.hid (r_res.out.keep hb)
      replace BB := Lib.hid (below_next BB.out hb)
      clear hb
      have hg := Lib.hid hg
      go_upto_region 2 with fail
      have d_g := Lib.hid (And.intro BB.out.size (And.intro r_n.out.lt (And.intro r_d.out.lt (And.intro r_res.out.lt (True.intro)))))
      obtain ⟨hb, r_g⟩ := laid w1 #[.int .i64 gh, .int .u64 gl] WT
      replace r_n := Lib.hid (r_n.out.keep hb)
      replace r_d := Lib.hid (r_d.out.keep hb)
      replace r_res := Lib.hid (r_res.out.keep hb)
      replace BB := Lib.hid (below_next BB.out hb)
      replace r_g := Lib.hid r_g
      clear hb
      generalize w1.alloc (.cells #[.int .i64 gh, .int .u64 gl] WT) = w2 at *
      generalize w1.heap.size = g_g at *
      obtain ⟨c_n0, c_n1, f_n0, f_n1⟩ := reads2 r_n.out
      have l_n := r_n.out.lt
      obtain ⟨c_g0, c_g1, f_g0, f_g1⟩ := reads2 r_g.out
      have l_g := r_g.out.lt
      go_wp2_with fail
      refine (C1.out _ _ _ hg.out).mono ?_
      rintro e w3 ⟨rfl, hb⟩
      clear c_n0 c_n1 f_n0 f_n1 l_n c_g0 c_g1 f_g0 f_g1 l_g
      replace r_n := Lib.hid (r_n.out.keep hb)
      replace r_d := Lib.hid (r_d.out.keep hb)
      replace r_res := Lib.hid (r_res.out.keep hb)
      replace r_g := Lib.hid (r_g.out.keep hb)
      replace BB := Lib.hid (below_next BB.out hb)
      clear hb
      obtain ⟨c_d0, c_d1, f_d0, f_d1⟩ := reads2 r_d.out
      have l_d := r_d.out.lt
      obtain ⟨c_g0, c_g1, f_g0, f_g1⟩ := reads2 r_g.out
      have l_g := r_g.out.lt
      go_wp2_with fail
      refine (C2.out _ _ _ hg.out).mono ?_
      rintro e w4 ⟨rfl, hb⟩
      clear c_d0 c_d1 f_d0 f_d1 l_d c_g0 c_g1 f_g0 f_g1 l_g
      replace r_n := Lib.hid (r_n.out.keep hb)
      replace r_d := Lib.hid (r_d.out.keep hb)
      replace r_res := Lib.hid (r_res.out.keep hb)
      replace r_g := Lib.hid (r_g.out.keep hb)
      replace BB := Lib.hid (below_next BB.out hb)
      clear hb
      obtain ⟨c_res0, c_res1, f_res0, f_res1⟩ := reads2 r_res.out
      have l_res := r_res.out.lt
      go_wp2_with fail
      refine bodyPost_ret (v := .tuple #[qv N D, .bool true]) (by unfold results; simp only [Try.results83]; go_simp) rfl ?_
      exact ⟨N, D, true, rfl, below_set2 BB.out (by omega) _ _, .inl ⟨hN.out, hD.out, rfl, rfl, rfl⟩⟩
    · rw [fits_f hD] at C2
      clear eN
      replace hN := Lib.hid hN; replace hD := Lib.hid hD
      generalize fitX D = X at *
      go_enter Try.func83, Try.ntmps83
      go_wp2_with fail
      have BB := start3 w #[.int .i64 nh, .int .u64 nl] WT #[.int .i64 dh, .int .u64 dl] WT #[.int .i64 0, .int .i64 0] QT
      obtain ⟨BB, hsz, r_n, r_d, r_res⟩ := BB
      generalize (((w.alloc (.cells #[.int .i64 nh, .int .u64 nl] WT)).alloc (.cells #[.int .i64 dh, .int .u64 dl] WT)).alloc (.cells #[.int .i64 0, .int .i64 0] QT)) = w0 at *
      replace BB := Lib.hid BB
      replace r_n := Lib.hid r_n
      replace r_d := Lib.hid r_d
      replace r_res := Lib.hid r_res
      clear hsz
      obtain ⟨c_n0, c_n1, f_n0, f_n1⟩ := reads2 r_n.out
      have l_n := r_n.out.lt
      obtain ⟨c_d0, c_d1, f_d0, f_d1⟩ := reads2 r_d.out
      have l_d := r_d.out.lt
      go_wp2_with fail
      refine (CG.out _).mono ?_
      rintro e w1 ⟨gh, gl, rfl, hb, hg⟩
      clear c_n0 c_n1 f_n0 f_n1 l_n c_d0 c_d1 f_d0 f_d1 l_d
      replace r_n := Lib.hid (r_n.out.keep hb)
      replace r_d := Lib.hid (r_d.out.keep hb)
      replace r_res := Lib.hid (r_res.out.keep hb)
      replace BB := Lib.hid (below_next BB.out hb)
      clear hb
      have hg := Lib.hid hg
      go_upto_region 2 with fail
      have d_g := Lib.hid (And.intro BB.out.size (And.intro r_n.out.lt (And.intro r_d.out.lt (And.intro r_res.out.lt (True.intro)))))
      obtain ⟨hb, r_g⟩ := laid w1 #[.int .i64 gh, .int .u64 gl] WT
      replace r_n := Lib.hid (r_n.out.keep hb)
      replace r_d := Lib.hid (r_d.out.keep hb)
      replace r_res := Lib.hid (r_res.out.keep hb)
      replace BB := Lib.hid (below_next BB.out hb)
      replace r_g := Lib.hid r_g
      clear hb
      generalize w1.alloc (.cells #[.int .i64 gh, .int .u64 gl] WT) = w2 at *
      generalize w1.heap.size = g_g at *
      obtain ⟨c_n0, c_n1, f_n0, f_n1⟩ := reads2 r_n.out
      have l_n := r_n.out.lt
      obtain ⟨c_g0, c_g1, f_g0, f_g1⟩ := reads2 r_g.out
      have l_g := r_g.out.lt
      go_wp2_with fail
      refine (C1.out _ _ _ hg.out).mono ?_
      rintro e w3 ⟨rfl, hb⟩
      clear c_n0 c_n1 f_n0 f_n1 l_n c_g0 c_g1 f_g0 f_g1 l_g
      replace r_n := Lib.hid (r_n.out.keep hb)
      replace r_d := Lib.hid (r_d.out.keep hb)
      replace r_res := Lib.hid (r_res.out.keep hb)
      replace r_g := Lib.hid (r_g.out.keep hb)
      replace BB := Lib.hid (below_next BB.out hb)
      clear hb
      obtain ⟨c_d0, c_d1, f_d0, f_d1⟩ := reads2 r_d.out
      have l_d := r_d.out.lt
      obtain ⟨c_g0, c_g1, f_g0, f_g1⟩ := reads2 r_g.out
      have l_g := r_g.out.lt
      go_wp2_with fail
      refine (C2.out _ _ _ hg.out).mono ?_
      rintro e w4 ⟨rfl, hb⟩
      clear c_d0 c_d1 f_d0 f_d1 l_d c_g0 c_g1 f_g0 f_g1 l_g
      replace r_n := Lib.hid (r_n.out.keep hb)
      replace r_d := Lib.hid (r_d.out.keep hb)
      replace r_res := Lib.hid (r_res.out.keep hb)
      replace r_g := Lib.hid (r_g.out.keep hb)
      replace BB := Lib.hid (below_next BB.out hb)
      clear hb
      obtain ⟨c_res0, c_res1, f_res0, f_res1⟩ := reads2 r_res.out
      have l_res := r_res.out.lt
      go_wp2_with fail
      refine bodyPost_ret (v := .tuple #[qv 0 0, .bool false]) (by unfold results; simp only [Try.results83]; go_simp) rfl ?_
      exact ⟨0, 0, false, rfl, below_set2 BB.out (by omega) _ _, .inr ⟨fun h => hD.out h.2, rfl, rfl, rfl⟩⟩
  · rw [fits_f hN] at C1
    replace hN := Lib.hid hN
    generalize fitX N = X at *
    generalize fitX D = Y at *
    generalize fitsB D 63 = ok2 at *
    go_enter Try.func83, Try.ntmps83
    go_wp2_with fail
    have BB := start3 w #[.int .i64 nh, .int .u64 nl] WT #[.int .i64 dh, .int .u64 dl] WT #[.int .i64 0, .int .i64 0] QT
    obtain ⟨BB, hsz, r_n, r_d, r_res⟩ := BB
    generalize (((w.alloc (.cells #[.int .i64 nh, .int .u64 nl] WT)).alloc (.cells #[.int .i64 dh, .int .u64 dl] WT)).alloc (.cells #[.int .i64 0, .int .i64 0] QT)) = w0 at *
    replace BB := Lib.hid BB
    replace r_n := Lib.hid r_n
    replace r_d := Lib.hid r_d
    replace r_res := Lib.hid r_res
    clear hsz
    obtain ⟨c_n0, c_n1, f_n0, f_n1⟩ := reads2 r_n.out
    have l_n := r_n.out.lt
    obtain ⟨c_d0, c_d1, f_d0, f_d1⟩ := reads2 r_d.out
    have l_d := r_d.out.lt
    go_wp2_with fail
    refine (CG.out _).mono ?_
    rintro e w1 ⟨gh, gl, rfl, hb, hg⟩
    clear c_n0 c_n1 f_n0 f_n1 l_n c_d0 c_d1 f_d0 f_d1 l_d
    replace r_n := Lib.hid (r_n.out.keep hb)
    replace r_d := Lib.hid (r_d.out.keep hb)
    replace r_res := Lib.hid (r_res.out.keep hb)
    replace BB := Lib.hid (below_next BB.out hb)
    clear hb
    have hg := Lib.hid hg
    go_upto_region 2 with fail
    have d_g := Lib.hid (And.intro BB.out.size (And.intro r_n.out.lt (And.intro r_d.out.lt (And.intro r_res.out.lt (True.intro)))))
    obtain ⟨hb, r_g⟩ := laid w1 #[.int .i64 gh, .int .u64 gl] WT
    replace r_n := Lib.hid (r_n.out.keep hb)
    replace r_d := Lib.hid (r_d.out.keep hb)
    replace r_res := Lib.hid (r_res.out.keep hb)
    replace BB := Lib.hid (below_next BB.out hb)
    replace r_g := Lib.hid r_g
    clear hb
    generalize w1.alloc (.cells #[.int .i64 gh, .int .u64 gl] WT) = w2 at *
    generalize w1.heap.size = g_g at *
    obtain ⟨c_n0, c_n1, f_n0, f_n1⟩ := reads2 r_n.out
    have l_n := r_n.out.lt
    obtain ⟨c_g0, c_g1, f_g0, f_g1⟩ := reads2 r_g.out
    have l_g := r_g.out.lt
    go_wp2_with fail
    refine (C1.out _ _ _ hg.out).mono ?_
    rintro e w3 ⟨rfl, hb⟩
    clear c_n0 c_n1 f_n0 f_n1 l_n c_g0 c_g1 f_g0 f_g1 l_g
    replace r_n := Lib.hid (r_n.out.keep hb)
    replace r_d := Lib.hid (r_d.out.keep hb)
    replace r_res := Lib.hid (r_res.out.keep hb)
    replace r_g := Lib.hid (r_g.out.keep hb)
    replace BB := Lib.hid (below_next BB.out hb)
    clear hb
    obtain ⟨c_d0, c_d1, f_d0, f_d1⟩ := reads2 r_d.out
    have l_d := r_d.out.lt
    obtain ⟨c_g0, c_g1, f_g0, f_g1⟩ := reads2 r_g.out
    have l_g := r_g.out.lt
    go_wp2_with fail
    refine (C2.out _ _ _ hg.out).mono ?_
    rintro e w4 ⟨rfl, hb⟩
    clear c_d0 c_d1 f_d0 f_d1 l_d c_g0 c_g1 f_g0 f_g1 l_g
    replace r_n := Lib.hid (r_n.out.keep hb)
    replace r_d := Lib.hid (r_d.out.keep hb)
    replace r_res := Lib.hid (r_res.out.keep hb)
    replace r_g := Lib.hid (r_g.out.keep hb)
    replace BB := Lib.hid (below_next BB.out hb)
    clear hb
    obtain ⟨c_res0, c_res1, f_res0, f_res1⟩ := reads2 r_res.out
    have l_res := r_res.out.lt
    go_wp2_with fail
    refine bodyPost_ret (v := .tuple #[qv 0 0, .bool false]) (by unfold results; simp only [Try.results83]; go_simp) rfl ?_
    exact ⟨0, 0, false, rfl, below_set2 BB.out (by omega) _ _, .inr ⟨fun h => hN.out h.1, rfl, rfl, rfl⟩⟩
theorem qright (n d : Int) (w : World) : Calls Try.prog 50 #[qv n d] w fun e w' => e = .returned (.bool (decide (d > 0))) ∧ Below w.heap.size w w' := by
  go_enter Try.func50, Try.ntmps50
  go_wp2_with fail
  have BB := start1 w #[.int .i64 n, .int .i64 d] QT
  obtain ⟨BB, hsz, r_a⟩ := BB
  generalize (w.alloc (.cells #[.int .i64 n, .int .i64 d] QT)) = w0 at *
  replace BB := Lib.hid BB
  replace r_a := Lib.hid r_a
  clear hsz
  obtain ⟨c_a0, c_a1, f_a0, f_a1⟩ := reads2 r_a.out
  have l_a := r_a.out.lt
  go_wp2_with fail
  go_ret
  exact ⟨rfl, BB.out⟩
theorem im_i64 {z : Int} (h : I64 z) : IM z := by unfold I64 at h; unfold IM; omega
theorem im_mul {x y : Int} (hx : I64 x) (hy : -9223372036854775807 ≤ y ∧ y ≤ 9223372036854775807) : -85070591730234615856620279821087277056 ≤ x * y ∧ x * y ≤ 85070591730234615856620279821087277056 := by
  have h1 : x.natAbs ≤ 9223372036854775808 := by unfold I64 at hx; omega
  have h2 : y.natAbs ≤ 9223372036854775807 := by omega
  have h3 := Nat.mul_le_mul h1 h2
  rw [← Int.natAbs_mul] at h3
  omega
theorem im_mul2 {x y : Int} (hx : I64 x) (hy : I64 y) : IM (x * y) := by
  have h1 : x.natAbs ≤ 9223372036854775808 := by unfold I64 at hx; omega
  have h2 : y.natAbs ≤ 9223372036854775808 := by unfold I64 at hy; omega
  have h3 := Nat.mul_le_mul h1 h2
  rw [← Int.natAbs_mul] at h3
  unfold IM
  omega
/-- What is told where a fraction is none. -/
def GiveNQ (w : World) (e : Ending) (w' : World) : Prop := e = .returned (.tuple #[qv 0 0, .bool false]) ∧ Below w.heap.size w w'
set_option maxRecDepth 100000 in
theorem qcmp_no (n1 d1 n2 d2 : Int) (h : ¬ (0 < d1 ∧ 0 < d2)) (w : World) : Calls Try.prog 56 #[qv n1 d1, qv n2 d2] w (fun e w' => e = .returned (.tuple #[.int .i64 0, .bool false]) ∧ Below w.heap.size w w') := by
  have C1 := Lib.hid (fun w => qright n1 d1 w)
  have C2 := Lib.hid (fun w => qright n2 d2 w)
  by_cases h1 : 0 < d1
  · rw [decide_eq_true (show d1 > 0 from h1)] at C1
    rw [decide_eq_false (show ¬ d2 > 0 from fun h2 => h ⟨h1, h2⟩)] at C2
    clear h h1
    go_enter Try.func56, Try.ntmps56
    go_wp2_with fail
    have BB := start2 w #[.int .i64 n1, .int .i64 d1] QT #[.int .i64 n2, .int .i64 d2] QT
    obtain ⟨BB, hsz, r_a, r_b⟩ := BB
    generalize ((w.alloc (.cells #[.int .i64 n1, .int .i64 d1] QT)).alloc (.cells #[.int .i64 n2, .int .i64 d2] QT)) = w0 at *
    replace BB := Lib.hid BB
    replace r_a := Lib.hid r_a
    replace r_b := Lib.hid r_b
    clear hsz
    obtain ⟨c_a0, c_a1, f_a0, f_a1⟩ := reads2 r_a.out
    have l_a := r_a.out.lt
    go_wp2_with fail
    refine (C1.out _).mono ?_
    rintro e w1 ⟨rfl, hb⟩
    clear c_a0 c_a1 f_a0 f_a1 l_a
    replace r_a := Lib.hid (r_a.out.keep hb)
    replace r_b := Lib.hid (r_b.out.keep hb)
    replace BB := Lib.hid (below_next BB.out hb)
    clear hb
    obtain ⟨c_b0, c_b1, f_b0, f_b1⟩ := reads2 r_b.out
    have l_b := r_b.out.lt
    go_wp2_with fail
    refine (C2.out _).mono ?_
    rintro e w2 ⟨rfl, hb⟩
    clear c_b0 c_b1 f_b0 f_b1 l_b
    replace r_a := Lib.hid (r_a.out.keep hb)
    replace r_b := Lib.hid (r_b.out.keep hb)
    replace BB := Lib.hid (below_next BB.out hb)
    clear hb
    skip
    go_wp2_with fail
    refine bodyPost_ret (v := .tuple #[.int .i64 0, .bool false]) (by unfold results; simp only [Try.results56]; go_simp) rfl ?_
    exact ⟨rfl, BB.out⟩
  · rw [decide_eq_false (show ¬ d1 > 0 from h1)] at C1
    clear h h1 C2
    go_enter Try.func56, Try.ntmps56
    go_wp2_with fail
    have BB := start2 w #[.int .i64 n1, .int .i64 d1] QT #[.int .i64 n2, .int .i64 d2] QT
    obtain ⟨BB, hsz, r_a, r_b⟩ := BB
    generalize ((w.alloc (.cells #[.int .i64 n1, .int .i64 d1] QT)).alloc (.cells #[.int .i64 n2, .int .i64 d2] QT)) = w0 at *
    replace BB := Lib.hid BB
    replace r_a := Lib.hid r_a
    replace r_b := Lib.hid r_b
    clear hsz
    obtain ⟨c_a0, c_a1, f_a0, f_a1⟩ := reads2 r_a.out
    have l_a := r_a.out.lt
    go_wp2_with fail
    refine (C1.out _).mono ?_
    rintro e w1 ⟨rfl, hb⟩
    clear c_a0 c_a1 f_a0 f_a1 l_a
    replace r_a := Lib.hid (r_a.out.keep hb)
    replace r_b := Lib.hid (r_b.out.keep hb)
    replace BB := Lib.hid (below_next BB.out hb)
    clear hb
    skip
    go_wp2_with fail
    refine bodyPost_ret (v := .tuple #[.int .i64 0, .bool false]) (by unfold results; simp only [Try.results56]; go_simp) rfl ?_
    exact ⟨rfl, BB.out⟩
set_option maxRecDepth 100000 in
theorem qadd_no (n1 d1 n2 d2 : Int) (h : ¬ (0 < d1 ∧ 0 < d2)) (w : World) : Calls Try.prog 55 #[qv n1 d1, qv n2 d2] w (fun e w' => e = .returned (.tuple #[qv 0 0, .bool false]) ∧ Below w.heap.size w w') := by
  have C1 := Lib.hid (fun w => qright n1 d1 w)
  have C2 := Lib.hid (fun w => qright n2 d2 w)
  by_cases h1 : 0 < d1
  · rw [decide_eq_true (show d1 > 0 from h1)] at C1
    rw [decide_eq_false (show ¬ d2 > 0 from fun h2 => h ⟨h1, h2⟩)] at C2
    clear h h1
    go_enter Try.func55, Try.ntmps55
    go_wp2_with fail
    have BB := start3 w #[.int .i64 n1, .int .i64 d1] QT #[.int .i64 n2, .int .i64 d2] QT #[.int .i64 0, .int .i64 0] QT
    obtain ⟨BB, hsz, r_a, r_b, r_res⟩ := BB
    generalize (((w.alloc (.cells #[.int .i64 n1, .int .i64 d1] QT)).alloc (.cells #[.int .i64 n2, .int .i64 d2] QT)).alloc (.cells #[.int .i64 0, .int .i64 0] QT)) = w0 at *
    replace BB := Lib.hid BB
    replace r_a := Lib.hid r_a
    replace r_b := Lib.hid r_b
    replace r_res := Lib.hid r_res
    clear hsz
    obtain ⟨c_a0, c_a1, f_a0, f_a1⟩ := reads2 r_a.out
    have l_a := r_a.out.lt
    go_wp2_with fail
    refine (C1.out _).mono ?_
    rintro e w1 ⟨rfl, hb⟩
    clear c_a0 c_a1 f_a0 f_a1 l_a
    replace r_a := Lib.hid (r_a.out.keep hb)
    replace r_b := Lib.hid (r_b.out.keep hb)
    replace r_res := Lib.hid (r_res.out.keep hb)
    replace BB := Lib.hid (below_next BB.out hb)
    clear hb
    obtain ⟨c_b0, c_b1, f_b0, f_b1⟩ := reads2 r_b.out
    have l_b := r_b.out.lt
    go_wp2_with fail
    refine (C2.out _).mono ?_
    rintro e w2 ⟨rfl, hb⟩
    clear c_b0 c_b1 f_b0 f_b1 l_b
    replace r_a := Lib.hid (r_a.out.keep hb)
    replace r_b := Lib.hid (r_b.out.keep hb)
    replace r_res := Lib.hid (r_res.out.keep hb)
    replace BB := Lib.hid (below_next BB.out hb)
    clear hb
    obtain ⟨c_res0, c_res1, f_res0, f_res1⟩ := reads2 r_res.out
    have l_res := r_res.out.lt
    go_wp2_with fail
    refine bodyPost_ret (v := .tuple #[qv 0 0, .bool false]) (by unfold results; simp only [Try.results55]; go_simp) rfl ?_
    exact ⟨rfl, below_set2 BB.out (by omega) _ _⟩
  · rw [decide_eq_false (show ¬ d1 > 0 from h1)] at C1
    clear h h1 C2
    go_enter Try.func55, Try.ntmps55
    go_wp2_with fail
    have BB := start3 w #[.int .i64 n1, .int .i64 d1] QT #[.int .i64 n2, .int .i64 d2] QT #[.int .i64 0, .int .i64 0] QT
    obtain ⟨BB, hsz, r_a, r_b, r_res⟩ := BB
    generalize (((w.alloc (.cells #[.int .i64 n1, .int .i64 d1] QT)).alloc (.cells #[.int .i64 n2, .int .i64 d2] QT)).alloc (.cells #[.int .i64 0, .int .i64 0] QT)) = w0 at *
    replace BB := Lib.hid BB
    replace r_a := Lib.hid r_a
    replace r_b := Lib.hid r_b
    replace r_res := Lib.hid r_res
    clear hsz
    obtain ⟨c_a0, c_a1, f_a0, f_a1⟩ := reads2 r_a.out
    have l_a := r_a.out.lt
    go_wp2_with fail
    refine (C1.out _).mono ?_
    rintro e w1 ⟨rfl, hb⟩
    clear c_a0 c_a1 f_a0 f_a1 l_a
    replace r_a := Lib.hid (r_a.out.keep hb)
    replace r_b := Lib.hid (r_b.out.keep hb)
    replace r_res := Lib.hid (r_res.out.keep hb)
    replace BB := Lib.hid (below_next BB.out hb)
    clear hb
    obtain ⟨c_res0, c_res1, f_res0, f_res1⟩ := reads2 r_res.out
    have l_res := r_res.out.lt
    go_wp2_with fail
    refine bodyPost_ret (v := .tuple #[qv 0 0, .bool false]) (by unfold results; simp only [Try.results55]; go_simp) rfl ?_
    exact ⟨rfl, below_set2 BB.out (by omega) _ _⟩
set_option maxRecDepth 100000 in
set_option maxHeartbeats 4000000 in
theorem qcmp (n1 d1 n2 d2 : Int) (h1 : I64 n1) (h2 : I64 d1) (h3 : I64 n2) (h4 : I64 d2) (p1 : 0 < d1) (p2 : 0 < d2) (w : World) : Calls Try.prog 56 #[qv n1 d1, qv n2 d2] w (fun e w' => e = .returned (.tuple #[.int .i64 (cmpI (n1 * d2) (n2 * d1)), .bool true]) ∧ Below w.heap.size w w') := by
  have C1 := Lib.hid (fun w => qright n1 d1 w)
  have C2 := Lib.hid (fun w => qright n2 d2 w)
  rw [decide_eq_true (show d1 > 0 from p1)] at C1
  rw [decide_eq_true (show d2 > 0 from p2)] at C2
  have M1 := Lib.hid (fun w => wmul n1 d2 h1 h4 w)
  have M2 := Lib.hid (fun w => wmul n2 d1 h3 h2 w)
  have CC := Lib.hid (fun x xh xl y yh yl w hx hy => wcmp x y xh xl yh yl hx hy w)
  generalize n1 * d2 = P at *
  generalize n2 * d1 = Q at *
  clear h1 h2 h3 h4 p1 p2
  go_enter Try.func56, Try.ntmps56
  go_wp2_with fail
  have BB := start2 w #[.int .i64 n1, .int .i64 d1] QT #[.int .i64 n2, .int .i64 d2] QT
  obtain ⟨BB, hsz, r_a, r_b⟩ := BB
  generalize ((w.alloc (.cells #[.int .i64 n1, .int .i64 d1] QT)).alloc (.cells #[.int .i64 n2, .int .i64 d2] QT)) = w0 at *
  replace BB := Lib.hid BB
  replace r_a := Lib.hid r_a
  replace r_b := Lib.hid r_b
  clear hsz
  obtain ⟨c_a0, c_a1, f_a0, f_a1⟩ := reads2 r_a.out
  have l_a := r_a.out.lt
  go_wp2_with fail
  refine (C1.out _).mono ?_
  rintro e w1 ⟨rfl, hb⟩
  clear c_a0 c_a1 f_a0 f_a1 l_a
  replace r_a := Lib.hid (r_a.out.keep hb)
  replace r_b := Lib.hid (r_b.out.keep hb)
  replace BB := Lib.hid (below_next BB.out hb)
  clear hb
  obtain ⟨c_b0, c_b1, f_b0, f_b1⟩ := reads2 r_b.out
  have l_b := r_b.out.lt
  go_wp2_with fail
  refine (C2.out _).mono ?_
  rintro e w2 ⟨rfl, hb⟩
  clear c_b0 c_b1 f_b0 f_b1 l_b
  replace r_a := Lib.hid (r_a.out.keep hb)
  replace r_b := Lib.hid (r_b.out.keep hb)
  replace BB := Lib.hid (below_next BB.out hb)
  clear hb
  go_wp2_with fail
  have KK := Lib.hid (fun (w9 : World) (h : Below w2.heap.size w2 w9) => (⟨cells2 (r_a.out.keep h), cells2 (r_b.out.keep h)⟩ : (w9.cell? ⟨w.heap.size, 0, none⟩ = some (.int .i64 n1) ∧ w9.cell? ⟨w.heap.size, 1, none⟩ = some (.int .i64 d1)) ∧ (w9.cell? ⟨w.heap.size + 1, 0, none⟩ = some (.int .i64 n2) ∧ w9.cell? ⟨w.heap.size + 1, 1, none⟩ = some (.int .i64 d2))))
  have K0 := KK.out w2 (Below.refl _ _)
  have KD := KK.out w2.drew (below_drew (Below.refl _ _))
  have tok0 : Hid True := trivial
  have tok1 : Hid True := trivial
  go_region_held3 (fun w9 => (w9.cell? ⟨w.heap.size, 0, none⟩ = some (.int .i64 n1) ∧ w9.cell? ⟨w.heap.size, 1, none⟩ = some (.int .i64 d1)) ∧ (w9.cell? ⟨w.heap.size + 1, 0, none⟩ = some (.int .i64 n2) ∧ w9.cell? ⟨w.heap.size + 1, 1, none⟩ = some (.int .i64 d2)))
      (first | with_reducible exact KD | with_reducible exact K0 | with_reducible exact K_w3 | with_reducible exact K_w4 | with_reducible exact K_w5)
      (first
        | (go_at_call 82
           have t_k := tok0
           refine (M1.out _).mono ?_
           rintro e w3 ⟨xh, xl, rfl, hb, hx⟩
           have B_w3 := Lib.hid (reg_next (w0 := w2) (by repeat (first | with_reducible exact Below.refl _ _ | with_reducible apply below_drew | with_reducible apply below_new)) hb)
           have K_w3 := KK.out _ B_w3.out
           clear hb
           clear t_k tok0)
        | (go_at_call 82
           have t_k := tok1
           refine (M2.out _).mono ?_
           rintro e w4 ⟨yh, yl, rfl, hb, hy⟩
           have B_w4 := Lib.hid (below_next B_w3.out hb)
           have K_w4 := KK.out _ B_w4.out
           clear hb
           clear t_k tok1)
        | (go_at_call 84
           refine (CC.out _ _ _ _ _ _ _ hx hy).mono ?_
           rintro e w5 ⟨rfl, hb⟩
           have B_w5 := Lib.hid (below_next B_w4.out hb)
           have K_w5 := KK.out _ B_w5.out
           clear hb))
  clear KK K0 KD K_w3 K_w4 K_w5
  replace r_a := Lib.hid (r_a.out.keep B_w5.out)
  replace r_b := Lib.hid (r_b.out.keep B_w5.out)
  replace BB := Lib.hid (below_next BB.out B_w5.out)
  clear B_w3 B_w4 B_w5
  go_wp2_with fail
  refine bodyPost_ret (v := .tuple #[.int .i64 (cmpI P Q), .bool true]) (by unfold results; simp only [Try.results56]; go_simp) rfl ?_
  exact ⟨rfl, BB.out⟩
set_option maxRecDepth 100000 in
set_option maxHeartbeats 4000000 in
theorem qadd (n1 d1 n2 d2 : Int) (h1 : I64 n1) (h2 : I64 d1) (h3 : I64 n2) (h4 : I64 d2) (p1 : 0 < d1) (p2 : 0 < d2) (w : World) : Calls Try.prog 55 #[qv n1 d1, qv n2 d2] w (GiveLQ (n1 * d2 + n2 * d1) (d1 * d2) w) := by
  have C1 := Lib.hid (fun w => qright n1 d1 w)
  have C2 := Lib.hid (fun w => qright n2 d2 w)
  rw [decide_eq_true (show d1 > 0 from p1)] at C1
  rw [decide_eq_true (show d2 > 0 from p2)] at C2
  have M1 := Lib.hid (fun w => wmul n1 d2 h1 h4 w)
  have M2 := Lib.hid (fun w => wmul n2 d1 h3 h2 w)
  have M3 := Lib.hid (fun w => wmul d1 d2 h2 h4 w)
  have CA := Lib.hid (fun w x xh xl y yh yl hx hy => wadd x y xh xl yh yl hx hy w)
  have e1 := im_mul h1 (y := d2) (by unfold I64 at h4; omega)
  have e2 := im_mul h3 (y := d1) (by unfold I64 at h2; omega)
  have r1 : IM (n1 * d2 + n2 * d1) := by unfold IM; omega
  have R0 := Lib.hid (show I128 (n1 * d2 + n2 * d1) by unfold I128; omega)
  have r2 := im_mul2 h2 h4
  have r3 := Int.mul_pos p1 p2
  have CL := Lib.hid (fun w nh nl dh dl hn hd => rleast (n1 * d2 + n2 * d1) (d1 * d2) nh nl dh dl hn hd r1 ⟨r3, r2⟩ w)
  generalize n1 * d2 = P1 at *
  generalize n2 * d1 = P2 at *
  obtain ⟨P, hP⟩ : ∃ P, P = P1 + P2 := ⟨_, rfl⟩
  have CA2 := Lib.hid (fun w xh xl yh yl hx hy => CA.out w P1 xh xl P2 yh yl hx hy)
  rw [← hP] at CL R0 CA2 ⊢
  generalize d1 * d2 = Q at *
  clear h1 h2 h3 h4 p1 p2 r1 r2 r3 e1 e2 hP CA
  go_enter Try.func55, Try.ntmps55
  go_wp2_with fail
  have BB := start3 w #[.int .i64 n1, .int .i64 d1] QT #[.int .i64 n2, .int .i64 d2] QT #[.int .i64 0, .int .i64 0] QT
  obtain ⟨BB, hsz, r_a, r_b, r_res⟩ := BB
  generalize (((w.alloc (.cells #[.int .i64 n1, .int .i64 d1] QT)).alloc (.cells #[.int .i64 n2, .int .i64 d2] QT)).alloc (.cells #[.int .i64 0, .int .i64 0] QT)) = w0 at *
  replace BB := Lib.hid BB
  replace r_a := Lib.hid r_a
  replace r_b := Lib.hid r_b
  replace r_res := Lib.hid r_res
  clear hsz
  obtain ⟨c_a0, c_a1, f_a0, f_a1⟩ := reads2 r_a.out
  have l_a := r_a.out.lt
  go_wp2_with fail
  refine (C1.out _).mono ?_
  rintro e w1 ⟨rfl, hb⟩
  clear c_a0 c_a1 f_a0 f_a1 l_a
  replace r_a := Lib.hid (r_a.out.keep hb)
  replace r_b := Lib.hid (r_b.out.keep hb)
  replace r_res := Lib.hid (r_res.out.keep hb)
  replace BB := Lib.hid (below_next BB.out hb)
  clear hb
  obtain ⟨c_b0, c_b1, f_b0, f_b1⟩ := reads2 r_b.out
  have l_b := r_b.out.lt
  go_wp2_with fail
  refine (C2.out _).mono ?_
  rintro e w2 ⟨rfl, hb⟩
  clear c_b0 c_b1 f_b0 f_b1 l_b
  replace r_a := Lib.hid (r_a.out.keep hb)
  replace r_b := Lib.hid (r_b.out.keep hb)
  replace r_res := Lib.hid (r_res.out.keep hb)
  replace BB := Lib.hid (below_next BB.out hb)
  clear hb
  go_wp2_with fail
  go_cut [6] (fun s5 wc1 => ∃ gp h4 l4, s5 = .pointer (some ⟨gp, 0, none⟩) ∧ Hid (AtB wc1 gp #[.int .i64 h4, .int .u64 l4] WT ∧ (W128 P h4 l4) ∧ Below w2.heap.size w2 wc1 ∧ w2.heap.size ≤ gp))
  case first =>
    have KK := Lib.hid (fun (w9 : World) (h : Below w2.heap.size w2 w9) => (⟨cells2 (r_a.out.keep h), cells2 (r_b.out.keep h)⟩ : (w9.cell? ⟨w.heap.size, 0, none⟩ = some (.int .i64 n1) ∧ w9.cell? ⟨w.heap.size, 1, none⟩ = some (.int .i64 d1)) ∧ (w9.cell? ⟨w.heap.size + 1, 0, none⟩ = some (.int .i64 n2) ∧ w9.cell? ⟨w.heap.size + 1, 1, none⟩ = some (.int .i64 d2))))
    have K0 := KK.out w2 (Below.refl _ _)
    have KD := KK.out w2.drew (below_drew (Below.refl _ _))
    have tok0 : Hid True := trivial
    have tok1 : Hid True := trivial
    go_region_held3 (fun w9 => (w9.cell? ⟨w.heap.size, 0, none⟩ = some (.int .i64 n1) ∧ w9.cell? ⟨w.heap.size, 1, none⟩ = some (.int .i64 d1)) ∧ (w9.cell? ⟨w.heap.size + 1, 0, none⟩ = some (.int .i64 n2) ∧ w9.cell? ⟨w.heap.size + 1, 1, none⟩ = some (.int .i64 d2)))
        (first | with_reducible exact KD | with_reducible exact K0 | with_reducible exact K_w3 | with_reducible exact K_w4 | with_reducible exact K_w5 | (refine KK.out _ ?_; repeat' (first | with_reducible exact Below.refl _ _ | with_reducible exact B_w3.out | with_reducible exact B_w4.out | with_reducible exact B_w5.out | with_reducible apply below_new | with_reducible apply below_drew | with_reducible apply below_set | omega)))
        (first
          | (go_at_call 82
             have t_k := tok0
             refine (M1.out _).mono ?_
             rintro e w3 ⟨xh, xl, rfl, hb, hx⟩
             have B_w3 := Lib.hid (reg_next (w0 := w2) (by repeat (first | with_reducible exact Below.refl _ _ | with_reducible apply below_drew | with_reducible apply below_new)) hb)
             have K_w3 := KK.out _ B_w3.out
             obtain ⟨hc_w3, hf_w3⟩ := below_reads hb
             have hz_w3 := hb.size
             try simp at hz_w3
             try (have z1_w3 := Nat.lt_of_succ_le hz_w3)
             try (have z2_w3 := Nat.lt_of_succ_lt z1_w3)
             have HB_w3 := Lib.hid hb
             clear hb
             clear t_k tok0)
          | (go_at_call 82
             have t_k := tok1
             refine (M2.out _).mono ?_
             rintro e w4 ⟨yh, yl, rfl, hb, hy⟩
             have B_w4 := Lib.hid (below_next (by repeat (first | with_reducible exact B_w3.out | with_reducible apply below_new | with_reducible apply below_drew)) hb)
             have K_w4 := KK.out _ B_w4.out
             obtain ⟨hc_w4, hf_w4⟩ := below_reads hb
             have hz_w4 := hb.size
             try simp at hz_w4
             try (have z1_w4 := Nat.lt_of_succ_le hz_w4)
             try (have z2_w4 := Nat.lt_of_succ_lt z1_w4)
             have HB_w4 := Lib.hid hb
             have y_w4_w3 := Nat.le_trans HB_w3.out.size (Nat.le_trans (by (try simp only [World.size_alloc]); omega) hb.size)
             try simp at y_w4_w3
             try (have z3_w4_w3 := Nat.lt_of_succ_le y_w4_w3)
             try (have z4_w4_w3 := Nat.lt_of_succ_lt z3_w4_w3)
             clear hb
             clear t_k tok1)
          | (go_at_call 81
             refine (CA2.out _ _ _ _ _ hx hy).mono ?_
             rintro e w5 ⟨h4, l4, ok4, rfl, hb, hw4⟩
             have B_w5 := Lib.hid (below_next (by repeat (first | with_reducible exact B_w4.out | with_reducible apply below_new | with_reducible apply below_drew)) hb)
             have K_w5 := KK.out _ B_w5.out
             obtain ⟨hc_w5, hf_w5⟩ := below_reads hb
             have hz_w5 := hb.size
             try simp at hz_w5
             try (have z1_w5 := Nat.lt_of_succ_le hz_w5)
             try (have z2_w5 := Nat.lt_of_succ_lt z1_w5)
             have HB_w5 := Lib.hid hb
             have y_w5_w3 := Nat.le_trans HB_w3.out.size (Nat.le_trans (by (try simp only [World.size_alloc]); omega) hb.size)
             try simp at y_w5_w3
             try (have z3_w5_w3 := Nat.lt_of_succ_le y_w5_w3)
             try (have z4_w5_w3 := Nat.lt_of_succ_lt z3_w5_w3)
             have y_w5_w4 := Nat.le_trans HB_w4.out.size (Nat.le_trans (by (try simp only [World.size_alloc]); omega) hb.size)
             try simp at y_w5_w4
             try (have z3_w5_w4 := Nat.lt_of_succ_le y_w5_w4)
             try (have z4_w5_w4 := Nat.lt_of_succ_lt z3_w5_w4)
             clear hb))
    all_goals clear KK K0 KD K_w3 K_w4 K_w5
    all_goals replace hw4 := Lib.hid (hw4.of_room R0.out)
    all_goals go_wp2_with fail
    all_goals go_meet
    all_goals refine ⟨_, _, _, rfl, ⟨?_, hw4.out, ?_, ?_⟩⟩
    all_goals repeat' (first | with_reducible exact B_w3.out | with_reducible exact B_w4.out | with_reducible exact B_w5.out | with_reducible exact Below.refl _ _ | with_reducible apply below_new | with_reducible apply below_drew | (with_reducible refine below_set ?_ ?_ _) | (with_reducible refine AtB.set2 (a := .bool false) (b := .slice none 0 0) (T := 52) ?_ _ _) | (with_reducible refine AtB.set2 (a := .int .i64 0) (b := .int .u64 0) (T := 113) ?_ _ _) | (with_reducible refine AtB.far2 ?_ ?_ _ _) | (with_reducible refine BR.alloc ?_ _) | (with_reducible refine BR.far2 (a := .bool false) (b := .slice none 0 0) (T := 52) ?_ ?_ (by decide) _ _) | (with_reducible refine new_at_eq ?_ _ _; first | rfl | (simp; done)) | (with_reducible refine AtB.alloc ?_ _) | with_reducible apply AtB.drew | (with_reducible refine AtB.keep ?_ HB_w5.out) | (with_reducible refine AtB.keep ?_ HB_w4.out) | (with_reducible refine AtB.keep ?_ HB_w3.out) | omega)
  obtain ⟨wc1, rfl⟩ : ∃ wo : World, wo = wc := ⟨_, rfl⟩
  obtain ⟨g_sum, h4, l4, rfl, hcut⟩ := hcut
  obtain ⟨r_sum, h_sum, hb, hge⟩ := hcut.out
  clear hcut
  replace r_sum := Lib.hid r_sum; replace h_sum := Lib.hid h_sum
  have d_sum := Lib.hid (And.intro (Nat.le_trans BB.out.size hge) (And.intro (Nat.lt_of_lt_of_le r_a.out.lt hge) (And.intro (Nat.lt_of_lt_of_le r_b.out.lt hge) (And.intro (Nat.lt_of_lt_of_le r_res.out.lt hge) (True.intro)))))
  replace r_a := Lib.hid (r_a.out.keep hb)
  replace r_b := Lib.hid (r_b.out.keep hb)
  replace r_res := Lib.hid (r_res.out.keep hb)
  replace BB := Lib.hid (below_next BB.out hb)
  clear hb hge
  go_wp2_with fail
  have KK := Lib.hid (fun (w9 : World) (h : Below wc1.heap.size wc1 w9) => (⟨cells2 (r_a.out.keep h), cells2 (r_b.out.keep h), cells2 (r_sum.out.keep h)⟩ : (w9.cell? ⟨w.heap.size, 0, none⟩ = some (.int .i64 n1) ∧ w9.cell? ⟨w.heap.size, 1, none⟩ = some (.int .i64 d1)) ∧ (w9.cell? ⟨w.heap.size + 1, 0, none⟩ = some (.int .i64 n2) ∧ w9.cell? ⟨w.heap.size + 1, 1, none⟩ = some (.int .i64 d2)) ∧ (w9.cell? ⟨g_sum, 0, none⟩ = some (.int .i64 h4) ∧ w9.cell? ⟨g_sum, 1, none⟩ = some (.int .u64 l4))))
  have K0 := KK.out wc1 (Below.refl _ _)
  have KD := KK.out wc1.drew (below_drew (Below.refl _ _))
  refine AnyG.begin_ (fun w9 => (w9.cell? ⟨w.heap.size, 0, none⟩ = some (.int .i64 n1) ∧ w9.cell? ⟨w.heap.size, 1, none⟩ = some (.int .i64 d1)) ∧ (w9.cell? ⟨w.heap.size + 1, 0, none⟩ = some (.int .i64 n2) ∧ w9.cell? ⟨w.heap.size + 1, 1, none⟩ = some (.int .i64 d2)) ∧ (w9.cell? ⟨g_sum, 0, none⟩ = some (.int .i64 h4) ∧ w9.cell? ⟨g_sum, 1, none⟩ = some (.int .u64 l4))) 9 (by kernel_rfl) ?_
  refine AnyG.take (i := 0) (v := ?_) rfl (by kernel_rfl) (by kernel_rfl) (by kernel_rfl) (fun _ _ _ h => h) (by kernel_rfl) (by kernel_rfl) (Or.inl ⟨by rfl, ?_⟩) (by assumption) ?_
  rotate_left
  · intro w9 hSw; (try dsimp only at hSw); go_simp <;> with_reducible rfl
  try simp only [Act.put, List.getElem_toArray, List.getElem_cons_zero, List.getElem_cons_succ, List.setIfInBounds_toArray, List.set_cons_zero, List.set_cons_succ]
  refine AnyG.take (i := 1) (v := ?_) rfl (by kernel_rfl) (by kernel_rfl) (by kernel_rfl) (fun _ _ _ h => h) (by kernel_rfl) (by kernel_rfl) (Or.inl ⟨by rfl, ?_⟩) (by assumption) ?_
  rotate_left
  · intro w9 hSw; (try dsimp only at hSw); go_simp <;> with_reducible rfl
  try simp only [Act.put, List.getElem_toArray, List.getElem_cons_zero, List.getElem_cons_succ, List.setIfInBounds_toArray, List.set_cons_zero, List.set_cons_succ]
  refine AnyG.take (i := 2) (v := ?_) rfl (by kernel_rfl) (by kernel_rfl) (by kernel_rfl) (fun _ _ _ h => h) (by kernel_rfl) (by kernel_rfl) (Or.inl ⟨by rfl, ?_⟩) (by assumption) ?_
  rotate_left
  · intro w9 hSw; (try dsimp only at hSw); go_simp <;> with_reducible rfl
  try simp only [Act.put, List.getElem_toArray, List.getElem_cons_zero, List.getElem_cons_succ, List.setIfInBounds_toArray, List.set_cons_zero, List.set_cons_succ]
  refine AnyG.take (i := 3) (v := ?_) rfl (by kernel_rfl) (by kernel_rfl) (by kernel_rfl) (fun _ _ _ h => h) (by kernel_rfl) (by kernel_rfl) (Or.inl ⟨by rfl, ?_⟩) (by assumption) ?_
  rotate_left
  · intro w9 hSw; (try dsimp only at hSw); go_simp <;> with_reducible rfl
  try simp only [Act.put, List.getElem_toArray, List.getElem_cons_zero, List.getElem_cons_succ, List.setIfInBounds_toArray, List.set_cons_zero, List.set_cons_succ]
  refine AnyG.take (i := 4) (v := ?_) rfl (by kernel_rfl) (by kernel_rfl) (by kernel_rfl) (fun _ _ _ h => h) (by kernel_rfl) (by kernel_rfl) (Or.inl ⟨by rfl, ?_⟩) (by assumption) ?_
  rotate_left
  · intro w9 hSw; (try dsimp only at hSw); go_simp <;> with_reducible rfl
  try simp only [Act.put, List.getElem_toArray, List.getElem_cons_zero, List.getElem_cons_succ, List.setIfInBounds_toArray, List.set_cons_zero, List.set_cons_succ]
  refine AnyG.step (i := 5) (by kernel_rfl) rfl (fun K hK => ?_)
  go_simp
  go_at_call 82
  refine (M3.out _).mono ?_
  rintro e w6 ⟨yh, yl, rfl, hb, hy⟩
  have B_w6 := Lib.hid (reg_next (w0 := wc1) (by repeat (first | with_reducible exact Below.refl _ _ | with_reducible apply below_drew | with_reducible apply below_new)) hb)
  have K_w6 := KK.out _ B_w6.out
  clear hb
  refine hK.out _ _ (fun _ => K_w6) (fun hHeld => ?_)
  replace hHeld := hHeld (by decide)
  clear hK
  try simp only [Act.put, List.getElem_toArray, List.getElem_cons_zero, List.getElem_cons_succ, List.setIfInBounds_toArray, List.set_cons_zero, List.set_cons_succ]
  refine AnyG.step (i := 6) (by kernel_rfl) rfl (fun K hK => ?_)
  go_simp
  go_at_call 83
  refine (CL.out _ _ _ _ _ h_sum.out hy).mono ?_
  rintro e w7 ⟨x, y, ok, rfl, hb, hq⟩
  have B_w7 := Lib.hid (below_next B_w6.out hb)
  have K_w7 := KK.out _ B_w7.out
  obtain ⟨rc_res0, rc_res1, rf_res0, rf_res1⟩ := reads2 (r_res.out.keep B_w7.out)
  have rl_res := (r_res.out.keep B_w7.out).lt
  clear hb
  refine hK.out _ _ (fun _ => K_w7) (fun hHeld => ?_)
  replace hHeld := hHeld (by decide)
  clear hK
  try simp only [Act.put, List.getElem_toArray, List.getElem_cons_zero, List.getElem_cons_succ, List.setIfInBounds_toArray, List.set_cons_zero, List.set_cons_succ]
  refine AnyG.take (i := 7) (v := ?_) rfl (by kernel_rfl) (by kernel_rfl) (by kernel_rfl) (fun _ _ _ h => h) (by kernel_rfl) (by kernel_rfl) (Or.inl ⟨by rfl, ?_⟩) (by assumption) ?_
  rotate_left
  · intro w9 hSw; (try dsimp only at hSw); go_simp <;> with_reducible rfl
  try simp only [Act.put, List.getElem_toArray, List.getElem_cons_zero, List.getElem_cons_succ, List.setIfInBounds_toArray, List.set_cons_zero, List.set_cons_succ]
  refine AnyG.take (i := 8) (v := ?_) rfl (by kernel_rfl) (by kernel_rfl) (by kernel_rfl) (fun _ _ _ h => h) (by kernel_rfl) (by kernel_rfl) (Or.inl ⟨by rfl, ?_⟩) (by assumption) ?_
  rotate_left
  · intro w9 hSw; (try dsimp only at hSw); go_simp <;> with_reducible rfl
  try simp only [Act.put, List.getElem_toArray, List.getElem_cons_zero, List.getElem_cons_succ, List.setIfInBounds_toArray, List.set_cons_zero, List.set_cons_succ]
  refine AnyG.step (i := 9) (by kernel_rfl) rfl (fun K hK => ?_)
  go_simp
  refine hK.out _ _ (fun h => absurd h (by decide)) (fun _ => ?_)
  clear hK
  try simp only [Act.put, List.getElem_toArray, List.getElem_cons_zero, List.getElem_cons_succ, List.setIfInBounds_toArray, List.set_cons_zero, List.set_cons_succ]
  refine AnyG.step (i := 10) (by kernel_rfl) rfl (fun K hK => ?_)
  go_simp
  refine hK.out _ _ (fun h => absurd h (by decide)) (fun _ => ?_)
  clear hK
  try simp only [Act.put, List.getElem_toArray, List.getElem_cons_zero, List.getElem_cons_succ, List.setIfInBounds_toArray, List.set_cons_zero, List.set_cons_succ]
  refine AnyG.done (by kernel_rfl) ?_ _
  clear KK K0 KD K_w6 K_w7
  replace r_a := Lib.hid (r_a.out.keep B_w7.out)
  replace r_b := Lib.hid (r_b.out.keep B_w7.out)
  replace r_res := Lib.hid (r_res.out.keep B_w7.out)
  replace r_sum := Lib.hid (r_sum.out.keep B_w7.out)
  replace BB := Lib.hid (below_next BB.out B_w7.out)
  clear B_w6 B_w7
  replace r_a := Lib.hid (r_a.out.far2 (p := w.heap.size + 2) (by omega) (.int .i64 x) (.int .i64 y))
  replace r_b := Lib.hid (r_b.out.far2 (p := w.heap.size + 2) (by omega) (.int .i64 x) (.int .i64 y))
  replace r_res := Lib.hid (r_res.out.set2 (.int .i64 x) (.int .i64 y))
  replace r_sum := Lib.hid (r_sum.out.far2 (p := w.heap.size + 2) (by have dd_sum := d_sum.out; omega) (.int .i64 x) (.int .i64 y))
  replace BB := Lib.hid (below_far2 BB.out (p := w.heap.size + 2) (by omega) (.int .i64 x) (.int .i64 y))
  generalize ((w7.setCell ⟨w.heap.size + 2, 0, none⟩ (.int .i64 x)).setCell ⟨w.heap.size + 2, 1, none⟩ (.int .i64 y)) = w8 at *
  obtain ⟨c_res0, c_res1, f_res0, f_res1⟩ := reads2 r_res.out
  have l_res := r_res.out.lt
  go_wp2_with fail
  refine bodyPost_ret (v := .tuple #[qv x y, .bool ok]) (by unfold results; simp only [Try.results55]; go_simp) rfl ?_
  exact ⟨x, y, ok, rfl, BB.out, hq⟩
theorem lq_half {x y : Int} {ok : Bool} (h : LQ (1 * 3 + 1 * 6) (6 * 3) x y ok) : x = 1 ∧ y = 2 ∧ ok = true := by
  have e : gI (1 * 3 + 1 * 6) (6 * 3) = 9 := by decide
  unfold LQ at h
  rw [e] at h
  rcases h with ⟨-, -, h1, h2, h3⟩ | ⟨h1, -⟩
  · exact ⟨by rw [h2]; rfl, by rw [h3]; rfl, h1⟩
  · exact absurd ⟨⟨by decide, by decide⟩, ⟨by decide, by decide⟩⟩ h1
set_option maxRecDepth 100000 in
set_option maxHeartbeats 4000000 in
theorem alive03 (w : World) : Calls Try.prog 26 #[] w fun e w' => e = .returned (.bool true) ∧ Below w.heap.size w w' := by
  have CA := Lib.hid (fun w => qadd 1 6 1 3 ⟨by omega, by omega⟩ ⟨by omega, by omega⟩ ⟨by omega, by omega⟩ ⟨by omega, by omega⟩ (by omega) (by omega) w)
  have CC := Lib.hid (fun w => qcmp 1 3 2 6 ⟨by omega, by omega⟩ ⟨by omega, by omega⟩ ⟨by omega, by omega⟩ ⟨by omega, by omega⟩ (by omega) (by omega) w)
  rw [show cmpI (1 * 6) (2 * 3) = 0 from rfl] at CC
  go_enter Try.func26, Try.ntmps26
  go_wp2_with fail
  have BB : Hid (Below w.heap.size w w) := Below.refl _ _
  refine (CA.out _).mono ?_
  rintro e w1 ⟨x, y, ok, rfl, hb, hq⟩
  replace BB := Lib.hid (below_next BB.out hb)
  clear hb
  obtain ⟨rfl, rfl, rfl⟩ := lq_half hq
  clear hq
  go_upto_region 2 with fail
  have d_s := Lib.hid (And.intro BB.out.size (True.intro))
  obtain ⟨hb, r_s⟩ := laid w1 #[.int .i64 1, .int .i64 2] QT
  replace BB := Lib.hid (below_next BB.out hb)
  replace r_s := Lib.hid r_s
  clear hb
  generalize w1.alloc (.cells #[.int .i64 1, .int .i64 2] QT) = w2 at *
  generalize w1.heap.size = g_s at *
  go_wp2_with fail
  refine (CC.out _).mono ?_
  rintro e w3 ⟨rfl, hb⟩
  replace r_s := Lib.hid (r_s.out.keep hb)
  replace BB := Lib.hid (below_next BB.out hb)
  clear hb
  obtain ⟨c_s0, c_s1, f_s0, f_s1⟩ := reads2 r_s.out
  have l_s := r_s.out.lt
  go_wp2_with fail
  go_ret
  exact ⟨rfl, BB.out⟩
end Go.Proofs.Ythdbchghhpoadaa
