/- Walks of wide's signed, of wide.Mul and Scale. -/
import Derived.Test.YtbldgbenlmjmjaaWide2
set_option linter.unusedVariables false
namespace Go.Proofs.Ytbldgbenlmjmjaa
open Go.RowKit

theorem wsigned (n hi lo : Int) (b : Bool) (h : S128 n hi lo) (w : World) : Calls Try.prog 96 #[sv hi lo, .bool b] w (GiveWB (if b then -n else n) w) := by
  have C1 := Lib.hid (fun w => wplus n hi lo h w)
  have C2 := Lib.hid (fun w => wminus n hi lo h w)
  clear h
  cases b
  · skip
    go_enter Try.func96, Try.ntmps96
    go_wp2_with fail
    have BB := start2 w #[.int .u64 hi, .int .u64 lo] 144 #[.int .i64 0, .int .u64 0] 88
    obtain ⟨BB, hsz, r_a, r_res⟩ := BB
    generalize ((w.alloc (.cells #[.int .u64 hi, .int .u64 lo] 144)).alloc (.cells #[.int .i64 0, .int .u64 0] 88)) = w0 at *
    replace BB := Lib.hid BB
    replace r_a := Lib.hid r_a
    replace r_res := Lib.hid r_res
    clear hsz
    refine (C1.out _).mono ?_
    rintro e w1 ⟨h1, l1, ok, rfl, hb, h1'⟩
    replace r_a := Lib.hid (r_a.out.keep hb)
    replace r_res := Lib.hid (r_res.out.keep hb)
    replace BB := Lib.hid (below_next BB.out hb)
    clear hb
    obtain ⟨c_res0, c_res1, f_res0, f_res1⟩ := reads2 r_res.out
    have l_res := r_res.out.lt
    go_wp2_with fail
    exact bodyPost_ret (v := .tuple #[wv h1 l1, .bool ok]) (by unfold results; simp only [Try.results96]; go_simp) rfl ⟨_, _, _, rfl, below_set2 BB.out (by omega) _ _, h1'⟩
  · skip
    go_enter Try.func96, Try.ntmps96
    go_wp2_with fail
    have BB := start2 w #[.int .u64 hi, .int .u64 lo] 144 #[.int .i64 0, .int .u64 0] 88
    obtain ⟨BB, hsz, r_a, r_res⟩ := BB
    generalize ((w.alloc (.cells #[.int .u64 hi, .int .u64 lo] 144)).alloc (.cells #[.int .i64 0, .int .u64 0] 88)) = w0 at *
    replace BB := Lib.hid BB
    replace r_a := Lib.hid r_a
    replace r_res := Lib.hid r_res
    clear hsz
    refine (C2.out _).mono ?_
    rintro e w1 ⟨h1, l1, ok, rfl, hb, h1'⟩
    replace r_a := Lib.hid (r_a.out.keep hb)
    replace r_res := Lib.hid (r_res.out.keep hb)
    replace BB := Lib.hid (below_next BB.out hb)
    clear hb
    obtain ⟨c_res0, c_res1, f_res0, f_res1⟩ := reads2 r_res.out
    have l_res := r_res.out.lt
    go_wp2_with fail
    exact bodyPost_ret (v := .tuple #[wv h1 l1, .bool ok]) (by unfold results; simp only [Try.results96]; go_simp) rfl ⟨_, _, _, rfl, below_set2 BB.out (by omega) _ _, h1'⟩

theorem WB.of_room {z hi lo : Int} {ok : Bool} (h : WB z hi lo ok) (hz : I128 z) : W128 z hi lo := by
  rcases h with ⟨_, _, h⟩ | ⟨h, _⟩
  · exact h
  · exact absurd hz h
theorem sgn_mul2 (x y : Int) (b : Bool) (hb : b = (sgn x != sgn y)) : (if b then -((x.natAbs : Int) * y.natAbs) else (x.natAbs : Int) * y.natAbs) = x * y := by
  subst hb; exact (sgn_mul x y).symm
theorem abs_u64 {x : Int} (h : I64 x) : U64 (x.natAbs : Int) := by unfold I64 at h; unfold U64; omega
theorem mul_room {x y : Int} (hx : I64 x) (hy : I64 y) : I128 (x * y) := by
  have h := Wd.mul (i64_wd hx) (i64_wd hy)
  unfold I128
  have e : (2 : Int) ^ (63 + 63) = 85070591730234615865843651857942052864 := by decide
  unfold Wd at h; rw [e] at h; omega

set_option maxRecDepth 100000 in
theorem wmul (x y : Int) (hx : I64 x) (hy : I64 y) (w : World) : Calls Try.prog 70 #[.int .i64 x, .int .i64 y] w (GiveW (x * y) w) := by
  have C1 := Lib.hid (fun w => wabs x hx w)
  have C2 := Lib.hid (fun w => wabs y hy w)
  have C3 := Lib.hid (fun w => mul64_any _ _ (abs_u64 hx) (abs_u64 hy) w)
  have HR := Lib.hid (mul_room hx hy)
  have HS := Lib.hid (sgn_mul2 x y)
  clear hx hy
  generalize sgn x = sx at *
  generalize sgn y = sy at *
  generalize (x.natAbs : Int) = ax at *
  generalize (y.natAbs : Int) = ay at *
  generalize x * y = z at *
  go_enter Try.func70, Try.ntmps70
  go_wp2_with fail
  have BB := start1 w #[.int .i64 0, .int .u64 0] 88
  obtain ⟨BB, hsz, r_res⟩ := BB
  generalize (w.alloc (.cells #[.int .i64 0, .int .u64 0] 88)) = w0 at *
  replace BB := Lib.hid BB
  replace r_res := Lib.hid r_res
  clear hsz
  refine (C1.out _).mono ?_
  rintro e w9 ⟨rfl, rfl⟩
  go_wp2_with fail
  refine (C2.out _).mono ?_
  rintro e w9 ⟨rfl, rfl⟩
  go_wp2_with fail
  refine (C3.out _).mono ?_; rintro e w9 ⟨hi, lo, rfl, g1, g2, g3, rfl⟩
  have C4 := Lib.hid (fun b w => wsigned _ hi lo b ⟨g1, g2, g3⟩ w)
  clear g1 g2 g3
  go_wp2_with fail
  refine (C4.out _ _).mono ?_
  rintro e w1 ⟨h1, l1, ok, rfl, hb, h1'⟩
  replace r_res := Lib.hid (r_res.out.keep hb)
  replace BB := Lib.hid (below_next BB.out hb)
  clear hb
  have HW := Lib.hid (h1'.of_room)
  clear h1'
  obtain ⟨c_res0, c_res1, f_res0, f_res1⟩ := reads2 r_res.out
  have l_res := r_res.out.lt
  go_wp2_with fail
  refine bodyPost_ret (v := wv h1 l1) (by unfold results; simp only [Try.results70]; go_simp) rfl ⟨_, _, rfl, ?_, ?_⟩
  · exact below_new (below_set2 BB.out (by omega) _ _) _
  · have h := HW.out
    rw [HS.out (!(sx == sy)) rfl] at h
    exact h HR.out

theorem scale_law {n y hi lo over mid h2 l2 c s : Int} (hn : S128 n hi lo) (hy : 0 ≤ y) (e1 : over * 18446744073709551616 + mid = hi * y) (e2 : h2 * 18446744073709551616 + l2 = lo * y) (e3 : c * 18446744073709551616 + s = h2 + mid + 0)
    (o : U64 over) (m : U64 mid) (l : U64 l2) (hs : U64 s) (c0 : 0 ≤ c) : n * y = (over + c) * 340282366920938463463374607431768211456 + s * 18446744073709551616 + l2 := by
  obtain ⟨_, _, rfl⟩ := hn
  have : (hi * 18446744073709551616 + lo) * y = hi * y * 18446744073709551616 + lo * y := by grind
  omega

set_option maxRecDepth 100000 in
set_option maxHeartbeats 1000000 in
theorem wscale (x y ah al : Int) (hx : W128 x ah al) (hy : I64 y) (w : World) : Calls Try.prog 85 #[wv ah al, .int .i64 y] w (GiveWB (x * y) w) := by
  have C1 := Lib.hid (fun w => wapart x ah al hx w)
  have C2 := Lib.hid (fun w => wabs y hy w)
  have HS := Lib.hid (sgn_mul2 x y)
  have HY := Lib.hid (abs_u64 hy)
  clear hx hy
  generalize sgn y = sy at *
  generalize hay : (y.natAbs : Int) = ay at *
  go_enter Try.func85, Try.ntmps85
  go_wp2_with fail
  have BB := start2 w #[.int .i64 ah, .int .u64 al] 88 #[.int .i64 0, .int .u64 0] 88
  obtain ⟨BB, hsz, r_a, r_res⟩ := BB
  generalize ((w.alloc (.cells #[.int .i64 ah, .int .u64 al] 88)).alloc (.cells #[.int .i64 0, .int .u64 0] 88)) = w0 at *
  replace BB := Lib.hid BB
  replace r_a := Lib.hid r_a
  replace r_res := Lib.hid r_res
  clear hsz
  refine (C1.out _).mono ?_
  rintro e w1 ⟨sh, sl, rfl, hb, hs⟩
  replace r_a := Lib.hid (r_a.out.keep hb)
  replace r_res := Lib.hid (r_res.out.keep hb)
  replace BB := Lib.hid (below_next BB.out hb)
  clear hb
  have HS1 := Lib.hid hs
  clear C1 hs
  generalize sgn x = sx at *
  generalize hax : (x.natAbs : Int) = ax at *
  have HA := Lib.hid (And.intro hax hay)
  clear hax hay
  go_wp2_with fail
  obtain ⟨hb, r_s⟩ := laid w1 #[.int .u64 sh, .int .u64 sl] 144
  replace r_a := Lib.hid (r_a.out.keep hb)
  replace r_res := Lib.hid (r_res.out.keep hb)
  replace BB := Lib.hid (below_next BB.out hb)
  replace r_s := Lib.hid r_s
  clear hb
  generalize w1.alloc (.cells #[.int .u64 sh, .int .u64 sl] 144) = w2 at *
  generalize w1.heap.size = g_s at *
  obtain ⟨c_s0, c_s1, f_s0, f_s1⟩ := reads2 r_s.out
  have l_s := r_s.out.lt
  refine (C2.out _).mono ?_
  rintro e w9 ⟨rfl, rfl⟩
  go_wp2_with fail
  refine (mul64_any sh ay HS1.out.1 HY.out _).mono ?_; rintro e w9 ⟨over, mid, rfl, o1, o2, o3, rfl⟩
  have O3 := Lib.hid o3
  clear o3
  go_wp2_with fail
  refine (mul64_any sl ay HS1.out.2.1 HY.out _).mono ?_; rintro e w9 ⟨h2, l2, rfl, p1, p2, p3, rfl⟩
  have P3 := Lib.hid p3
  clear p3
  obtain ⟨s, c, q1, q2, q3, Q, A1⟩ := add64_ex h2 mid 0 p1 o2 (by omega) (by omega)
  have HT : Hid ((x * y).natAbs = (((over + c) * 340282366920938463463374607431768211456 + s * 18446744073709551616 + l2 : Int)).natAbs ∧ S128 (s * 18446744073709551616 + l2) s l2) := by
    refine ⟨?_, q1, p2, rfl⟩
    have := scale_law HS1.out (n := ax) (y := ay) (by have := HY.out.1; omega) O3.out P3.out Q.out o1 o2 p2 q1 q2
    rw [← this, Int.natAbs_mul, ← HA.out.1, ← HA.out.2]
    simp [Int.natAbs_mul]
  have HAy := Lib.hid (show ax * ay = (over + c) * 340282366920938463463374607431768211456 + s * 18446744073709551616 + l2 from scale_law HS1.out (by have := HY.out.1; omega) O3.out P3.out Q.out o1 o2 p2 q1 q2)
  have o0 := o1.1
  have HB : Hid (0 ≤ s * 18446744073709551616 + l2) := by show 0 ≤ _; unfold U64 at q1 p2; omega
  clear o1 o2 p1 p2 q1 O3 P3 Q HA HY
  rcases Int.lt_or_eq_of_le o0 with hov | hov
  · have HF : Hid (WB (x * y) 0 0 false) := .inr ⟨by have := HT.out.1; have := HB.out; unfold I128; omega, rfl, rfl, rfl⟩
    obtain ⟨c_res0, c_res1, f_res0, f_res1⟩ := reads2 r_res.out
    have l_res := r_res.out.lt
    go_wp2_with fail
    exact bodyPost_ret (v := .tuple #[wv 0 0, .bool false]) (by unfold results; simp only [Try.results85]; go_simp) rfl ⟨_, _, _, rfl, below_set2 BB.out (by omega) _ _, HF.out⟩
  · subst hov
    rcases Int.lt_or_eq_of_le q2 with hc | hc
    · have HF : Hid (WB (x * y) 0 0 false) := .inr ⟨by have := HT.out.1; have := HB.out; unfold I128; omega, rfl, rfl, rfl⟩
      obtain ⟨c_res0, c_res1, f_res0, f_res1⟩ := reads2 r_res.out
      have l_res := r_res.out.lt
      go_wp2_with fail
      exact bodyPost_ret (v := .tuple #[wv 0 0, .bool false]) (by unfold results; simp only [Try.results85]; go_simp) rfl ⟨_, _, _, rfl, below_set2 BB.out (by omega) _ _, HF.out⟩
    · subst hc
      have C4 := Lib.hid (fun b w => wsigned _ s l2 b HT.out.2 w)
      rw [show s * 18446744073709551616 + l2 = ax * ay by rw [HAy.out]; omega] at C4
      clear HT HAy HB
      go_wp2_with fail
      refine (C4.out _ _).mono ?_
      rintro e w3 ⟨h1, l1, ok, rfl, hb, h1'⟩
      clear c_s0 c_s1 f_s0 f_s1 l_s
      replace r_a := Lib.hid (r_a.out.keep hb)
      replace r_res := Lib.hid (r_res.out.keep hb)
      replace r_s := Lib.hid (r_s.out.keep hb)
      replace BB := Lib.hid (below_next BB.out hb)
      clear hb
      have HW := Lib.hid h1'
      clear h1'
      obtain ⟨c_res0, c_res1, f_res0, f_res1⟩ := reads2 r_res.out
      have l_res := r_res.out.lt
      go_wp2_with fail
      refine bodyPost_ret (v := .tuple #[wv h1 l1, .bool ok]) (by unfold results; simp only [Try.results85]; go_simp) rfl ⟨_, _, _, rfl, below_set2 BB.out (by omega) _ _, ?_⟩
      have h := HW.out
      rw [HS.out (!(sx == sy)) rfl] at h
      exact h

end Go.Proofs.Ytbldgbenlmjmjaa
