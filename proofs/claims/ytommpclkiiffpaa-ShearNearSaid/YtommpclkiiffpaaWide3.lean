/- Walks of wide's signed, of wide.Mul and Scale. -/
import Derived.Test.YtommpclkiiffpaaWide2
set_option linter.unusedVariables false
namespace Go.Proofs.Ytommpclkiiffpaa
open Go.RowKit

theorem wsigned (n hi lo : Int) (b : Bool) (h : S128 n hi lo) (w : World) : Calls Try.prog 75 #[sv hi lo, .bool b] w (GiveWB (if b then -n else n) w) := by
  have C1 := Lib.hid (fun w => wplus n hi lo h w)
  have C2 := Lib.hid (fun w => wminus n hi lo h w)
  clear h
  cases b
  · skip
    go_enter Try.func75, Try.ntmps75
    go_wp2_with fail
    have BB := start2 w #[.int .u64 hi, .int .u64 lo] 111 #[.int .i64 0, .int .u64 0] 81
    obtain ⟨BB, hsz, r_a, r_res⟩ := BB
    generalize ((w.alloc (.cells #[.int .u64 hi, .int .u64 lo] 111)).alloc (.cells #[.int .i64 0, .int .u64 0] 81)) = w0 at *
    replace BB := Lib.hid BB
    replace r_a := Lib.hid r_a
    replace r_res := Lib.hid r_res
    clear hsz
    refine (C1.out _).mono ?_
    rintro e w1 ⟨h1, l1, ok, rfl, hb, h1'⟩
    replace r_a := Lib.hid (r_a.out.keep hb)
    replace r_res := Lib.hid (r_res.out.keep hb)
    replace BB := Lib.hid (below_next BB.out hb)
    clear hb
    obtain ⟨c_res0, c_res1, f_res0, f_res1⟩ := reads2 r_res.out
    have l_res := r_res.out.lt
    go_wp2_with fail
    exact bodyPost_ret (v := .tuple #[wv h1 l1, .bool ok]) (by unfold results; simp only [Try.results75]; go_simp) rfl ⟨_, _, _, rfl, below_set2 BB.out (by omega) _ _, h1'⟩
  · skip
    go_enter Try.func75, Try.ntmps75
    go_wp2_with fail
    have BB := start2 w #[.int .u64 hi, .int .u64 lo] 111 #[.int .i64 0, .int .u64 0] 81
    obtain ⟨BB, hsz, r_a, r_res⟩ := BB
    generalize ((w.alloc (.cells #[.int .u64 hi, .int .u64 lo] 111)).alloc (.cells #[.int .i64 0, .int .u64 0] 81)) = w0 at *
    replace BB := Lib.hid BB
    replace r_a := Lib.hid r_a
    replace r_res := Lib.hid r_res
    clear hsz
    refine (C2.out _).mono ?_
    rintro e w1 ⟨h1, l1, ok, rfl, hb, h1'⟩
    replace r_a := Lib.hid (r_a.out.keep hb)
    replace r_res := Lib.hid (r_res.out.keep hb)
    replace BB := Lib.hid (below_next BB.out hb)
    clear hb
    obtain ⟨c_res0, c_res1, f_res0, f_res1⟩ := reads2 r_res.out
    have l_res := r_res.out.lt
    go_wp2_with fail
    exact bodyPost_ret (v := .tuple #[wv h1 l1, .bool ok]) (by unfold results; simp only [Try.results75]; go_simp) rfl ⟨_, _, _, rfl, below_set2 BB.out (by omega) _ _, h1'⟩

theorem WB.of_room {z hi lo : Int} {ok : Bool} (h : WB z hi lo ok) (hz : I128 z) : W128 z hi lo := by
  rcases h with ⟨_, _, h⟩ | ⟨h, _⟩
  · exact h
  · exact absurd hz h
theorem sgn_mul2 (x y : Int) (b : Bool) (hb : b = (sgn x != sgn y)) : (if b then -((x.natAbs : Int) * y.natAbs) else (x.natAbs : Int) * y.natAbs) = x * y := by
  subst hb; exact (sgn_mul x y).symm
theorem abs_u64 {x : Int} (h : I64 x) : U64 (x.natAbs : Int) := by unfold I64 at h; unfold U64; omega
theorem mul_room {x y : Int} (hx : I64 x) (hy : I64 y) : I128 (x * y) := by
  have h := Wd.mul (i64_wd hx) (i64_wd hy)
  unfold I128
  have e : (2 : Int) ^ (63 + 63) = 85070591730234615865843651857942052864 := by decide
  unfold Wd at h; rw [e] at h; omega

set_option maxRecDepth 100000 in
theorem wmul (x y : Int) (hx : I64 x) (hy : I64 y) (w : World) : Calls Try.prog 44 #[.int .i64 x, .int .i64 y] w (GiveW (x * y) w) := by
  have C1 := Lib.hid (fun w => wabs x hx w)
  have C2 := Lib.hid (fun w => wabs y hy w)
  have C3 := Lib.hid (fun w => mul64_any _ _ (abs_u64 hx) (abs_u64 hy) w)
  have HR := Lib.hid (mul_room hx hy)
  have HS := Lib.hid (sgn_mul2 x y)
  clear hx hy
  generalize sgn x = sx at *
  generalize sgn y = sy at *
  generalize (x.natAbs : Int) = ax at *
  generalize (y.natAbs : Int) = ay at *
  generalize x * y = z at *
  go_enter Try.func44, Try.ntmps44
  go_wp2_with fail
  have BB := start1 w #[.int .i64 0, .int .u64 0] 81
  obtain ⟨BB, hsz, r_res⟩ := BB
  generalize (w.alloc (.cells #[.int .i64 0, .int .u64 0] 81)) = w0 at *
  replace BB := Lib.hid BB
  replace r_res := Lib.hid r_res
  clear hsz
  refine (C1.out _).mono ?_
  rintro e w9 ⟨rfl, rfl⟩
  go_wp2_with fail
  refine (C2.out _).mono ?_
  rintro e w9 ⟨rfl, rfl⟩
  go_wp2_with fail
  refine (C3.out _).mono ?_; rintro e w9 ⟨hi, lo, rfl, g1, g2, g3, rfl⟩
  have C4 := Lib.hid (fun b w => wsigned _ hi lo b ⟨g1, g2, g3⟩ w)
  clear g1 g2 g3
  go_wp2_with fail
  refine (C4.out _ _).mono ?_
  rintro e w1 ⟨h1, l1, ok, rfl, hb, h1'⟩
  replace r_res := Lib.hid (r_res.out.keep hb)
  replace BB := Lib.hid (below_next BB.out hb)
  clear hb
  have HW := Lib.hid (h1'.of_room)
  clear h1'
  obtain ⟨c_res0, c_res1, f_res0, f_res1⟩ := reads2 r_res.out
  have l_res := r_res.out.lt
  go_wp2_with fail
  refine bodyPost_ret (v := wv h1 l1) (by unfold results; simp only [Try.results44]; go_simp) rfl ⟨_, _, rfl, ?_, ?_⟩
  · exact below_new (below_set2 BB.out (by omega) _ _) _
  · have h := HW.out
    rw [HS.out (!(sx == sy)) rfl] at h
    exact h HR.out

theorem scale_law {n y hi lo over mid h2 l2 c s : Int} (hn : S128 n hi lo) (hy : 0 ≤ y) (e1 : over * 18446744073709551616 + mid = hi * y) (e2 : h2 * 18446744073709551616 + l2 = lo * y) (e3 : c * 18446744073709551616 + s = h2 + mid + 0)
    (o : U64 over) (m : U64 mid) (l : U64 l2) (hs : U64 s) (c0 : 0 ≤ c) : n * y = (over + c) * 340282366920938463463374607431768211456 + s * 18446744073709551616 + l2 := by
  obtain ⟨_, _, rfl⟩ := hn
  have : (hi * 18446744073709551616 + lo) * y = hi * y * 18446744073709551616 + lo * y := by grind
  omega

end Go.Proofs.Ytommpclkiiffpaa
