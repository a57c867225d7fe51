/- Contract of the slants' At. -/
import Derived.Test.YtommpclkiiffpaaShear1
import Derived.Test.YtommpclkiiffpaaQuot5
import Derived.Test.YtommpclkiiffpaaJA
set_option linter.unusedVariables false
namespace Go.Proofs.Ytommpclkiiffpaa
open Go.RowKit

theorem near_pos {a d : Int} (hd : 1 ≤ d) : nearI a d = (2 * a + d) / (2 * d) := Int.fdiv_eq_ediv_of_nonneg _ (by omega)
theorem near_in {a d : Int} (ha : -1048576 ≤ a ∧ a ≤ 1048576) (hd : 1 ≤ d) : -1048577 ≤ nearI a d ∧ nearI a d ≤ 1048577 := by
  rw [near_pos hd]
  constructor
  · refine Int.le_ediv_of_mul_le (by omega) ?_
    have : 1048576 * 1 ≤ 1048576 * d := Int.mul_le_mul_of_nonneg_left hd (by omega)
    omega
  · refine Int.le_of_lt_add_one (Int.ediv_lt_of_lt_mul (by omega) ?_)
    have : 1048576 * 1 ≤ 1048576 * d := Int.mul_le_mul_of_nonneg_left hd (by omega)
    omega
theorem qnear_ok (a d : Int) (ha : -1048576 ≤ a ∧ a ≤ 1048576) (hd : 1 ≤ d) (hd' : d ≤ 16) (w : World) : Calls Try.prog 55 #[.int .i64 a, .int .i64 d] w fun e w' => e = .returned (.tuple #[.int .i64 (nearI a d), .bool true]) ∧ Below w.heap.size w w' := by
  refine (qnear a d ⟨by omega, by omega⟩ ⟨by omega, by omega⟩ w).mono ?_
  rintro e w' ⟨x, is, rfl, hb, h⟩
  have hn := near_in ha hd
  rcases h with ⟨-, -, rfl, rfl⟩ | ⟨k, -, -⟩
  · exact ⟨rfl, hb⟩
  · exact absurd ⟨by simp; omega, by unfold I64; omega⟩ k

/-- Where a pixel comes from, as seen from that around which is turned: across, along, across. -/
def shX1 (a x0 y0 : Int) : Int := x0 + slant a y0
def shY1 (a b x0 y0 : Int) : Int := y0 + slant b (shX1 a x0 y0)
def shX2 (a b x0 y0 : Int) : Int := shX1 a x0 y0 + slant a (shY1 a b x0 y0)
theorem slant_in {k y K Y B : Int} (hk : -K ≤ k ∧ k ≤ K) (hy : -Y ≤ y ∧ y ≤ Y) (hB : K * Y + 32768 ≤ 65536 * B) : -B ≤ slant k y ∧ slant k y ≤ B := by
  have m := mul_in hk hy
  unfold slant; omega
theorem sh_facts {a b x0 y0 : Int} (ha : -262144 ≤ a ∧ a ≤ 262144) (hb : -262144 ≤ b ∧ b ≤ 262144) (hx : -1073741824 ≤ x0 ∧ x0 ≤ 1073741824) (hy : -1073741824 ≤ y0 ∧ y0 ≤ 1073741824) :
    (-8589934592 ≤ shX1 a x0 y0 ∧ shX1 a x0 y0 ≤ 8589934592) ∧ (-68719476736 ≤ shY1 a b x0 y0 ∧ shY1 a b x0 y0 ≤ 68719476736) ∧ (-549755813888 ≤ shX2 a b x0 y0 ∧ shX2 a b x0 y0 ≤ 549755813888) := by
  have s1 := slant_in (B := 4294967297) ha hy (by omega)
  have h1 : -8589934592 ≤ shX1 a x0 y0 ∧ shX1 a x0 y0 ≤ 8589934592 := by unfold shX1; omega
  have s2 := slant_in (B := 34359738369) hb h1 (by omega)
  have h2 : -68719476736 ≤ shY1 a b x0 y0 ∧ shY1 a b x0 y0 ≤ 68719476736 := by unfold shY1; omega
  have s3 := slant_in (B := 274877906945) ha h2 (by omega)
  exact ⟨h1, h2, by unfold shX2; omega⟩

theorem shat_nil (px py d : Int) (w : World) : Calls Try.prog 31 #[.pointer none, .int .i64 px, .int .i64 py, .int .i64 d] w fun e w' => e = .returned (.tuple #[.int .i64 0, .int .i64 0, .int .i64 10]) ∧ w = w' := by
  go_enter Try.func31, Try.ntmps31
  go_wp2
  refine bodyPost_ret (v := .tuple #[.int .i64 0, .int .i64 0, .int .i64 10]) (by unfold results; simp only [Try.results31]; go_simp) rfl ?_
  exact ⟨rfl, rfl⟩

set_option maxRecDepth 100000 in
set_option maxHeartbeats 4000000 in
theorem shat_bad (g : Nat) (px py d : Int) (hp : rightI px py d = false) (w : World) :
    Calls Try.prog 31 #[.pointer (some ⟨g, 0, none⟩), .int .i64 px, .int .i64 py, .int .i64 d] w fun e w' => e = .returned (.tuple #[.int .i64 0, .int .i64 0, .int .i64 11]) ∧ w = w' := by
  have CI := Lib.hid (fun x w => shin x 1048576 (by omega) (by omega) w)
  rcases hb : inI px 1048576 with _ | _
  · skip
    go_enter Try.func31, Try.ntmps31
    go_wp2_with fail
    have BB : Hid (Below w.heap.size w w) := Below.refl _ _
    refine (CI.out _ _).mono ?_
    rintro e w9 ⟨rfl, rfl⟩
    rw [hb]
    go_wp2_with fail
    refine bodyPost_ret (v := .tuple #[.int .i64 0, .int .i64 0, .int .i64 11]) (by unfold results; simp only [Try.results31]; go_simp) rfl ?_
    exact ⟨rfl, rfl⟩
  rcases hb1 : inI py 1048576 with _ | _
  · skip
    go_enter Try.func31, Try.ntmps31
    go_wp2_with fail
    have BB : Hid (Below w.heap.size w w) := Below.refl _ _
    refine (CI.out _ _).mono ?_
    rintro e w9 ⟨rfl, rfl⟩
    rw [hb]
    go_wp2_with fail
    refine (CI.out _ _).mono ?_
    rintro e w9 ⟨rfl, rfl⟩
    rw [hb1]
    go_wp2_with fail
    refine bodyPost_ret (v := .tuple #[.int .i64 0, .int .i64 0, .int .i64 11]) (by unfold results; simp only [Try.results31]; go_simp) rfl ?_
    exact ⟨rfl, rfl⟩
  rcases dec_both (d < 1) with ⟨h, hd⟩ | ⟨h, hd⟩
  · clear hp h
    go_enter Try.func31, Try.ntmps31
    go_wp2_with fail
    have BB : Hid (Below w.heap.size w w) := Below.refl _ _
    refine (CI.out _ _).mono ?_
    rintro e w9 ⟨rfl, rfl⟩
    rw [hb]
    go_wp2_with fail
    refine (CI.out _ _).mono ?_
    rintro e w9 ⟨rfl, rfl⟩
    rw [hb1]
    go_wp2_with fail
    refine bodyPost_ret (v := .tuple #[.int .i64 0, .int .i64 0, .int .i64 11]) (by unfold results; simp only [Try.results31]; go_simp) rfl ?_
    exact ⟨rfl, rfl⟩
  have h' : d > 16 := right_last hp hb hb1 (by omega)
  have hd' : decide (d > 16) = true := decide_eq_true h'
  clear hp h h'
  go_enter Try.func31, Try.ntmps31
  go_wp2_with fail
  have BB : Hid (Below w.heap.size w w) := Below.refl _ _
  refine (CI.out _ _).mono ?_
  rintro e w9 ⟨rfl, rfl⟩
  rw [hb]
  go_wp2_with fail
  refine (CI.out _ _).mono ?_
  rintro e w9 ⟨rfl, rfl⟩
  rw [hb1]
  go_wp2_with fail
  refine bodyPost_ret (v := .tuple #[.int .i64 0, .int .i64 0, .int .i64 11]) (by unfold results; simp only [Try.results31]; go_simp) rfl ?_
  exact ⟨rfl, rfl⟩

set_option maxRecDepth 100000 in
set_option maxHeartbeats 8000000 in
theorem shat_ok (g : Nat) (a b cx cy px py d : Int) (hp : rightI px py d = true) (hM : SM a b cx cy) (w : World) (hm : AtB w g (shCells a b cx cy) ST) :
    Calls Try.prog 31 #[.pointer (some ⟨g, 0, none⟩), .int .i64 px, .int .i64 py, .int .i64 d] w fun e w' =>
      e = .returned (.tuple #[.int .i64 (65536 * (shX2 a b (nearI px d - cx) (nearI py d - cy) + cx)), .int .i64 (65536 * (shY1 a b (nearI px d - cx) (nearI py d - cy) + cy)), .int .i64 0]) ∧ Below w.heap.size w w' := by
  have CI := Lib.hid (fun x w => shin x 1048576 (by omega) (by omega) w)
  obtain ⟨k0, k1, h1, h2⟩ := rightI_iff.1 hp
  have hb := inI_iff.2 k0
  have hb1 := inI_iff.2 k1
  have hd : decide (d < 1) = false := decide_eq_false (by omega)
  have hd' : decide (d > 16) = false := decide_eq_false (by omega)
  have N1 := Lib.hid (fun w => qnear_ok px d k0 h1 h2 w)
  have N2 := Lib.hid (fun w => qnear_ok py d k1 h1 h2 w)
  have n1 := near_in k0 h1
  have n2 := near_in k1 h1
  obtain ⟨ha, hbb, hx, hy⟩ := hM
  generalize nearI px d = X at *
  generalize nearI py d = Y at *
  obtain ⟨f1, f2, f3⟩ := sh_facts (x0 := X - cx) (y0 := Y - cy) ha hbb (by omega) (by omega)
  have i1 : IntKind.i64.wrap (X - cx) = X - cx := iw (by omega)
  have i2 : IntKind.i64.wrap (Y - cy) = Y - cy := iw (by omega)
  have A1 := Lib.hid (fun g w hp => shacross g (X - cx) (Y - cy) a ha (by omega) (by omega) w hp)
  have A2 := Lib.hid (fun g w hp => shalong g (shX1 a (X - cx) (Y - cy)) (Y - cy) b hbb (by omega) (by omega) w hp)
  have A3 := Lib.hid (fun g w hp => shacross g (shX1 a (X - cx) (Y - cy)) (shY1 a b (X - cx) (Y - cy)) a ha (by omega) (by omega) w hp)
  have r_m := Lib.hid hm
  clear hm hp k0 k1 h1 h2
  go_enter Try.func31, Try.ntmps31
  go_wp2_with fail
  have BB : Hid (Below w.heap.size w w) := Below.refl _ _
  refine (CI.out _ _).mono ?_
  rintro e w9 ⟨rfl, rfl⟩
  rw [hb]
  go_wp2_with fail
  refine (CI.out _ _).mono ?_
  rintro e w9 ⟨rfl, rfl⟩
  rw [hb1]
  go_wp2_with fail
  refine (N1.out _).mono ?_
  rintro e w1 ⟨rfl, hb⟩
  replace r_m := Lib.hid (r_m.out.keep hb)
  replace BB := Lib.hid (below_next BB.out hb)
  clear hb
  go_wp2_with fail
  refine (N2.out _).mono ?_
  rintro e w2 ⟨rfl, hb⟩
  replace r_m := Lib.hid (r_m.out.keep hb)
  replace BB := Lib.hid (below_next BB.out hb)
  clear hb
  obtain ⟨c_m0, c_m1, c_m2, c_m3, f_m0, f_m1, f_m2, f_m3⟩ := reads4 r_m.out
  have l_m := r_m.out.lt
  go_wp2_with fail
  go_region
  clear c_m0 c_m1 c_m2 c_m3 f_m0 f_m1 f_m2 f_m3 l_m
  have d_p := Lib.hid (And.intro BB.out.size (And.intro r_m.out.lt (True.intro)))
  obtain ⟨hb, r_p⟩ := laid_drew w2 #[.int .i64 (X - cx), .int .i64 (Y - cy)] PT
  replace r_m := Lib.hid (r_m.out.keep hb)
  replace BB := Lib.hid (below_next BB.out hb)
  replace r_p := Lib.hid r_p
  clear hb
  generalize (w2.alloc (.cells #[.int .i64 (X - cx), .int .i64 (Y - cy)] PT)).drew = w3 at *
  generalize w2.heap.size = g_p at *
  obtain ⟨c_m0, c_m1, c_m2, c_m3, f_m0, f_m1, f_m2, f_m3⟩ := reads4 r_m.out
  have l_m := r_m.out.lt
  go_wp2_with fail
  refine (A1.out _ _ r_p.out).mono ?_; rintro e w5 ⟨rfl, hb, hp⟩
  replace r_p := Lib.hid hp
  replace r_m := Lib.hid (r_m.out.keepB hb (by have := d_p.out; omega))
  replace BB := Lib.hid (BB.out.trans (hb.mono (by have := d_p.out; omega)))
  clear c_m0 c_m1 c_m2 c_m3 f_m0 f_m1 f_m2 f_m3 l_m
  clear hb hp
  obtain ⟨c_m0, c_m1, c_m2, c_m3, f_m0, f_m1, f_m2, f_m3⟩ := reads4 r_m.out
  have l_m := r_m.out.lt
  go_wp2_with fail
  refine (A2.out _ _ r_p.out).mono ?_; rintro e w6 ⟨rfl, hb, hp⟩
  replace r_p := Lib.hid hp
  replace r_m := Lib.hid (r_m.out.keepB hb (by have := d_p.out; omega))
  replace BB := Lib.hid (BB.out.trans (hb.mono (by have := d_p.out; omega)))
  clear c_m0 c_m1 c_m2 c_m3 f_m0 f_m1 f_m2 f_m3 l_m
  clear hb hp
  obtain ⟨c_m0, c_m1, c_m2, c_m3, f_m0, f_m1, f_m2, f_m3⟩ := reads4 r_m.out
  have l_m := r_m.out.lt
  go_wp2_with fail
  refine (A3.out _ _ r_p.out).mono ?_; rintro e w7 ⟨rfl, hb, hp⟩
  replace r_p := Lib.hid hp
  replace r_m := Lib.hid (r_m.out.keepB hb (by have := d_p.out; omega))
  replace BB := Lib.hid (BB.out.trans (hb.mono (by have := d_p.out; omega)))
  clear c_m0 c_m1 c_m2 c_m3 f_m0 f_m1 f_m2 f_m3 l_m
  clear hb hp
  clear A1 A2 A3
  replace r_p := Lib.hid (show AtB w7 g_p #[.int .i64 (shX2 a b (X - cx) (Y - cy)), .int .i64 (shY1 a b (X - cx) (Y - cy))] PT from r_p.out)
  generalize hU : shX2 a b (X - cx) (Y - cy) = U at *
  generalize hV : shY1 a b (X - cx) (Y - cy) = V at *
  replace hU := Lib.hid hU; replace hV := Lib.hid hV
  have j1 : IntKind.i64.wrap (U + cx) = U + cx := iw (by omega)
  have j2 : IntKind.i64.wrap (V + cy) = V + cy := iw (by omega)
  have j3 : wrap64 (65536 * (U + cx)) = 65536 * (U + cx) := ww (by omega)
  have j4 : wrap64 (65536 * (V + cy)) = 65536 * (V + cy) := ww (by omega)
  obtain ⟨c_m0, c_m1, c_m2, c_m3, f_m0, f_m1, f_m2, f_m3⟩ := reads4 r_m.out
  have l_m := r_m.out.lt
  obtain ⟨c_p0, c_p1, f_p0, f_p1⟩ := reads2 r_p.out
  have l_p := r_p.out.lt
  go_wp2_with fail
  go_quiet (fail)
  have hb := below_drawn (Below.refl w7.heap.size w7) nq
  generalize w7.drewN nq = w4 at *
  clear c_m0 c_m1 c_m2 c_m3 f_m0 f_m1 f_m2 f_m3 l_m c_p0 c_p1 f_p0 f_p1 l_p
  replace r_m := Lib.hid (r_m.out.keep hb)
  replace r_p := Lib.hid (r_p.out.keep hb)
  replace BB := Lib.hid (below_next BB.out hb)
  clear hb nq
  go_wp2_with fail
  refine bodyPost_ret (v := .tuple #[.int .i64 (65536 * (U + cx)), .int .i64 (65536 * (V + cy)), .int .i64 0]) (by unfold results; simp only [Try.results31]; go_simp) rfl ?_
  exact ⟨by rw [hU.out, hV.out], BB.out⟩

end Go.Proofs.Ytommpclkiiffpaa
