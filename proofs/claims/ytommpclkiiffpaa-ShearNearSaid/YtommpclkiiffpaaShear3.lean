/- Contracts of the slants' Back, Bounds, Quarter. -/
import Derived.Test.YtommpclkiiffpaaShear2
set_option linter.unusedVariables false
namespace Go.Proofs.Ytommpclkiiffpaa
open Go.RowKit

/-- The pixel that comes from a place, as seen from that around which is turned. -/
def bkX1 (a x0 y0 : Int) : Int := x0 - slant a y0
def bkY1 (a b x0 y0 : Int) : Int := y0 - slant b (bkX1 a x0 y0)
def bkX2 (a b x0 y0 : Int) : Int := bkX1 a x0 y0 - slant a (bkY1 a b x0 y0)
theorem bk_facts {a b x0 y0 : Int} (ha : -262144 ≤ a ∧ a ≤ 262144) (hb : -262144 ≤ b ∧ b ≤ 262144) (hx : -1073741824 ≤ x0 ∧ x0 ≤ 1073741824) (hy : -1073741824 ≤ y0 ∧ y0 ≤ 1073741824) :
    (-8589934592 ≤ bkX1 a x0 y0 ∧ bkX1 a x0 y0 ≤ 8589934592) ∧ (-68719476736 ≤ bkY1 a b x0 y0 ∧ bkY1 a b x0 y0 ≤ 68719476736) ∧ (-549755813888 ≤ bkX2 a b x0 y0 ∧ bkX2 a b x0 y0 ≤ 549755813888) := by
  have s1 := slant_in (B := 4294967297) ha hy (by omega)
  have h1 : -8589934592 ≤ bkX1 a x0 y0 ∧ bkX1 a x0 y0 ≤ 8589934592 := by unfold bkX1; omega
  have s2 := slant_in (B := 34359738369) hb h1 (by omega)
  have h2 : -68719476736 ≤ bkY1 a b x0 y0 ∧ bkY1 a b x0 y0 ≤ 68719476736 := by unfold bkY1; omega
  have s3 := slant_in (B := 274877906945) ha h2 (by omega)
  exact ⟨h1, h2, by unfold bkX2; omega⟩
/-- Back from where a pixel comes from is that pixel; and the other way round. -/
theorem bk_sh (a b x0 y0 : Int) : bkX2 a b (shX2 a b x0 y0) (shY1 a b x0 y0) = x0 ∧ bkY1 a b (shX2 a b x0 y0) (shY1 a b x0 y0) = y0 := by
  have e1 : bkX1 a (shX2 a b x0 y0) (shY1 a b x0 y0) = shX1 a x0 y0 := by unfold bkX1 shX2; omega
  have e2 : bkY1 a b (shX2 a b x0 y0) (shY1 a b x0 y0) = y0 := by unfold bkY1; rw [e1]; unfold shY1; omega
  exact ⟨by unfold bkX2; rw [e1, e2]; unfold shX1; omega, e2⟩
theorem sh_bk (a b x0 y0 : Int) : shX2 a b (bkX2 a b x0 y0) (bkY1 a b x0 y0) = x0 ∧ shY1 a b (bkX2 a b x0 y0) (bkY1 a b x0 y0) = y0 := by
  have e1 : shX1 a (bkX2 a b x0 y0) (bkY1 a b x0 y0) = bkX1 a x0 y0 := by unfold shX1 bkX2; omega
  have e2 : shY1 a b (bkX2 a b x0 y0) (bkY1 a b x0 y0) = y0 := by unfold shY1; rw [e1]; unfold bkY1; omega
  exact ⟨by unfold shX2; rw [e1, e2]; unfold bkX1; omega, e2⟩

theorem shback_nil (x y : Int) (w : World) : Calls Try.prog 33 #[.pointer none, .int .i64 x, .int .i64 y] w fun e w' => e = .returned (.tuple #[.int .i64 0, .int .i64 0, .bool false]) ∧ w = w' := by
  go_enter Try.func33, Try.ntmps33
  go_wp2
  refine bodyPost_ret (v := .tuple #[.int .i64 0, .int .i64 0, .bool false]) (by unfold results; simp only [Try.results33]; go_simp) rfl ?_
  exact ⟨rfl, rfl⟩

set_option maxRecDepth 100000 in
set_option maxHeartbeats 4000000 in
theorem shback_far (g : Nat) (x y : Int) (hp : ¬ (inI x 536870912 = true ∧ inI y 536870912 = true)) (w : World) :
    Calls Try.prog 33 #[.pointer (some ⟨g, 0, none⟩), .int .i64 x, .int .i64 y] w fun e w' => e = .returned (.tuple #[.int .i64 0, .int .i64 0, .bool false]) ∧ w = w' := by
  have CI := Lib.hid (fun x w => shin x 536870912 (by omega) (by omega) w)
  rcases hb : inI x 536870912 with _ | _
  · skip
    go_enter Try.func33, Try.ntmps33
    go_wp2_with fail
    have BB : Hid (Below w.heap.size w w) := Below.refl _ _
    refine (CI.out _ _).mono ?_
    rintro e w9 ⟨rfl, rfl⟩
    rw [hb]
    go_wp2_with fail
    refine bodyPost_ret (v := .tuple #[.int .i64 0, .int .i64 0, .bool false]) (by unfold results; simp only [Try.results33]; go_simp) rfl ?_
    exact ⟨rfl, rfl⟩
  rcases hb1 : inI y 536870912 with _ | _
  · skip
    go_enter Try.func33, Try.ntmps33
    go_wp2_with fail
    have BB : Hid (Below w.heap.size w w) := Below.refl _ _
    refine (CI.out _ _).mono ?_
    rintro e w9 ⟨rfl, rfl⟩
    rw [hb]
    go_wp2_with fail
    refine (CI.out _ _).mono ?_
    rintro e w9 ⟨rfl, rfl⟩
    rw [hb1]
    go_wp2_with fail
    refine bodyPost_ret (v := .tuple #[.int .i64 0, .int .i64 0, .bool false]) (by unfold results; simp only [Try.results33]; go_simp) rfl ?_
    exact ⟨rfl, rfl⟩
  exact absurd ⟨hb, hb1⟩ hp

set_option maxRecDepth 100000 in
set_option maxHeartbeats 8000000 in
theorem shback_ok (g : Nat) (a b cx cy x y : Int) (hb : inI x 536870912 = true) (hb1 : inI y 536870912 = true) (hM : SM a b cx cy) (w : World) (hm : AtB w g (shCells a b cx cy) ST) :
    Calls Try.prog 33 #[.pointer (some ⟨g, 0, none⟩), .int .i64 x, .int .i64 y] w fun e w' =>
      e = .returned (.tuple #[.int .i64 (bkX2 a b (x - cx) (y - cy) + cx), .int .i64 (bkY1 a b (x - cx) (y - cy) + cy), .bool true]) ∧ Below w.heap.size w w' := by
  have CI := Lib.hid (fun x w => shin x 536870912 (by omega) (by omega) w)
  have k0 := inI_iff.1 hb
  have k1 := inI_iff.1 hb1
  obtain ⟨ha, hbb, hx, hy⟩ := hM
  obtain ⟨f1, f2, f3⟩ := bk_facts (x0 := x - cx) (y0 := y - cy) ha hbb (by omega) (by omega)
  have i1 : IntKind.i64.wrap (x - cx) = x - cx := iw (by omega)
  have i2 : IntKind.i64.wrap (y - cy) = y - cy := iw (by omega)
  have A1 := Lib.hid (fun g w hp => shunacross g (x - cx) (y - cy) a ha (by omega) (by omega) w hp)
  have A2 := Lib.hid (fun g w hp => shunalong g (bkX1 a (x - cx) (y - cy)) (y - cy) b hbb (by omega) (by omega) w hp)
  have A3 := Lib.hid (fun g w hp => shunacross g (bkX1 a (x - cx) (y - cy)) (bkY1 a b (x - cx) (y - cy)) a ha (by omega) (by omega) w hp)
  have r_m := Lib.hid hm
  clear hm k0 k1
  go_enter Try.func33, Try.ntmps33
  go_wp2_with fail
  have BB : Hid (Below w.heap.size w w) := Below.refl _ _
  refine (CI.out _ _).mono ?_
  rintro e w9 ⟨rfl, rfl⟩
  rw [hb]
  go_wp2_with fail
  refine (CI.out _ _).mono ?_
  rintro e w9 ⟨rfl, rfl⟩
  rw [hb1]
  obtain ⟨c_m0, c_m1, c_m2, c_m3, f_m0, f_m1, f_m2, f_m3⟩ := reads4 r_m.out
  have l_m := r_m.out.lt
  go_wp2_with fail
  have r_lt := Lib.hid r_m.out.lt
  go_region
  clear c_m0 c_m1 c_m2 c_m3 f_m0 f_m1 f_m2 f_m3 l_m
  obtain ⟨hb, r_p⟩ := laid_drew w #[.int .i64 (x - cx), .int .i64 (y - cy)] PT
  replace r_m := Lib.hid (r_m.out.keep hb)
  replace BB := Lib.hid (below_next BB.out hb)
  replace r_p := Lib.hid r_p
  clear hb
  generalize (w.alloc (.cells #[.int .i64 (x - cx), .int .i64 (y - cy)] PT)).drew = w1 at *
  obtain ⟨c_m0, c_m1, c_m2, c_m3, f_m0, f_m1, f_m2, f_m3⟩ := reads4 r_m.out
  have l_m := r_m.out.lt
  go_wp2_with fail
  refine (A1.out _ _ r_p.out).mono ?_; rintro e w5 ⟨rfl, hb', hp⟩
  replace r_p := Lib.hid hp
  replace r_m := Lib.hid (r_m.out.keepB hb' (r_lt.out))
  replace BB := Lib.hid (BB.out.trans (hb'.mono (Nat.le_refl _)))
  clear c_m0 c_m1 c_m2 c_m3 f_m0 f_m1 f_m2 f_m3 l_m
  clear hb' hp
  obtain ⟨c_m0, c_m1, c_m2, c_m3, f_m0, f_m1, f_m2, f_m3⟩ := reads4 r_m.out
  have l_m := r_m.out.lt
  go_wp2_with fail
  refine (A2.out _ _ r_p.out).mono ?_; rintro e w6 ⟨rfl, hb', hp⟩
  replace r_p := Lib.hid hp
  replace r_m := Lib.hid (r_m.out.keepB hb' (r_lt.out))
  replace BB := Lib.hid (BB.out.trans (hb'.mono (Nat.le_refl _)))
  clear c_m0 c_m1 c_m2 c_m3 f_m0 f_m1 f_m2 f_m3 l_m
  clear hb' hp
  obtain ⟨c_m0, c_m1, c_m2, c_m3, f_m0, f_m1, f_m2, f_m3⟩ := reads4 r_m.out
  have l_m := r_m.out.lt
  go_wp2_with fail
  refine (A3.out _ _ r_p.out).mono ?_; rintro e w7 ⟨rfl, hb', hp⟩
  replace r_p := Lib.hid hp
  replace r_m := Lib.hid (r_m.out.keepB hb' (r_lt.out))
  replace BB := Lib.hid (BB.out.trans (hb'.mono (Nat.le_refl _)))
  clear c_m0 c_m1 c_m2 c_m3 f_m0 f_m1 f_m2 f_m3 l_m
  clear hb' hp
  clear A1 A2 A3
  replace r_p := Lib.hid (show AtB w7 w.heap.size #[.int .i64 (bkX2 a b (x - cx) (y - cy)), .int .i64 (bkY1 a b (x - cx) (y - cy))] PT from r_p.out)
  generalize hU : bkX2 a b (x - cx) (y - cy) = U at *
  generalize hV : bkY1 a b (x - cx) (y - cy) = V at *
  replace hU := Lib.hid hU; replace hV := Lib.hid hV
  have j1 : wrap64 (U + cx) = U + cx := ww (by omega)
  have j2 : wrap64 (V + cy) = V + cy := ww (by omega)
  obtain ⟨c_m0, c_m1, c_m2, c_m3, f_m0, f_m1, f_m2, f_m3⟩ := reads4 r_m.out
  have l_m := r_m.out.lt
  obtain ⟨c_p0, c_p1, f_p0, f_p1⟩ := reads2 r_p.out
  have l_p := r_p.out.lt
  go_wp2_with fail
  go_quiet (fail)
  have hb := below_drawn (Below.refl w7.heap.size w7) nq
  generalize w7.drewN nq = w2 at *
  clear c_m0 c_m1 c_m2 c_m3 f_m0 f_m1 f_m2 f_m3 l_m c_p0 c_p1 f_p0 f_p1 l_p
  replace r_m := Lib.hid (r_m.out.keep hb)
  replace r_p := Lib.hid (r_p.out.keep hb)
  replace BB := Lib.hid (below_next BB.out hb)
  clear hb nq
  go_wp2_with fail
  refine bodyPost_ret (v := .tuple #[.int .i64 (U + cx), .int .i64 (V + cy), .bool true]) (by unfold results; simp only [Try.results33]; go_simp) rfl ?_
  exact ⟨by rw [hU.out, hV.out], BB.out⟩

end Go.Proofs.Ytommpclkiiffpaa
