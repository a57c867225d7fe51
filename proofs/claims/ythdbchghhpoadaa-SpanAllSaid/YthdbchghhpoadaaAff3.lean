/- Contract of the affine maps' At. -/
import Derived.Test.YthdbchghhpoadaaAff2
set_option linter.unusedVariables false
namespace Go.Proofs.Ythdbchghhpoadaa
open Go.RowKit

/-- Where a place's number comes from: a line's numbers with the place's, over the divisor, cut. -/
def plU (k0 k1 k2 D px py d : Int) : Int := cutI (((k0 * px + k1 * py + k2 * d) * 65536).fdiv (D * d))
/-- The bounds of a map's lines and divisor. -/
structure LB (a0 a1 a2 D : Int) : Prop where
  a : -1099511627776 ≤ a0 ∧ a0 ≤ 1099511627776
  b : -1099511627776 ≤ a1 ∧ a1 ≤ 1099511627776
  c : -72057594037927936 ≤ a2 ∧ a2 ≤ 72057594037927936
  d : -562949953421312 ≤ D ∧ D ≤ 562949953421312
  z : D ≠ 0
theorem AM.lines {c0 c1 c2 c3 c4 c5 : Int} (h : AM c0 c1 c2 c3 c4 c5) : LB (65536 * c4) (-65536 * c1) (c1 * c5 - c4 * c2) (detI c0 c1 c3 c4) ∧ LB (-65536 * c3) (65536 * c0) (c3 * c2 - c0 * c5) (detI c0 c1 c3 c4) := by
  have m1 := mul_in h.b h.f
  have m2 := mul_in h.e h.c
  have m3 := mul_in h.d h.c
  have m4 := mul_in h.a h.f
  have hd := (det_in h.a h.b h.d h.e).2.2
  obtain ⟨ha, hb, hc, hd', he, hf, hz⟩ := h
  exact ⟨⟨by omega, by omega, by omega, hd, hz⟩, ⟨by omega, by omega, by omega, hd, hz⟩⟩
theorem place_facts {a0 a1 a2 D px py d : Int} (h : LB a0 a1 a2 D) (hp : -1048576 ≤ px ∧ px ≤ 1048576) (hq : -1048576 ≤ py ∧ py ≤ 1048576) (h1 : 1 ≤ d) (h2 : d ≤ 16) :
    I128 (a0 * px + a1 * py) ∧ I128 (a0 * px + a1 * py + a2 * d) ∧ I64 (D * d) ∧ D * d ≠ 0 := by
  have m1 := mul_in h.a hp
  have m2 := mul_in h.b hq
  have m3 := mul_in h.c (show -16 ≤ d ∧ d ≤ 16 by omega)
  have m4 := mul_in h.d (show -16 ≤ d ∧ d ≤ 16 by omega)
  exact ⟨⟨by omega, by omega⟩, ⟨by omega, by omega⟩, ⟨by omega, by omega⟩, Int.mul_ne_zero h.z (by omega)⟩

theorem afat_nil (px py d : Int) (w : World) : Calls Try.prog 34 #[.pointer none, .int .i64 px, .int .i64 py, .int .i64 d] w fun e w' => e = .returned (.tuple #[.int .i64 0, .int .i64 0, .int .i64 10]) ∧ w = w' := by
  go_enter Try.func34, Try.ntmps34
  go_wp2
  refine bodyPost_ret (v := .tuple #[.int .i64 0, .int .i64 0, .int .i64 10]) (by unfold results; simp only [Try.results34]; go_simp) rfl ?_
  exact ⟨rfl, rfl⟩

set_option maxRecDepth 100000 in
set_option maxHeartbeats 4000000 in
theorem afat_bad (g : Nat) (px py d : Int) (hp : rightI px py d = false) (w : World) :
    Calls Try.prog 34 #[.pointer (some ⟨g, 0, none⟩), .int .i64 px, .int .i64 py, .int .i64 d] w fun e w' => e = .returned (.tuple #[.int .i64 0, .int .i64 0, .int .i64 11]) ∧ w = w' := by
  have CI := Lib.hid (fun x w => afin x 1048576 (by omega) (by omega) w)
  rcases hb : inI px 1048576 with _ | _
  · skip
    go_enter Try.func34, Try.ntmps34
    go_wp2_with fail
    have BB : Hid (Below w.heap.size w w) := Below.refl _ _
    refine (CI.out _ _).mono ?_
    rintro e w9 ⟨rfl, rfl⟩
    rw [hb]
    go_wp2_with fail
    refine bodyPost_ret (v := .tuple #[.int .i64 0, .int .i64 0, .int .i64 11]) (by unfold results; simp only [Try.results34]; go_simp) rfl ?_
    exact ⟨rfl, rfl⟩
  rcases hb1 : inI py 1048576 with _ | _
  · skip
    go_enter Try.func34, Try.ntmps34
    go_wp2_with fail
    have BB : Hid (Below w.heap.size w w) := Below.refl _ _
    refine (CI.out _ _).mono ?_
    rintro e w9 ⟨rfl, rfl⟩
    rw [hb]
    go_wp2_with fail
    refine (CI.out _ _).mono ?_
    rintro e w9 ⟨rfl, rfl⟩
    rw [hb1]
    go_wp2_with fail
    refine bodyPost_ret (v := .tuple #[.int .i64 0, .int .i64 0, .int .i64 11]) (by unfold results; simp only [Try.results34]; go_simp) rfl ?_
    exact ⟨rfl, rfl⟩
  rcases dec_both (d < 1) with ⟨h, hd⟩ | ⟨h, hd⟩
  · clear hp h
    go_enter Try.func34, Try.ntmps34
    go_wp2_with fail
    have BB : Hid (Below w.heap.size w w) := Below.refl _ _
    refine (CI.out _ _).mono ?_
    rintro e w9 ⟨rfl, rfl⟩
    rw [hb]
    go_wp2_with fail
    refine (CI.out _ _).mono ?_
    rintro e w9 ⟨rfl, rfl⟩
    rw [hb1]
    go_wp2_with fail
    refine bodyPost_ret (v := .tuple #[.int .i64 0, .int .i64 0, .int .i64 11]) (by unfold results; simp only [Try.results34]; go_simp) rfl ?_
    exact ⟨rfl, rfl⟩
  have h' : d > 16 := right_last hp hb hb1 (by omega)
  have hd' : decide (d > 16) = true := decide_eq_true h'
  clear hp h h'
  go_enter Try.func34, Try.ntmps34
  go_wp2_with fail
  have BB : Hid (Below w.heap.size w w) := Below.refl _ _
  refine (CI.out _ _).mono ?_
  rintro e w9 ⟨rfl, rfl⟩
  rw [hb]
  go_wp2_with fail
  refine (CI.out _ _).mono ?_
  rintro e w9 ⟨rfl, rfl⟩
  rw [hb1]
  go_wp2_with fail
  refine bodyPost_ret (v := .tuple #[.int .i64 0, .int .i64 0, .int .i64 11]) (by unfold results; simp only [Try.results34]; go_simp) rfl ?_
  exact ⟨rfl, rfl⟩

set_option maxRecDepth 100000 in
set_option maxHeartbeats 8000000 in
theorem afat_ok (g : Nat) (a0 a1 a2 a3 a4 a5 D px py d : Int) (hp : rightI px py d = true) (hU : LB a0 a1 a2 D) (hV : LB a3 a4 a5 D) (w : World) (hm : AtB w g #[.int .i64 a0, .int .i64 a1, .int .i64 a2, .int .i64 a3, .int .i64 a4, .int .i64 a5, .int .i64 D] AT) :
    Calls Try.prog 34 #[.pointer (some ⟨g, 0, none⟩), .int .i64 px, .int .i64 py, .int .i64 d] w fun e w' =>
      e = .returned (.tuple #[.int .i64 (plU a0 a1 a2 D px py d), .int .i64 (plU a3 a4 a5 D px py d), .int .i64 0]) ∧ Below w.heap.size w w' := by
  have CI := Lib.hid (fun x w => afin x 1048576 (by omega) (by omega) w)
  obtain ⟨k0, k1, h1, h2⟩ := rightI_iff.1 hp
  have hb := inI_iff.2 k0
  have hb1 := inI_iff.2 k1
  have hd : decide (d < 1) = false := decide_eq_false (by omega)
  have hd' : decide (d > 16) = false := decide_eq_false (by omega)
  obtain ⟨u1, u2, u3, u4⟩ := place_facts hU k0 k1 h1 h2
  obtain ⟨v1, v2, v3, v4⟩ := place_facts hV k0 k1 h1 h2
  obtain ⟨ha, hbb, hc, hD, -⟩ := hU
  obtain ⟨he, hf, hg, -, -⟩ := hV
  have S1 := Lib.hid (fun w => afsum a0 a1 a2 px py d ⟨by omega, by omega⟩ ⟨by omega, by omega⟩ ⟨by omega, by omega⟩ ⟨by omega, by omega⟩ ⟨by omega, by omega⟩ ⟨by omega, by omega⟩ u1 u2 w)
  have S2 := Lib.hid (fun w => afsum a3 a4 a5 px py d ⟨by omega, by omega⟩ ⟨by omega, by omega⟩ ⟨by omega, by omega⟩ ⟨by omega, by omega⟩ ⟨by omega, by omega⟩ ⟨by omega, by omega⟩ v1 v2 w)
  have P1 := Lib.hid (fun ah al hz w => qplace (a0 * px + a1 * py + a2 * d) ah al (D * d) hz u3 u4 w)
  have P2 := Lib.hid (fun ah al hz w => qplace (a3 * px + a4 * py + a5 * d) ah al (D * d) hz u3 u4 w)
  have i1 : IntKind.i64.wrap (D * d) = D * d := iw u3
  have HU : Hid (cutI (((a0 * px + a1 * py + a2 * d) * 65536).fdiv (D * d)) = plU a0 a1 a2 D px py d) := rfl
  have HV : Hid (cutI (((a3 * px + a4 * py + a5 * d) * 65536).fdiv (D * d)) = plU a3 a4 a5 D px py d) := rfl
  rw [HU.out] at P1
  rw [HV.out] at P2
  have r_m := Lib.hid hm
  have hglt := hm.lt
  clear hm hp k0 k1 h1 h2 u1 u2 u3 u4 v1 v2 v3 v4 ha hbb hc hD he hf hg HU HV
  generalize plU a0 a1 a2 D px py d = U at *
  generalize plU a3 a4 a5 D px py d = V at *
  generalize a0 * px + a1 * py + a2 * d = Z1 at *
  generalize a3 * px + a4 * py + a5 * d = Z2 at *
  go_enter Try.func34, Try.ntmps34
  go_wp2_with fail
  have BB : Hid (Below w.heap.size w w) := Below.refl _ _
  refine (CI.out _ _).mono ?_
  rintro e w9 ⟨rfl, rfl⟩
  rw [hb]
  go_wp2_with fail
  refine (CI.out _ _).mono ?_
  rintro e w9 ⟨rfl, rfl⟩
  rw [hb1]
  go_wp2_with fail
  have KK := Lib.hid (fun (w9 : World) (h : Below w.heap.size w w9) => (cells7 (r_m.out.keep h) : (w9.cell? ⟨g, 0, none⟩ = some (.int .i64 a0) ∧ w9.cell? ⟨g, 1, none⟩ = some (.int .i64 a1) ∧ w9.cell? ⟨g, 2, none⟩ = some (.int .i64 a2) ∧ w9.cell? ⟨g, 3, none⟩ = some (.int .i64 a3) ∧ w9.cell? ⟨g, 4, none⟩ = some (.int .i64 a4) ∧ w9.cell? ⟨g, 5, none⟩ = some (.int .i64 a5) ∧ w9.cell? ⟨g, 6, none⟩ = some (.int .i64 D))))
  have K0 := KK.out w (Below.refl _ _)
  have KD := KK.out w.drew (below_drew (Below.refl _ _))
  go_region_held3 (fun w9 => (w9.cell? ⟨g, 0, none⟩ = some (.int .i64 a0) ∧ w9.cell? ⟨g, 1, none⟩ = some (.int .i64 a1) ∧ w9.cell? ⟨g, 2, none⟩ = some (.int .i64 a2) ∧ w9.cell? ⟨g, 3, none⟩ = some (.int .i64 a3) ∧ w9.cell? ⟨g, 4, none⟩ = some (.int .i64 a4) ∧ w9.cell? ⟨g, 5, none⟩ = some (.int .i64 a5) ∧ w9.cell? ⟨g, 6, none⟩ = some (.int .i64 D)))
      (first | with_reducible exact KD | with_reducible exact K0 | with_reducible exact K_w1 | with_reducible exact K_w2)
      (first
        | (go_at_call 71
           refine (S1.out _).mono ?_
           rintro e w1 ⟨hi1, lo1, rfl, hb, hw1⟩
           have B_w1 := Lib.hid (reg_next (w0 := w) (by repeat (first | with_reducible exact Below.refl _ _ | with_reducible apply below_drew | with_reducible apply below_new)) hb)
           have K_w1 := KK.out _ B_w1.out
           clear hb)
        | (go_at_call 70
           refine (P1.out _ _ hw1 _).mono ?_
           rintro e w2 ⟨rfl, hb⟩
           have B_w2 := Lib.hid (below_next B_w1.out hb)
           have K_w2 := KK.out _ B_w2.out
           clear hb))
  clear KK K0 KD K_w1 K_w2
  replace r_m := Lib.hid (r_m.out.keep B_w2.out)
  replace BB := Lib.hid (below_next BB.out B_w2.out)
  clear B_w1 B_w2
  go_wp2_with fail
  have KK := Lib.hid (fun (w9 : World) (h : Below w2.heap.size w2 w9) => (cells7 (r_m.out.keep h) : (w9.cell? ⟨g, 0, none⟩ = some (.int .i64 a0) ∧ w9.cell? ⟨g, 1, none⟩ = some (.int .i64 a1) ∧ w9.cell? ⟨g, 2, none⟩ = some (.int .i64 a2) ∧ w9.cell? ⟨g, 3, none⟩ = some (.int .i64 a3) ∧ w9.cell? ⟨g, 4, none⟩ = some (.int .i64 a4) ∧ w9.cell? ⟨g, 5, none⟩ = some (.int .i64 a5) ∧ w9.cell? ⟨g, 6, none⟩ = some (.int .i64 D))))
  have K0 := KK.out w2 (Below.refl _ _)
  have KD := KK.out w2.drew (below_drew (Below.refl _ _))
  go_region_held3 (fun w9 => (w9.cell? ⟨g, 0, none⟩ = some (.int .i64 a0) ∧ w9.cell? ⟨g, 1, none⟩ = some (.int .i64 a1) ∧ w9.cell? ⟨g, 2, none⟩ = some (.int .i64 a2) ∧ w9.cell? ⟨g, 3, none⟩ = some (.int .i64 a3) ∧ w9.cell? ⟨g, 4, none⟩ = some (.int .i64 a4) ∧ w9.cell? ⟨g, 5, none⟩ = some (.int .i64 a5) ∧ w9.cell? ⟨g, 6, none⟩ = some (.int .i64 D)))
      (first | with_reducible exact KD | with_reducible exact K0 | with_reducible exact K_w3 | with_reducible exact K_w4)
      (first
        | (go_at_call 71
           refine (S2.out _).mono ?_
           rintro e w3 ⟨hi2, lo2, rfl, hb, hw2⟩
           have B_w3 := Lib.hid (reg_next (w0 := w2) (by repeat (first | with_reducible exact Below.refl _ _ | with_reducible apply below_drew | with_reducible apply below_new)) hb)
           have K_w3 := KK.out _ B_w3.out
           clear hb)
        | (go_at_call 70
           refine (P2.out _ _ hw2 _).mono ?_
           rintro e w4 ⟨rfl, hb⟩
           have B_w4 := Lib.hid (below_next B_w3.out hb)
           have K_w4 := KK.out _ B_w4.out
           clear hb))
  clear KK K0 KD K_w3 K_w4
  replace r_m := Lib.hid (r_m.out.keep B_w4.out)
  replace BB := Lib.hid (below_next BB.out B_w4.out)
  clear B_w3 B_w4
  go_wp2_with fail
  refine bodyPost_ret (v := .tuple #[.int .i64 U, .int .i64 V, .int .i64 0]) (by unfold results; simp only [Try.results34]; go_simp) rfl ?_
  exact ⟨rfl, BB.out⟩

end Go.Proofs.Ythdbchghhpoadaa
