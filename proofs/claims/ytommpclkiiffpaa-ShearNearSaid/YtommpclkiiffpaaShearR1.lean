/- Walks of the document's slants, exactly: Exact, Within. -/
import Derived.Test.YtommpclkiiffpaaShearR0
import Derived.Test.YtommpclkiiffpaaRat1
set_option linter.unusedVariables false
namespace Go.Proofs.Ytommpclkiiffpaa
open Go.RowKit

/-- Where a pixel comes from, exactly: the numbers over 65536, 2^32, 2^64. -/
def exX1 (a x0 y0 : Int) : Int := 65536 * x0 + a * y0
def exY1 (a b x0 y0 : Int) : Int := 4294967296 * y0 + b * exX1 a x0 y0
def exX2 (a b x0 y0 : Int) : Int := 281474976710656 * exX1 a x0 y0 + 65536 * (a * exY1 a b x0 y0)
def GiveRR (p q x y : Int) (w : World) (e : Ending) (w' : World) : Prop := ∃ r s, e = .returned (.tuple #[r, s]) ∧ Below w.heap.size w w' ∧ RR w' r p q ∧ RR w' s x y

theorem wd_lit (n : Nat) (z : Int) (h : -(2 : Int) ^ n ≤ z ∧ z ≤ (2 : Int) ^ n) : Wd n z := h

abbrev EmptyR : Array Value := #[.bool false, .slice none 0 0, .bool false, .slice none 0 0]
/-- Two fractions that were stored into two results' boxes. -/
theorem give_rats {p q x y : Int} {w w1 : World} {A B C D : Option Addr} {n c m d n' c' m' d' g h : Nat} {cs ds : Array Value} (hb : Below w.heap.size w w1)
    (h1 : BR w1 (.agg #[.bool (sgn p), .slice A n c]) p) (h2 : BR w1 (.agg #[.bool (sgn q), .slice B m d]) q) (h3 : BR w1 (.agg #[.bool (sgn x), .slice C n' c']) x) (h4 : BR w1 (.agg #[.bool (sgn y), .slice D m' d']) y)
    (hp : AtB w1 g cs RT) (hq : AtB w1 h ds RT) (hne : h ≠ g) (hpw : w.heap.size ≤ g) (hqw : w.heap.size ≤ h) :
    GiveRR p q x y w (.returned (.tuple #[.agg #[.bool (sgn p), .slice A n c, .bool (sgn q), .slice B m d], .agg #[.bool (sgn x), .slice C n' c', .bool (sgn y), .slice D m' d']]))
      ((((((((w1.setCell ⟨g, 0, none⟩ (.bool (sgn p))).setCell ⟨g, 1, none⟩ (.slice A n c)).setCell ⟨g, 2, none⟩ (.bool (sgn q))).setCell ⟨g, 3, none⟩ (.slice B m d)).setCell ⟨h, 0, none⟩ (.bool (sgn x))).setCell ⟨h, 1, none⟩ (.slice C n' c')).setCell ⟨h, 2, none⟩ (.bool (sgn y))).setCell ⟨h, 3, none⟩ (.slice D m' d')) := by
  have k := hq.far4 hne (.bool (sgn p)) (.slice A n c) (.bool (sgn q)) (.slice B m d)
  exact ⟨_, _, rfl, below_far4 (below_far4 hb hpw _ _ _ _) hqw _ _ _ _, ⟨_, _, _, _, _, _, rfl, (h1.far4 hp (by decide) _ _ _ _).far4 k (by decide) _ _ _ _, (h2.far4 hp (by decide) _ _ _ _).far4 k (by decide) _ _ _ _⟩,
    ⟨_, _, _, _, _, _, rfl, (h3.far4 hp (by decide) _ _ _ _).far4 k (by decide) _ _ _ _, (h4.far4 hp (by decide) _ _ _ _).far4 k (by decide) _ _ _ _⟩⟩

set_option maxRecDepth 100000 in
set_option maxHeartbeats 16000000 in
theorem rexact22 (v : Value) (a b cx cy x y : Int) (hM : SM a b cx cy) (hx' : -1048576 ≤ x ∧ x ≤ 1048576) (hy' : -1048576 ≤ y ∧ y ≤ 1048576) (w : World) (hv : IS w v [a, b, cx, cy]) :
    Calls Try.prog 41 #[v, .int .i64 x, .int .i64 y] w
      (GiveRR (65536 * (exX2 a b (x - cx) (y - cy) + cx * 18446744073709551616)) 18446744073709551616 (65536 * (exY1 a b (x - cx) (y - cy) + cy * 4294967296)) 4294967296 w) := by
  obtain ⟨bk, off, cap, rfl, hcap, h2, hlt, hS⟩ := hv.four
  obtain ⟨ha, hb, hx, hy⟩ := hM
  have e1 : wrap64 (x - cx) = x - cx := ww (by omega)
  have e2 : wrap64 (y - cy) = y - cy := ww (by omega)
  have i1 : IntKind.i64.wrap (x - cx) = x - cx := iw (by omega)
  have KS := Lib.hid (fun w9 h => (hS.keep hlt h : S4 bk off a b cx cy w9))
  have O1 := Lib.hid (fun w => rof a 65536 ⟨by omega, by omega⟩ ⟨by omega, by omega⟩ w)
  have O2 := Lib.hid (fun w => rof b 65536 ⟨by omega, by omega⟩ ⟨by omega, by omega⟩ w)
  have O3 := Lib.hid (fun w => rof (y - cy) 1 ⟨by omega, by omega⟩ ⟨by omega, by omega⟩ w)
  have O4 := Lib.hid (fun w => rof (x - cx) 1 ⟨by omega, by omega⟩ ⟨by omega, by omega⟩ w)
  have O5 := Lib.hid (fun w => rof 65536 1 ⟨by omega, by omega⟩ ⟨by omega, by omega⟩ w)
  have O6 := Lib.hid (fun w => rof cx 1 ⟨by omega, by omega⟩ ⟨by omega, by omega⟩ w)
  have O7 := Lib.hid (fun w => rof cy 1 ⟨by omega, by omega⟩ ⟨by omega, by omega⟩ w)
  have wa : Wd 63 a := i64_wd ⟨by omega, by omega⟩
  have wb : Wd 63 b := i64_wd ⟨by omega, by omega⟩
  have wcx : Wd 63 cx := i64_wd ⟨by omega, by omega⟩
  have wcy : Wd 63 cy := i64_wd ⟨by omega, by omega⟩
  have wy : Wd 63 (y - cy) := i64_wd ⟨by omega, by omega⟩
  have wx : Wd 63 (x - cx) := i64_wd ⟨by omega, by omega⟩
  have w1 : Wd 0 1 := wd_lit 0 1 (by decide)
  have w16 : Wd 16 65536 := wd_lit 16 65536 (by decide)
  have w32 : Wd 32 4294967296 := wd_lit 32 4294967296 (by decide)
  have w48 : Wd 48 281474976710656 := wd_lit 48 281474976710656 (by decide)
  have w64 : Wd 64 18446744073709551616 := wd_lit 64 18446744073709551616 (by decide)
  have M1 := Lib.hid (fun (u v : Value) w hu hv => rmul u v a 65536 (y - cy) 1 wa w16 wy w1 (by omega) w hu hv)
  have A1 := Lib.hid (fun (u v : Value) w hu hv => radd u v (x - cx) 1 (a * (y - cy)) 65536 wx w1 (wa.mul wy) w16 (by omega) w hu hv)
  rw [show (65536 : Int) * 1 = 65536 by decide] at M1
  rw [show (x - cx) * 65536 + a * (y - cy) * 1 = exX1 a (x - cx) (y - cy) by unfold exX1; omega, show (1 : Int) * 65536 = 65536 by decide] at A1
  have wX1 : Wd 200 (exX1 a (x - cx) (y - cy)) := by unfold exX1; exact (((w16.mul wx).up (n := 199) (by omega)).add ((wa.mul wy).up (n := 199) (by omega)))
  have M2 := Lib.hid (fun (u v : Value) w hu hv => rmul u v b 65536 (exX1 a (x - cx) (y - cy)) 65536 wb w16 wX1 w16 (by omega) w hu hv)
  have A2 := Lib.hid (fun (u v : Value) w hu hv => radd u v (y - cy) 1 (b * exX1 a (x - cx) (y - cy)) 4294967296 wy w1 (wb.mul wX1) w32 (by omega) w hu hv)
  rw [show (65536 : Int) * 65536 = 4294967296 by decide] at M2
  rw [show (y - cy) * 4294967296 + b * exX1 a (x - cx) (y - cy) * 1 = exY1 a b (x - cx) (y - cy) by unfold exY1; omega, show (1 : Int) * 4294967296 = 4294967296 by decide] at A2
  have wY1 : Wd 301 (exY1 a b (x - cx) (y - cy)) := by unfold exY1; exact (((w32.mul wy).up (n := 300) (by omega)).add ((wb.mul wX1).up (n := 300) (by omega)))
  have M3 := Lib.hid (fun (u v : Value) w hu hv => rmul u v a 65536 (exY1 a b (x - cx) (y - cy)) 4294967296 wa w16 wY1 w32 (by omega) w hu hv)
  have A3 := Lib.hid (fun (u v : Value) w hu hv => radd u v (exX1 a (x - cx) (y - cy)) 65536 (a * exY1 a b (x - cx) (y - cy)) 281474976710656 wX1 w16 (wa.mul wY1) w48 (by omega) w hu hv)
  rw [show (65536 : Int) * 4294967296 = 281474976710656 by decide] at M3
  rw [show exX1 a (x - cx) (y - cy) * 281474976710656 + a * exY1 a b (x - cx) (y - cy) * 65536 = exX2 a b (x - cx) (y - cy) by unfold exX2; omega, show (65536 : Int) * 281474976710656 = 18446744073709551616 by decide] at A3
  have wX2 : Wd 501 (exX2 a b (x - cx) (y - cy)) := by unfold exX2; exact (((w48.mul wX1).up (n := 500) (by omega)).add ((w16.mul (wa.mul wY1)).up (n := 500) (by omega)))
  have A4 := Lib.hid (fun (u v : Value) w hu hv => radd u v (exX2 a b (x - cx) (y - cy)) 18446744073709551616 cx 1 wX2 w64 wcx w1 (by omega) w hu hv)
  have A5 := Lib.hid (fun (u v : Value) w hu hv => radd u v (exY1 a b (x - cx) (y - cy)) 4294967296 cy 1 wY1 w32 wcy w1 (by omega) w hu hv)
  rw [show exX2 a b (x - cx) (y - cy) * 1 + cx * 18446744073709551616 = exX2 a b (x - cx) (y - cy) + cx * 18446744073709551616 by omega, show (18446744073709551616 : Int) * 1 = 18446744073709551616 by decide] at A4
  rw [show exY1 a b (x - cx) (y - cy) * 1 + cy * 4294967296 = exY1 a b (x - cx) (y - cy) + cy * 4294967296 by omega, show (4294967296 : Int) * 1 = 4294967296 by decide] at A5
  have wU : Wd 502 (exX2 a b (x - cx) (y - cy) + cx * 18446744073709551616) := wX2.add ((wcx.mul w64).up (by omega))
  have wV : Wd 302 (exY1 a b (x - cx) (y - cy) + cy * 4294967296) := wY1.add ((wcy.mul w32).up (by omega))
  have M4 := Lib.hid (fun (u v : Value) w hu hv => rmul u v 65536 1 (exX2 a b (x - cx) (y - cy) + cx * 18446744073709551616) 18446744073709551616 w16 w1 wU w64 (by omega) w hu hv)
  have M5 := Lib.hid (fun (u v : Value) w hu hv => rmul u v 65536 1 (exY1 a b (x - cx) (y - cy) + cy * 4294967296) 4294967296 w16 w1 wV w32 (by omega) w hu hv)
  rw [show (1 : Int) * 18446744073709551616 = 18446744073709551616 by decide] at M4
  rw [show (1 : Int) * 4294967296 = 4294967296 by decide] at M5
  clear ha hb hx hy hx' hy' wa wb wcx wcy wy wx w1 w16 w32 w48 w64 wX1 wY1 wX2 wU wV hS hv
  generalize exX2 a b (x - cx) (y - cy) + cx * 18446744073709551616 = U at *
  generalize exY1 a b (x - cx) (y - cy) + cy * 4294967296 = V at *
  generalize exX2 a b (x - cx) (y - cy) = X2 at *
  generalize a * exY1 a b (x - cx) (y - cy) = aY at *
  generalize exY1 a b (x - cx) (y - cy) = Y1 at *
  generalize b * exX1 a (x - cx) (y - cy) = bX at *
  generalize exX1 a (x - cx) (y - cy) = X1 at *
  generalize a * (y - cy) = ay at *
  generalize hP : 65536 * U = P at *
  generalize hQ : 65536 * V = Q at *
  generalize hD2 : (18446744073709551616 : Int) = D2 at *
  generalize hD1 : (4294967296 : Int) = D1 at *
  generalize hD3 : (281474976710656 : Int) = D3 at *
  clear hP hQ hD2 hD1 hD3
  obtain ⟨k0, k1, k2, k3⟩ := KS.out w (Below.refl _ _)
  go_enter Try.func41, Try.ntmps41
  go_wp2_with fail
  have BB := start2 w #[.bool false, .slice none 0 0, .bool false, .slice none 0 0] RT #[.bool false, .slice none 0 0, .bool false, .slice none 0 0] RT
  obtain ⟨BB, hsz, r_r1, r_r2⟩ := BB
  generalize ((w.alloc (.cells #[.bool false, .slice none 0 0, .bool false, .slice none 0 0] RT)).alloc (.cells #[.bool false, .slice none 0 0, .bool false, .slice none 0 0] RT)) = w0 at *
  replace BB := Lib.hid BB
  replace r_r1 := Lib.hid r_r1
  replace r_r2 := Lib.hid r_r2
  clear hsz
  clear k0 k1 k2 k3
  refine (O1.out _).mono ?_
  rintro e w1 ⟨v_a, rfl, hb, h_a⟩
  obtain ⟨A_a, n_a, cap_a, B_a, m_a, cup_a, rfl, -, -⟩ := id h_a.form
  replace h_a := Lib.hid h_a
  replace r_r1 := Lib.hid (r_r1.out.keep hb)
  replace r_r2 := Lib.hid (r_r2.out.keep hb)
  replace BB := Lib.hid (below_next BB.out hb)
  clear hb
  clear O1
  obtain ⟨k0, k1, k2, k3⟩ := KS.out _ BB.out
  have kl := Nat.lt_of_lt_of_le hlt BB.out.size
  go_wp2_with fail
  clear k0 k1 k2 k3 kl
  have d_a := Lib.hid (And.intro BB.out.size (And.intro r_r1.out.lt (And.intro r_r2.out.lt (True.intro))))
  obtain ⟨hb, r_a⟩ := laid w1 #[.bool (sgn (a)), .slice A_a n_a cap_a, .bool (sgn (65536)), .slice B_a m_a cup_a] 39
  replace r_r1 := Lib.hid (r_r1.out.keep hb)
  replace r_r2 := Lib.hid (r_r2.out.keep hb)
  replace h_a := Lib.hid (h_a.out.below hb)
  replace BB := Lib.hid (below_next BB.out hb)
  replace r_a := Lib.hid r_a
  clear hb
  generalize w1.alloc (.cells #[.bool (sgn (a)), .slice A_a n_a cap_a, .bool (sgn (65536)), .slice B_a m_a cup_a] 39) = w2 at *
  generalize w1.heap.size = g_a at *
  refine (O2.out _).mono ?_
  rintro e w3 ⟨v_b, rfl, hb, h_b⟩
  obtain ⟨A_b, n_b, cap_b, B_b, m_b, cup_b, rfl, -, -⟩ := id h_b.form
  replace h_b := Lib.hid h_b
  replace r_r1 := Lib.hid (r_r1.out.keep hb)
  replace r_r2 := Lib.hid (r_r2.out.keep hb)
  replace r_a := Lib.hid (r_a.out.keep hb)
  replace h_a := Lib.hid (h_a.out.below hb)
  replace BB := Lib.hid (below_next BB.out hb)
  clear hb
  clear O2
  obtain ⟨k0, k1, k2, k3⟩ := KS.out _ BB.out
  have kl := Nat.lt_of_lt_of_le hlt BB.out.size
  go_wp2_with fail
  clear k0 k1 k2 k3 kl
  have d_b := Lib.hid (And.intro BB.out.size (And.intro r_r1.out.lt (And.intro r_r2.out.lt (And.intro r_a.out.lt (True.intro)))))
  obtain ⟨hb, r_b⟩ := laid w3 #[.bool (sgn (b)), .slice A_b n_b cap_b, .bool (sgn (65536)), .slice B_b m_b cup_b] 39
  replace r_r1 := Lib.hid (r_r1.out.keep hb)
  replace r_r2 := Lib.hid (r_r2.out.keep hb)
  replace r_a := Lib.hid (r_a.out.keep hb)
  replace h_a := Lib.hid (h_a.out.below hb)
  replace h_b := Lib.hid (h_b.out.below hb)
  replace BB := Lib.hid (below_next BB.out hb)
  replace r_b := Lib.hid r_b
  clear hb
  generalize w3.alloc (.cells #[.bool (sgn (b)), .slice A_b n_b cap_b, .bool (sgn (65536)), .slice B_b m_b cup_b] 39) = w4 at *
  generalize w3.heap.size = g_b at *
  refine (O3.out _).mono ?_
  rintro e w5 ⟨v_y0, rfl, hb, h_y0⟩
  obtain ⟨A_y0, n_y0, cap_y0, B_y0, m_y0, cup_y0, rfl, -, -⟩ := id h_y0.form
  replace h_y0 := Lib.hid h_y0
  replace r_r1 := Lib.hid (r_r1.out.keep hb)
  replace r_r2 := Lib.hid (r_r2.out.keep hb)
  replace r_a := Lib.hid (r_a.out.keep hb)
  replace r_b := Lib.hid (r_b.out.keep hb)
  replace h_a := Lib.hid (h_a.out.below hb)
  replace h_b := Lib.hid (h_b.out.below hb)
  replace BB := Lib.hid (below_next BB.out hb)
  clear hb
  clear O3
  obtain ⟨k0, k1, k2, k3⟩ := KS.out _ BB.out
  have kl := Nat.lt_of_lt_of_le hlt BB.out.size
  go_wp2_with fail
  clear k0 k1 k2 k3 kl
  have d_y0 := Lib.hid (And.intro BB.out.size (And.intro r_r1.out.lt (And.intro r_r2.out.lt (And.intro r_a.out.lt (And.intro r_b.out.lt (True.intro))))))
  obtain ⟨hb, r_y0⟩ := laid w5 #[.bool (sgn (y - cy)), .slice A_y0 n_y0 cap_y0, .bool (sgn (1)), .slice B_y0 m_y0 cup_y0] 39
  replace r_r1 := Lib.hid (r_r1.out.keep hb)
  replace r_r2 := Lib.hid (r_r2.out.keep hb)
  replace r_a := Lib.hid (r_a.out.keep hb)
  replace r_b := Lib.hid (r_b.out.keep hb)
  replace h_a := Lib.hid (h_a.out.below hb)
  replace h_b := Lib.hid (h_b.out.below hb)
  replace h_y0 := Lib.hid (h_y0.out.below hb)
  replace BB := Lib.hid (below_next BB.out hb)
  replace r_y0 := Lib.hid r_y0
  clear hb
  generalize w5.alloc (.cells #[.bool (sgn (y - cy)), .slice A_y0 n_y0 cap_y0, .bool (sgn (1)), .slice B_y0 m_y0 cup_y0] 39) = w6 at *
  generalize w5.heap.size = g_y0 at *
  go_cut [11] (fun s5 wc1 => ∃ gp A3 n3 c3 B3 m3 d3, s5 = .pointer (some ⟨gp, 0, none⟩) ∧ Hid (AtB wc1 gp #[.bool (sgn (X1)), .slice A3 n3 c3, .bool (sgn (65536)), .slice B3 m3 d3] 39 ∧ RR wc1 (.agg #[.bool (sgn (X1)), .slice A3 n3 c3, .bool (sgn (65536)), .slice B3 m3 d3]) (X1) (65536) ∧ Below w6.heap.size w6 wc1 ∧ w6.heap.size ≤ gp))
  case first =>
    clear A2 A3 A4 A5 M2 M3 M4 M5 O5 O6 O7
    have KK := Lib.hid (fun (w9 : World) (h : Below w6.heap.size w6 w9) => (⟨KS.out _ (below_next BB.out h), cells4 (r_a.out.keep h), cells4 (r_y0.out.keep h)⟩ : (S4 bk off a b cx cy w9) ∧ (w9.cell? ⟨g_a, 0, none⟩ = some (.bool (sgn (a))) ∧ w9.cell? ⟨g_a, 1, none⟩ = some (.slice A_a n_a cap_a) ∧ w9.cell? ⟨g_a, 2, none⟩ = some (.bool (sgn (65536))) ∧ w9.cell? ⟨g_a, 3, none⟩ = some (.slice B_a m_a cup_a)) ∧ (w9.cell? ⟨g_y0, 0, none⟩ = some (.bool (sgn (y - cy))) ∧ w9.cell? ⟨g_y0, 1, none⟩ = some (.slice A_y0 n_y0 cap_y0) ∧ w9.cell? ⟨g_y0, 2, none⟩ = some (.bool (sgn (1))) ∧ w9.cell? ⟨g_y0, 3, none⟩ = some (.slice B_y0 m_y0 cup_y0))))
    have K0 := KK.out w6 (Below.refl _ _)
    have KD := KK.out w6.drew (below_drew (Below.refl _ _))
    go_region_held3 (fun w9 => (S4 bk off a b cx cy w9) ∧ (w9.cell? ⟨g_a, 0, none⟩ = some (.bool (sgn (a))) ∧ w9.cell? ⟨g_a, 1, none⟩ = some (.slice A_a n_a cap_a) ∧ w9.cell? ⟨g_a, 2, none⟩ = some (.bool (sgn (65536))) ∧ w9.cell? ⟨g_a, 3, none⟩ = some (.slice B_a m_a cup_a)) ∧ (w9.cell? ⟨g_y0, 0, none⟩ = some (.bool (sgn (y - cy))) ∧ w9.cell? ⟨g_y0, 1, none⟩ = some (.slice A_y0 n_y0 cap_y0) ∧ w9.cell? ⟨g_y0, 2, none⟩ = some (.bool (sgn (1))) ∧ w9.cell? ⟨g_y0, 3, none⟩ = some (.slice B_y0 m_y0 cup_y0)))
        (first | with_reducible exact KD | with_reducible exact K0 | with_reducible exact K_w7 | with_reducible exact K_w8 | with_reducible exact K_w9 | (refine KK.out _ ?_; repeat' (first | with_reducible exact Below.refl _ _ | with_reducible exact B_w7.out | with_reducible exact B_w8.out | with_reducible exact B_w9.out | with_reducible apply below_new | with_reducible apply below_drew | with_reducible apply below_set | omega)))
        (first
          | (go_at_call 51
             refine (O4.out _).mono ?_
             rintro e w7 ⟨v_o, rfl, hb, h_o⟩
             obtain ⟨A_o, n_o, cap_o, B_o, m_o, cup_o, rfl, -, -⟩ := id h_o.form
             replace h_o := Lib.hid h_o
             have B_w7 := Lib.hid (reg_next (w0 := w6) (by repeat (first | with_reducible exact Below.refl _ _ | with_reducible apply below_drew | with_reducible apply below_new)) hb)
             have K_w7 := KK.out _ B_w7.out
             obtain ⟨hc_w7, hf_w7⟩ := below_reads hb
             have hz_w7 := hb.size
             try simp at hz_w7
             try (have z1_w7 := Nat.lt_of_succ_le hz_w7)
             try (have z2_w7 := Nat.lt_of_succ_lt z1_w7)
             have HB_w7 := Lib.hid hb
             clear hb)
          | (go_at_call 20
             refine (M1.out _ _ _ (h_a.out.below ?_) (h_y0.out.below ?_)).mono ?_
             · repeat (first | with_reducible exact Below.refl _ _ | with_reducible exact B_w7.out | with_reducible apply below_drew | with_reducible apply below_new)
             · repeat (first | with_reducible exact Below.refl _ _ | with_reducible exact B_w7.out | with_reducible apply below_drew | with_reducible apply below_new)
             rintro e w8 ⟨v_m, rfl, hb, h_m⟩
             obtain ⟨A_m, n_m, cap_m, B_m, m_m, cup_m, rfl, -, -⟩ := id h_m.form
             replace h_m := Lib.hid h_m
             replace h_o := Lib.hid (h_o.out.below (below_next (by repeat (first | with_reducible exact Below.refl _ _ | with_reducible apply below_new | with_reducible apply below_drew)) hb))
             have B_w8 := Lib.hid (below_next (by repeat (first | with_reducible exact B_w7.out | with_reducible apply below_new | with_reducible apply below_drew)) hb)
             have K_w8 := KK.out _ B_w8.out
             obtain ⟨hc_w8, hf_w8⟩ := below_reads hb
             have hz_w8 := hb.size
             try simp at hz_w8
             try (have z1_w8 := Nat.lt_of_succ_le hz_w8)
             try (have z2_w8 := Nat.lt_of_succ_lt z1_w8)
             have HB_w8 := Lib.hid hb
             have y_w8_w7 := Nat.le_trans HB_w7.out.size (Nat.le_trans (by (try simp only [World.size_alloc]); omega) hb.size)
             try simp at y_w8_w7
             try (have z3_w8_w7 := Nat.lt_of_succ_le y_w8_w7)
             try (have z4_w8_w7 := Nat.lt_of_succ_lt z3_w8_w7)
             clear hb)
          | (go_at_call 19
             refine (A1.out _ _ _ (h_o.out.below ?_) (h_m.out.below ?_)).mono ?_
             · repeat (first | with_reducible exact Below.refl _ _ | with_reducible exact B_w8.out | with_reducible apply below_drew | with_reducible apply below_new)
             · repeat (first | with_reducible exact Below.refl _ _ | with_reducible exact B_w8.out | with_reducible apply below_drew | with_reducible apply below_new)
             rintro e w9 ⟨v_x1, rfl, hb, h_x1⟩
             obtain ⟨A_x1, n_x1, cap_x1, B_x1, m_x1, cup_x1, rfl, -, -⟩ := id h_x1.form
             replace h_x1 := Lib.hid h_x1
             replace h_o := Lib.hid (h_o.out.below (below_next (by repeat (first | with_reducible exact Below.refl _ _ | with_reducible apply below_new | with_reducible apply below_drew)) hb))
             replace h_m := Lib.hid (h_m.out.below (below_next (by repeat (first | with_reducible exact Below.refl _ _ | with_reducible apply below_new | with_reducible apply below_drew)) hb))
             have B_w9 := Lib.hid (below_next (by repeat (first | with_reducible exact B_w8.out | with_reducible apply below_new | with_reducible apply below_drew)) hb)
             have K_w9 := KK.out _ B_w9.out
             obtain ⟨hc_w9, hf_w9⟩ := below_reads hb
             have hz_w9 := hb.size
             try simp at hz_w9
             try (have z1_w9 := Nat.lt_of_succ_le hz_w9)
             try (have z2_w9 := Nat.lt_of_succ_lt z1_w9)
             have HB_w9 := Lib.hid hb
             have y_w9_w7 := Nat.le_trans HB_w7.out.size (Nat.le_trans (by (try simp only [World.size_alloc]); omega) hb.size)
             try simp at y_w9_w7
             try (have z3_w9_w7 := Nat.lt_of_succ_le y_w9_w7)
             try (have z4_w9_w7 := Nat.lt_of_succ_lt z3_w9_w7)
             have y_w9_w8 := Nat.le_trans HB_w8.out.size (Nat.le_trans (by (try simp only [World.size_alloc]); omega) hb.size)
             try simp at y_w9_w8
             try (have z3_w9_w8 := Nat.lt_of_succ_le y_w9_w8)
             try (have z4_w9_w8 := Nat.lt_of_succ_lt z3_w9_w8)
             clear hb))
    all_goals clear KK K0 KD K_w7 K_w8 K_w9
    all_goals go_wp2_with fail
    all_goals go_meet
    all_goals refine ⟨_, A_x1, n_x1, cap_x1, B_x1, m_x1, cup_x1, rfl, ⟨?_, ?_, ?_, ?_⟩⟩
    all_goals repeat' (first | with_reducible exact h_x1.out | with_reducible exact B_w7.out | with_reducible exact B_w8.out | with_reducible exact B_w9.out | (with_reducible refine AtB.set4 (a := .bool false) (b := .slice none 0 0) (c := .bool false) (d := .slice none 0 0) (T := 39) ?_ _ _ _ _) | (with_reducible refine RR.alloc ?_ _) | (with_reducible refine RR.far4 (cs := #[.bool false, .slice none 0 0, .bool false, .slice none 0 0]) ?_ ?_ _ _ _ _) | with_reducible exact Below.refl _ _ | with_reducible apply below_new | with_reducible apply below_drew | (with_reducible refine below_set ?_ ?_ _) | (with_reducible refine AtB.set2 (a := .bool false) (b := .slice none 0 0) (T := 37) ?_ _ _) | (with_reducible refine AtB.set2 (a := .int .i64 0) (b := .int .u64 0) (T := 81) ?_ _ _) | (with_reducible refine AtB.far2 ?_ ?_ _ _) | (with_reducible refine BR.alloc ?_ _) | (with_reducible refine BR.far2 (a := .bool false) (b := .slice none 0 0) (T := 37) ?_ ?_ (by decide) _ _) | (with_reducible refine new_at_eq ?_ _ _; first | rfl | (simp; done)) | (with_reducible refine AtB.alloc ?_ _) | with_reducible apply AtB.drew | (with_reducible refine AtB.keep ?_ HB_w9.out) | (with_reducible refine AtB.keep ?_ HB_w8.out) | (with_reducible refine AtB.keep ?_ HB_w7.out) | omega)
  clear O4 M1 A1
  obtain ⟨wc1, rfl⟩ : ∃ wo : World, wo = wc := ⟨_, rfl⟩
  obtain ⟨g_x1, A_x1, n_x1, cap_x1, B_x1, m_x1, cup_x1, rfl, hcut⟩ := hcut
  obtain ⟨r_x1, h_x1, hb, hge⟩ := hcut.out
  clear hcut
  replace r_x1 := Lib.hid r_x1; replace h_x1 := Lib.hid h_x1
  have d_x1 := Lib.hid (And.intro (Nat.le_trans BB.out.size hge) (And.intro (Nat.lt_of_lt_of_le r_r1.out.lt hge) (And.intro (Nat.lt_of_lt_of_le r_r2.out.lt hge) (And.intro (Nat.lt_of_lt_of_le r_a.out.lt hge) (And.intro (Nat.lt_of_lt_of_le r_b.out.lt hge) (And.intro (Nat.lt_of_lt_of_le r_y0.out.lt hge) (True.intro)))))))
  replace r_r1 := Lib.hid (r_r1.out.keep hb)
  replace r_r2 := Lib.hid (r_r2.out.keep hb)
  replace r_a := Lib.hid (r_a.out.keep hb)
  replace r_b := Lib.hid (r_b.out.keep hb)
  replace r_y0 := Lib.hid (r_y0.out.keep hb)
  replace h_a := Lib.hid (h_a.out.below hb)
  replace h_b := Lib.hid (h_b.out.below hb)
  replace h_y0 := Lib.hid (h_y0.out.below hb)
  replace BB := Lib.hid (below_next BB.out hb)
  clear hb hge
  go_wp2_with fail
  go_cut [12] (fun s5 wc2 => ∃ gp A3 n3 c3 B3 m3 d3, s5 = .pointer (some ⟨gp, 0, none⟩) ∧ Hid (AtB wc2 gp #[.bool (sgn (Y1)), .slice A3 n3 c3, .bool (sgn (D1)), .slice B3 m3 d3] 39 ∧ RR wc2 (.agg #[.bool (sgn (Y1)), .slice A3 n3 c3, .bool (sgn (D1)), .slice B3 m3 d3]) (Y1) (D1) ∧ Below wc1.heap.size wc1 wc2 ∧ wc1.heap.size ≤ gp))
  case first =>
    clear A3 A4 A5 M3 M4 M5 O5 O6 O7
    have KK := Lib.hid (fun (w9 : World) (h : Below wc1.heap.size wc1 w9) => (⟨cells4 (r_y0.out.keep h), cells4 (r_b.out.keep h), cells4 (r_x1.out.keep h)⟩ : (w9.cell? ⟨g_y0, 0, none⟩ = some (.bool (sgn (y - cy))) ∧ w9.cell? ⟨g_y0, 1, none⟩ = some (.slice A_y0 n_y0 cap_y0) ∧ w9.cell? ⟨g_y0, 2, none⟩ = some (.bool (sgn (1))) ∧ w9.cell? ⟨g_y0, 3, none⟩ = some (.slice B_y0 m_y0 cup_y0)) ∧ (w9.cell? ⟨g_b, 0, none⟩ = some (.bool (sgn (b))) ∧ w9.cell? ⟨g_b, 1, none⟩ = some (.slice A_b n_b cap_b) ∧ w9.cell? ⟨g_b, 2, none⟩ = some (.bool (sgn (65536))) ∧ w9.cell? ⟨g_b, 3, none⟩ = some (.slice B_b m_b cup_b)) ∧ (w9.cell? ⟨g_x1, 0, none⟩ = some (.bool (sgn (X1))) ∧ w9.cell? ⟨g_x1, 1, none⟩ = some (.slice A_x1 n_x1 cap_x1) ∧ w9.cell? ⟨g_x1, 2, none⟩ = some (.bool (sgn (65536))) ∧ w9.cell? ⟨g_x1, 3, none⟩ = some (.slice B_x1 m_x1 cup_x1))))
    have K0 := KK.out wc1 (Below.refl _ _)
    have KD := KK.out wc1.drew (below_drew (Below.refl _ _))
    go_region_held3 (fun w9 => (w9.cell? ⟨g_y0, 0, none⟩ = some (.bool (sgn (y - cy))) ∧ w9.cell? ⟨g_y0, 1, none⟩ = some (.slice A_y0 n_y0 cap_y0) ∧ w9.cell? ⟨g_y0, 2, none⟩ = some (.bool (sgn (1))) ∧ w9.cell? ⟨g_y0, 3, none⟩ = some (.slice B_y0 m_y0 cup_y0)) ∧ (w9.cell? ⟨g_b, 0, none⟩ = some (.bool (sgn (b))) ∧ w9.cell? ⟨g_b, 1, none⟩ = some (.slice A_b n_b cap_b) ∧ w9.cell? ⟨g_b, 2, none⟩ = some (.bool (sgn (65536))) ∧ w9.cell? ⟨g_b, 3, none⟩ = some (.slice B_b m_b cup_b)) ∧ (w9.cell? ⟨g_x1, 0, none⟩ = some (.bool (sgn (X1))) ∧ w9.cell? ⟨g_x1, 1, none⟩ = some (.slice A_x1 n_x1 cap_x1) ∧ w9.cell? ⟨g_x1, 2, none⟩ = some (.bool (sgn (65536))) ∧ w9.cell? ⟨g_x1, 3, none⟩ = some (.slice B_x1 m_x1 cup_x1)))
        (first | with_reducible exact KD | with_reducible exact K0 | with_reducible exact K_w10 | with_reducible exact K_w11 | (refine KK.out _ ?_; repeat' (first | with_reducible exact Below.refl _ _ | with_reducible exact B_w10.out | with_reducible exact B_w11.out | with_reducible apply below_new | with_reducible apply below_drew | with_reducible apply below_set | omega)))
        (first
          | (go_at_call 20
             refine (M2.out _ _ _ (h_b.out.below ?_) (h_x1.out.below ?_)).mono ?_
             · repeat (first | with_reducible exact Below.refl _ _ | with_reducible apply below_drew | with_reducible apply below_new)
             · repeat (first | with_reducible exact Below.refl _ _ | with_reducible apply below_drew | with_reducible apply below_new)
             rintro e w10 ⟨v_m, rfl, hb, h_m⟩
             obtain ⟨A_m, n_m, cap_m, B_m, m_m, cup_m, rfl, -, -⟩ := id h_m.form
             replace h_m := Lib.hid h_m
             have B_w10 := Lib.hid (reg_next (w0 := wc1) (by repeat (first | with_reducible exact Below.refl _ _ | with_reducible apply below_drew | with_reducible apply below_new)) hb)
             have K_w10 := KK.out _ B_w10.out
             obtain ⟨hc_w10, hf_w10⟩ := below_reads hb
             have hz_w10 := hb.size
             try simp at hz_w10
             try (have z1_w10 := Nat.lt_of_succ_le hz_w10)
             try (have z2_w10 := Nat.lt_of_succ_lt z1_w10)
             have HB_w10 := Lib.hid hb
             clear hb)
          | (go_at_call 19
             refine (A2.out _ _ _ (h_y0.out.below ?_) (h_m.out.below ?_)).mono ?_
             · repeat (first | with_reducible exact Below.refl _ _ | with_reducible exact B_w10.out | with_reducible apply below_drew | with_reducible apply below_new)
             · repeat (first | with_reducible exact Below.refl _ _ | with_reducible exact B_w10.out | with_reducible apply below_drew | with_reducible apply below_new)
             rintro e w11 ⟨v_y1, rfl, hb, h_y1⟩
             obtain ⟨A_y1, n_y1, cap_y1, B_y1, m_y1, cup_y1, rfl, -, -⟩ := id h_y1.form
             replace h_y1 := Lib.hid h_y1
             replace h_m := Lib.hid (h_m.out.below (below_next (by repeat (first | with_reducible exact Below.refl _ _ | with_reducible apply below_new | with_reducible apply below_drew)) hb))
             have B_w11 := Lib.hid (below_next (by repeat (first | with_reducible exact B_w10.out | with_reducible apply below_new | with_reducible apply below_drew)) hb)
             have K_w11 := KK.out _ B_w11.out
             obtain ⟨hc_w11, hf_w11⟩ := below_reads hb
             have hz_w11 := hb.size
             try simp at hz_w11
             try (have z1_w11 := Nat.lt_of_succ_le hz_w11)
             try (have z2_w11 := Nat.lt_of_succ_lt z1_w11)
             have HB_w11 := Lib.hid hb
             have y_w11_w10 := Nat.le_trans HB_w10.out.size (Nat.le_trans (by (try simp only [World.size_alloc]); omega) hb.size)
             try simp at y_w11_w10
             try (have z3_w11_w10 := Nat.lt_of_succ_le y_w11_w10)
             try (have z4_w11_w10 := Nat.lt_of_succ_lt z3_w11_w10)
             clear hb))
    all_goals clear KK K0 KD K_w10 K_w11
    all_goals go_wp2_with fail
    all_goals go_meet
    all_goals refine ⟨_, A_y1, n_y1, cap_y1, B_y1, m_y1, cup_y1, rfl, ⟨?_, ?_, ?_, ?_⟩⟩
    all_goals repeat' (first | with_reducible exact h_y1.out | with_reducible exact B_w10.out | with_reducible exact B_w11.out | (with_reducible refine AtB.set4 (a := .bool false) (b := .slice none 0 0) (c := .bool false) (d := .slice none 0 0) (T := 39) ?_ _ _ _ _) | (with_reducible refine RR.alloc ?_ _) | (with_reducible refine RR.far4 (cs := #[.bool false, .slice none 0 0, .bool false, .slice none 0 0]) ?_ ?_ _ _ _ _) | with_reducible exact Below.refl _ _ | with_reducible apply below_new | with_reducible apply below_drew | (with_reducible refine below_set ?_ ?_ _) | (with_reducible refine AtB.set2 (a := .bool false) (b := .slice none 0 0) (T := 37) ?_ _ _) | (with_reducible refine AtB.set2 (a := .int .i64 0) (b := .int .u64 0) (T := 81) ?_ _ _) | (with_reducible refine AtB.far2 ?_ ?_ _ _) | (with_reducible refine BR.alloc ?_ _) | (with_reducible refine BR.far2 (a := .bool false) (b := .slice none 0 0) (T := 37) ?_ ?_ (by decide) _ _) | (with_reducible refine new_at_eq ?_ _ _; first | rfl | (simp; done)) | (with_reducible refine AtB.alloc ?_ _) | with_reducible apply AtB.drew | (with_reducible refine AtB.keep ?_ HB_w11.out) | (with_reducible refine AtB.keep ?_ HB_w10.out) | omega)
  clear M2 A2
  obtain ⟨wc2, rfl⟩ : ∃ wo : World, wo = wc := ⟨_, rfl⟩
  obtain ⟨g_y1, A_y1, n_y1, cap_y1, B_y1, m_y1, cup_y1, rfl, hcut⟩ := hcut
  obtain ⟨r_y1, h_y1, hb, hge⟩ := hcut.out
  clear hcut
  replace r_y1 := Lib.hid r_y1; replace h_y1 := Lib.hid h_y1
  have d_y1 := Lib.hid (And.intro (Nat.le_trans BB.out.size hge) (And.intro (Nat.lt_of_lt_of_le r_r1.out.lt hge) (And.intro (Nat.lt_of_lt_of_le r_r2.out.lt hge) (And.intro (Nat.lt_of_lt_of_le r_a.out.lt hge) (And.intro (Nat.lt_of_lt_of_le r_b.out.lt hge) (And.intro (Nat.lt_of_lt_of_le r_y0.out.lt hge) (And.intro (Nat.lt_of_lt_of_le r_x1.out.lt hge) (True.intro))))))))
  clear r_y0
  clear h_y0
  clear r_b
  clear h_b
  replace r_r1 := Lib.hid (r_r1.out.keep hb)
  replace r_r2 := Lib.hid (r_r2.out.keep hb)
  replace r_a := Lib.hid (r_a.out.keep hb)
  replace r_x1 := Lib.hid (r_x1.out.keep hb)
  replace h_a := Lib.hid (h_a.out.below hb)
  replace h_x1 := Lib.hid (h_x1.out.below hb)
  replace BB := Lib.hid (below_next BB.out hb)
  clear hb hge
  go_wp2_with fail
  go_cut [13] (fun s5 wc3 => ∃ gp A3 n3 c3 B3 m3 d3, s5 = .pointer (some ⟨gp, 0, none⟩) ∧ Hid (AtB wc3 gp #[.bool (sgn (X2)), .slice A3 n3 c3, .bool (sgn (D2)), .slice B3 m3 d3] 39 ∧ RR wc3 (.agg #[.bool (sgn (X2)), .slice A3 n3 c3, .bool (sgn (D2)), .slice B3 m3 d3]) (X2) (D2) ∧ Below wc2.heap.size wc2 wc3 ∧ wc2.heap.size ≤ gp))
  case first =>
    clear A4 A5 M4 M5 O5 O6 O7
    have KK := Lib.hid (fun (w9 : World) (h : Below wc2.heap.size wc2 w9) => (⟨cells4 (r_x1.out.keep h), cells4 (r_a.out.keep h), cells4 (r_y1.out.keep h)⟩ : (w9.cell? ⟨g_x1, 0, none⟩ = some (.bool (sgn (X1))) ∧ w9.cell? ⟨g_x1, 1, none⟩ = some (.slice A_x1 n_x1 cap_x1) ∧ w9.cell? ⟨g_x1, 2, none⟩ = some (.bool (sgn (65536))) ∧ w9.cell? ⟨g_x1, 3, none⟩ = some (.slice B_x1 m_x1 cup_x1)) ∧ (w9.cell? ⟨g_a, 0, none⟩ = some (.bool (sgn (a))) ∧ w9.cell? ⟨g_a, 1, none⟩ = some (.slice A_a n_a cap_a) ∧ w9.cell? ⟨g_a, 2, none⟩ = some (.bool (sgn (65536))) ∧ w9.cell? ⟨g_a, 3, none⟩ = some (.slice B_a m_a cup_a)) ∧ (w9.cell? ⟨g_y1, 0, none⟩ = some (.bool (sgn (Y1))) ∧ w9.cell? ⟨g_y1, 1, none⟩ = some (.slice A_y1 n_y1 cap_y1) ∧ w9.cell? ⟨g_y1, 2, none⟩ = some (.bool (sgn (D1))) ∧ w9.cell? ⟨g_y1, 3, none⟩ = some (.slice B_y1 m_y1 cup_y1))))
    have K0 := KK.out wc2 (Below.refl _ _)
    have KD := KK.out wc2.drew (below_drew (Below.refl _ _))
    go_region_held3 (fun w9 => (w9.cell? ⟨g_x1, 0, none⟩ = some (.bool (sgn (X1))) ∧ w9.cell? ⟨g_x1, 1, none⟩ = some (.slice A_x1 n_x1 cap_x1) ∧ w9.cell? ⟨g_x1, 2, none⟩ = some (.bool (sgn (65536))) ∧ w9.cell? ⟨g_x1, 3, none⟩ = some (.slice B_x1 m_x1 cup_x1)) ∧ (w9.cell? ⟨g_a, 0, none⟩ = some (.bool (sgn (a))) ∧ w9.cell? ⟨g_a, 1, none⟩ = some (.slice A_a n_a cap_a) ∧ w9.cell? ⟨g_a, 2, none⟩ = some (.bool (sgn (65536))) ∧ w9.cell? ⟨g_a, 3, none⟩ = some (.slice B_a m_a cup_a)) ∧ (w9.cell? ⟨g_y1, 0, none⟩ = some (.bool (sgn (Y1))) ∧ w9.cell? ⟨g_y1, 1, none⟩ = some (.slice A_y1 n_y1 cap_y1) ∧ w9.cell? ⟨g_y1, 2, none⟩ = some (.bool (sgn (D1))) ∧ w9.cell? ⟨g_y1, 3, none⟩ = some (.slice B_y1 m_y1 cup_y1)))
        (first | with_reducible exact KD | with_reducible exact K0 | with_reducible exact K_w12 | with_reducible exact K_w13 | (refine KK.out _ ?_; repeat' (first | with_reducible exact Below.refl _ _ | with_reducible exact B_w12.out | with_reducible exact B_w13.out | with_reducible apply below_new | with_reducible apply below_drew | with_reducible apply below_set | omega)))
        (first
          | (go_at_call 20
             refine (M3.out _ _ _ (h_a.out.below ?_) (h_y1.out.below ?_)).mono ?_
             · repeat (first | with_reducible exact Below.refl _ _ | with_reducible apply below_drew | with_reducible apply below_new)
             · repeat (first | with_reducible exact Below.refl _ _ | with_reducible apply below_drew | with_reducible apply below_new)
             rintro e w12 ⟨v_m, rfl, hb, h_m⟩
             obtain ⟨A_m, n_m, cap_m, B_m, m_m, cup_m, rfl, -, -⟩ := id h_m.form
             replace h_m := Lib.hid h_m
             have B_w12 := Lib.hid (reg_next (w0 := wc2) (by repeat (first | with_reducible exact Below.refl _ _ | with_reducible apply below_drew | with_reducible apply below_new)) hb)
             have K_w12 := KK.out _ B_w12.out
             obtain ⟨hc_w12, hf_w12⟩ := below_reads hb
             have hz_w12 := hb.size
             try simp at hz_w12
             try (have z1_w12 := Nat.lt_of_succ_le hz_w12)
             try (have z2_w12 := Nat.lt_of_succ_lt z1_w12)
             have HB_w12 := Lib.hid hb
             clear hb)
          | (go_at_call 19
             refine (A3.out _ _ _ (h_x1.out.below ?_) (h_m.out.below ?_)).mono ?_
             · repeat (first | with_reducible exact Below.refl _ _ | with_reducible exact B_w12.out | with_reducible apply below_drew | with_reducible apply below_new)
             · repeat (first | with_reducible exact Below.refl _ _ | with_reducible exact B_w12.out | with_reducible apply below_drew | with_reducible apply below_new)
             rintro e w13 ⟨v_x2, rfl, hb, h_x2⟩
             obtain ⟨A_x2, n_x2, cap_x2, B_x2, m_x2, cup_x2, rfl, -, -⟩ := id h_x2.form
             replace h_x2 := Lib.hid h_x2
             replace h_m := Lib.hid (h_m.out.below (below_next (by repeat (first | with_reducible exact Below.refl _ _ | with_reducible apply below_new | with_reducible apply below_drew)) hb))
             have B_w13 := Lib.hid (below_next (by repeat (first | with_reducible exact B_w12.out | with_reducible apply below_new | with_reducible apply below_drew)) hb)
             have K_w13 := KK.out _ B_w13.out
             obtain ⟨hc_w13, hf_w13⟩ := below_reads hb
             have hz_w13 := hb.size
             try simp at hz_w13
             try (have z1_w13 := Nat.lt_of_succ_le hz_w13)
             try (have z2_w13 := Nat.lt_of_succ_lt z1_w13)
             have HB_w13 := Lib.hid hb
             have y_w13_w12 := Nat.le_trans HB_w12.out.size (Nat.le_trans (by (try simp only [World.size_alloc]); omega) hb.size)
             try simp at y_w13_w12
             try (have z3_w13_w12 := Nat.lt_of_succ_le y_w13_w12)
             try (have z4_w13_w12 := Nat.lt_of_succ_lt z3_w13_w12)
             clear hb))
    all_goals clear KK K0 KD K_w12 K_w13
    all_goals go_wp2_with fail
    all_goals go_meet
    all_goals refine ⟨_, A_x2, n_x2, cap_x2, B_x2, m_x2, cup_x2, rfl, ⟨?_, ?_, ?_, ?_⟩⟩
    all_goals repeat' (first | with_reducible exact h_x2.out | with_reducible exact B_w12.out | with_reducible exact B_w13.out | (with_reducible refine AtB.set4 (a := .bool false) (b := .slice none 0 0) (c := .bool false) (d := .slice none 0 0) (T := 39) ?_ _ _ _ _) | (with_reducible refine RR.alloc ?_ _) | (with_reducible refine RR.far4 (cs := #[.bool false, .slice none 0 0, .bool false, .slice none 0 0]) ?_ ?_ _ _ _ _) | with_reducible exact Below.refl _ _ | with_reducible apply below_new | with_reducible apply below_drew | (with_reducible refine below_set ?_ ?_ _) | (with_reducible refine AtB.set2 (a := .bool false) (b := .slice none 0 0) (T := 37) ?_ _ _) | (with_reducible refine AtB.set2 (a := .int .i64 0) (b := .int .u64 0) (T := 81) ?_ _ _) | (with_reducible refine AtB.far2 ?_ ?_ _ _) | (with_reducible refine BR.alloc ?_ _) | (with_reducible refine BR.far2 (a := .bool false) (b := .slice none 0 0) (T := 37) ?_ ?_ (by decide) _ _) | (with_reducible refine new_at_eq ?_ _ _; first | rfl | (simp; done)) | (with_reducible refine AtB.alloc ?_ _) | with_reducible apply AtB.drew | (with_reducible refine AtB.keep ?_ HB_w13.out) | (with_reducible refine AtB.keep ?_ HB_w12.out) | omega)
  clear M3 A3
  obtain ⟨wc3, rfl⟩ : ∃ wo : World, wo = wc := ⟨_, rfl⟩
  obtain ⟨g_x2, A_x2, n_x2, cap_x2, B_x2, m_x2, cup_x2, rfl, hcut⟩ := hcut
  obtain ⟨r_x2, h_x2, hb, hge⟩ := hcut.out
  clear hcut
  replace r_x2 := Lib.hid r_x2; replace h_x2 := Lib.hid h_x2
  have d_x2 := Lib.hid (And.intro (Nat.le_trans BB.out.size hge) (And.intro (Nat.lt_of_lt_of_le r_r1.out.lt hge) (And.intro (Nat.lt_of_lt_of_le r_r2.out.lt hge) (And.intro (Nat.lt_of_lt_of_le r_a.out.lt hge) (And.intro (Nat.lt_of_lt_of_le r_x1.out.lt hge) (And.intro (Nat.lt_of_lt_of_le r_y1.out.lt hge) (True.intro)))))))
  clear r_x1
  clear h_x1
  clear r_a
  clear h_a
  replace r_r1 := Lib.hid (r_r1.out.keep hb)
  replace r_r2 := Lib.hid (r_r2.out.keep hb)
  replace r_y1 := Lib.hid (r_y1.out.keep hb)
  replace h_y1 := Lib.hid (h_y1.out.below hb)
  replace BB := Lib.hid (below_next BB.out hb)
  clear hb hge
  go_wp2_with fail
  refine (O5.out _).mono ?_
  rintro e w14 ⟨v_pt, rfl, hb, h_pt⟩
  obtain ⟨A_pt, n_pt, cap_pt, B_pt, m_pt, cup_pt, rfl, -, -⟩ := id h_pt.form
  replace h_pt := Lib.hid h_pt
  replace r_r1 := Lib.hid (r_r1.out.keep hb)
  replace r_r2 := Lib.hid (r_r2.out.keep hb)
  replace r_y1 := Lib.hid (r_y1.out.keep hb)
  replace r_x2 := Lib.hid (r_x2.out.keep hb)
  replace h_y1 := Lib.hid (h_y1.out.below hb)
  replace h_x2 := Lib.hid (h_x2.out.below hb)
  replace BB := Lib.hid (below_next BB.out hb)
  clear hb
  clear O5
  go_wp2_with fail
  have d_pt := Lib.hid (And.intro BB.out.size (And.intro r_r1.out.lt (And.intro r_r2.out.lt (And.intro r_y1.out.lt (And.intro r_x2.out.lt (True.intro))))))
  obtain ⟨hb, r_pt⟩ := laid w14 #[.bool (sgn (65536)), .slice A_pt n_pt cap_pt, .bool (sgn (1)), .slice B_pt m_pt cup_pt] 39
  replace r_r1 := Lib.hid (r_r1.out.keep hb)
  replace r_r2 := Lib.hid (r_r2.out.keep hb)
  replace r_y1 := Lib.hid (r_y1.out.keep hb)
  replace r_x2 := Lib.hid (r_x2.out.keep hb)
  replace h_y1 := Lib.hid (h_y1.out.below hb)
  replace h_x2 := Lib.hid (h_x2.out.below hb)
  replace h_pt := Lib.hid (h_pt.out.below hb)
  replace BB := Lib.hid (below_next BB.out hb)
  replace r_pt := Lib.hid r_pt
  clear hb
  generalize w14.alloc (.cells #[.bool (sgn (65536)), .slice A_pt n_pt cap_pt, .bool (sgn (1)), .slice B_pt m_pt cup_pt] 39) = w15 at *
  generalize w14.heap.size = g_pt at *
  go_wp2_with fail
  have KK := Lib.hid (fun (w9 : World) (h : Below w15.heap.size w15 w9) => (⟨KS.out _ (below_next BB.out h), cells4 (r_pt.out.keep h), cells4 (r_x2.out.keep h), cells4 (r_y1.out.keep h)⟩ : (S4 bk off a b cx cy w9) ∧ (w9.cell? ⟨g_pt, 0, none⟩ = some (.bool (sgn (65536))) ∧ w9.cell? ⟨g_pt, 1, none⟩ = some (.slice A_pt n_pt cap_pt) ∧ w9.cell? ⟨g_pt, 2, none⟩ = some (.bool (sgn (1))) ∧ w9.cell? ⟨g_pt, 3, none⟩ = some (.slice B_pt m_pt cup_pt)) ∧ (w9.cell? ⟨g_x2, 0, none⟩ = some (.bool (sgn (X2))) ∧ w9.cell? ⟨g_x2, 1, none⟩ = some (.slice A_x2 n_x2 cap_x2) ∧ w9.cell? ⟨g_x2, 2, none⟩ = some (.bool (sgn (D2))) ∧ w9.cell? ⟨g_x2, 3, none⟩ = some (.slice B_x2 m_x2 cup_x2)) ∧ (w9.cell? ⟨g_y1, 0, none⟩ = some (.bool (sgn (Y1))) ∧ w9.cell? ⟨g_y1, 1, none⟩ = some (.slice A_y1 n_y1 cap_y1) ∧ w9.cell? ⟨g_y1, 2, none⟩ = some (.bool (sgn (D1))) ∧ w9.cell? ⟨g_y1, 3, none⟩ = some (.slice B_y1 m_y1 cup_y1))))
  have K0 := KK.out w15 (Below.refl _ _)
  have KD := KK.out w15.drew (below_drew (Below.refl _ _))
  have tok0 : Hid True := trivial
  have tok1 : Hid True := trivial
  have tok2 : Hid True := trivial
  have tok3 : Hid True := trivial
  have tok4 : Hid True := trivial
  have tok5 : Hid True := trivial
  go_region_held3 (fun w9 => (S4 bk off a b cx cy w9) ∧ (w9.cell? ⟨g_pt, 0, none⟩ = some (.bool (sgn (65536))) ∧ w9.cell? ⟨g_pt, 1, none⟩ = some (.slice A_pt n_pt cap_pt) ∧ w9.cell? ⟨g_pt, 2, none⟩ = some (.bool (sgn (1))) ∧ w9.cell? ⟨g_pt, 3, none⟩ = some (.slice B_pt m_pt cup_pt)) ∧ (w9.cell? ⟨g_x2, 0, none⟩ = some (.bool (sgn (X2))) ∧ w9.cell? ⟨g_x2, 1, none⟩ = some (.slice A_x2 n_x2 cap_x2) ∧ w9.cell? ⟨g_x2, 2, none⟩ = some (.bool (sgn (D2))) ∧ w9.cell? ⟨g_x2, 3, none⟩ = some (.slice B_x2 m_x2 cup_x2)) ∧ (w9.cell? ⟨g_y1, 0, none⟩ = some (.bool (sgn (Y1))) ∧ w9.cell? ⟨g_y1, 1, none⟩ = some (.slice A_y1 n_y1 cap_y1) ∧ w9.cell? ⟨g_y1, 2, none⟩ = some (.bool (sgn (D1))) ∧ w9.cell? ⟨g_y1, 3, none⟩ = some (.slice B_y1 m_y1 cup_y1)))
      (first | with_reducible exact KD | with_reducible exact K0 | with_reducible exact K_w16 | with_reducible exact K_w17 | with_reducible exact K_w18 | with_reducible exact K_w19 | with_reducible exact K_w20 | with_reducible exact K_w21 | with_reducible exact ⟨(KS.out _ (below_far4 (below_next BB.out B_w21.out) (by omega) _ _ _ _)), cells4 ((r_pt.out.keep B_w21.out).far4 (by have dd_pt := d_pt.out; omega) _ _ _ _), cells4 ((r_x2.out.keep B_w21.out).far4 (by have dd_x2 := d_x2.out; omega) _ _ _ _), cells4 ((r_y1.out.keep B_w21.out).far4 (by have dd_y1 := d_y1.out; omega) _ _ _ _)⟩ | with_reducible exact ⟨(KS.out _ (below_far4 (below_next BB.out B_w21.out) (by omega) _ _ _ _)), cells4 ((r_pt.out.keep B_w21.out).far4 (by have dd_pt := d_pt.out; omega) _ _ _ _), cells4 ((r_x2.out.keep B_w21.out).far4 (by have dd_x2 := d_x2.out; omega) _ _ _ _), cells4 ((r_y1.out.keep B_w21.out).far4 (by have dd_y1 := d_y1.out; omega) _ _ _ _)⟩ | with_reducible exact ⟨(KS.out _ (below_far4 (below_far4 (below_next BB.out B_w21.out) (by omega) _ _ _ _) (by omega) _ _ _ _)), cells4 (((r_pt.out.keep B_w21.out).far4 (by have dd_pt := d_pt.out; omega) _ _ _ _).far4 (by have dd_pt := d_pt.out; omega) _ _ _ _), cells4 (((r_x2.out.keep B_w21.out).far4 (by have dd_x2 := d_x2.out; omega) _ _ _ _).far4 (by have dd_x2 := d_x2.out; omega) _ _ _ _), cells4 (((r_y1.out.keep B_w21.out).far4 (by have dd_y1 := d_y1.out; omega) _ _ _ _).far4 (by have dd_y1 := d_y1.out; omega) _ _ _ _)⟩ | with_reducible exact ⟨(KS.out _ (below_far4 (below_far4 (below_next BB.out B_w21.out) (by omega) _ _ _ _) (by omega) _ _ _ _)), cells4 (((r_pt.out.keep B_w21.out).far4 (by have dd_pt := d_pt.out; omega) _ _ _ _).far4 (by have dd_pt := d_pt.out; omega) _ _ _ _), cells4 (((r_x2.out.keep B_w21.out).far4 (by have dd_x2 := d_x2.out; omega) _ _ _ _).far4 (by have dd_x2 := d_x2.out; omega) _ _ _ _), cells4 (((r_y1.out.keep B_w21.out).far4 (by have dd_y1 := d_y1.out; omega) _ _ _ _).far4 (by have dd_y1 := d_y1.out; omega) _ _ _ _)⟩)
      (first
        | (go_at_call 51
           have t_k := tok0
           refine (O6.out _).mono ?_
           rintro e w16 ⟨v_o, rfl, hb, h_o⟩
           obtain ⟨A_o, n_o, cap_o, B_o, m_o, cup_o, rfl, -, -⟩ := id h_o.form
           replace h_o := Lib.hid h_o
           have B_w16 := Lib.hid (reg_next (w0 := w15) (by repeat (first | with_reducible exact Below.refl _ _ | with_reducible apply below_drew | with_reducible apply below_new)) hb)
           have K_w16 := KK.out _ B_w16.out
           clear hb
           clear t_k tok0)
        | (go_at_call 19
           have t_k := tok1
           refine (A4.out _ _ _ (h_x2.out.below B_w16.out) h_o.out).mono ?_
           rintro e w17 ⟨v_s, rfl, hb, h_s⟩
           obtain ⟨A_s, n_s, cap_s, B_s, m_s, cup_s, rfl, -, -⟩ := id h_s.form
           replace h_s := Lib.hid h_s
           replace h_o := Lib.hid (h_o.out.below hb)
           have B_w17 := Lib.hid (below_next B_w16.out hb)
           have K_w17 := KK.out _ B_w17.out
           clear hb
           clear t_k tok1)
        | (go_at_call 20
           have t_k := tok2
           refine (M4.out _ _ _ (h_pt.out.below B_w17.out) h_s.out).mono ?_
           rintro e w18 ⟨v_u, rfl, hb, h_u⟩
           obtain ⟨A_u, n_u, cap_u, B_u, m_u, cup_u, rfl, -, -⟩ := id h_u.form
           replace h_u := Lib.hid h_u
           replace h_o := Lib.hid (h_o.out.below hb)
           replace h_s := Lib.hid (h_s.out.below hb)
           have B_w18 := Lib.hid (below_next B_w17.out hb)
           have K_w18 := KK.out _ B_w18.out
           clear hb
           clear t_k tok2)
        | (go_at_call 51
           have t_k := tok3
           refine (O7.out _).mono ?_
           rintro e w19 ⟨v_t, rfl, hb, h_t⟩
           obtain ⟨A_t, n_t, cap_t, B_t, m_t, cup_t, rfl, -, -⟩ := id h_t.form
           replace h_t := Lib.hid h_t
           replace h_o := Lib.hid (h_o.out.below hb)
           replace h_s := Lib.hid (h_s.out.below hb)
           replace h_u := Lib.hid (h_u.out.below hb)
           have B_w19 := Lib.hid (below_next B_w18.out hb)
           have K_w19 := KK.out _ B_w19.out
           clear hb
           clear t_k tok3)
        | (go_at_call 19
           have t_k := tok4
           refine (A5.out _ _ _ (h_y1.out.below B_w19.out) h_t.out).mono ?_
           rintro e w20 ⟨v_z, rfl, hb, h_z⟩
           obtain ⟨A_z, n_z, cap_z, B_z, m_z, cup_z, rfl, -, -⟩ := id h_z.form
           replace h_z := Lib.hid h_z
           replace h_o := Lib.hid (h_o.out.below hb)
           replace h_s := Lib.hid (h_s.out.below hb)
           replace h_u := Lib.hid (h_u.out.below hb)
           replace h_t := Lib.hid (h_t.out.below hb)
           have B_w20 := Lib.hid (below_next B_w19.out hb)
           have K_w20 := KK.out _ B_w20.out
           clear hb
           clear t_k tok4)
        | (go_at_call 20
           have t_k := tok5
           refine (M5.out _ _ _ (h_pt.out.below B_w20.out) h_z.out).mono ?_
           rintro e w21 ⟨v_v, rfl, hb, h_v⟩
           obtain ⟨A_v, n_v, cap_v, B_v, m_v, cup_v, rfl, -, -⟩ := id h_v.form
           replace h_v := Lib.hid h_v
           replace h_o := Lib.hid (h_o.out.below hb)
           replace h_s := Lib.hid (h_s.out.below hb)
           replace h_u := Lib.hid (h_u.out.below hb)
           replace h_t := Lib.hid (h_t.out.below hb)
           replace h_z := Lib.hid (h_z.out.below hb)
           have B_w21 := Lib.hid (below_next B_w20.out hb)
           have K_w21 := KK.out _ B_w21.out
           obtain ⟨rc_r10, rc_r11, rc_r12, rc_r13, rf_r10, rf_r11, rf_r12, rf_r13⟩ := reads4 (r_r1.out.keep B_w21.out)
           have rl_r1 := (r_r1.out.keep B_w21.out).lt
           obtain ⟨rc_r20, rc_r21, rc_r22, rc_r23, rf_r20, rf_r21, rf_r22, rf_r23⟩ := reads4 (r_r2.out.keep B_w21.out)
           have rl_r2 := (r_r2.out.keep B_w21.out).lt
           clear hb
           clear t_k tok5))
  clear KK K0 KD K_w16 K_w17 K_w18 K_w19 K_w20 K_w21
  replace r_r1 := Lib.hid (r_r1.out.keep B_w21.out)
  replace r_r2 := Lib.hid (r_r2.out.keep B_w21.out)
  replace r_y1 := Lib.hid (r_y1.out.keep B_w21.out)
  replace r_x2 := Lib.hid (r_x2.out.keep B_w21.out)
  replace r_pt := Lib.hid (r_pt.out.keep B_w21.out)
  replace h_y1 := Lib.hid (h_y1.out.below B_w21.out)
  replace h_x2 := Lib.hid (h_x2.out.below B_w21.out)
  replace h_pt := Lib.hid (h_pt.out.below B_w21.out)
  replace BB := Lib.hid (below_next BB.out B_w21.out)
  clear B_w16 B_w17 B_w18 B_w19 B_w20 B_w21
  go_wp2_with fail
  refine bodyPost_ret (v := .tuple #[.agg #[.bool (sgn P), .slice A_u n_u cap_u, .bool (sgn D2), .slice B_u m_u cup_u], .agg #[.bool (sgn Q), .slice A_v n_v cap_v, .bool (sgn D1), .slice B_v m_v cup_v]]) (by unfold results; simp only [Try.results41]; go_simp) rfl ?_
  exact give_rats BB.out h_u.out.parts.1 h_u.out.parts.2 h_v.out.parts.1 h_v.out.parts.2 r_r1.out r_r2.out (by omega) (by omega) (by omega)

end Go.Proofs.Ytommpclkiiffpaa
