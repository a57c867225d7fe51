/- Walk of the document's Within of the slants; how far off what is told may be. -/
import Derived.Test.YtommpclkiiffpaaShearR1
set_option linter.unusedVariables false
namespace Go.Proofs.Ytommpclkiiffpaa
open Go.RowKit

theorem cmp_dn {x y : Int} (h : x ≤ y) : cmpI x y ≤ 0 := by unfold cmpI; split <;> (try split) <;> omega
theorem cmp_up {x y : Int} (h : y ≤ x) : cmpI x y ≥ 0 := by unfold cmpI; split <;> (try split) <;> omega

set_option maxRecDepth 100000 in
set_option maxHeartbeats 16000000 in
theorem rwithin (v : Value) (z k p q : Int) {a b : Nat} (hp : Wd a p) (hq : Wd b q) (hm : a ≤ 1300 ∧ b ≤ 1300) (hz : I64 (z - k)) (hz' : I64 (z + k)) (h1 : (z - k) * q ≤ p) (h2 : p ≤ (z + k) * q) (w : World) (hv : RR w v p q) :
    Calls Try.prog 42 #[.int .i64 z, v, .int .i64 k] w fun e w' => e = .returned (.bool true) ∧ Below w.heap.size w w' := by
  obtain ⟨A1, n1, c1, B1, m1, d1, rfl, hp1, hq1⟩ := hv
  have e1 : IntKind.i64.wrap (z - k) = z - k := iw hz
  have e2 : IntKind.i64.wrap (z + k) = z + k := iw hz'
  have w1 : Wd 0 1 := wd_lit 0 1 (by decide)
  have O1 := Lib.hid (fun w => rof (z - k) 1 hz ⟨by omega, by omega⟩ w)
  have O2 := Lib.hid (fun w => rof (z + k) 1 hz' ⟨by omega, by omega⟩ w)
  have C1 := Lib.hid (fun (u v : Value) w hu hv => rcmp u v (z - k) 1 p q (i64_wd hz) w1 hp hq (by omega) w hu hv)
  have C2 := Lib.hid (fun (u v : Value) w hu hv => rcmp u v (z + k) 1 p q (i64_wd hz') w1 hp hq (by omega) w hu hv)
  rw [Int.mul_one] at C1 C2
  have t1 := cmp_dn h1
  have t2 := cmp_up h2
  have hR := Lib.hid (show RR w (.agg #[.bool (sgn p), .slice A1 n1 c1, .bool (sgn q), .slice B1 m1 d1]) p q from ⟨_, _, _, _, _, _, rfl, hp1, hq1⟩)
  clear hp hq hm h1 h2 hz hz' w1 hp1 hq1
  generalize cmpI ((z - k) * q) p = K1 at *
  generalize cmpI ((z + k) * q) p = K2 at *
  have u1 : decide (K1 ≤ 0) = true := decide_eq_true t1
  have u2 : decide (K2 ≥ 0) = true := decide_eq_true t2
  go_enter Try.func42, Try.ntmps42
  go_wp2_with fail
  have BB := start1 w #[.bool (sgn p), .slice A1 n1 c1, .bool (sgn q), .slice B1 m1 d1] RT
  obtain ⟨BB, hsz, r_x⟩ := BB
  generalize (w.alloc (.cells #[.bool (sgn p), .slice A1 n1 c1, .bool (sgn q), .slice B1 m1 d1] RT)) = w0 at *
  replace BB := Lib.hid BB
  replace r_x := Lib.hid r_x
  clear hsz
  have h_x := Lib.hid (hR.out.below BB.out)
  clear hR
  have KK := Lib.hid (fun (w9 : World) (h : Below w0.heap.size w0 w9) => (cells4 (r_x.out.keep h) : (w9.cell? ⟨w.heap.size, 0, none⟩ = some (.bool (sgn p)) ∧ w9.cell? ⟨w.heap.size, 1, none⟩ = some (.slice A1 n1 c1) ∧ w9.cell? ⟨w.heap.size, 2, none⟩ = some (.bool (sgn q)) ∧ w9.cell? ⟨w.heap.size, 3, none⟩ = some (.slice B1 m1 d1))))
  have K0 := KK.out w0 (Below.refl _ _)
  have KD := KK.out w0.drew (below_drew (Below.refl _ _))
  have tok0 : Hid True := trivial
  have tok1 : Hid True := trivial
  have tok2 : Hid True := trivial
  have tok3 : Hid True := trivial
  go_region_held3 (fun w9 => (w9.cell? ⟨w.heap.size, 0, none⟩ = some (.bool (sgn p)) ∧ w9.cell? ⟨w.heap.size, 1, none⟩ = some (.slice A1 n1 c1) ∧ w9.cell? ⟨w.heap.size, 2, none⟩ = some (.bool (sgn q)) ∧ w9.cell? ⟨w.heap.size, 3, none⟩ = some (.slice B1 m1 d1)))
      (first | with_reducible exact KD | with_reducible exact K0 | with_reducible exact K_w1 | with_reducible exact K_w2 | with_reducible exact K_w3 | with_reducible exact K_w4)
      (first
        | (go_at_call 51
           have t_k := tok0
           refine (O1.out _).mono ?_
           rintro e w1 ⟨v_o, rfl, hb, h_o⟩
           obtain ⟨A_o, n_o, cap_o, B_o, m_o, cup_o, rfl, -, -⟩ := id h_o.form
           replace h_o := Lib.hid h_o
           have B_w1 := Lib.hid (reg_next (w0 := w0) (by repeat (first | with_reducible exact Below.refl _ _ | with_reducible apply below_drew | with_reducible apply below_new)) hb)
           have K_w1 := KK.out _ B_w1.out
           clear hb
           clear t_k tok0)
        | (go_at_call 26
           have t_k := tok1
           refine (C1.out _ _ _ h_o.out (h_x.out.below B_w1.out)).mono ?_
           rintro e w2 ⟨rfl, hb⟩
           replace h_o := Lib.hid (h_o.out.below hb)
           have B_w2 := Lib.hid (below_next B_w1.out hb)
           have K_w2 := KK.out _ B_w2.out
           clear hb
           clear t_k tok1)
        | (go_at_call 51
           have t_k := tok2
           refine (O2.out _).mono ?_
           rintro e w3 ⟨v_t, rfl, hb, h_t⟩
           obtain ⟨A_t, n_t, cap_t, B_t, m_t, cup_t, rfl, -, -⟩ := id h_t.form
           replace h_t := Lib.hid h_t
           replace h_o := Lib.hid (h_o.out.below hb)
           have B_w3 := Lib.hid (below_next B_w2.out hb)
           have K_w3 := KK.out _ B_w3.out
           clear hb
           clear t_k tok2)
        | (go_at_call 26
           have t_k := tok3
           refine (C2.out _ _ _ h_t.out (h_x.out.below B_w3.out)).mono ?_
           rintro e w4 ⟨rfl, hb⟩
           replace h_o := Lib.hid (h_o.out.below hb)
           replace h_t := Lib.hid (h_t.out.below hb)
           have B_w4 := Lib.hid (below_next B_w3.out hb)
           have K_w4 := KK.out _ B_w4.out
           clear hb
           clear t_k tok3))
  clear KK K0 KD K_w1 K_w2 K_w3 K_w4
  replace r_x := Lib.hid (r_x.out.keep B_w4.out)
  replace h_x := Lib.hid (h_x.out.below B_w4.out)
  replace BB := Lib.hid (below_next BB.out B_w4.out)
  clear B_w1 B_w2 B_w3 B_w4
  go_wp2_with fail
  go_ret
  exact ⟨rfl, BB.out⟩


/-- How far off what is told may be. -/
theorem slant_off (k y : Int) : -32767 ≤ 65536 * slant k y - k * y ∧ 65536 * slant k y - k * y ≤ 32768 := by unfold slant; omega
theorem abs_mul {x y B : Int} (hy : -B ≤ y ∧ y ≤ B) : -((x.natAbs : Int) * B) ≤ x * y ∧ x * y ≤ (x.natAbs : Int) * B := mul_in (A := (x.natAbs : Int)) (by omega) hy
theorem near_facts (a b x0 y0 : Int) :
    (-(281474976710656 * 65536 + 65536 * ((a.natAbs : Int) * (32768 * ((b.natAbs : Int) + 65536)))) ≤ 18446744073709551616 * shX2 a b x0 y0 - exX2 a b x0 y0 ∧
      18446744073709551616 * shX2 a b x0 y0 - exX2 a b x0 y0 ≤ 281474976710656 * 65536 + 65536 * ((a.natAbs : Int) * (32768 * ((b.natAbs : Int) + 65536)))) ∧
    (-(32768 * ((b.natAbs : Int) + 65536)) ≤ 4294967296 * shY1 a b x0 y0 - exY1 a b x0 y0 ∧ 4294967296 * shY1 a b x0 y0 - exY1 a b x0 y0 ≤ 32768 * ((b.natAbs : Int) + 65536)) := by
  have s1 := slant_off a y0
  have s2 := slant_off b (shX1 a x0 y0)
  have s3 := slant_off a (shY1 a b x0 y0)
  have e1 : 65536 * shX1 a x0 y0 - exX1 a x0 y0 = 65536 * slant a y0 - a * y0 := by unfold shX1 exX1; omega
  generalize hd1 : 65536 * slant a y0 - a * y0 = d1 at *
  generalize hd2 : 65536 * slant b (shX1 a x0 y0) - b * shX1 a x0 y0 = d2 at *
  generalize hd3 : 65536 * slant a (shY1 a b x0 y0) - a * shY1 a b x0 y0 = d3 at *
  have e2 : 4294967296 * shY1 a b x0 y0 - exY1 a b x0 y0 = b * d1 + 65536 * d2 := by
    have : b * d1 = 65536 * (b * shX1 a x0 y0) - b * exX1 a x0 y0 := by rw [← e1, Int.mul_sub]; rw [Int.mul_left_comm]
    rw [this, ← hd2]; unfold shY1 exY1; omega
  have m1 := abs_mul (x := b) (y := d1) (B := 32768) ⟨by omega, by omega⟩
  have k2 : -(32768 * ((b.natAbs : Int) + 65536)) ≤ b * d1 + 65536 * d2 ∧ b * d1 + 65536 * d2 ≤ 32768 * ((b.natAbs : Int) + 65536) := by
    generalize (b.natAbs : Int) = B at *
    generalize b * d1 = P at *
    omega
  refine ⟨?_, by rw [e2]; exact k2⟩
  have e3 : 18446744073709551616 * shX2 a b x0 y0 - exX2 a b x0 y0 = 281474976710656 * d1 + 65536 * (a * (b * d1 + 65536 * d2)) + 281474976710656 * d3 := by
    have : a * (b * d1 + 65536 * d2) = 4294967296 * (a * shY1 a b x0 y0) - a * exY1 a b x0 y0 := by rw [← e2, Int.mul_sub]; rw [Int.mul_left_comm]
    rw [this, ← hd3, ← e1]; unfold shX2 exX2; omega
  rw [e3]
  have m2 := abs_mul (x := a) k2
  generalize (a.natAbs : Int) * (32768 * ((b.natAbs : Int) + 65536)) = M at *
  generalize a * (b * d1 + 65536 * d2) = P at *
  omega

/-- The bounds hold: what is told, in parts, times the divisor. -/
theorem near_x (a b x0 y0 cx : Int) : (65536 * (shX2 a b x0 y0 + cx) - bndX a b) * 18446744073709551616 ≤ 65536 * (exX2 a b x0 y0 + cx * 18446744073709551616) ∧
    65536 * (exX2 a b x0 y0 + cx * 18446744073709551616) ≤ (65536 * (shX2 a b x0 y0 + cx) + bndX a b) * 18446744073709551616 := by
  obtain ⟨h, -⟩ := near_facts a b x0 y0
  have hm : (a.natAbs : Int) * (32768 * ((b.natAbs : Int) + 65536)) = 32768 * ((a.natAbs : Int) * (65536 + (b.natAbs : Int))) := by rw [Int.mul_left_comm, Int.add_comm]
  have hbd : bndX a b = 65536 + ((a.natAbs : Int) * (65536 + (b.natAbs : Int)) + 131071) / 131072 := rfl
  rw [hm] at h
  generalize (a.natAbs : Int) * (65536 + (b.natAbs : Int)) = M at *
  generalize shX2 a b x0 y0 = U at *
  generalize exX2 a b x0 y0 = E at *
  generalize bndX a b = K at *
  omega
theorem near_y (a b x0 y0 cy : Int) : (65536 * (shY1 a b x0 y0 + cy) - bndY b) * 4294967296 ≤ 65536 * (exY1 a b x0 y0 + cy * 4294967296) ∧
    65536 * (exY1 a b x0 y0 + cy * 4294967296) ≤ (65536 * (shY1 a b x0 y0 + cy) + bndY b) * 4294967296 := by
  obtain ⟨-, h⟩ := near_facts a b x0 y0
  have hbd : bndY b = 32768 + ((b.natAbs : Int) + 1) / 2 := rfl
  generalize (b.natAbs : Int) = B at *
  generalize shY1 a b x0 y0 = U at *
  generalize exY1 a b x0 y0 = E at *
  generalize bndY b = K at *
  omega

end Go.Proofs.Ytommpclkiiffpaa
