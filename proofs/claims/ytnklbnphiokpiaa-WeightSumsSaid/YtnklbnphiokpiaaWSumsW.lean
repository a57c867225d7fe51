/- The walk of WeightSums. -/
import Derived.Test.YtnklbnphiokpiaaWeight
import Derived.Test.YtnklbnphiokpiaaWt0
import Derived.Test.YtnklbnphiokpiaaBoxN
set_option linter.unusedVariables false
set_option linter.unusedSimpArgs false
namespace Go.Proofs.Ytnklbnphiokpiaa
open Go.RowKit

theorem cw_turn (t : Int) : cw0 (256 - t) = cw3 t ∧ cw1 (256 - t) = cw2 t ∧ cw2 (256 - t) = cw1 t ∧ cw3 (256 - t) = cw0 t := by
  unfold cw0 cw1 cw2 cw3; refine ⟨?_, ?_, ?_, ?_⟩ <;> grind
theorem cw_all (t : Int) : cw0 t + cw1 t + cw2 t + cw3 t = 33554432 := by unfold cw0 cw1 cw2 cw3; omega
theorem cw_in (t : Int) (h0 : 0 ≤ t) (h1 : t ≤ 256) : (-67108864 ≤ cw0 t ∧ cw0 t ≤ 67108864) ∧ (-134217728 ≤ cw1 t ∧ cw1 t ≤ 134217728) ∧ (-134217728 ≤ cw2 t ∧ cw2 t ≤ 134217728) ∧ (-67108864 ≤ cw3 t ∧ cw3 t ≤ 67108864) := by
  obtain ⟨b1, b2, b3, b4⟩ := pow_bounds t h0 h1
  unfold cw0 cw1 cw2 cw3; omega
def f4 (a b c d : Int) (i : Nat) : Int := [a, b, c, d].getD i 0
theorem dot4 (a b c d v : Int) (h : a + b + c + d = 33554432) (hv : 0 ≤ v ∧ v ≤ 255) : wrap64 (dotN (f4 a b c d) (f4 v v v v) (min 4 4)) = 33554432 * v := by
  have e : dotN (f4 a b c d) (f4 v v v v) (min 4 4) = 33554432 * v := by
    show 0 + a * v + b * v + c * v + d * v = _
    rw [← h]; grind
  rw [e]; exact wr_in (by omega) (by omega)
theorem byte_same (v : Int) (hv : 0 ≤ v ∧ v ≤ 255) : byteI (33554432 * v) 33554432 = v := by
  unfold byteI
  rw [if_neg (by omega)]
  have : nearI (33554432 * v) 33554432 = v := by
    unfold nearI
    rw [Int.fdiv_eq_ediv_of_nonneg _ (by omega)]
    omega
  rw [this]; omega
/-- Whatever the place. -/
theorem wCubic_gen (t : Int) (w : World) : Calls Try.prog 15 #[.int .i64 t] w fun e w' => ∃ a b c d r, e = .returned (.tuple #[.agg #[.int .i64 a, .int .i64 b, .int .i64 c, .int .i64 d], .int .i64 r]) ∧ Below w.heap.size w w' := by
  by_cases h : 0 ≤ t ∧ t ≤ 256
  · refine (wCubic_in t h.1 h.2 w).mono ?_; rintro e w' ⟨rfl, hb⟩; exact ⟨_, _, _, _, _, rfl, hb⟩
  · refine (wCubic_out t (by omega) w).mono ?_; rintro e w' ⟨rfl, hb⟩; exact ⟨_, _, _, _, _, rfl, hb⟩
theorem wmix4 (gb gd : Nat) (b0 b1 b2 b3 v : Int) (hs : b0 + b1 + b2 + b3 = 33554432) (hv : 0 ≤ v ∧ v ≤ 255) (w : World) (hb : AtB w gb #[.int .i64 b0, .int .i64 b1, .int .i64 b2, .int .i64 b3] 26) (hd : AtB w gd #[.int .u8 v, .int .u8 v, .int .u8 v, .int .u8 v] 5) :
    Calls Try.prog 18 #[.slice (some ⟨gb, 0, none⟩) 4 4, .slice (some ⟨gd, 0, none⟩) 4 4] w fun e w' => e = .returned (.int .i64 (33554432 * v)) ∧ ∃ k, w' = w.drewN k := by
  have H := wmix_some gb 0 4 gd 0 4 4 4 (f4 b0 b1 b2 b3) (f4 v v v v) (by omega) (by omega) (by omega) (by omega) w
    (fun i hi => by
      match i, hi with
      | 0, _ => exact hb.cell 0 rfl
      | 1, _ => exact hb.cell 1 rfl
      | 2, _ => exact hb.cell 2 rfl
      | 3, _ => exact hb.cell 3 rfl)
    (fun i hi => by
      match i, hi with
      | 0, _ => exact hd.cell 0 rfl
      | 1, _ => exact hd.cell 1 rfl
      | 2, _ => exact hd.cell 2 rfl
      | 3, _ => exact hd.cell 3 rfl)
    (fun i => by
      match i with
      | 0 => exact hv
      | 1 => exact hv
      | 2 => exact hv
      | 3 => exact hv
      | n + 4 => simp [f4])
  rw [dot4 b0 b1 b2 b3 v hs hv] at H
  exact H
abbrev A2T : TypeId := 22
abbrev A4T : TypeId := 26

set_option maxRecDepth 100000 in
set_option maxHeartbeats 4000000 in
theorem weightSums_ii (f t v : Int) (hf : 0 ≤ f ∧ f ≤ 65536) (ht : 0 ≤ t ∧ t ≤ 256) (hv : 0 ≤ v ∧ v ≤ 255) (w : World) :
    Calls Try.prog 3 #[.int .i64 f, .int .i64 t, .int .u8 v] w fun e w' => e = .returned (.bool true) ∧ Below w.heap.size w w' := by
  have CL := Lib.hid (fun w => wlinear_in f hf.1 hf.2 w)
  obtain ⟨f0, f1⟩ := hf
  have k0 : decide (65536 - f < 0) = false := decide_eq_false (by omega)
  have k1 : decide (f < 0) = false := decide_eq_false (by omega)
  have ke : 65536 - f + f = 65536 := by omega
  obtain ⟨f', ef⟩ : ∃ f', f' = 65536 - f := ⟨_, rfl⟩
  rw [← ef] at CL k0 ke
  clear ef f1
  have CA := Lib.hid (fun w => weight_alive w)
  have CC := Lib.hid (fun w => wCubic_in t ht.1 ht.2 w)
  have CD := Lib.hid (fun w => wCubic_in (256 - t) (by omega) (by omega) w)
  obtain ⟨e0, e1, e2, e3⟩ := cw_turn t
  rw [e0, e1, e2, e3] at CD
  clear e0 e1 e2 e3
  have hs := cw_all t
  obtain ⟨h0, h1, h2, h3⟩ := cw_in t ht.1 ht.2
  obtain ⟨t0, t1⟩ := ht
  have CM := Lib.hid (fun gb gd w hb hd => wmix4 gb gd (cw0 t) (cw1 t) (cw2 t) (cw3 t) v hs hv w hb hd)
  have CB := Lib.hid (fun w => wbyte (33554432 * v) 33554432 ⟨by omega, by omega⟩ ⟨by omega, by omega⟩ w)
  rw [byte_same v hv] at CB
  generalize 33554432 * v = V at *
  clear hv
  generalize cw0 t = b0 at *
  generalize cw1 t = b1 at *
  generalize cw2 t = b2 at *
  generalize cw3 t = b3 at *
  go_enter Try.func3, Try.ntmps3
  go_wp2_with fail
  have BB : Hid (Below w.heap.size w w) := Below.refl _ _
  refine (CL.out _).mono ?_
  rintro e w1 ⟨rfl, hb⟩
  replace BB := Lib.hid (below_next BB.out hb)
  clear hb
  go_wp2_with fail
  have d_a := Lib.hid (And.intro BB.out.size (True.intro))
  obtain ⟨hb, r_a⟩ := laid w1 #[.int .i64 f', .int .i64 f] A2T
  replace BB := Lib.hid (below_next BB.out hb)
  replace r_a := Lib.hid r_a
  clear hb
  generalize w1.alloc (.cells #[.int .i64 f', .int .i64 f] A2T) = w2 at *
  generalize w1.heap.size = g_a at *
  refine (CC.out _).mono ?_
  rintro e w3 ⟨rfl, hb⟩
  replace r_a := Lib.hid (r_a.out.keep hb)
  replace BB := Lib.hid (below_next BB.out hb)
  clear hb
  go_wp2_with fail
  have d_b := Lib.hid (And.intro BB.out.size (And.intro r_a.out.lt (True.intro)))
  obtain ⟨hb, r_b⟩ := laid w3 #[.int .i64 b0, .int .i64 b1, .int .i64 b2, .int .i64 b3] A4T
  replace r_a := Lib.hid (r_a.out.keep hb)
  replace BB := Lib.hid (below_next BB.out hb)
  replace r_b := Lib.hid r_b
  clear hb
  generalize w3.alloc (.cells #[.int .i64 b0, .int .i64 b1, .int .i64 b2, .int .i64 b3] A4T) = w4 at *
  generalize w3.heap.size = g_b at *
  refine (CD.out _).mono ?_
  rintro e w5 ⟨rfl, hb⟩
  replace r_a := Lib.hid (r_a.out.keep hb)
  replace r_b := Lib.hid (r_b.out.keep hb)
  replace BB := Lib.hid (below_next BB.out hb)
  clear hb
  obtain ⟨c_b0, c_b1, c_b2, c_b3, f_b0, f_b1, f_b2, f_b3⟩ := reads4 r_b.out
  have l_b := r_b.out.lt
  go_wp2_with fail
  clear c_b0 c_b1 c_b2 c_b3 f_b0 f_b1 f_b2 f_b3 l_b
  have d_c := Lib.hid (And.intro BB.out.size (And.intro r_a.out.lt (And.intro r_b.out.lt (True.intro))))
  obtain ⟨hb, r_c⟩ := laid w5 #[.int .i64 b3, .int .i64 b2, .int .i64 b1, .int .i64 b0] A4T
  replace r_a := Lib.hid (r_a.out.keep hb)
  replace r_b := Lib.hid (r_b.out.keep hb)
  replace BB := Lib.hid (below_next BB.out hb)
  replace r_c := Lib.hid r_c
  clear hb
  generalize w5.alloc (.cells #[.int .i64 b3, .int .i64 b2, .int .i64 b1, .int .i64 b0] A4T) = w6 at *
  generalize w5.heap.size = g_c at *
  refine wp_loop_rounds 5 ?_
  rw [rounds_succ]
  obtain ⟨c_b0, c_b1, c_b2, c_b3, f_b0, f_b1, f_b2, f_b3⟩ := reads4 r_b.out
  have l_b := r_b.out.lt
  obtain ⟨c_c0, c_c1, c_c2, c_c3, f_c0, f_c1, f_c2, f_c3⟩ := reads4 r_c.out
  have l_c := r_c.out.lt
  go_wp2_with fail
  go_quiet (fail)
  have hb := below_drawn (Below.refl w6.heap.size w6) nq
  generalize w6.drewN nq = w7 at *
  clear c_b0 c_b1 c_b2 c_b3 f_b0 f_b1 f_b2 f_b3 l_b c_c0 c_c1 c_c2 c_c3 f_c0 f_c1 f_c2 f_c3 l_c
  replace r_a := Lib.hid (r_a.out.keep hb)
  replace r_b := Lib.hid (r_b.out.keep hb)
  replace r_c := Lib.hid (r_c.out.keep hb)
  replace BB := Lib.hid (below_next BB.out hb)
  clear hb nq
  obtain ⟨c_b0, c_b1, c_b2, c_b3, f_b0, f_b1, f_b2, f_b3⟩ := reads4 r_b.out
  have l_b := r_b.out.lt
  obtain ⟨c_c0, c_c1, c_c2, c_c3, f_c0, f_c1, f_c2, f_c3⟩ := reads4 r_c.out
  have l_c := r_c.out.lt
  go_wp2_with fail
  rw [rounds_succ]
  go_wp2_with fail
  go_quiet (fail)
  have hb := below_drawn (Below.refl w7.heap.size w7) nq
  generalize w7.drewN nq = w8 at *
  clear c_b0 c_b1 c_b2 c_b3 f_b0 f_b1 f_b2 f_b3 l_b c_c0 c_c1 c_c2 c_c3 f_c0 f_c1 f_c2 f_c3 l_c
  replace r_a := Lib.hid (r_a.out.keep hb)
  replace r_b := Lib.hid (r_b.out.keep hb)
  replace r_c := Lib.hid (r_c.out.keep hb)
  replace BB := Lib.hid (below_next BB.out hb)
  clear hb nq
  obtain ⟨c_b0, c_b1, c_b2, c_b3, f_b0, f_b1, f_b2, f_b3⟩ := reads4 r_b.out
  have l_b := r_b.out.lt
  obtain ⟨c_c0, c_c1, c_c2, c_c3, f_c0, f_c1, f_c2, f_c3⟩ := reads4 r_c.out
  have l_c := r_c.out.lt
  go_wp2_with fail
  rw [rounds_succ]
  go_wp2_with fail
  go_quiet (fail)
  have hb := below_drawn (Below.refl w8.heap.size w8) nq
  generalize w8.drewN nq = w9 at *
  clear c_b0 c_b1 c_b2 c_b3 f_b0 f_b1 f_b2 f_b3 l_b c_c0 c_c1 c_c2 c_c3 f_c0 f_c1 f_c2 f_c3 l_c
  replace r_a := Lib.hid (r_a.out.keep hb)
  replace r_b := Lib.hid (r_b.out.keep hb)
  replace r_c := Lib.hid (r_c.out.keep hb)
  replace BB := Lib.hid (below_next BB.out hb)
  clear hb nq
  obtain ⟨c_b0, c_b1, c_b2, c_b3, f_b0, f_b1, f_b2, f_b3⟩ := reads4 r_b.out
  have l_b := r_b.out.lt
  obtain ⟨c_c0, c_c1, c_c2, c_c3, f_c0, f_c1, f_c2, f_c3⟩ := reads4 r_c.out
  have l_c := r_c.out.lt
  go_wp2_with fail
  rw [rounds_succ]
  go_wp2_with fail
  go_quiet (fail)
  have hb := below_drawn (Below.refl w9.heap.size w9) nq
  generalize w9.drewN nq = w10 at *
  clear c_b0 c_b1 c_b2 c_b3 f_b0 f_b1 f_b2 f_b3 l_b c_c0 c_c1 c_c2 c_c3 f_c0 f_c1 f_c2 f_c3 l_c
  replace r_a := Lib.hid (r_a.out.keep hb)
  replace r_b := Lib.hid (r_b.out.keep hb)
  replace r_c := Lib.hid (r_c.out.keep hb)
  replace BB := Lib.hid (below_next BB.out hb)
  clear hb nq
  obtain ⟨c_b0, c_b1, c_b2, c_b3, f_b0, f_b1, f_b2, f_b3⟩ := reads4 r_b.out
  have l_b := r_b.out.lt
  obtain ⟨c_c0, c_c1, c_c2, c_c3, f_c0, f_c1, f_c2, f_c3⟩ := reads4 r_c.out
  have l_c := r_c.out.lt
  go_wp2_with fail
  rw [rounds_succ]
  go_wp2_with fail
  clear c_b0 c_b1 c_b2 c_b3 f_b0 f_b1 f_b2 f_b3 l_b c_c0 c_c1 c_c2 c_c3 f_c0 f_c1 f_c2 f_c3 l_c
  have d_d := Lib.hid (And.intro BB.out.size (And.intro r_a.out.lt (And.intro r_b.out.lt (And.intro r_c.out.lt (True.intro)))))
  obtain ⟨hb, r_d⟩ := laid w10 #[.int .u8 v, .int .u8 v, .int .u8 v, .int .u8 v] 5
  replace r_a := Lib.hid (r_a.out.keep hb)
  replace r_b := Lib.hid (r_b.out.keep hb)
  replace r_c := Lib.hid (r_c.out.keep hb)
  replace BB := Lib.hid (below_next BB.out hb)
  replace r_d := Lib.hid r_d
  clear hb
  generalize w10.alloc (.cells #[.int .u8 v, .int .u8 v, .int .u8 v, .int .u8 v] 5) = w11 at *
  generalize w10.heap.size = g_d at *
  refine (CM.out _ _ _ r_b.out r_d.out).mono ?_
  rintro e w9 ⟨rfl, m_q, rfl⟩
  have hb := below_drawn (Below.refl w11.heap.size w11) m_q
  generalize w11.drewN m_q = w12 at *
  replace r_a := Lib.hid (r_a.out.keep hb)
  replace r_b := Lib.hid (r_b.out.keep hb)
  replace r_c := Lib.hid (r_c.out.keep hb)
  replace r_d := Lib.hid (r_d.out.keep hb)
  replace BB := Lib.hid (below_next BB.out hb)
  clear hb
  go_wp2_with fail
  refine (CB.out _).mono ?_
  rintro e w13 ⟨rfl, hb⟩
  replace r_a := Lib.hid (r_a.out.keep hb)
  replace r_b := Lib.hid (r_b.out.keep hb)
  replace r_c := Lib.hid (r_c.out.keep hb)
  replace r_d := Lib.hid (r_d.out.keep hb)
  replace BB := Lib.hid (below_next BB.out hb)
  clear hb
  go_wp2_with fail
  refine (CA.out _).mono ?_
  rintro e w14 ⟨rfl, hb⟩
  replace r_a := Lib.hid (r_a.out.keep hb)
  replace r_b := Lib.hid (r_b.out.keep hb)
  replace r_c := Lib.hid (r_c.out.keep hb)
  replace r_d := Lib.hid (r_d.out.keep hb)
  replace BB := Lib.hid (below_next BB.out hb)
  clear hb
  go_wp2_with fail
  go_ret
  exact ⟨rfl, BB.out⟩
set_option maxRecDepth 100000 in
set_option maxHeartbeats 4000000 in
theorem weightSums_io (f t v : Int) (hf : 0 ≤ f ∧ f ≤ 65536) (ht : t < 0 ∨ 256 < t) (hv : 0 ≤ v ∧ v ≤ 255) (w : World) :
    Calls Try.prog 3 #[.int .i64 f, .int .i64 t, .int .u8 v] w fun e w' => e = .returned (.bool true) ∧ Below w.heap.size w w' := by
  have CL := Lib.hid (fun w => wlinear_in f hf.1 hf.2 w)
  obtain ⟨f0, f1⟩ := hf
  have k0 : decide (65536 - f < 0) = false := decide_eq_false (by omega)
  have k1 : decide (f < 0) = false := decide_eq_false (by omega)
  have ke : 65536 - f + f = 65536 := by omega
  obtain ⟨f', ef⟩ : ∃ f', f' = 65536 - f := ⟨_, rfl⟩
  rw [← ef] at CL k0 ke
  clear ef f1
  have CA := Lib.hid (fun w => weight_alive w)
  have CC := Lib.hid (fun w => wCubic_out t ht w)
  have CD := Lib.hid (fun t w => wCubic_gen t w)
  clear ht hv
  go_enter Try.func3, Try.ntmps3
  go_wp2_with fail
  have BB : Hid (Below w.heap.size w w) := Below.refl _ _
  refine (CL.out _).mono ?_
  rintro e w1 ⟨rfl, hb⟩
  replace BB := Lib.hid (below_next BB.out hb)
  clear hb
  go_wp2_with fail
  have d_a := Lib.hid (And.intro BB.out.size (True.intro))
  obtain ⟨hb, r_a⟩ := laid w1 #[.int .i64 f', .int .i64 f] A2T
  replace BB := Lib.hid (below_next BB.out hb)
  replace r_a := Lib.hid r_a
  clear hb
  generalize w1.alloc (.cells #[.int .i64 f', .int .i64 f] A2T) = w2 at *
  generalize w1.heap.size = g_a at *
  obtain ⟨c_a0, c_a1, f_a0, f_a1⟩ := reads2 r_a.out
  have l_a := r_a.out.lt
  refine (CC.out _).mono ?_
  rintro e w3 ⟨rfl, hb⟩
  clear c_a0 c_a1 f_a0 f_a1 l_a
  replace r_a := Lib.hid (r_a.out.keep hb)
  replace BB := Lib.hid (below_next BB.out hb)
  clear hb
  go_wp2_with fail
  have d_b := Lib.hid (And.intro BB.out.size (And.intro r_a.out.lt (True.intro)))
  obtain ⟨hb, r_b⟩ := laid w3 #[.int .i64 0, .int .i64 0, .int .i64 0, .int .i64 0] A4T
  replace r_a := Lib.hid (r_a.out.keep hb)
  replace BB := Lib.hid (below_next BB.out hb)
  replace r_b := Lib.hid r_b
  clear hb
  generalize w3.alloc (.cells #[.int .i64 0, .int .i64 0, .int .i64 0, .int .i64 0] A4T) = w4 at *
  generalize w3.heap.size = g_b at *
  refine (CD.out _ _).mono ?_
  rintro e w5 ⟨c0, c1, c2, c3, r, rfl, hb⟩
  replace r_a := Lib.hid (r_a.out.keep hb)
  replace r_b := Lib.hid (r_b.out.keep hb)
  replace BB := Lib.hid (below_next BB.out hb)
  clear hb
  go_wp2_with fail
  have d_c := Lib.hid (And.intro BB.out.size (And.intro r_a.out.lt (And.intro r_b.out.lt (True.intro))))
  obtain ⟨hb, r_c⟩ := laid w5 #[.int .i64 c0, .int .i64 c1, .int .i64 c2, .int .i64 c3] A4T
  replace r_a := Lib.hid (r_a.out.keep hb)
  replace r_b := Lib.hid (r_b.out.keep hb)
  replace BB := Lib.hid (below_next BB.out hb)
  replace r_c := Lib.hid r_c
  clear hb
  generalize w5.alloc (.cells #[.int .i64 c0, .int .i64 c1, .int .i64 c2, .int .i64 c3] A4T) = w6 at *
  generalize w5.heap.size = g_c at *
  refine (CA.out _).mono ?_
  rintro e w7 ⟨rfl, hb⟩
  replace r_a := Lib.hid (r_a.out.keep hb)
  replace r_b := Lib.hid (r_b.out.keep hb)
  replace r_c := Lib.hid (r_c.out.keep hb)
  replace BB := Lib.hid (below_next BB.out hb)
  clear hb
  go_wp2_with fail
  go_ret
  exact ⟨rfl, BB.out⟩
set_option maxRecDepth 100000 in
set_option maxHeartbeats 4000000 in
theorem weightSums_oi (f t v : Int) (hf : f < 0 ∨ 65536 < f) (ht : 0 ≤ t ∧ t ≤ 256) (hv : 0 ≤ v ∧ v ≤ 255) (w : World) :
    Calls Try.prog 3 #[.int .i64 f, .int .i64 t, .int .u8 v] w fun e w' => e = .returned (.bool true) ∧ Below w.heap.size w w' := by
  have CL := Lib.hid (fun w => wlinear_out f hf w)
  clear hf
  have CA := Lib.hid (fun w => weight_alive w)
  have CC := Lib.hid (fun w => wCubic_in t ht.1 ht.2 w)
  have CD := Lib.hid (fun w => wCubic_in (256 - t) (by omega) (by omega) w)
  obtain ⟨e0, e1, e2, e3⟩ := cw_turn t
  rw [e0, e1, e2, e3] at CD
  clear e0 e1 e2 e3
  have hs := cw_all t
  obtain ⟨h0, h1, h2, h3⟩ := cw_in t ht.1 ht.2
  obtain ⟨t0, t1⟩ := ht
  have CM := Lib.hid (fun gb gd w hb hd => wmix4 gb gd (cw0 t) (cw1 t) (cw2 t) (cw3 t) v hs hv w hb hd)
  have CB := Lib.hid (fun w => wbyte (33554432 * v) 33554432 ⟨by omega, by omega⟩ ⟨by omega, by omega⟩ w)
  rw [byte_same v hv] at CB
  generalize 33554432 * v = V at *
  clear hv
  generalize cw0 t = b0 at *
  generalize cw1 t = b1 at *
  generalize cw2 t = b2 at *
  generalize cw3 t = b3 at *
  go_enter Try.func3, Try.ntmps3
  go_wp2_with fail
  have BB : Hid (Below w.heap.size w w) := Below.refl _ _
  refine (CL.out _).mono ?_
  rintro e w1 ⟨rfl, hb⟩
  replace BB := Lib.hid (below_next BB.out hb)
  clear hb
  go_wp2_with fail
  have d_a := Lib.hid (And.intro BB.out.size (True.intro))
  obtain ⟨hb, r_a⟩ := laid w1 #[.int .i64 0, .int .i64 0] A2T
  replace BB := Lib.hid (below_next BB.out hb)
  replace r_a := Lib.hid r_a
  clear hb
  generalize w1.alloc (.cells #[.int .i64 0, .int .i64 0] A2T) = w2 at *
  generalize w1.heap.size = g_a at *
  refine (CC.out _).mono ?_
  rintro e w3 ⟨rfl, hb⟩
  replace r_a := Lib.hid (r_a.out.keep hb)
  replace BB := Lib.hid (below_next BB.out hb)
  clear hb
  go_wp2_with fail
  have d_b := Lib.hid (And.intro BB.out.size (And.intro r_a.out.lt (True.intro)))
  obtain ⟨hb, r_b⟩ := laid w3 #[.int .i64 b0, .int .i64 b1, .int .i64 b2, .int .i64 b3] A4T
  replace r_a := Lib.hid (r_a.out.keep hb)
  replace BB := Lib.hid (below_next BB.out hb)
  replace r_b := Lib.hid r_b
  clear hb
  generalize w3.alloc (.cells #[.int .i64 b0, .int .i64 b1, .int .i64 b2, .int .i64 b3] A4T) = w4 at *
  generalize w3.heap.size = g_b at *
  refine (CD.out _).mono ?_
  rintro e w5 ⟨rfl, hb⟩
  replace r_a := Lib.hid (r_a.out.keep hb)
  replace r_b := Lib.hid (r_b.out.keep hb)
  replace BB := Lib.hid (below_next BB.out hb)
  clear hb
  obtain ⟨c_b0, c_b1, c_b2, c_b3, f_b0, f_b1, f_b2, f_b3⟩ := reads4 r_b.out
  have l_b := r_b.out.lt
  go_wp2_with fail
  clear c_b0 c_b1 c_b2 c_b3 f_b0 f_b1 f_b2 f_b3 l_b
  have d_c := Lib.hid (And.intro BB.out.size (And.intro r_a.out.lt (And.intro r_b.out.lt (True.intro))))
  obtain ⟨hb, r_c⟩ := laid w5 #[.int .i64 b3, .int .i64 b2, .int .i64 b1, .int .i64 b0] A4T
  replace r_a := Lib.hid (r_a.out.keep hb)
  replace r_b := Lib.hid (r_b.out.keep hb)
  replace BB := Lib.hid (below_next BB.out hb)
  replace r_c := Lib.hid r_c
  clear hb
  generalize w5.alloc (.cells #[.int .i64 b3, .int .i64 b2, .int .i64 b1, .int .i64 b0] A4T) = w6 at *
  generalize w5.heap.size = g_c at *
  refine wp_loop_rounds 5 ?_
  rw [rounds_succ]
  obtain ⟨c_b0, c_b1, c_b2, c_b3, f_b0, f_b1, f_b2, f_b3⟩ := reads4 r_b.out
  have l_b := r_b.out.lt
  obtain ⟨c_c0, c_c1, c_c2, c_c3, f_c0, f_c1, f_c2, f_c3⟩ := reads4 r_c.out
  have l_c := r_c.out.lt
  go_wp2_with fail
  go_quiet (fail)
  have hb := below_drawn (Below.refl w6.heap.size w6) nq
  generalize w6.drewN nq = w7 at *
  clear c_b0 c_b1 c_b2 c_b3 f_b0 f_b1 f_b2 f_b3 l_b c_c0 c_c1 c_c2 c_c3 f_c0 f_c1 f_c2 f_c3 l_c
  replace r_a := Lib.hid (r_a.out.keep hb)
  replace r_b := Lib.hid (r_b.out.keep hb)
  replace r_c := Lib.hid (r_c.out.keep hb)
  replace BB := Lib.hid (below_next BB.out hb)
  clear hb nq
  obtain ⟨c_b0, c_b1, c_b2, c_b3, f_b0, f_b1, f_b2, f_b3⟩ := reads4 r_b.out
  have l_b := r_b.out.lt
  obtain ⟨c_c0, c_c1, c_c2, c_c3, f_c0, f_c1, f_c2, f_c3⟩ := reads4 r_c.out
  have l_c := r_c.out.lt
  go_wp2_with fail
  rw [rounds_succ]
  go_wp2_with fail
  go_quiet (fail)
  have hb := below_drawn (Below.refl w7.heap.size w7) nq
  generalize w7.drewN nq = w8 at *
  clear c_b0 c_b1 c_b2 c_b3 f_b0 f_b1 f_b2 f_b3 l_b c_c0 c_c1 c_c2 c_c3 f_c0 f_c1 f_c2 f_c3 l_c
  replace r_a := Lib.hid (r_a.out.keep hb)
  replace r_b := Lib.hid (r_b.out.keep hb)
  replace r_c := Lib.hid (r_c.out.keep hb)
  replace BB := Lib.hid (below_next BB.out hb)
  clear hb nq
  obtain ⟨c_b0, c_b1, c_b2, c_b3, f_b0, f_b1, f_b2, f_b3⟩ := reads4 r_b.out
  have l_b := r_b.out.lt
  obtain ⟨c_c0, c_c1, c_c2, c_c3, f_c0, f_c1, f_c2, f_c3⟩ := reads4 r_c.out
  have l_c := r_c.out.lt
  go_wp2_with fail
  rw [rounds_succ]
  go_wp2_with fail
  go_quiet (fail)
  have hb := below_drawn (Below.refl w8.heap.size w8) nq
  generalize w8.drewN nq = w9 at *
  clear c_b0 c_b1 c_b2 c_b3 f_b0 f_b1 f_b2 f_b3 l_b c_c0 c_c1 c_c2 c_c3 f_c0 f_c1 f_c2 f_c3 l_c
  replace r_a := Lib.hid (r_a.out.keep hb)
  replace r_b := Lib.hid (r_b.out.keep hb)
  replace r_c := Lib.hid (r_c.out.keep hb)
  replace BB := Lib.hid (below_next BB.out hb)
  clear hb nq
  obtain ⟨c_b0, c_b1, c_b2, c_b3, f_b0, f_b1, f_b2, f_b3⟩ := reads4 r_b.out
  have l_b := r_b.out.lt
  obtain ⟨c_c0, c_c1, c_c2, c_c3, f_c0, f_c1, f_c2, f_c3⟩ := reads4 r_c.out
  have l_c := r_c.out.lt
  go_wp2_with fail
  rw [rounds_succ]
  go_wp2_with fail
  go_quiet (fail)
  have hb := below_drawn (Below.refl w9.heap.size w9) nq
  generalize w9.drewN nq = w10 at *
  clear c_b0 c_b1 c_b2 c_b3 f_b0 f_b1 f_b2 f_b3 l_b c_c0 c_c1 c_c2 c_c3 f_c0 f_c1 f_c2 f_c3 l_c
  replace r_a := Lib.hid (r_a.out.keep hb)
  replace r_b := Lib.hid (r_b.out.keep hb)
  replace r_c := Lib.hid (r_c.out.keep hb)
  replace BB := Lib.hid (below_next BB.out hb)
  clear hb nq
  obtain ⟨c_b0, c_b1, c_b2, c_b3, f_b0, f_b1, f_b2, f_b3⟩ := reads4 r_b.out
  have l_b := r_b.out.lt
  obtain ⟨c_c0, c_c1, c_c2, c_c3, f_c0, f_c1, f_c2, f_c3⟩ := reads4 r_c.out
  have l_c := r_c.out.lt
  go_wp2_with fail
  rw [rounds_succ]
  go_wp2_with fail
  clear c_b0 c_b1 c_b2 c_b3 f_b0 f_b1 f_b2 f_b3 l_b c_c0 c_c1 c_c2 c_c3 f_c0 f_c1 f_c2 f_c3 l_c
  have d_d := Lib.hid (And.intro BB.out.size (And.intro r_a.out.lt (And.intro r_b.out.lt (And.intro r_c.out.lt (True.intro)))))
  obtain ⟨hb, r_d⟩ := laid w10 #[.int .u8 v, .int .u8 v, .int .u8 v, .int .u8 v] 5
  replace r_a := Lib.hid (r_a.out.keep hb)
  replace r_b := Lib.hid (r_b.out.keep hb)
  replace r_c := Lib.hid (r_c.out.keep hb)
  replace BB := Lib.hid (below_next BB.out hb)
  replace r_d := Lib.hid r_d
  clear hb
  generalize w10.alloc (.cells #[.int .u8 v, .int .u8 v, .int .u8 v, .int .u8 v] 5) = w11 at *
  generalize w10.heap.size = g_d at *
  refine (CM.out _ _ _ r_b.out r_d.out).mono ?_
  rintro e w9 ⟨rfl, m_q, rfl⟩
  have hb := below_drawn (Below.refl w11.heap.size w11) m_q
  generalize w11.drewN m_q = w12 at *
  replace r_a := Lib.hid (r_a.out.keep hb)
  replace r_b := Lib.hid (r_b.out.keep hb)
  replace r_c := Lib.hid (r_c.out.keep hb)
  replace r_d := Lib.hid (r_d.out.keep hb)
  replace BB := Lib.hid (below_next BB.out hb)
  clear hb
  go_wp2_with fail
  refine (CB.out _).mono ?_
  rintro e w13 ⟨rfl, hb⟩
  replace r_a := Lib.hid (r_a.out.keep hb)
  replace r_b := Lib.hid (r_b.out.keep hb)
  replace r_c := Lib.hid (r_c.out.keep hb)
  replace r_d := Lib.hid (r_d.out.keep hb)
  replace BB := Lib.hid (below_next BB.out hb)
  clear hb
  go_wp2_with fail
  refine (CA.out _).mono ?_
  rintro e w14 ⟨rfl, hb⟩
  replace r_a := Lib.hid (r_a.out.keep hb)
  replace r_b := Lib.hid (r_b.out.keep hb)
  replace r_c := Lib.hid (r_c.out.keep hb)
  replace r_d := Lib.hid (r_d.out.keep hb)
  replace BB := Lib.hid (below_next BB.out hb)
  clear hb
  go_wp2_with fail
  go_ret
  exact ⟨rfl, BB.out⟩
set_option maxRecDepth 100000 in
set_option maxHeartbeats 4000000 in
theorem weightSums_oo (f t v : Int) (hf : f < 0 ∨ 65536 < f) (ht : t < 0 ∨ 256 < t) (hv : 0 ≤ v ∧ v ≤ 255) (w : World) :
    Calls Try.prog 3 #[.int .i64 f, .int .i64 t, .int .u8 v] w fun e w' => e = .returned (.bool true) ∧ Below w.heap.size w w' := by
  have CL := Lib.hid (fun w => wlinear_out f hf w)
  clear hf
  have CA := Lib.hid (fun w => weight_alive w)
  have CC := Lib.hid (fun w => wCubic_out t ht w)
  have CD := Lib.hid (fun t w => wCubic_gen t w)
  clear ht hv
  go_enter Try.func3, Try.ntmps3
  go_wp2_with fail
  have BB : Hid (Below w.heap.size w w) := Below.refl _ _
  refine (CL.out _).mono ?_
  rintro e w1 ⟨rfl, hb⟩
  replace BB := Lib.hid (below_next BB.out hb)
  clear hb
  go_wp2_with fail
  have d_a := Lib.hid (And.intro BB.out.size (True.intro))
  obtain ⟨hb, r_a⟩ := laid w1 #[.int .i64 0, .int .i64 0] A2T
  replace BB := Lib.hid (below_next BB.out hb)
  replace r_a := Lib.hid r_a
  clear hb
  generalize w1.alloc (.cells #[.int .i64 0, .int .i64 0] A2T) = w2 at *
  generalize w1.heap.size = g_a at *
  refine (CC.out _).mono ?_
  rintro e w3 ⟨rfl, hb⟩
  replace r_a := Lib.hid (r_a.out.keep hb)
  replace BB := Lib.hid (below_next BB.out hb)
  clear hb
  go_wp2_with fail
  have d_b := Lib.hid (And.intro BB.out.size (And.intro r_a.out.lt (True.intro)))
  obtain ⟨hb, r_b⟩ := laid w3 #[.int .i64 0, .int .i64 0, .int .i64 0, .int .i64 0] A4T
  replace r_a := Lib.hid (r_a.out.keep hb)
  replace BB := Lib.hid (below_next BB.out hb)
  replace r_b := Lib.hid r_b
  clear hb
  generalize w3.alloc (.cells #[.int .i64 0, .int .i64 0, .int .i64 0, .int .i64 0] A4T) = w4 at *
  generalize w3.heap.size = g_b at *
  refine (CD.out _ _).mono ?_
  rintro e w5 ⟨c0, c1, c2, c3, r, rfl, hb⟩
  replace r_a := Lib.hid (r_a.out.keep hb)
  replace r_b := Lib.hid (r_b.out.keep hb)
  replace BB := Lib.hid (below_next BB.out hb)
  clear hb
  go_wp2_with fail
  have d_c := Lib.hid (And.intro BB.out.size (And.intro r_a.out.lt (And.intro r_b.out.lt (True.intro))))
  obtain ⟨hb, r_c⟩ := laid w5 #[.int .i64 c0, .int .i64 c1, .int .i64 c2, .int .i64 c3] A4T
  replace r_a := Lib.hid (r_a.out.keep hb)
  replace r_b := Lib.hid (r_b.out.keep hb)
  replace BB := Lib.hid (below_next BB.out hb)
  replace r_c := Lib.hid r_c
  clear hb
  generalize w5.alloc (.cells #[.int .i64 c0, .int .i64 c1, .int .i64 c2, .int .i64 c3] A4T) = w6 at *
  generalize w5.heap.size = g_c at *
  refine (CA.out _).mono ?_
  rintro e w7 ⟨rfl, hb⟩
  replace r_a := Lib.hid (r_a.out.keep hb)
  replace r_b := Lib.hid (r_b.out.keep hb)
  replace r_c := Lib.hid (r_c.out.keep hb)
  replace BB := Lib.hid (below_next BB.out hb)
  clear hb
  go_wp2_with fail
  go_ret
  exact ⟨rfl, BB.out⟩
theorem weightSums_any (f t v : Int) (hv : 0 ≤ v ∧ v ≤ 255) (w : World) :
    Calls Try.prog 3 #[.int .i64 f, .int .i64 t, .int .u8 v] w fun e w' => e = .returned (.bool true) ∧ Below w.heap.size w w' := by
  by_cases hf : 0 ≤ f ∧ f ≤ 65536
  · by_cases ht : 0 ≤ t ∧ t ≤ 256
    · exact weightSums_ii f t v hf ht hv w
    · exact weightSums_io f t v hf (by omega) hv w
  · by_cases ht : 0 ≤ t ∧ t ≤ 256
    · exact weightSums_oi f t v (by omega) ht hv w
    · exact weightSums_oo f t v (by omega) (by omega) hv w

end Go.Proofs.Ytnklbnphiokpiaa
