/- The walk of RatOrders. -/
import Derived.Test.YthoakbjnofhpbaaRt2
import Derived.Test.YthoakbjnofhpbaaRat1
import Derived.Test.YthoakbjnofhpbaaWMixR
set_option linter.unusedVariables false
set_option linter.unusedSimpArgs false
namespace Go.Proofs.Ythoakbjnofhpbaa
open Go.RowKit
abbrev RR0 : Array Value := #[.bool false, .slice none 0 0, .bool false, .slice none 0 0]
set_option maxRecDepth 100000 in
set_option maxHeartbeats 4000000 in
theorem rown (n d : Int) (hn : I64 n) (hd : I64 d) (w : World) : Calls Try.prog 64 #[qv n d] w (GiveR n d w) := by
  have CO := Lib.hid (fun w => rof n d hn hd w)
  clear hn hd
  go_enter Try.func64, Try.ntmps64
  go_wp2_with fail
  have BB := start2 w #[.int .i64 n, .int .i64 d] QT #[.bool false, .slice none 0 0, .bool false, .slice none 0 0] RT
  obtain ⟨BB, hsz, r_a, r_res⟩ := BB
  generalize ((w.alloc (.cells #[.int .i64 n, .int .i64 d] QT)).alloc (.cells #[.bool false, .slice none 0 0, .bool false, .slice none 0 0] RT)) = w0 at *
  replace BB := Lib.hid BB
  replace r_a := Lib.hid r_a
  replace r_res := Lib.hid r_res
  clear hsz
  obtain ⟨c_a0, c_a1, f_a0, f_a1⟩ := reads2 r_a.out
  have l_a := r_a.out.lt
  go_wp2_with fail
  refine (CO.out _).mono ?_
  rintro e w1 ⟨v_x, rfl, hb, h_x⟩
  obtain ⟨A_x, n_x, cap_x, B_x, m_x, cup_x, rfl, -, -⟩ := id h_x.form
  replace h_x := Lib.hid h_x
  clear c_a0 c_a1 f_a0 f_a1 l_a
  replace r_a := Lib.hid (r_a.out.keep hb)
  replace r_res := Lib.hid (r_res.out.keep hb)
  replace BB := Lib.hid (below_next BB.out hb)
  clear hb
  obtain ⟨c_res0, c_res1, c_res2, c_res3, f_res0, f_res1, f_res2, f_res3⟩ := reads4 r_res.out
  have l_res := r_res.out.lt
  go_wp2_with fail
  refine bodyPost_ret (v := .agg #[.bool (sgn n), .slice A_x n_x cap_x, .bool (sgn d), .slice B_x m_x cup_x]) (by unfold results; simp only [Try.results64]; go_simp) rfl ?_
  exact give_rat BB.out h_x.out.parts.1 h_x.out.parts.2 r_res.out (by omega)
set_option maxRecDepth 100000 in
set_option maxHeartbeats 4000000 in
theorem rwhole (x : Int) (hx : I64 x) (v : Value) (w : World) (hv : BR w v x) : Calls Try.prog 69 #[.int .i64 x, .bool true, v] w fun e w' => e = .returned (.bool true) ∧ Below w.heap.size w w' := by
  have CO := Lib.hid (fun w => of_any x hx w)
  have CC := Lib.hid (fun (u v : Value) w (hu : BR w u x) (hv : BR w v x) => cmp_any u v x x w hu hv (i64_mid' hx) (i64_mid' hx))
  rw [cmpI_eq] at CC
  obtain ⟨A, n, cap, rfl, -⟩ := id hv.form
  replace hv := Lib.hid hv
  clear hx
  go_enter Try.func69, Try.ntmps69
  go_wp2_with fail
  have BB := start1 w #[.bool (sgn x), .slice A n cap] BT
  obtain ⟨BB, hsz, r_b⟩ := BB
  generalize (w.alloc (.cells #[.bool (sgn x), .slice A n cap] BT)) = w0 at *
  replace BB := Lib.hid BB
  replace r_b := Lib.hid r_b
  clear hsz
  have h_b := Lib.hid (hv.out.below BB.out)
  have KK := Lib.hid (fun (w9 : World) (h : Below w0.heap.size w0 w9) => (cells2 (r_b.out.keep h) : (w9.cell? ⟨w.heap.size, 0, none⟩ = some (.bool (sgn x)) ∧ w9.cell? ⟨w.heap.size, 1, none⟩ = some (.slice A n cap))))
  have K0 := KK.out w0 (Below.refl _ _)
  have KD := KK.out w0.drew (below_drew (Below.refl _ _))
  go_region_held3 (fun w9 => (w9.cell? ⟨w.heap.size, 0, none⟩ = some (.bool (sgn x)) ∧ w9.cell? ⟨w.heap.size, 1, none⟩ = some (.slice A n cap)))
      (first | with_reducible exact KD | with_reducible exact K0 | with_reducible exact K_w1 | with_reducible exact K_w2)
      (first
        | (go_at_call 45
           refine (CO.out _).mono ?_
           rintro e w1 ⟨v_t, rfl, hb, h_t⟩
           obtain ⟨A_t, n_t, cap_t, rfl, -⟩ := id h_t.form
           replace h_t := Lib.hid h_t
           have B_w1 := Lib.hid (reg_next (w0 := w0) (by repeat (first | with_reducible exact Below.refl _ _ | with_reducible apply below_drew | with_reducible apply below_new)) hb)
           have K_w1 := KK.out _ B_w1.out
           clear hb)
        | (go_at_call 48
           refine (CC.out _ _ _ h_t.out (h_b.out.below B_w1.out)).mono ?_
           rintro e w2 ⟨rfl, hb⟩
           replace h_t := Lib.hid (h_t.out.below hb)
           have B_w2 := Lib.hid (below_next B_w1.out hb)
           have K_w2 := KK.out _ B_w2.out
           clear hb))
  clear KK K0 KD K_w1 K_w2
  replace r_b := Lib.hid (r_b.out.keep B_w2.out)
  replace h_b := Lib.hid (h_b.out.below B_w2.out)
  replace BB := Lib.hid (below_next BB.out B_w2.out)
  clear B_w1 B_w2
  go_wp2_with fail
  go_ret
  exact ⟨rfl, BB.out⟩
set_option maxRecDepth 100000 in
set_option maxHeartbeats 4000000 in
theorem r3floor (v : Value) (p q : Int) (hp : I64 p) (hq : I64 q) (h0 : q ≠ 0) (w : World) (hv : RR w v p q) : Calls Try.prog 70 #[v] w (GiveB (p.fdiv q) w) := by
  obtain ⟨A, n, c, B, m, d, rfl, h1, h2⟩ := hv
  have CF := Lib.hid (fun (u v : Value) w (hu : BR w u p) (hv : BR w v q) => floor_any u v p q w hu hv (i64_mid' hp) ((i64_wd hq).low (by omega)) h0)
  generalize p.fdiv q = z at *
  replace h1 := Lib.hid h1; replace h2 := Lib.hid h2
  clear hp hq h0
  go_enter Try.func70, Try.ntmps70
  go_wp2_with fail
  have BB := start2 w #[.bool (sgn p), .slice A n c, .bool (sgn q), .slice B m d] RT #[.bool false, .slice none 0 0] BT
  obtain ⟨BB, hsz, r_a, r_res⟩ := BB
  generalize ((w.alloc (.cells #[.bool (sgn p), .slice A n c, .bool (sgn q), .slice B m d] RT)).alloc (.cells #[.bool false, .slice none 0 0] BT)) = w0 at *
  replace BB := Lib.hid BB
  replace r_a := Lib.hid r_a
  replace r_res := Lib.hid r_res
  clear hsz
  obtain ⟨c_a0, c_a1, c_a2, c_a3, f_a0, f_a1, f_a2, f_a3⟩ := reads4 r_a.out
  have l_a := r_a.out.lt
  go_wp2_with fail
  refine (CF.out _ _ _ (h1.out.below BB.out) (h2.out.below BB.out)).mono ?_
  rintro e w1 ⟨v_x, rfl, hb, h_x⟩
  obtain ⟨A_x, n_x, cap_x, rfl, -⟩ := id h_x.form
  replace h_x := Lib.hid h_x
  clear c_a0 c_a1 c_a2 c_a3 f_a0 f_a1 f_a2 f_a3 l_a
  replace r_a := Lib.hid (r_a.out.keep hb)
  replace r_res := Lib.hid (r_res.out.keep hb)
  replace BB := Lib.hid (below_next BB.out hb)
  clear hb
  obtain ⟨c_res0, c_res1, f_res0, f_res1⟩ := reads2 r_res.out
  have l_res := r_res.out.lt
  go_wp2_with fail
  refine bodyPost_ret (v := .agg #[.bool (sgn z), .slice A_x n_x cap_x]) (by unfold results; simp only [Try.results70]; go_simp) rfl ?_
  exact ⟨_, rfl, below_set2 BB.out (by omega) _ _, h_x.out.far2 r_res.out (by decide) _ _⟩
set_option maxRecDepth 100000 in
set_option maxHeartbeats 4000000 in
theorem r3near (v : Value) (p q : Int) (hp : I64 p) (hq : I64 q) (h0 : q ≠ 0) (w : World) (hv : RR w v p q) : Calls Try.prog 71 #[v] w (GiveB (nearI p q) w) := by
  obtain ⟨A, n, c, B, m, d, rfl, h1, h2⟩ := hv
  have CF := Lib.hid (fun (u v : Value) w (hu : BR w u p) (hv : BR w v q) => r1near u v p q w hu hv ((i64_wd hp).up (by omega)) ((i64_wd hq).up (by omega)) h0)
  generalize nearI p q = z at *
  replace h1 := Lib.hid h1; replace h2 := Lib.hid h2
  clear hp hq h0
  go_enter Try.func71, Try.ntmps71
  go_wp2_with fail
  have BB := start2 w #[.bool (sgn p), .slice A n c, .bool (sgn q), .slice B m d] RT #[.bool false, .slice none 0 0] BT
  obtain ⟨BB, hsz, r_a, r_res⟩ := BB
  generalize ((w.alloc (.cells #[.bool (sgn p), .slice A n c, .bool (sgn q), .slice B m d] RT)).alloc (.cells #[.bool false, .slice none 0 0] BT)) = w0 at *
  replace BB := Lib.hid BB
  replace r_a := Lib.hid r_a
  replace r_res := Lib.hid r_res
  clear hsz
  obtain ⟨c_a0, c_a1, c_a2, c_a3, f_a0, f_a1, f_a2, f_a3⟩ := reads4 r_a.out
  have l_a := r_a.out.lt
  go_wp2_with fail
  refine (CF.out _ _ _ (h1.out.below BB.out) (h2.out.below BB.out)).mono ?_
  rintro e w1 ⟨v_x, rfl, hb, h_x⟩
  obtain ⟨A_x, n_x, cap_x, rfl, -⟩ := id h_x.form
  replace h_x := Lib.hid h_x
  clear c_a0 c_a1 c_a2 c_a3 f_a0 f_a1 f_a2 f_a3 l_a
  replace r_a := Lib.hid (r_a.out.keep hb)
  replace r_res := Lib.hid (r_res.out.keep hb)
  replace BB := Lib.hid (below_next BB.out hb)
  clear hb
  obtain ⟨c_res0, c_res1, f_res0, f_res1⟩ := reads2 r_res.out
  have l_res := r_res.out.lt
  go_wp2_with fail
  refine bodyPost_ret (v := .agg #[.bool (sgn z), .slice A_x n_x cap_x]) (by unfold results; simp only [Try.results71]; go_simp) rfl ?_
  exact ⟨_, rfl, below_set2 BB.out (by omega) _ _, h_x.out.far2 r_res.out (by decide) _ _⟩
theorem tq_in {z x : Int} {is : Bool} (hr : I64 z) (h : TQ z true x is) : x = z ∧ is = true := by
  rcases h with ⟨-, -, h1, h2⟩ | ⟨h1, -⟩
  · exact ⟨h2, h1⟩
  · exact absurd ⟨rfl, hr⟩ h1
set_option maxRecDepth 100000 in
theorem pfloor_no (n d : Int) (h : ¬ 0 < d) (w : World) : Calls Try.prog 67 #[qv n d] w (fun e w' => e = .returned (.tuple #[.int .i64 0, .bool false]) ∧ Below w.heap.size w w') := by
  have CR := Lib.hid (fun w => qright n d w)
  rw [decide_eq_false (show ¬ d > 0 from h)] at CR
  clear h
  go_enter Try.func67, Try.ntmps67
  go_wp2_with fail
  have BB := start1 w #[.int .i64 n, .int .i64 d] QT
  obtain ⟨BB, hsz, r_a⟩ := BB
  generalize (w.alloc (.cells #[.int .i64 n, .int .i64 d] QT)) = w0 at *
  replace BB := Lib.hid BB
  replace r_a := Lib.hid r_a
  clear hsz
  obtain ⟨c_a0, c_a1, f_a0, f_a1⟩ := reads2 r_a.out
  have l_a := r_a.out.lt
  go_wp2_with fail
  refine (CR.out _).mono ?_
  rintro e w1 ⟨rfl, hb⟩
  clear c_a0 c_a1 f_a0 f_a1 l_a
  replace r_a := Lib.hid (r_a.out.keep hb)
  replace BB := Lib.hid (below_next BB.out hb)
  clear hb
  go_wp2_with fail
  refine bodyPost_ret (v := .tuple #[.int .i64 0, .bool false]) (by unfold results; simp only [Try.results67]; go_simp) rfl ?_
  exact ⟨rfl, BB.out⟩
set_option maxRecDepth 100000 in
theorem pfloor_ok (n d : Int) (hn : I64 n) (hd : I64 d) (h : 0 < d) (w : World) : Calls Try.prog 67 #[qv n d] w (fun e w' => e = .returned (.tuple #[.int .i64 (n.fdiv d), .bool true]) ∧ Below w.heap.size w w') := by
  have CR := Lib.hid (fun w => qright n d w)
  rw [decide_eq_true (show d > 0 from h)] at CR
  have hr : I64 (n.fdiv d) := fdiv_room hn hd (by omega) (by omega)
  have CF := Lib.hid (fun w => qfloor n d hn hd w)
  have hb : (d != 0) = true := by rw [bne_iff_ne]; omega
  rw [hb] at CF
  have TT := Lib.hid (fun x is h => tq_in (x := x) (is := is) hr h)
  generalize n.fdiv d = z at *
  clear h hn hd hb hr
  go_enter Try.func67, Try.ntmps67
  go_wp2_with fail
  have BB := start1 w #[.int .i64 n, .int .i64 d] QT
  obtain ⟨BB, hsz, r_a⟩ := BB
  generalize (w.alloc (.cells #[.int .i64 n, .int .i64 d] QT)) = w0 at *
  replace BB := Lib.hid BB
  replace r_a := Lib.hid r_a
  clear hsz
  obtain ⟨c_a0, c_a1, f_a0, f_a1⟩ := reads2 r_a.out
  have l_a := r_a.out.lt
  go_wp2_with fail
  refine (CR.out _).mono ?_
  rintro e w1 ⟨rfl, hb⟩
  clear c_a0 c_a1 f_a0 f_a1 l_a
  replace r_a := Lib.hid (r_a.out.keep hb)
  replace BB := Lib.hid (below_next BB.out hb)
  clear hb
  obtain ⟨c_a0, c_a1, f_a0, f_a1⟩ := reads2 r_a.out
  have l_a := r_a.out.lt
  go_wp2_with fail
  refine (CF.out _).mono ?_
  rintro e w9 ⟨x, is, rfl, rfl, ht⟩
  subst_vars
  obtain ⟨rfl, rfl⟩ := TT.out _ _ ht
  go_wp2_with fail
  refine bodyPost_ret (v := .tuple #[.int .i64 x, .bool true]) (by unfold results; simp only [Try.results67]; go_simp) rfl ?_
  exact ⟨rfl, BB.out⟩
set_option maxRecDepth 100000 in
theorem pnear_no (n d : Int) (h : ¬ 0 < d) (w : World) : Calls Try.prog 68 #[qv n d] w (fun e w' => e = .returned (.tuple #[.int .i64 0, .bool false]) ∧ Below w.heap.size w w') := by
  have CR := Lib.hid (fun w => qright n d w)
  rw [decide_eq_false (show ¬ d > 0 from h)] at CR
  clear h
  go_enter Try.func68, Try.ntmps68
  go_wp2_with fail
  have BB := start1 w #[.int .i64 n, .int .i64 d] QT
  obtain ⟨BB, hsz, r_a⟩ := BB
  generalize (w.alloc (.cells #[.int .i64 n, .int .i64 d] QT)) = w0 at *
  replace BB := Lib.hid BB
  replace r_a := Lib.hid r_a
  clear hsz
  obtain ⟨c_a0, c_a1, f_a0, f_a1⟩ := reads2 r_a.out
  have l_a := r_a.out.lt
  go_wp2_with fail
  refine (CR.out _).mono ?_
  rintro e w1 ⟨rfl, hb⟩
  clear c_a0 c_a1 f_a0 f_a1 l_a
  replace r_a := Lib.hid (r_a.out.keep hb)
  replace BB := Lib.hid (below_next BB.out hb)
  clear hb
  go_wp2_with fail
  refine bodyPost_ret (v := .tuple #[.int .i64 0, .bool false]) (by unfold results; simp only [Try.results68]; go_simp) rfl ?_
  exact ⟨rfl, BB.out⟩
set_option maxRecDepth 100000 in
theorem pnear_ok (n d : Int) (hn : I64 n) (hd : I64 d) (h : 0 < d) (w : World) : Calls Try.prog 68 #[qv n d] w (fun e w' => e = .returned (.tuple #[.int .i64 (nearI n d), .bool true]) ∧ Below w.heap.size w w') := by
  have CR := Lib.hid (fun w => qright n d w)
  rw [decide_eq_true (show d > 0 from h)] at CR
  have hr : I64 (nearI n d) := near_in hn (by omega)
  have CF := Lib.hid (fun w => qnear n d hn hd w)
  have hb : (d != 0) = true := by rw [bne_iff_ne]; omega
  rw [hb] at CF
  have TT := Lib.hid (fun x is h => tq_in (x := x) (is := is) hr h)
  generalize nearI n d = z at *
  clear h hn hd hb hr
  go_enter Try.func68, Try.ntmps68
  go_wp2_with fail
  have BB := start1 w #[.int .i64 n, .int .i64 d] QT
  obtain ⟨BB, hsz, r_a⟩ := BB
  generalize (w.alloc (.cells #[.int .i64 n, .int .i64 d] QT)) = w0 at *
  replace BB := Lib.hid BB
  replace r_a := Lib.hid r_a
  clear hsz
  obtain ⟨c_a0, c_a1, f_a0, f_a1⟩ := reads2 r_a.out
  have l_a := r_a.out.lt
  go_wp2_with fail
  refine (CR.out _).mono ?_
  rintro e w1 ⟨rfl, hb⟩
  clear c_a0 c_a1 f_a0 f_a1 l_a
  replace r_a := Lib.hid (r_a.out.keep hb)
  replace BB := Lib.hid (below_next BB.out hb)
  clear hb
  obtain ⟨c_a0, c_a1, f_a0, f_a1⟩ := reads2 r_a.out
  have l_a := r_a.out.lt
  go_wp2_with fail
  refine (CF.out _).mono ?_
  rintro e w2 ⟨x, is, rfl, hb, ht⟩
  clear c_a0 c_a1 f_a0 f_a1 l_a
  replace r_a := Lib.hid (r_a.out.keep hb)
  replace BB := Lib.hid (below_next BB.out hb)
  clear hb
  subst_vars
  obtain ⟨rfl, rfl⟩ := TT.out _ _ ht
  go_wp2_with fail
  refine bodyPost_ret (v := .tuple #[.int .i64 x, .bool true]) (by unfold results; simp only [Try.results68]; go_simp) rfl ?_
  exact ⟨rfl, BB.out⟩
set_option maxRecDepth 100000 in
set_option maxHeartbeats 4000000 in
theorem ratOrders_no (n1 d1 n2 d2 : Int) (h : ¬ 0 < d1) (w : World) : Calls Try.prog 13 #[qv n1 d1, qv n2 d2] w fun e w' => e = .returned (.bool true) ∧ Below w.heap.size w w' := by
  have C1 := Lib.hid (fun w => qcmp_no n1 d1 n2 d2 (fun k => h k.1) w)
  have C2 := Lib.hid (fun w => pfloor_no n1 d1 h w)
  have C3 := Lib.hid (fun w => pnear_no n1 d1 h w)
  have CL := Lib.hid (fun w => alive03 w)
  have e : decide (d1 < 1) = true := decide_eq_true (by omega)
  have e' : d1 < 1 := by omega
  clear h
  go_enter Try.func13, Try.ntmps13
  go_wp2_with fail
  have BB := start2 w #[.int .i64 n1, .int .i64 d1] QT #[.int .i64 n2, .int .i64 d2] QT
  obtain ⟨BB, hsz, r_a, r_b⟩ := BB
  generalize ((w.alloc (.cells #[.int .i64 n1, .int .i64 d1] QT)).alloc (.cells #[.int .i64 n2, .int .i64 d2] QT)) = w0 at *
  replace BB := Lib.hid BB
  replace r_a := Lib.hid r_a
  replace r_b := Lib.hid r_b
  clear hsz
  obtain ⟨c_a0, c_a1, f_a0, f_a1⟩ := reads2 r_a.out
  have l_a := r_a.out.lt
  obtain ⟨c_b0, c_b1, f_b0, f_b1⟩ := reads2 r_b.out
  have l_b := r_b.out.lt
  go_wp2_with fail
  refine (C1.out _).mono ?_
  rintro e w1 ⟨rfl, hb⟩
  clear c_a0 c_a1 f_a0 f_a1 l_a c_b0 c_b1 f_b0 f_b1 l_b
  replace r_a := Lib.hid (r_a.out.keep hb)
  replace r_b := Lib.hid (r_b.out.keep hb)
  replace BB := Lib.hid (below_next BB.out hb)
  clear hb
  obtain ⟨c_a0, c_a1, f_a0, f_a1⟩ := reads2 r_a.out
  have l_a := r_a.out.lt
  go_wp2_with fail
  refine (C2.out _).mono ?_
  rintro e w2 ⟨rfl, hb⟩
  clear c_a0 c_a1 f_a0 f_a1 l_a
  replace r_a := Lib.hid (r_a.out.keep hb)
  replace r_b := Lib.hid (r_b.out.keep hb)
  replace BB := Lib.hid (below_next BB.out hb)
  clear hb
  obtain ⟨c_a0, c_a1, f_a0, f_a1⟩ := reads2 r_a.out
  have l_a := r_a.out.lt
  go_wp2_with fail
  refine (C3.out _).mono ?_
  rintro e w3 ⟨rfl, hb⟩
  clear c_a0 c_a1 f_a0 f_a1 l_a
  replace r_a := Lib.hid (r_a.out.keep hb)
  replace r_b := Lib.hid (r_b.out.keep hb)
  replace BB := Lib.hid (below_next BB.out hb)
  clear hb
  obtain ⟨c_a0, c_a1, f_a0, f_a1⟩ := reads2 r_a.out
  have l_a := r_a.out.lt
  go_wp2_with fail
  refine (CL.out _).mono ?_
  rintro e w4 ⟨rfl, hb⟩
  clear c_a0 c_a1 f_a0 f_a1 l_a
  replace r_a := Lib.hid (r_a.out.keep hb)
  replace r_b := Lib.hid (r_b.out.keep hb)
  replace BB := Lib.hid (below_next BB.out hb)
  clear hb
  go_wp2_with fail
  go_ret
  exact ⟨rfl, BB.out⟩
set_option maxRecDepth 100000 in
set_option maxHeartbeats 4000000 in
theorem ratOrders_one (n1 d1 n2 d2 : Int) (h1 : I64 n1) (h2 : I64 d1) (h : 0 < d1) (hb' : ¬ 0 < d2) (w : World) : Calls Try.prog 13 #[qv n1 d1, qv n2 d2] w fun e w' => e = .returned (.bool true) ∧ Below w.heap.size w w' := by
  have C1 := Lib.hid (fun w => qcmp_no n1 d1 n2 d2 (fun k => hb' k.2) w)
  have C2 := Lib.hid (fun w => pfloor_ok n1 d1 h1 h2 h w)
  have C3 := Lib.hid (fun w => pnear_ok n1 d1 h1 h2 h w)
  have CL := Lib.hid (fun w => alive03 w)
  have CO := Lib.hid (fun w => rown n1 d1 h1 h2 w)
  have CF := Lib.hid (fun v w hv => r3floor v n1 d1 h1 h2 (by omega) w hv)
  have CN := Lib.hid (fun v w hv => r3near v n1 d1 h1 h2 (by omega) w hv)
  have WF := Lib.hid (fun v w hv => rwhole (n1.fdiv d1) (fdiv_room h1 h2 (by omega) (by omega)) v w hv)
  have WN := Lib.hid (fun v w hv => rwhole (nearI n1 d1) (near_in h1 (by omega)) v w hv)
  have e : decide (d1 < 1) = false := decide_eq_false (by omega)
  have e' : ¬ d1 < 1 := by omega
  generalize n1.fdiv d1 = Z at *
  generalize nearI n1 d1 = Z2 at *
  have f : decide (d2 < 1) = true := decide_eq_true (by omega)
  have f' : d2 < 1 := by omega
  clear h1 h2 h hb'
  go_enter Try.func13, Try.ntmps13
  go_wp2_with fail
  have BB := start2 w #[.int .i64 n1, .int .i64 d1] QT #[.int .i64 n2, .int .i64 d2] QT
  obtain ⟨BB, hsz, r_a, r_b⟩ := BB
  generalize ((w.alloc (.cells #[.int .i64 n1, .int .i64 d1] QT)).alloc (.cells #[.int .i64 n2, .int .i64 d2] QT)) = w0 at *
  replace BB := Lib.hid BB
  replace r_a := Lib.hid r_a
  replace r_b := Lib.hid r_b
  clear hsz
  obtain ⟨c_a0, c_a1, f_a0, f_a1⟩ := reads2 r_a.out
  have l_a := r_a.out.lt
  obtain ⟨c_b0, c_b1, f_b0, f_b1⟩ := reads2 r_b.out
  have l_b := r_b.out.lt
  go_wp2_with fail
  refine (C1.out _).mono ?_
  rintro e w1 ⟨rfl, hb⟩
  clear c_a0 c_a1 f_a0 f_a1 l_a c_b0 c_b1 f_b0 f_b1 l_b
  replace r_a := Lib.hid (r_a.out.keep hb)
  replace r_b := Lib.hid (r_b.out.keep hb)
  replace BB := Lib.hid (below_next BB.out hb)
  clear hb
  obtain ⟨c_a0, c_a1, f_a0, f_a1⟩ := reads2 r_a.out
  have l_a := r_a.out.lt
  go_wp2_with fail
  refine (C2.out _).mono ?_
  rintro e w2 ⟨rfl, hb⟩
  clear c_a0 c_a1 f_a0 f_a1 l_a
  replace r_a := Lib.hid (r_a.out.keep hb)
  replace r_b := Lib.hid (r_b.out.keep hb)
  replace BB := Lib.hid (below_next BB.out hb)
  clear hb
  obtain ⟨c_a0, c_a1, f_a0, f_a1⟩ := reads2 r_a.out
  have l_a := r_a.out.lt
  go_wp2_with fail
  refine (C3.out _).mono ?_
  rintro e w3 ⟨rfl, hb⟩
  clear c_a0 c_a1 f_a0 f_a1 l_a
  replace r_a := Lib.hid (r_a.out.keep hb)
  replace r_b := Lib.hid (r_b.out.keep hb)
  replace BB := Lib.hid (below_next BB.out hb)
  clear hb
  obtain ⟨c_a0, c_a1, f_a0, f_a1⟩ := reads2 r_a.out
  have l_a := r_a.out.lt
  go_wp2_with fail
  refine (CO.out _).mono ?_
  rintro e w4 ⟨v_x, rfl, hb, h_x⟩
  obtain ⟨A_x, n_x, cap_x, B_x, m_x, cup_x, rfl, -, -⟩ := id h_x.form
  replace h_x := Lib.hid h_x
  clear c_a0 c_a1 f_a0 f_a1 l_a
  replace r_a := Lib.hid (r_a.out.keep hb)
  replace r_b := Lib.hid (r_b.out.keep hb)
  replace BB := Lib.hid (below_next BB.out hb)
  clear hb
  go_wp2_with fail
  refine (CF.out _ _ h_x.out).mono ?_
  rintro e w5 ⟨v_f, rfl, hb, h_f⟩
  obtain ⟨A_f, n_f, cap_f, rfl, -⟩ := id h_f.form
  replace h_f := Lib.hid h_f
  replace r_a := Lib.hid (r_a.out.keep hb)
  replace r_b := Lib.hid (r_b.out.keep hb)
  replace h_x := Lib.hid (h_x.out.below hb)
  replace BB := Lib.hid (below_next BB.out hb)
  clear hb
  go_wp2_with fail
  refine (WF.out _ _ h_f.out).mono ?_
  rintro e w6 ⟨rfl, hb⟩
  replace r_a := Lib.hid (r_a.out.keep hb)
  replace r_b := Lib.hid (r_b.out.keep hb)
  replace h_x := Lib.hid (h_x.out.below hb)
  replace h_f := Lib.hid (h_f.out.below hb)
  replace BB := Lib.hid (below_next BB.out hb)
  clear hb
  obtain ⟨c_a0, c_a1, f_a0, f_a1⟩ := reads2 r_a.out
  have l_a := r_a.out.lt
  go_wp2_with fail
  refine (CO.out _).mono ?_
  rintro e w7 ⟨v_x2, rfl, hb, h_x2⟩
  obtain ⟨A_x2, n_x2, cap_x2, B_x2, m_x2, cup_x2, rfl, -, -⟩ := id h_x2.form
  replace h_x2 := Lib.hid h_x2
  clear c_a0 c_a1 f_a0 f_a1 l_a
  replace r_a := Lib.hid (r_a.out.keep hb)
  replace r_b := Lib.hid (r_b.out.keep hb)
  replace h_x := Lib.hid (h_x.out.below hb)
  replace h_f := Lib.hid (h_f.out.below hb)
  replace BB := Lib.hid (below_next BB.out hb)
  clear hb
  go_wp2_with fail
  refine (CN.out _ _ h_x2.out).mono ?_
  rintro e w8 ⟨v_g, rfl, hb, h_g⟩
  obtain ⟨A_g, n_g, cap_g, rfl, -⟩ := id h_g.form
  replace h_g := Lib.hid h_g
  replace r_a := Lib.hid (r_a.out.keep hb)
  replace r_b := Lib.hid (r_b.out.keep hb)
  replace h_x := Lib.hid (h_x.out.below hb)
  replace h_f := Lib.hid (h_f.out.below hb)
  replace h_x2 := Lib.hid (h_x2.out.below hb)
  replace BB := Lib.hid (below_next BB.out hb)
  clear hb
  go_wp2_with fail
  refine (WN.out _ _ h_g.out).mono ?_
  rintro e w10 ⟨rfl, hb⟩
  replace r_a := Lib.hid (r_a.out.keep hb)
  replace r_b := Lib.hid (r_b.out.keep hb)
  replace h_x := Lib.hid (h_x.out.below hb)
  replace h_f := Lib.hid (h_f.out.below hb)
  replace h_x2 := Lib.hid (h_x2.out.below hb)
  replace h_g := Lib.hid (h_g.out.below hb)
  replace BB := Lib.hid (below_next BB.out hb)
  clear hb
  obtain ⟨c_b0, c_b1, f_b0, f_b1⟩ := reads2 r_b.out
  have l_b := r_b.out.lt
  go_wp2_with fail
  refine (CL.out _).mono ?_
  rintro e w11 ⟨rfl, hb⟩
  clear c_b0 c_b1 f_b0 f_b1 l_b
  replace r_a := Lib.hid (r_a.out.keep hb)
  replace r_b := Lib.hid (r_b.out.keep hb)
  replace h_x := Lib.hid (h_x.out.below hb)
  replace h_f := Lib.hid (h_f.out.below hb)
  replace h_x2 := Lib.hid (h_x2.out.below hb)
  replace h_g := Lib.hid (h_g.out.below hb)
  replace BB := Lib.hid (below_next BB.out hb)
  clear hb
  go_wp2_with fail
  go_ret
  exact ⟨rfl, BB.out⟩
set_option maxRecDepth 100000 in
set_option maxHeartbeats 8000000 in
theorem ratOrders_two (n1 d1 n2 d2 : Int) (h1 : I64 n1) (h2 : I64 d1) (h3 : I64 n2) (h4 : I64 d2) (h : 0 < d1) (hb' : 0 < d2) (w : World) : Calls Try.prog 13 #[qv n1 d1, qv n2 d2] w fun e w' => e = .returned (.bool true) ∧ Below w.heap.size w w' := by
  have C1 := Lib.hid (fun w => qcmp n1 d1 n2 d2 h1 h2 h3 h4 h hb' w)
  have CO2 := Lib.hid (fun w => rown n2 d2 h3 h4 w)
  have CC := Lib.hid (fun (u v : Value) w (hu : RR w u n1 d1) (hv : RR w v n2 d2) => rcmp u v n1 d1 n2 d2 (i64_wd h1) (i64_wd h2) (i64_wd h3) (i64_wd h4) (by omega) w hu hv)
  have C2 := Lib.hid (fun w => pfloor_ok n1 d1 h1 h2 h w)
  have C3 := Lib.hid (fun w => pnear_ok n1 d1 h1 h2 h w)
  have CL := Lib.hid (fun w => alive03 w)
  have CO := Lib.hid (fun w => rown n1 d1 h1 h2 w)
  have CF := Lib.hid (fun v w hv => r3floor v n1 d1 h1 h2 (by omega) w hv)
  have CN := Lib.hid (fun v w hv => r3near v n1 d1 h1 h2 (by omega) w hv)
  have WF := Lib.hid (fun v w hv => rwhole (n1.fdiv d1) (fdiv_room h1 h2 (by omega) (by omega)) v w hv)
  have WN := Lib.hid (fun v w hv => rwhole (nearI n1 d1) (near_in h1 (by omega)) v w hv)
  have e : decide (d1 < 1) = false := decide_eq_false (by omega)
  have e' : ¬ d1 < 1 := by omega
  generalize n1.fdiv d1 = Z at *
  generalize nearI n1 d1 = Z2 at *
  have f : decide (d2 < 1) = false := decide_eq_false (by omega)
  have f' : ¬ d2 < 1 := by omega
  generalize cmpI (n1 * d2) (n2 * d1) = c at *
  clear h1 h2 h3 h4 h hb'
  go_enter Try.func13, Try.ntmps13
  go_wp2_with fail
  have BB := start2 w #[.int .i64 n1, .int .i64 d1] QT #[.int .i64 n2, .int .i64 d2] QT
  obtain ⟨BB, hsz, r_a, r_b⟩ := BB
  generalize ((w.alloc (.cells #[.int .i64 n1, .int .i64 d1] QT)).alloc (.cells #[.int .i64 n2, .int .i64 d2] QT)) = w0 at *
  replace BB := Lib.hid BB
  replace r_a := Lib.hid r_a
  replace r_b := Lib.hid r_b
  clear hsz
  obtain ⟨c_a0, c_a1, f_a0, f_a1⟩ := reads2 r_a.out
  have l_a := r_a.out.lt
  obtain ⟨c_b0, c_b1, f_b0, f_b1⟩ := reads2 r_b.out
  have l_b := r_b.out.lt
  go_wp2_with fail
  refine (C1.out _).mono ?_
  rintro e w1 ⟨rfl, hb⟩
  clear c_a0 c_a1 f_a0 f_a1 l_a c_b0 c_b1 f_b0 f_b1 l_b
  replace r_a := Lib.hid (r_a.out.keep hb)
  replace r_b := Lib.hid (r_b.out.keep hb)
  replace BB := Lib.hid (below_next BB.out hb)
  clear hb
  obtain ⟨c_a0, c_a1, f_a0, f_a1⟩ := reads2 r_a.out
  have l_a := r_a.out.lt
  go_wp2_with fail
  refine (C2.out _).mono ?_
  rintro e w2 ⟨rfl, hb⟩
  clear c_a0 c_a1 f_a0 f_a1 l_a
  replace r_a := Lib.hid (r_a.out.keep hb)
  replace r_b := Lib.hid (r_b.out.keep hb)
  replace BB := Lib.hid (below_next BB.out hb)
  clear hb
  obtain ⟨c_a0, c_a1, f_a0, f_a1⟩ := reads2 r_a.out
  have l_a := r_a.out.lt
  go_wp2_with fail
  refine (C3.out _).mono ?_
  rintro e w3 ⟨rfl, hb⟩
  clear c_a0 c_a1 f_a0 f_a1 l_a
  replace r_a := Lib.hid (r_a.out.keep hb)
  replace r_b := Lib.hid (r_b.out.keep hb)
  replace BB := Lib.hid (below_next BB.out hb)
  clear hb
  obtain ⟨c_a0, c_a1, f_a0, f_a1⟩ := reads2 r_a.out
  have l_a := r_a.out.lt
  go_wp2_with fail
  refine (CO.out _).mono ?_
  rintro e w4 ⟨v_x, rfl, hb, h_x⟩
  obtain ⟨A_x, n_x, cap_x, B_x, m_x, cup_x, rfl, -, -⟩ := id h_x.form
  replace h_x := Lib.hid h_x
  clear c_a0 c_a1 f_a0 f_a1 l_a
  replace r_a := Lib.hid (r_a.out.keep hb)
  replace r_b := Lib.hid (r_b.out.keep hb)
  replace BB := Lib.hid (below_next BB.out hb)
  clear hb
  go_wp2_with fail
  refine (CF.out _ _ h_x.out).mono ?_
  rintro e w5 ⟨v_f, rfl, hb, h_f⟩
  obtain ⟨A_f, n_f, cap_f, rfl, -⟩ := id h_f.form
  replace h_f := Lib.hid h_f
  replace r_a := Lib.hid (r_a.out.keep hb)
  replace r_b := Lib.hid (r_b.out.keep hb)
  replace h_x := Lib.hid (h_x.out.below hb)
  replace BB := Lib.hid (below_next BB.out hb)
  clear hb
  go_wp2_with fail
  refine (WF.out _ _ h_f.out).mono ?_
  rintro e w6 ⟨rfl, hb⟩
  replace r_a := Lib.hid (r_a.out.keep hb)
  replace r_b := Lib.hid (r_b.out.keep hb)
  replace h_x := Lib.hid (h_x.out.below hb)
  replace h_f := Lib.hid (h_f.out.below hb)
  replace BB := Lib.hid (below_next BB.out hb)
  clear hb
  obtain ⟨c_a0, c_a1, f_a0, f_a1⟩ := reads2 r_a.out
  have l_a := r_a.out.lt
  go_wp2_with fail
  refine (CO.out _).mono ?_
  rintro e w7 ⟨v_x2, rfl, hb, h_x2⟩
  obtain ⟨A_x2, n_x2, cap_x2, B_x2, m_x2, cup_x2, rfl, -, -⟩ := id h_x2.form
  replace h_x2 := Lib.hid h_x2
  clear c_a0 c_a1 f_a0 f_a1 l_a
  replace r_a := Lib.hid (r_a.out.keep hb)
  replace r_b := Lib.hid (r_b.out.keep hb)
  replace h_x := Lib.hid (h_x.out.below hb)
  replace h_f := Lib.hid (h_f.out.below hb)
  replace BB := Lib.hid (below_next BB.out hb)
  clear hb
  go_wp2_with fail
  refine (CN.out _ _ h_x2.out).mono ?_
  rintro e w8 ⟨v_g, rfl, hb, h_g⟩
  obtain ⟨A_g, n_g, cap_g, rfl, -⟩ := id h_g.form
  replace h_g := Lib.hid h_g
  replace r_a := Lib.hid (r_a.out.keep hb)
  replace r_b := Lib.hid (r_b.out.keep hb)
  replace h_x := Lib.hid (h_x.out.below hb)
  replace h_f := Lib.hid (h_f.out.below hb)
  replace h_x2 := Lib.hid (h_x2.out.below hb)
  replace BB := Lib.hid (below_next BB.out hb)
  clear hb
  go_wp2_with fail
  refine (WN.out _ _ h_g.out).mono ?_
  rintro e w10 ⟨rfl, hb⟩
  replace r_a := Lib.hid (r_a.out.keep hb)
  replace r_b := Lib.hid (r_b.out.keep hb)
  replace h_x := Lib.hid (h_x.out.below hb)
  replace h_f := Lib.hid (h_f.out.below hb)
  replace h_x2 := Lib.hid (h_x2.out.below hb)
  replace h_g := Lib.hid (h_g.out.below hb)
  replace BB := Lib.hid (below_next BB.out hb)
  clear hb
  obtain ⟨c_b0, c_b1, f_b0, f_b1⟩ := reads2 r_b.out
  have l_b := r_b.out.lt
  go_wp2_with fail
  clear c_b0 c_b1 f_b0 f_b1 l_b
  have KK := Lib.hid (fun (w9 : World) (h : Below w10.heap.size w10 w9) => (⟨cells2 (r_a.out.keep h), cells2 (r_b.out.keep h)⟩ : (w9.cell? ⟨w.heap.size, 0, none⟩ = some (.int .i64 n1) ∧ w9.cell? ⟨w.heap.size, 1, none⟩ = some (.int .i64 d1)) ∧ (w9.cell? ⟨w.heap.size + 1, 0, none⟩ = some (.int .i64 n2) ∧ w9.cell? ⟨w.heap.size + 1, 1, none⟩ = some (.int .i64 d2))))
  have K0 := KK.out w10 (Below.refl _ _)
  have KD := KK.out w10.drew (below_drew (Below.refl _ _))
  have tok0 : Hid True := trivial
  have tok1 : Hid True := trivial
  go_region_held3 (fun w9 => (w9.cell? ⟨w.heap.size, 0, none⟩ = some (.int .i64 n1) ∧ w9.cell? ⟨w.heap.size, 1, none⟩ = some (.int .i64 d1)) ∧ (w9.cell? ⟨w.heap.size + 1, 0, none⟩ = some (.int .i64 n2) ∧ w9.cell? ⟨w.heap.size + 1, 1, none⟩ = some (.int .i64 d2)))
      (first | with_reducible exact KD | with_reducible exact K0 | with_reducible exact K_w11 | with_reducible exact K_w12 | with_reducible exact K_w13 | with_reducible exact K_w14)
      (first
        | (go_at_call 64
           have t_k := tok0
           refine (CO.out _).mono ?_
           rintro e w11 ⟨v_p, rfl, hb, h_p⟩
           obtain ⟨A_p, n_p, cap_p, B_p, m_p, cup_p, rfl, -, -⟩ := id h_p.form
           replace h_p := Lib.hid h_p
           have B_w11 := Lib.hid (reg_next (w0 := w10) (by repeat (first | with_reducible exact Below.refl _ _ | with_reducible apply below_drew | with_reducible apply below_new)) hb)
           have K_w11 := KK.out _ B_w11.out
           clear hb
           clear t_k tok0)
        | (go_at_call 64
           have t_k := tok1
           refine (CO2.out _).mono ?_
           rintro e w12 ⟨v_q, rfl, hb, h_q⟩
           obtain ⟨A_q, n_q, cap_q, B_q, m_q, cup_q, rfl, -, -⟩ := id h_q.form
           replace h_q := Lib.hid h_q
           replace h_p := Lib.hid (h_p.out.below hb)
           have B_w12 := Lib.hid (below_next B_w11.out hb)
           have K_w12 := KK.out _ B_w12.out
           clear hb
           clear t_k tok1)
        | (go_at_call 72
           refine (CC.out _ _ _ h_p.out h_q.out).mono ?_
           rintro e w13 ⟨rfl, hb⟩
           replace h_p := Lib.hid (h_p.out.below hb)
           replace h_q := Lib.hid (h_q.out.below hb)
           have B_w13 := Lib.hid (below_next B_w12.out hb)
           have K_w13 := KK.out _ B_w13.out
           clear hb)
        | (go_at_call 58
           refine (CL.out _).mono ?_
           rintro e w14 ⟨rfl, hb⟩
           replace h_p := Lib.hid (h_p.out.below hb)
           replace h_q := Lib.hid (h_q.out.below hb)
           have B_w14 := Lib.hid (below_next B_w13.out hb)
           have K_w14 := KK.out _ B_w14.out
           clear hb))
  clear KK K0 KD K_w11 K_w12 K_w13 K_w14
  replace r_a := Lib.hid (r_a.out.keep B_w14.out)
  replace r_b := Lib.hid (r_b.out.keep B_w14.out)
  replace h_x := Lib.hid (h_x.out.below B_w14.out)
  replace h_f := Lib.hid (h_f.out.below B_w14.out)
  replace h_x2 := Lib.hid (h_x2.out.below B_w14.out)
  replace h_g := Lib.hid (h_g.out.below B_w14.out)
  replace BB := Lib.hid (below_next BB.out B_w14.out)
  clear B_w11 B_w12 B_w13 B_w14
  go_wp2_with fail
  go_ret
  exact ⟨rfl, BB.out⟩
theorem ratOrders_any (n1 d1 n2 d2 : Int) (h1 : I64 n1) (h2 : I64 d1) (h3 : I64 n2) (h4 : I64 d2) (w : World) : Calls Try.prog 13 #[qv n1 d1, qv n2 d2] w fun e w' => e = .returned (.bool true) ∧ Below w.heap.size w w' := by
  by_cases h : 0 < d1
  · by_cases hb' : 0 < d2
    · exact ratOrders_two n1 d1 n2 d2 h1 h2 h3 h4 h hb' w
    · exact ratOrders_one n1 d1 n2 d2 h1 h2 h hb' w
  · exact ratOrders_no n1 d1 n2 d2 h w
end Go.Proofs.Ythoakbjnofhpbaa
