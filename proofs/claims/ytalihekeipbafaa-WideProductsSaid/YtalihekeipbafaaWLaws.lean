/- Walks of the laws WideSums, WideProducts. -/
import Derived.Test.YtalihekeipbafaaAlive1
import Derived.Test.YtalihekeipbafaaTold
set_option linter.unusedVariables false
namespace Go.Proofs.Ytalihekeipbafaa
open Go.RowKit

set_option maxHeartbeats 4000000 in
set_option maxRecDepth 100000 in
theorem wideProducts_any (ah al x y : Int) (a1 : I64 ah) (a2 : U64 al) (hx : I64 x) (hy : I64 y) (w : World) :
    Calls Try.prog 4 #[wv ah al, .int .i64 x, .int .i64 y] w fun e w' => e = .returned (.bool true) ∧ Below w.heap.size w w' := by
  obtain ⟨a, ha⟩ : ∃ a, W128 a ah al := ⟨_, a1, a2, rfl⟩
  have wa := i128_wd ha.room
  have CS := Lib.hid (fun w => wscale a x ah al ha hx w)
  have CM := Lib.hid (fun w => wmul x y hx hy w)
  have CX := Lib.hid (fun w => of_any x hx w)
  have CY := Lib.hid (fun w => of_any y hy w)
  have CB := Lib.hid (fun w => lbig_any a ah al ha w)
  have P1 := Lib.hid (fun (u v : Value) w1 (hu : BR w1 u x) (hv : BR w1 v y) => mul_any u v x y w1 hu hv (i64_mid' hx) (i64_mid' hy))
  have P2 := Lib.hid (fun (u v : Value) w1 (hu : BR w1 u a) (hv : BR w1 v x) => mul_any u v a x w1 hu hv (wa.mid (by omega)) (i64_mid' hx))
  have T1 := Lib.hid (fun (v : Value) hi lo w1 (hv : BR w1 v (x * y)) (h : W128 (x * y) hi lo) => told_any v (x * y) hi lo true w1 hv (((i64_wd hx).mul (i64_wd hy)).up (by omega)) (.inl ⟨h.room, rfl, h⟩))
  have T2 := Lib.hid (fun (v : Value) hi lo ok w1 (hv : BR w1 v (a * x)) (h : WB (a * x) hi lo ok) => told_any v (a * x) hi lo ok w1 hv ((wa.mul (i64_wd hx)).up (by omega)) h)
  have CA := Lib.hid (fun w => alive1_any w)
  clear wa ha hx hy a1 a2
  generalize x * y = p at *
  generalize a * x = q at *
  go_enter Try.func4, Try.ntmps4
  go_wp2_with fail
  have BB := start1 w #[.int .i64 ah, .int .u64 al] 24
  obtain ⟨BB, hsz, r_a⟩ := BB
  generalize (w.alloc (.cells #[.int .i64 ah, .int .u64 al] 24)) = w0 at *
  replace BB := Lib.hid BB
  replace r_a := Lib.hid r_a
  clear hsz
  refine (CS.out _).mono ?_
  rintro e w1 ⟨sh, sl, ok, rfl, hb, hs⟩
  replace r_a := Lib.hid (r_a.out.keep hb)
  replace BB := Lib.hid (below_next BB.out hb)
  clear hb
  have HS := Lib.hid hs
  clear hs
  go_wp2_with fail
  have d_p := Lib.hid (And.intro BB.out.size (And.intro r_a.out.lt (True.intro)))
  obtain ⟨hb, r_p⟩ := laid w1 #[.int .i64 sh, .int .u64 sl] 24
  replace r_a := Lib.hid (r_a.out.keep hb)
  replace BB := Lib.hid (below_next BB.out hb)
  replace r_p := Lib.hid r_p
  clear hb
  generalize w1.alloc (.cells #[.int .i64 sh, .int .u64 sl] 24) = w2 at *
  generalize w1.heap.size = g_p at *
  go_wp2_with fail
  have KK := Lib.hid (fun (w9 : World) (h : Below w2.heap.size w2 w9) => (⟨cells2 (r_a.out.keep h), cells2 (r_p.out.keep h)⟩ : (w9.cell? ⟨w.heap.size, 0, none⟩ = some (.int .i64 ah) ∧ w9.cell? ⟨w.heap.size, 1, none⟩ = some (.int .u64 al)) ∧ (w9.cell? ⟨g_p, 0, none⟩ = some (.int .i64 sh) ∧ w9.cell? ⟨g_p, 1, none⟩ = some (.int .u64 sl))))
  have K0 := KK.out w2 (Below.refl _ _)
  have tok1 : Hid True := trivial
  have tok2 : Hid True := trivial
  have tok3 : Hid True := trivial
  have tok4 : Hid True := trivial
  have tok6 : Hid True := trivial
  have tok7 : Hid True := trivial
  have tok8 : Hid True := trivial
  first
  | (go_region_held3 (fun w9 => (w9.cell? ⟨w.heap.size, 0, none⟩ = some (.int .i64 ah) ∧ w9.cell? ⟨w.heap.size, 1, none⟩ = some (.int .u64 al)) ∧ (w9.cell? ⟨g_p, 0, none⟩ = some (.int .i64 sh) ∧ w9.cell? ⟨g_p, 1, none⟩ = some (.int .u64 sl)))
      (first | exact K0 | exact K_w3 | exact K_w4 | exact K_w5 | exact K_w6 | exact K_w7 | exact K_w8 | exact K_w9 | exact K_w10 | exact K_w11 | exact K_w12)
      (first
        | (go_at_call 27
           refine (CM.out _).mono ?_
           rintro e w3 ⟨mh, ml, rfl, hb, hm⟩
           have B_w3 := Lib.hid (reg_next (w0 := w2) (by repeat (first | exact Below.refl _ _ | apply below_drew | apply below_new)) hb)
           have K_w3 := KK.out _ B_w3.out
           clear hb)
        | (go_at_call 24
           have t_k := tok1
           refine (CX.out _).mono ?_
           rintro e w4 ⟨v_u, rfl, hb, h_u⟩
           obtain ⟨A_u, n_u, cap_u, rfl, -⟩ := id h_u.form
           replace h_u := Lib.hid h_u
           have B_w4 := Lib.hid (below_next B_w3.out hb)
           have K_w4 := KK.out _ B_w4.out
           clear hb
           clear t_k tok1)
        | (go_at_call 24
           have t_k := tok2
           refine (CY.out _).mono ?_
           rintro e w5 ⟨v_v, rfl, hb, h_v⟩
           obtain ⟨A_v, n_v, cap_v, rfl, -⟩ := id h_v.form
           replace h_v := Lib.hid h_v
           replace h_u := Lib.hid (h_u.out.below hb)
           have B_w5 := Lib.hid (below_next B_w4.out hb)
           have K_w5 := KK.out _ B_w5.out
           clear hb
           clear t_k tok2)
        | (go_at_call 28
           have t_k := tok3
           refine (P1.out _ _ _ h_u.out h_v.out).mono ?_
           rintro e w6 ⟨v_pr, rfl, hb, h_pr⟩
           obtain ⟨A_pr, n_pr, cap_pr, rfl, -⟩ := id h_pr.form
           replace h_pr := Lib.hid h_pr
           replace h_u := Lib.hid (h_u.out.below hb)
           replace h_v := Lib.hid (h_v.out.below hb)
           have B_w6 := Lib.hid (below_next B_w5.out hb)
           have K_w6 := KK.out _ B_w6.out
           clear hb
           clear t_k tok3)
        | (go_at_call 19
           have t_k := tok4
           refine (T1.out _ _ _ _ h_pr.out hm).mono ?_
           rintro e w7 ⟨rfl, hb⟩
           replace h_u := Lib.hid (h_u.out.below hb)
           replace h_v := Lib.hid (h_v.out.below hb)
           replace h_pr := Lib.hid (h_pr.out.below hb)
           have B_w7 := Lib.hid (below_next B_w6.out hb)
           have K_w7 := KK.out _ B_w7.out
           clear hb
           clear t_k tok4)
        | (go_at_call 15
           refine (CB.out _).mono ?_
           rintro e w8 ⟨v_b, rfl, hb, h_b⟩
           obtain ⟨A_b, n_b, cap_b, rfl, -⟩ := id h_b.form
           replace h_b := Lib.hid h_b
           replace h_u := Lib.hid (h_u.out.below hb)
           replace h_v := Lib.hid (h_v.out.below hb)
           replace h_pr := Lib.hid (h_pr.out.below hb)
           have B_w8 := Lib.hid (below_next B_w7.out hb)
           have K_w8 := KK.out _ B_w8.out
           clear hb)
        | (go_at_call 24
           have t_k := tok6
           refine (CX.out _).mono ?_
           rintro e w9 ⟨v_u2, rfl, hb, h_u2⟩
           obtain ⟨A_u2, n_u2, cap_u2, rfl, -⟩ := id h_u2.form
           replace h_u2 := Lib.hid h_u2
           replace h_u := Lib.hid (h_u.out.below hb)
           replace h_v := Lib.hid (h_v.out.below hb)
           replace h_pr := Lib.hid (h_pr.out.below hb)
           replace h_b := Lib.hid (h_b.out.below hb)
           have B_w9 := Lib.hid (below_next B_w8.out hb)
           have K_w9 := KK.out _ B_w9.out
           clear hb
           clear t_k tok6)
        | (go_at_call 28
           have t_k := tok7
           refine (P2.out _ _ _ h_b.out h_u2.out).mono ?_
           rintro e w10 ⟨v_q2, rfl, hb, h_q2⟩
           obtain ⟨A_q2, n_q2, cap_q2, rfl, -⟩ := id h_q2.form
           replace h_q2 := Lib.hid h_q2
           replace h_u := Lib.hid (h_u.out.below hb)
           replace h_v := Lib.hid (h_v.out.below hb)
           replace h_pr := Lib.hid (h_pr.out.below hb)
           replace h_b := Lib.hid (h_b.out.below hb)
           replace h_u2 := Lib.hid (h_u2.out.below hb)
           have B_w10 := Lib.hid (below_next B_w9.out hb)
           have K_w10 := KK.out _ B_w10.out
           clear hb
           clear t_k tok7)
        | (go_at_call 19
           have t_k := tok8
           refine (T2.out _ _ _ _ _ h_q2.out HS.out).mono ?_
           rintro e w11 ⟨rfl, hb⟩
           replace h_u := Lib.hid (h_u.out.below hb)
           replace h_v := Lib.hid (h_v.out.below hb)
           replace h_pr := Lib.hid (h_pr.out.below hb)
           replace h_b := Lib.hid (h_b.out.below hb)
           replace h_u2 := Lib.hid (h_u2.out.below hb)
           replace h_q2 := Lib.hid (h_q2.out.below hb)
           have B_w11 := Lib.hid (below_next B_w10.out hb)
           have K_w11 := KK.out _ B_w11.out
           clear hb
           clear t_k tok8)
        | (go_at_call 25
           refine (CA.out _).mono ?_
           rintro e w12 ⟨rfl, hb⟩
           replace h_u := Lib.hid (h_u.out.below hb)
           replace h_v := Lib.hid (h_v.out.below hb)
           replace h_pr := Lib.hid (h_pr.out.below hb)
           replace h_b := Lib.hid (h_b.out.below hb)
           replace h_u2 := Lib.hid (h_u2.out.below hb)
           replace h_q2 := Lib.hid (h_q2.out.below hb)
           have B_w12 := Lib.hid (below_next B_w11.out hb)
           have K_w12 := KK.out _ B_w12.out
           clear hb)))
  | fail "region"
  clear KK K0 K_w3 K_w4 K_w5 K_w6 K_w7 K_w8 K_w9 K_w10 K_w11 K_w12
  replace r_a := Lib.hid (r_a.out.keep B_w12.out)
  replace r_p := Lib.hid (r_p.out.keep B_w12.out)
  replace BB := Lib.hid (below_next BB.out B_w12.out)
  clear B_w3 B_w4 B_w5 B_w6 B_w7 B_w8 B_w9 B_w10 B_w11 B_w12
  go_wp2_with fail
  go_ret
  exact ⟨rfl, BB.out⟩

end Go.Proofs.Ytalihekeipbafaa
