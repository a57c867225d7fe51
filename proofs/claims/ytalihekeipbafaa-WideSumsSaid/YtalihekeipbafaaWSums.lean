/- Walk of the law WideSums. -/
import Derived.Test.YtalihekeipbafaaAlive1
import Derived.Test.YtalihekeipbafaaTold
import Derived.Deep.DeepCutAuto
set_option linter.unusedVariables false
namespace Go.Proofs.Ytalihekeipbafaa
open Go.RowKit

set_option maxHeartbeats 20000000 in
set_option maxRecDepth 100000 in
theorem wideSums_any (ah al bh bl x : Int) (a1 : I64 ah) (a2 : U64 al) (b1 : I64 bh) (b2 : U64 bl) (hx : I64 x) (w : World) :
    Calls Try.prog 3 #[wv ah al, wv bh bl, .int .i64 x] w fun e w' => e = .returned (.bool true) ∧ Below w.heap.size w w' := by
  obtain ⟨a, ha⟩ : ∃ a, W128 a ah al := ⟨_, a1, a2, rfl⟩
  obtain ⟨b, hb⟩ : ∃ b, W128 b bh bl := ⟨_, b1, b2, rfl⟩
  have wa := i128_wd ha.room
  have wb := i128_wd hb.room
  have CA := Lib.hid (fun w => lbig_any a ah al ha w)
  have CB := Lib.hid (fun w => lbig_any b bh bl hb w)
  have S1 := Lib.hid (fun w => wadd a b ah al bh bl ha hb w)
  have S2 := Lib.hid (fun w => wsub a b ah al bh bl ha hb w)
  have S3 := Lib.hid (fun w => wneg a ah al ha w)
  have S4 := Lib.hid (fun w => wof x hx w)
  have CX := Lib.hid (fun w => of_any x hx w)
  have P1 := Lib.hid (fun (u v : Value) w1 (hu : BR w1 u a) (hv : BR w1 v b) => add_any u v a b w1 hu hv (wa.mid (by omega)) (wb.mid (by omega)))
  have P2 := Lib.hid (fun (u v : Value) w1 (hu : BR w1 u a) (hv : BR w1 v b) => sub_any u v a b w1 hu hv (wa.mid (by omega)) (wb.mid (by omega)))
  have P3 := Lib.hid (fun (u : Value) w1 (hu : BR w1 u a) => neg_any u a w1 hu)
  have T1 := Lib.hid (fun (v : Value) hi lo ok w1 (hv : BR w1 v (a + b)) (h : WB (a + b) hi lo ok) => told_any v _ hi lo ok w1 hv ((wa.add wb).up (by omega)) h)
  have T2 := Lib.hid (fun (v : Value) hi lo ok w1 (hv : BR w1 v (a - b)) (h : WB (a - b) hi lo ok) => told_any v _ hi lo ok w1 hv ((wa.sub wb).up (by omega)) h)
  have T3 := Lib.hid (fun (v : Value) hi lo ok w1 (hv : BR w1 v (-a)) (h : WB (-a) hi lo ok) => told_any v _ hi lo ok w1 hv (wa.neg.up (by omega)) h)
  have T4 := Lib.hid (fun (v : Value) hi lo w1 (hv : BR w1 v x) (h : W128 x hi lo) => told_any v x hi lo true w1 hv ((i64_wd hx).up (by omega)) (.inl ⟨h.room, rfl, h⟩))
  have CL := Lib.hid (fun w => alive1_any w)
  clear wa wb ha hb hx a1 a2 b1 b2
  generalize a + b = s at *
  generalize a - b = d at *
  generalize hn : -a = n at *
  clear hn
  go_enter Try.func3, Try.ntmps3
  go_upto_region 1 with fail
  have BB := start2 w #[.int .i64 ah, .int .u64 al] 24 #[.int .i64 bh, .int .u64 bl] 24
  obtain ⟨BB, hsz, r_a, r_b⟩ := BB
  generalize ((w.alloc (.cells #[.int .i64 ah, .int .u64 al] 24)).alloc (.cells #[.int .i64 bh, .int .u64 bl] 24)) = w0 at *
  replace BB := Lib.hid BB
  replace r_a := Lib.hid r_a
  replace r_b := Lib.hid r_b
  clear hsz
  go_cut [7, 8] (fun s7 s8 wc => ∃ gp gq A1 n1 c1 A2 n2 c2, s7 = .pointer (some ⟨gp, 0, none⟩) ∧ s8 = .pointer (some ⟨gq, 0, none⟩) ∧
    Hid (AtB wc gp #[.bool (sgn a), .slice A1 n1 c1] 27 ∧ AtB wc gq #[.bool (sgn b), .slice A2 n2 c2] 27 ∧ BR wc (.agg #[.bool (sgn a), .slice A1 n1 c1]) a ∧ BR wc (.agg #[.bool (sgn b), .slice A2 n2 c2]) b ∧ Below w0.heap.size w0 wc))
  case first =>
    clear S1 S2 S3 S4 CX P1 P2 P3 T1 T2 T3 T4 CL
    have KK := Lib.hid (fun (w9 : World) (h : Below w0.heap.size w0 w9) => (⟨cells2 (r_a.out.keep h), cells2 (r_b.out.keep h)⟩ : (w9.cell? ⟨w.heap.size, 0, none⟩ = some (.int .i64 ah) ∧ w9.cell? ⟨w.heap.size, 1, none⟩ = some (.int .u64 al)) ∧ (w9.cell? ⟨w.heap.size + 1, 0, none⟩ = some (.int .i64 bh) ∧ w9.cell? ⟨w.heap.size + 1, 1, none⟩ = some (.int .u64 bl))))
    have K0 := KK.out w0 (Below.refl _ _)
    have KD := KK.out w0.drew (below_drew (Below.refl _ _))
    have tok0 : Hid True := trivial
    have tok1 : Hid True := trivial
    go_region_held3 (fun w9 => (w9.cell? ⟨w.heap.size, 0, none⟩ = some (.int .i64 ah) ∧ w9.cell? ⟨w.heap.size, 1, none⟩ = some (.int .u64 al)) ∧ (w9.cell? ⟨w.heap.size + 1, 0, none⟩ = some (.int .i64 bh) ∧ w9.cell? ⟨w.heap.size + 1, 1, none⟩ = some (.int .u64 bl)))
        (first | with_reducible exact KD | with_reducible exact K0 | with_reducible exact K_w1 | with_reducible exact K_w2 | (refine KK.out _ ?_; repeat' (first | with_reducible exact Below.refl _ _ | with_reducible exact B_w1.out | with_reducible exact B_w2.out | with_reducible apply below_new | with_reducible apply below_drew | with_reducible apply below_set | omega)))
        (first
          | (go_at_call 15
             have t_k := tok0
             refine (CA.out _).mono ?_
             rintro e w1 ⟨v_p, rfl, hb, h_p⟩
             obtain ⟨A_p, n_p, cap_p, rfl, -⟩ := id h_p.form
             replace h_p := Lib.hid h_p
             have B_w1 := Lib.hid (reg_next (w0 := w0) (by repeat (first | with_reducible exact Below.refl _ _ | with_reducible apply below_drew | with_reducible apply below_new)) hb)
             have K_w1 := KK.out _ B_w1.out
             obtain ⟨hc_w1, hf_w1⟩ := below_reads hb
             have hz_w1 := hb.size
             try simp at hz_w1
             try (have z1_w1 := Nat.lt_of_succ_le hz_w1)
             try (have z2_w1 := Nat.lt_of_succ_lt z1_w1)
             have HB_w1 := Lib.hid hb
             clear hb
             clear t_k tok0)
          | (go_at_call 15
             have t_k := tok1
             refine (CB.out _).mono ?_
             rintro e w2 ⟨v_q, rfl, hb, h_q⟩
             obtain ⟨A_q, n_q, cap_q, rfl, -⟩ := id h_q.form
             replace h_q := Lib.hid h_q
             replace h_p := Lib.hid (h_p.out.below (below_next (by repeat (first | with_reducible exact Below.refl _ _ | with_reducible apply below_new | with_reducible apply below_drew)) hb))
             have B_w2 := Lib.hid (below_next (by repeat (first | with_reducible exact B_w1.out | with_reducible apply below_new | with_reducible apply below_drew)) hb)
             have K_w2 := KK.out _ B_w2.out
             obtain ⟨hc_w2, hf_w2⟩ := below_reads hb
             have hz_w2 := hb.size
             try simp at hz_w2
             try (have z1_w2 := Nat.lt_of_succ_le hz_w2)
             try (have z2_w2 := Nat.lt_of_succ_lt z1_w2)
             have HB_w2 := Lib.hid hb
             have y_w2_w1 := Nat.le_trans HB_w1.out.size (Nat.le_trans (by (try simp only [World.size_alloc]); omega) hb.size)
             try simp at y_w2_w1
             try (have z3_w2_w1 := Nat.lt_of_succ_le y_w2_w1)
             try (have z4_w2_w1 := Nat.lt_of_succ_lt z3_w2_w1)
             clear hb
             clear t_k tok1))
    all_goals clear KK K0 KD K_w1 K_w2
    all_goals go_wp2_with fail
    all_goals go_meet
    all_goals refine ⟨_, _, A_p, n_p, cap_p, A_q, n_q, cap_q, rfl, rfl, ⟨?_, ?_, ?_, ?_, ?_⟩⟩
    all_goals repeat' (first | with_reducible exact h_p.out | with_reducible exact h_q.out | with_reducible exact B_w2.out | with_reducible exact B_w1.out | with_reducible exact Below.refl _ _ | with_reducible apply below_new | with_reducible apply below_drew | (with_reducible refine below_set ?_ ?_ _) | (with_reducible refine AtB.set2 (a := .bool false) (b := .slice none 0 0) ?_ _ _) | (with_reducible refine AtB.far2 ?_ ?_ _ _) | (with_reducible refine BR.alloc ?_ _) | (with_reducible refine BR.far2 (a := .bool false) (b := .slice none 0 0) (T := 27) ?_ ?_ (by decide) _ _) | (with_reducible refine new_at_eq ?_ _ _; first | rfl | (simp; done)) | (with_reducible refine AtB.alloc ?_ _) | with_reducible apply AtB.drew | (with_reducible refine AtB.keep ?_ HB_w2.out) | (with_reducible refine AtB.keep ?_ HB_w1.out) | omega)
  case rest =>
    obtain ⟨gp, gq, A1, n1, c1, A2, n2, c2, rfl, rfl, hcut⟩ := hcut
    obtain ⟨r_p, r_q, h_p, h_q, hb⟩ := hcut.out
    clear hcut
    replace r_p := Lib.hid r_p; replace r_q := Lib.hid r_q; replace h_p := Lib.hid h_p; replace h_q := Lib.hid h_q
    replace r_a := Lib.hid (r_a.out.keep hb); replace r_b := Lib.hid (r_b.out.keep hb); replace BB := Lib.hid (below_next BB.out hb)
    clear hb CA CB
    obtain ⟨c_a0, c_a1, f_a0, f_a1⟩ := reads2 r_a.out
    have l_a := r_a.out.lt
    obtain ⟨c_b0, c_b1, f_b0, f_b1⟩ := reads2 r_b.out
    have l_b := r_b.out.lt
    go_wp2_with fail
    refine (S1.out _).mono ?_
    rintro e w3 ⟨xh, xl, xo, rfl, hb, hs⟩
    clear c_a0 c_a1 f_a0 f_a1 l_a c_b0 c_b1 f_b0 f_b1 l_b
    replace r_a := Lib.hid (r_a.out.keep hb)
    replace r_b := Lib.hid (r_b.out.keep hb)
    replace r_p := Lib.hid (r_p.out.keep hb)
    replace r_q := Lib.hid (r_q.out.keep hb)
    replace h_p := Lib.hid (h_p.out.below hb)
    replace h_q := Lib.hid (h_q.out.below hb)
    replace BB := Lib.hid (below_next BB.out hb)
    clear hb
    have HS := Lib.hid hs
    clear hs
    obtain ⟨c_a0, c_a1, f_a0, f_a1⟩ := reads2 r_a.out
    have l_a := r_a.out.lt
    obtain ⟨c_b0, c_b1, f_b0, f_b1⟩ := reads2 r_b.out
    have l_b := r_b.out.lt
    go_wp2_with fail
    clear c_a0 c_a1 f_a0 f_a1 l_a c_b0 c_b1 f_b0 f_b1 l_b
    have d_s := Lib.hid (And.intro BB.out.size (And.intro r_a.out.lt (And.intro r_b.out.lt (And.intro r_p.out.lt (And.intro r_q.out.lt (True.intro))))))
    obtain ⟨hb, r_s⟩ := laid w3 #[.int .i64 xh, .int .u64 xl] 24
    replace r_a := Lib.hid (r_a.out.keep hb)
    replace r_b := Lib.hid (r_b.out.keep hb)
    replace r_p := Lib.hid (r_p.out.keep hb)
    replace r_q := Lib.hid (r_q.out.keep hb)
    replace h_p := Lib.hid (h_p.out.below hb)
    replace h_q := Lib.hid (h_q.out.below hb)
    replace BB := Lib.hid (below_next BB.out hb)
    replace r_s := Lib.hid r_s
    clear hb
    generalize w3.alloc (.cells #[.int .i64 xh, .int .u64 xl] 24) = w4 at *
    generalize w3.heap.size = g_s at *
    refine (S2.out _).mono ?_
    rintro e w5 ⟨yh, yl, yo, rfl, hb, hd⟩
    replace r_a := Lib.hid (r_a.out.keep hb)
    replace r_b := Lib.hid (r_b.out.keep hb)
    replace r_p := Lib.hid (r_p.out.keep hb)
    replace r_q := Lib.hid (r_q.out.keep hb)
    replace r_s := Lib.hid (r_s.out.keep hb)
    replace h_p := Lib.hid (h_p.out.below hb)
    replace h_q := Lib.hid (h_q.out.below hb)
    replace BB := Lib.hid (below_next BB.out hb)
    clear hb
    have HD := Lib.hid hd
    clear hd
    obtain ⟨c_a0, c_a1, f_a0, f_a1⟩ := reads2 r_a.out
    have l_a := r_a.out.lt
    obtain ⟨c_b0, c_b1, f_b0, f_b1⟩ := reads2 r_b.out
    have l_b := r_b.out.lt
    go_wp2_with fail
    clear c_a0 c_a1 f_a0 f_a1 l_a c_b0 c_b1 f_b0 f_b1 l_b
    have d_d := Lib.hid (And.intro BB.out.size (And.intro r_a.out.lt (And.intro r_b.out.lt (And.intro r_p.out.lt (And.intro r_q.out.lt (And.intro r_s.out.lt (True.intro)))))))
    obtain ⟨hb, r_d⟩ := laid w5 #[.int .i64 yh, .int .u64 yl] 24
    replace r_a := Lib.hid (r_a.out.keep hb)
    replace r_b := Lib.hid (r_b.out.keep hb)
    replace r_p := Lib.hid (r_p.out.keep hb)
    replace r_q := Lib.hid (r_q.out.keep hb)
    replace r_s := Lib.hid (r_s.out.keep hb)
    replace h_p := Lib.hid (h_p.out.below hb)
    replace h_q := Lib.hid (h_q.out.below hb)
    replace BB := Lib.hid (below_next BB.out hb)
    replace r_d := Lib.hid r_d
    clear hb
    generalize w5.alloc (.cells #[.int .i64 yh, .int .u64 yl] 24) = w6 at *
    generalize w5.heap.size = g_d at *
    refine (S3.out _).mono ?_
    rintro e w7 ⟨zh, zl, zo, rfl, hb, hn⟩
    replace r_a := Lib.hid (r_a.out.keep hb)
    replace r_b := Lib.hid (r_b.out.keep hb)
    replace r_p := Lib.hid (r_p.out.keep hb)
    replace r_q := Lib.hid (r_q.out.keep hb)
    replace r_s := Lib.hid (r_s.out.keep hb)
    replace r_d := Lib.hid (r_d.out.keep hb)
    replace h_p := Lib.hid (h_p.out.below hb)
    replace h_q := Lib.hid (h_q.out.below hb)
    replace BB := Lib.hid (below_next BB.out hb)
    clear hb
    have HN := Lib.hid hn
    clear hn
    go_wp2_with fail
    have d_n := Lib.hid (And.intro BB.out.size (And.intro r_a.out.lt (And.intro r_b.out.lt (And.intro r_p.out.lt (And.intro r_q.out.lt (And.intro r_s.out.lt (And.intro r_d.out.lt (True.intro))))))))
    obtain ⟨hb, r_n⟩ := laid w7 #[.int .i64 zh, .int .u64 zl] 24
    replace r_a := Lib.hid (r_a.out.keep hb)
    replace r_b := Lib.hid (r_b.out.keep hb)
    replace r_p := Lib.hid (r_p.out.keep hb)
    replace r_q := Lib.hid (r_q.out.keep hb)
    replace r_s := Lib.hid (r_s.out.keep hb)
    replace r_d := Lib.hid (r_d.out.keep hb)
    replace h_p := Lib.hid (h_p.out.below hb)
    replace h_q := Lib.hid (h_q.out.below hb)
    replace BB := Lib.hid (below_next BB.out hb)
    replace r_n := Lib.hid r_n
    clear hb
    generalize w7.alloc (.cells #[.int .i64 zh, .int .u64 zl] 24) = w8 at *
    generalize w7.heap.size = g_n at *
    have KK := Lib.hid (fun (w9 : World) (h : Below w8.heap.size w8 w9) => (⟨cells2 (r_p.out.keep h), cells2 (r_q.out.keep h), cells2 (r_s.out.keep h), cells2 (r_d.out.keep h), cells2 (r_n.out.keep h)⟩ : (w9.cell? ⟨gp, 0, none⟩ = some (.bool (sgn a)) ∧ w9.cell? ⟨gp, 1, none⟩ = some (.slice A1 n1 c1)) ∧ (w9.cell? ⟨gq, 0, none⟩ = some (.bool (sgn b)) ∧ w9.cell? ⟨gq, 1, none⟩ = some (.slice A2 n2 c2)) ∧ (w9.cell? ⟨g_s, 0, none⟩ = some (.int .i64 xh) ∧ w9.cell? ⟨g_s, 1, none⟩ = some (.int .u64 xl)) ∧ (w9.cell? ⟨g_d, 0, none⟩ = some (.int .i64 yh) ∧ w9.cell? ⟨g_d, 1, none⟩ = some (.int .u64 yl)) ∧ (w9.cell? ⟨g_n, 0, none⟩ = some (.int .i64 zh) ∧ w9.cell? ⟨g_n, 1, none⟩ = some (.int .u64 zl))))
    have K0 := KK.out w8 (Below.refl _ _)
    have KD := KK.out w8.drew (below_drew (Below.refl _ _))
    have tok1 : Hid True := trivial
    have tok3 : Hid True := trivial
    have tok5 : Hid True := trivial
    have tok8 : Hid True := trivial
    go_region_held3 (fun w9 => (w9.cell? ⟨gp, 0, none⟩ = some (.bool (sgn a)) ∧ w9.cell? ⟨gp, 1, none⟩ = some (.slice A1 n1 c1)) ∧ (w9.cell? ⟨gq, 0, none⟩ = some (.bool (sgn b)) ∧ w9.cell? ⟨gq, 1, none⟩ = some (.slice A2 n2 c2)) ∧ (w9.cell? ⟨g_s, 0, none⟩ = some (.int .i64 xh) ∧ w9.cell? ⟨g_s, 1, none⟩ = some (.int .u64 xl)) ∧ (w9.cell? ⟨g_d, 0, none⟩ = some (.int .i64 yh) ∧ w9.cell? ⟨g_d, 1, none⟩ = some (.int .u64 yl)) ∧ (w9.cell? ⟨g_n, 0, none⟩ = some (.int .i64 zh) ∧ w9.cell? ⟨g_n, 1, none⟩ = some (.int .u64 zl)))
        (first | with_reducible exact KD | with_reducible exact K0 | with_reducible exact K_w9 | with_reducible exact K_w10 | with_reducible exact K_w11 | with_reducible exact K_w12 | with_reducible exact K_w13 | with_reducible exact K_w14 | with_reducible exact K_w15 | with_reducible exact K_w16 | with_reducible exact K_w17 | with_reducible exact K_w18)
        (first
          | (go_at_call 20
             refine (P1.out _ _ _ (h_p.out.below ?_) (h_q.out.below ?_)).mono ?_
             · repeat (first | with_reducible exact Below.refl _ _ | with_reducible apply below_drew | with_reducible apply below_new)
             · repeat (first | with_reducible exact Below.refl _ _ | with_reducible apply below_drew | with_reducible apply below_new)
             rintro e w9 ⟨v_ra, rfl, hb, h_ra⟩
             obtain ⟨A_ra, n_ra, cap_ra, rfl, -⟩ := id h_ra.form
             replace h_ra := Lib.hid h_ra
             have B_w9 := Lib.hid (reg_next (w0 := w8) (by repeat (first | with_reducible exact Below.refl _ _ | with_reducible apply below_drew | with_reducible apply below_new)) hb)
             have K_w9 := KK.out _ B_w9.out
             clear hb)
          | (go_at_call 19
             have t_k := tok1
             refine (T1.out _ _ _ _ _ h_ra.out HS.out).mono ?_
             rintro e w10 ⟨rfl, hb⟩
             replace h_ra := Lib.hid (h_ra.out.below hb)
             have B_w10 := Lib.hid (below_next B_w9.out hb)
             have K_w10 := KK.out _ B_w10.out
             clear hb
             clear t_k tok1)
          | (go_at_call 21
             refine (P2.out _ _ _ (h_p.out.below B_w10.out) (h_q.out.below B_w10.out)).mono ?_
             rintro e w11 ⟨v_rs, rfl, hb, h_rs⟩
             obtain ⟨A_rs, n_rs, cap_rs, rfl, -⟩ := id h_rs.form
             replace h_rs := Lib.hid h_rs
             replace h_ra := Lib.hid (h_ra.out.below hb)
             have B_w11 := Lib.hid (below_next B_w10.out hb)
             have K_w11 := KK.out _ B_w11.out
             clear hb)
          | (go_at_call 19
             have t_k := tok3
             refine (T2.out _ _ _ _ _ h_rs.out HD.out).mono ?_
             rintro e w12 ⟨rfl, hb⟩
             replace h_ra := Lib.hid (h_ra.out.below hb)
             replace h_rs := Lib.hid (h_rs.out.below hb)
             have B_w12 := Lib.hid (below_next B_w11.out hb)
             have K_w12 := KK.out _ B_w12.out
             clear hb
             clear t_k tok3)
          | (go_at_call 22
             refine (P3.out _ _ (h_p.out.below B_w12.out)).mono ?_
             rintro e w13 ⟨v_rn, rfl, hb, h_rn⟩
             obtain ⟨A_rn, n_rn, cap_rn, rfl, -⟩ := id h_rn.form
             replace h_rn := Lib.hid h_rn
             replace h_ra := Lib.hid (h_ra.out.below hb)
             replace h_rs := Lib.hid (h_rs.out.below hb)
             have B_w13 := Lib.hid (below_next B_w12.out hb)
             have K_w13 := KK.out _ B_w13.out
             clear hb)
          | (go_at_call 19
             have t_k := tok5
             refine (T3.out _ _ _ _ _ h_rn.out HN.out).mono ?_
             rintro e w14 ⟨rfl, hb⟩
             replace h_ra := Lib.hid (h_ra.out.below hb)
             replace h_rs := Lib.hid (h_rs.out.below hb)
             replace h_rn := Lib.hid (h_rn.out.below hb)
             have B_w14 := Lib.hid (below_next B_w13.out hb)
             have K_w14 := KK.out _ B_w14.out
             clear hb
             clear t_k tok5)
          | (go_at_call 23
             refine (S4.out _).mono ?_
             rintro e w15 ⟨oh, ol, rfl, hb, ho⟩
             replace h_ra := Lib.hid (h_ra.out.below hb)
             replace h_rs := Lib.hid (h_rs.out.below hb)
             replace h_rn := Lib.hid (h_rn.out.below hb)
             have B_w15 := Lib.hid (below_next B_w14.out hb)
             have K_w15 := KK.out _ B_w15.out
             clear hb)
          | (go_at_call 24
             refine (CX.out _).mono ?_
             rintro e w16 ⟨v_ro, rfl, hb, h_ro⟩
             obtain ⟨A_ro, n_ro, cap_ro, rfl, -⟩ := id h_ro.form
             replace h_ro := Lib.hid h_ro
             replace h_ra := Lib.hid (h_ra.out.below hb)
             replace h_rs := Lib.hid (h_rs.out.below hb)
             replace h_rn := Lib.hid (h_rn.out.below hb)
             have B_w16 := Lib.hid (below_next B_w15.out hb)
             have K_w16 := KK.out _ B_w16.out
             clear hb)
          | (go_at_call 19
             have t_k := tok8
             refine (T4.out _ _ _ _ h_ro.out ho).mono ?_
             rintro e w17 ⟨rfl, hb⟩
             replace h_ra := Lib.hid (h_ra.out.below hb)
             replace h_rs := Lib.hid (h_rs.out.below hb)
             replace h_rn := Lib.hid (h_rn.out.below hb)
             replace h_ro := Lib.hid (h_ro.out.below hb)
             have B_w17 := Lib.hid (below_next B_w16.out hb)
             have K_w17 := KK.out _ B_w17.out
             clear hb
             clear t_k tok8)
          | (go_at_call 25
             refine (CL.out _).mono ?_
             rintro e w18 ⟨rfl, hb⟩
             replace h_ra := Lib.hid (h_ra.out.below hb)
             replace h_rs := Lib.hid (h_rs.out.below hb)
             replace h_rn := Lib.hid (h_rn.out.below hb)
             replace h_ro := Lib.hid (h_ro.out.below hb)
             have B_w18 := Lib.hid (below_next B_w17.out hb)
             have K_w18 := KK.out _ B_w18.out
             clear hb))
    clear KK K0 KD K_w9 K_w10 K_w11 K_w12 K_w13 K_w14 K_w15 K_w16 K_w17 K_w18
    replace r_a := Lib.hid (r_a.out.keep B_w18.out)
    replace r_b := Lib.hid (r_b.out.keep B_w18.out)
    replace r_p := Lib.hid (r_p.out.keep B_w18.out)
    replace r_q := Lib.hid (r_q.out.keep B_w18.out)
    replace r_s := Lib.hid (r_s.out.keep B_w18.out)
    replace r_d := Lib.hid (r_d.out.keep B_w18.out)
    replace r_n := Lib.hid (r_n.out.keep B_w18.out)
    replace h_p := Lib.hid (h_p.out.below B_w18.out)
    replace h_q := Lib.hid (h_q.out.below B_w18.out)
    replace BB := Lib.hid (below_next BB.out B_w18.out)
    clear B_w9 B_w10 B_w11 B_w12 B_w13 B_w14 B_w15 B_w16 B_w17 B_w18
    go_wp2_with fail
    go_ret
    exact ⟨rfl, BB.out⟩

end Go.Proofs.Ytalihekeipbafaa
