/- Walk of the law WideShifts. -/
import Derived.Test.YtalihekeipbafaaAlive1
import Derived.Test.YtalihekeipbafaaTold
import Derived.Test.YtalihekeipbafaaWShift
set_option linter.unusedVariables false
namespace Go.Proofs.Ytalihekeipbafaa
open Go.RowKit

theorem shl_300 {x : Int} {n m : Nat} {hi lo : Int} {ok : Bool} (hm : m = n ∨ 300 ≤ n ∧ m = 300) (h : WB (x * 2 ^ n) hi lo ok) : WB (x * 2 ^ m) hi lo ok := by
  rcases hm with rfl | ⟨h1, rfl⟩
  · exact h
  · by_cases hx : x = 0
    · subst hx; rw [Int.zero_mul] at *; exact h
    · rcases h with ⟨h, _⟩ | ⟨_, h⟩
      · exact absurd h (not_room hx (by omega))
      · exact .inr ⟨not_room hx (by omega), h⟩
theorem shr_300 {x : Int} (hx : I128 x) {n m : Nat} (hm : m = n ∨ 300 ≤ n ∧ m = 300) : x / 2 ^ n = x / 2 ^ m := by
  rcases hm with rfl | ⟨h1, rfl⟩
  · rfl
  · have h := W128.mk hx
    rw [div_half h (by omega), div_half h (by omega), div_far h.1 (by omega), div_far h.1 (by omega)]

set_option maxRecDepth 100000 in
theorem wshl_neg (ah al n : Int) (hn : n < 0) (w : World) : Calls Try.prog 36 #[wv ah al, .int .i64 n] w fun e w' => e = .returned (.tuple #[wv 0 0, .bool false]) ∧ Below w.heap.size w w' := by
  go_enter Try.func36, Try.ntmps36
  go_wp2
  exact bodyPost_ret (v := .tuple #[wv 0 0, .bool false]) (by unfold results; simp only [Try.results36]; go_simp) rfl ⟨rfl, below_new (below_new (Below.refl _ _) _) _⟩

set_option maxHeartbeats 4000000 in
set_option maxRecDepth 100000 in
theorem wideShifts_pos (ah al : Int) (n m : Nat) (a1 : I64 ah) (a2 : U64 al) (hn : n ≤ 9223372036854775807) (hm : m ≤ 300) (hmn : m = n ∨ 300 ≤ n ∧ m = 300) (w : World) :
    Calls Try.prog 7 #[wv ah al, .int .i64 (n : Int)] w fun e w' => e = .returned (.bool true) ∧ Below w.heap.size w w' := by
  obtain ⟨a, ha⟩ : ∃ a, W128 a ah al := ⟨_, a1, a2, rfl⟩
  have wa := i128_wd ha.room
  have C1 := Lib.hid (fun w => wshl a ah al n hn ha w)
  have C2 := Lib.hid (fun w => wshr a ah al n hn ha w)
  have CP := Lib.hid (fun w => pow_any m (by omega) w)
  have CB := Lib.hid (fun w => lbig_any a ah al ha w)
  have P1 := Lib.hid (fun (u v : Value) w1 (hu : BR w1 u a) (hv : BR w1 v ((2 : Int) ^ m)) => mul_any u v a _ w1 hu hv (wa.mid (by omega)) ((wd_two m).mid (by omega)))
  have P2 := Lib.hid (fun (u v : Value) w1 (hu : BR w1 u a) (hv : BR w1 v ((2 : Int) ^ m)) => floor_any u v a _ w1 hu hv (wa.mid (by omega)) ((wd_two m).low (by omega)) (by have := two_pos m; omega))
  have T1 := Lib.hid (fun (v : Value) hi lo ok w1 (hv : BR w1 v (a * 2 ^ m)) (h : WB (a * 2 ^ m) hi lo ok) => told_any v _ hi lo ok w1 hv ((wa.mul (wd_two m)).up (by omega)) h)
  have T2 := Lib.hid (fun (v : Value) hi lo w1 (hv : BR w1 v (a.fdiv (2 ^ m))) (h : W128 (a.fdiv (2 ^ m)) hi lo) => told_any v _ hi lo true w1 hv (wa.fdiv.up (by omega)) (.inl ⟨h.room, rfl, h⟩))
  have CA := Lib.hid (fun w => alive1_any w)
  have SL := Lib.hid (fun hi lo ok (h : WB (a * 2 ^ n) hi lo ok) => shl_300 hmn h)
  have SR := Lib.hid (show a / 2 ^ n = a.fdiv (2 ^ m) by rw [shr_300 ha.room hmn, Int.fdiv_eq_ediv_of_nonneg _ (by have := two_pos m; omega)])
  have hlt : (n : Int) < 300 ∧ (m : Int) = n ∨ (300 : Int) < n ∧ m = 300 ∨ (¬ (n : Int) < 300 ∧ ¬ (300 : Int) < n) ∧ (m : Int) = n := by omega
  have HM := Lib.hid hlt
  clear wa ha a1 a2 hmn hlt
  generalize a.fdiv (2 ^ m) = fl at *
  generalize a * 2 ^ m = mu at *
  generalize a * 2 ^ n = mn at *
  generalize a / 2 ^ n = dn at *
  generalize hp : (2 : Int) ^ m = p at *
  clear hp
  have hn0 : ¬ (n : Int) < 0 := by omega
  go_enter Try.func7, Try.ntmps7
  go_wp2_with fail
  have BB := start1 w #[.int .i64 ah, .int .u64 al] 24
  obtain ⟨BB, hsz, r_a⟩ := BB
  generalize (w.alloc (.cells #[.int .i64 ah, .int .u64 al] 24)) = w0 at *
  replace BB := Lib.hid BB
  replace r_a := Lib.hid r_a
  clear hsz
  refine (C1.out _).mono ?_
  rintro e w1 ⟨lh, ll, ok, rfl, hb, hs⟩
  replace r_a := Lib.hid (r_a.out.keep hb)
  replace BB := Lib.hid (below_next BB.out hb)
  clear hb
  have HL := Lib.hid (SL.out _ _ _ hs)
  clear hs SL
  obtain ⟨c_a0, c_a1, f_a0, f_a1⟩ := reads2 r_a.out
  have l_a := r_a.out.lt
  go_wp2_with fail
  clear c_a0 c_a1 f_a0 f_a1 l_a
  have d_l := Lib.hid (And.intro BB.out.size (And.intro r_a.out.lt (True.intro)))
  obtain ⟨hb, r_l⟩ := laid w1 #[.int .i64 lh, .int .u64 ll] 24
  replace r_a := Lib.hid (r_a.out.keep hb)
  replace BB := Lib.hid (below_next BB.out hb)
  replace r_l := Lib.hid r_l
  clear hb
  generalize w1.alloc (.cells #[.int .i64 lh, .int .u64 ll] 24) = w2 at *
  generalize w1.heap.size = g_l at *
  refine (C2.out _).mono ?_
  rintro e w3 ⟨rh, rl, rfl, hb, hr⟩
  replace r_a := Lib.hid (r_a.out.keep hb)
  replace r_l := Lib.hid (r_l.out.keep hb)
  replace BB := Lib.hid (below_next BB.out hb)
  clear hb
  rw [SR.out] at hr
  have HR := Lib.hid hr
  clear hr SR
  rcases HM.out with ⟨h3, h4⟩ | ⟨h3, h4⟩ | ⟨⟨h3, h5⟩, h4⟩
  · rw [h4] at CP
    clear h4 HM
    go_wp2_with fail
    have d_r := Lib.hid (And.intro BB.out.size (And.intro r_a.out.lt (And.intro r_l.out.lt (True.intro))))
    obtain ⟨hb, r_r⟩ := laid w3 #[.int .i64 rh, .int .u64 rl] 24
    replace r_a := Lib.hid (r_a.out.keep hb)
    replace r_l := Lib.hid (r_l.out.keep hb)
    replace BB := Lib.hid (below_next BB.out hb)
    replace r_r := Lib.hid r_r
    clear hb
    generalize w3.alloc (.cells #[.int .i64 rh, .int .u64 rl] 24) = w4 at *
    generalize w3.heap.size = g_r at *
    refine (CP.out _).mono ?_
    rintro e w5 ⟨v_p, rfl, hb, h_p⟩
    obtain ⟨A_p, n_p, cap_p, rfl, -⟩ := id h_p.form
    replace h_p := Lib.hid h_p
    replace r_a := Lib.hid (r_a.out.keep hb)
    replace r_l := Lib.hid (r_l.out.keep hb)
    replace r_r := Lib.hid (r_r.out.keep hb)
    replace BB := Lib.hid (below_next BB.out hb)
    clear hb
    go_wp2_with fail
    have d_p := Lib.hid (And.intro BB.out.size (And.intro r_a.out.lt (And.intro r_l.out.lt (And.intro r_r.out.lt (True.intro)))))
    obtain ⟨hb, r_p⟩ := laid w5 #[.bool (sgn (p)), .slice A_p n_p cap_p] 27
    replace r_a := Lib.hid (r_a.out.keep hb)
    replace r_l := Lib.hid (r_l.out.keep hb)
    replace r_r := Lib.hid (r_r.out.keep hb)
    replace h_p := Lib.hid (h_p.out.below hb)
    replace BB := Lib.hid (below_next BB.out hb)
    replace r_p := Lib.hid r_p
    clear hb
    generalize w5.alloc (.cells #[.bool (sgn (p)), .slice A_p n_p cap_p] 27) = w6 at *
    generalize w5.heap.size = g_p at *
    have KK := Lib.hid (fun (w9 : World) (h : Below w6.heap.size w6 w9) => (⟨cells2 (r_a.out.keep h), cells2 (r_l.out.keep h), cells2 (r_r.out.keep h), cells2 (r_p.out.keep h)⟩ : (w9.cell? ⟨w.heap.size, 0, none⟩ = some (.int .i64 ah) ∧ w9.cell? ⟨w.heap.size, 1, none⟩ = some (.int .u64 al)) ∧ (w9.cell? ⟨g_l, 0, none⟩ = some (.int .i64 lh) ∧ w9.cell? ⟨g_l, 1, none⟩ = some (.int .u64 ll)) ∧ (w9.cell? ⟨g_r, 0, none⟩ = some (.int .i64 rh) ∧ w9.cell? ⟨g_r, 1, none⟩ = some (.int .u64 rl)) ∧ (w9.cell? ⟨g_p, 0, none⟩ = some (.bool (sgn (p))) ∧ w9.cell? ⟨g_p, 1, none⟩ = some (.slice A_p n_p cap_p))))
    have K0 := KK.out w6 (Below.refl _ _)
    have KD := KK.out w6.drew (below_drew (Below.refl _ _))
    have tok0 : Hid True := trivial
    have tok2 : Hid True := trivial
    have tok3 : Hid True := trivial
    have tok5 : Hid True := trivial
    go_region_held3 (fun w9 => (w9.cell? ⟨w.heap.size, 0, none⟩ = some (.int .i64 ah) ∧ w9.cell? ⟨w.heap.size, 1, none⟩ = some (.int .u64 al)) ∧ (w9.cell? ⟨g_l, 0, none⟩ = some (.int .i64 lh) ∧ w9.cell? ⟨g_l, 1, none⟩ = some (.int .u64 ll)) ∧ (w9.cell? ⟨g_r, 0, none⟩ = some (.int .i64 rh) ∧ w9.cell? ⟨g_r, 1, none⟩ = some (.int .u64 rl)) ∧ (w9.cell? ⟨g_p, 0, none⟩ = some (.bool (sgn (p))) ∧ w9.cell? ⟨g_p, 1, none⟩ = some (.slice A_p n_p cap_p)))
        (first | with_reducible exact KD | with_reducible exact K0 | with_reducible exact K_w7 | with_reducible exact K_w8 | with_reducible exact K_w9 | with_reducible exact K_w10 | with_reducible exact K_w11 | with_reducible exact K_w12 | with_reducible exact K_w13)
        (first
          | (go_at_call 15
             have t_k := tok0
             refine (CB.out _).mono ?_
             rintro e w7 ⟨v_b, rfl, hb, h_b⟩
             obtain ⟨A_b, n_b, cap_b, rfl, -⟩ := id h_b.form
             replace h_b := Lib.hid h_b
             have B_w7 := Lib.hid (reg_next (w0 := w6) (by repeat (first | with_reducible exact Below.refl _ _ | with_reducible apply below_drew | with_reducible apply below_new)) hb)
             have K_w7 := KK.out _ B_w7.out
             clear hb
             clear t_k tok0)
          | (go_at_call 28
             refine (P1.out _ _ _ h_b.out (h_p.out.below B_w7.out)).mono ?_
             rintro e w8 ⟨v_q, rfl, hb, h_q⟩
             obtain ⟨A_q, n_q, cap_q, rfl, -⟩ := id h_q.form
             replace h_q := Lib.hid h_q
             replace h_b := Lib.hid (h_b.out.below hb)
             have B_w8 := Lib.hid (below_next B_w7.out hb)
             have K_w8 := KK.out _ B_w8.out
             clear hb)
          | (go_at_call 19
             have t_k := tok2
             refine (T1.out _ _ _ _ _ h_q.out HL.out).mono ?_
             rintro e w9 ⟨rfl, hb⟩
             replace h_b := Lib.hid (h_b.out.below hb)
             replace h_q := Lib.hid (h_q.out.below hb)
             have B_w9 := Lib.hid (below_next B_w8.out hb)
             have K_w9 := KK.out _ B_w9.out
             clear hb
             clear t_k tok2)
          | (go_at_call 15
             have t_k := tok3
             refine (CB.out _).mono ?_
             rintro e w10 ⟨v_b2, rfl, hb, h_b2⟩
             obtain ⟨A_b2, n_b2, cap_b2, rfl, -⟩ := id h_b2.form
             replace h_b2 := Lib.hid h_b2
             replace h_b := Lib.hid (h_b.out.below hb)
             replace h_q := Lib.hid (h_q.out.below hb)
             have B_w10 := Lib.hid (below_next B_w9.out hb)
             have K_w10 := KK.out _ B_w10.out
             clear hb
             clear t_k tok3)
          | (go_at_call 39
             refine (P2.out _ _ _ h_b2.out (h_p.out.below B_w10.out)).mono ?_
             rintro e w11 ⟨v_f, rfl, hb, h_f⟩
             obtain ⟨A_f, n_f, cap_f, rfl, -⟩ := id h_f.form
             replace h_f := Lib.hid h_f
             replace h_b := Lib.hid (h_b.out.below hb)
             replace h_q := Lib.hid (h_q.out.below hb)
             replace h_b2 := Lib.hid (h_b2.out.below hb)
             have B_w11 := Lib.hid (below_next B_w10.out hb)
             have K_w11 := KK.out _ B_w11.out
             clear hb)
          | (go_at_call 19
             have t_k := tok5
             refine (T2.out _ _ _ _ h_f.out HR.out).mono ?_
             rintro e w12 ⟨rfl, hb⟩
             replace h_b := Lib.hid (h_b.out.below hb)
             replace h_q := Lib.hid (h_q.out.below hb)
             replace h_b2 := Lib.hid (h_b2.out.below hb)
             replace h_f := Lib.hid (h_f.out.below hb)
             have B_w12 := Lib.hid (below_next B_w11.out hb)
             have K_w12 := KK.out _ B_w12.out
             clear hb
             clear t_k tok5)
          | (go_at_call 25
             refine (CA.out _).mono ?_
             rintro e w13 ⟨rfl, hb⟩
             replace h_b := Lib.hid (h_b.out.below hb)
             replace h_q := Lib.hid (h_q.out.below hb)
             replace h_b2 := Lib.hid (h_b2.out.below hb)
             replace h_f := Lib.hid (h_f.out.below hb)
             have B_w13 := Lib.hid (below_next B_w12.out hb)
             have K_w13 := KK.out _ B_w13.out
             clear hb))
    clear KK K0 KD K_w7 K_w8 K_w9 K_w10 K_w11 K_w12 K_w13
    replace r_a := Lib.hid (r_a.out.keep B_w13.out)
    replace r_l := Lib.hid (r_l.out.keep B_w13.out)
    replace r_r := Lib.hid (r_r.out.keep B_w13.out)
    replace r_p := Lib.hid (r_p.out.keep B_w13.out)
    replace h_p := Lib.hid (h_p.out.below B_w13.out)
    replace BB := Lib.hid (below_next BB.out B_w13.out)
    clear B_w7 B_w8 B_w9 B_w10 B_w11 B_w12 B_w13
    go_wp2_with fail
    go_ret
    exact ⟨rfl, BB.out⟩
  · subst h4
    clear HM
    go_wp2_with fail
    have d_r := Lib.hid (And.intro BB.out.size (And.intro r_a.out.lt (And.intro r_l.out.lt (True.intro))))
    obtain ⟨hb, r_r⟩ := laid w3 #[.int .i64 rh, .int .u64 rl] 24
    replace r_a := Lib.hid (r_a.out.keep hb)
    replace r_l := Lib.hid (r_l.out.keep hb)
    replace BB := Lib.hid (below_next BB.out hb)
    replace r_r := Lib.hid r_r
    clear hb
    generalize w3.alloc (.cells #[.int .i64 rh, .int .u64 rl] 24) = w4 at *
    generalize w3.heap.size = g_r at *
    refine (CP.out _).mono ?_
    rintro e w5 ⟨v_p, rfl, hb, h_p⟩
    obtain ⟨A_p, n_p, cap_p, rfl, -⟩ := id h_p.form
    replace h_p := Lib.hid h_p
    replace r_a := Lib.hid (r_a.out.keep hb)
    replace r_l := Lib.hid (r_l.out.keep hb)
    replace r_r := Lib.hid (r_r.out.keep hb)
    replace BB := Lib.hid (below_next BB.out hb)
    clear hb
    go_wp2_with fail
    have d_p := Lib.hid (And.intro BB.out.size (And.intro r_a.out.lt (And.intro r_l.out.lt (And.intro r_r.out.lt (True.intro)))))
    obtain ⟨hb, r_p⟩ := laid w5 #[.bool (sgn (p)), .slice A_p n_p cap_p] 27
    replace r_a := Lib.hid (r_a.out.keep hb)
    replace r_l := Lib.hid (r_l.out.keep hb)
    replace r_r := Lib.hid (r_r.out.keep hb)
    replace h_p := Lib.hid (h_p.out.below hb)
    replace BB := Lib.hid (below_next BB.out hb)
    replace r_p := Lib.hid r_p
    clear hb
    generalize w5.alloc (.cells #[.bool (sgn (p)), .slice A_p n_p cap_p] 27) = w6 at *
    generalize w5.heap.size = g_p at *
    have KK := Lib.hid (fun (w9 : World) (h : Below w6.heap.size w6 w9) => (⟨cells2 (r_a.out.keep h), cells2 (r_l.out.keep h), cells2 (r_r.out.keep h), cells2 (r_p.out.keep h)⟩ : (w9.cell? ⟨w.heap.size, 0, none⟩ = some (.int .i64 ah) ∧ w9.cell? ⟨w.heap.size, 1, none⟩ = some (.int .u64 al)) ∧ (w9.cell? ⟨g_l, 0, none⟩ = some (.int .i64 lh) ∧ w9.cell? ⟨g_l, 1, none⟩ = some (.int .u64 ll)) ∧ (w9.cell? ⟨g_r, 0, none⟩ = some (.int .i64 rh) ∧ w9.cell? ⟨g_r, 1, none⟩ = some (.int .u64 rl)) ∧ (w9.cell? ⟨g_p, 0, none⟩ = some (.bool (sgn (p))) ∧ w9.cell? ⟨g_p, 1, none⟩ = some (.slice A_p n_p cap_p))))
    have K0 := KK.out w6 (Below.refl _ _)
    have KD := KK.out w6.drew (below_drew (Below.refl _ _))
    have tok0 : Hid True := trivial
    have tok2 : Hid True := trivial
    have tok3 : Hid True := trivial
    have tok5 : Hid True := trivial
    go_region_held3 (fun w9 => (w9.cell? ⟨w.heap.size, 0, none⟩ = some (.int .i64 ah) ∧ w9.cell? ⟨w.heap.size, 1, none⟩ = some (.int .u64 al)) ∧ (w9.cell? ⟨g_l, 0, none⟩ = some (.int .i64 lh) ∧ w9.cell? ⟨g_l, 1, none⟩ = some (.int .u64 ll)) ∧ (w9.cell? ⟨g_r, 0, none⟩ = some (.int .i64 rh) ∧ w9.cell? ⟨g_r, 1, none⟩ = some (.int .u64 rl)) ∧ (w9.cell? ⟨g_p, 0, none⟩ = some (.bool (sgn (p))) ∧ w9.cell? ⟨g_p, 1, none⟩ = some (.slice A_p n_p cap_p)))
        (first | with_reducible exact KD | with_reducible exact K0 | with_reducible exact K_w7 | with_reducible exact K_w8 | with_reducible exact K_w9 | with_reducible exact K_w10 | with_reducible exact K_w11 | with_reducible exact K_w12 | with_reducible exact K_w13)
        (first
          | (go_at_call 15
             have t_k := tok0
             refine (CB.out _).mono ?_
             rintro e w7 ⟨v_b, rfl, hb, h_b⟩
             obtain ⟨A_b, n_b, cap_b, rfl, -⟩ := id h_b.form
             replace h_b := Lib.hid h_b
             have B_w7 := Lib.hid (reg_next (w0 := w6) (by repeat (first | with_reducible exact Below.refl _ _ | with_reducible apply below_drew | with_reducible apply below_new)) hb)
             have K_w7 := KK.out _ B_w7.out
             clear hb
             clear t_k tok0)
          | (go_at_call 28
             refine (P1.out _ _ _ h_b.out (h_p.out.below B_w7.out)).mono ?_
             rintro e w8 ⟨v_q, rfl, hb, h_q⟩
             obtain ⟨A_q, n_q, cap_q, rfl, -⟩ := id h_q.form
             replace h_q := Lib.hid h_q
             replace h_b := Lib.hid (h_b.out.below hb)
             have B_w8 := Lib.hid (below_next B_w7.out hb)
             have K_w8 := KK.out _ B_w8.out
             clear hb)
          | (go_at_call 19
             have t_k := tok2
             refine (T1.out _ _ _ _ _ h_q.out HL.out).mono ?_
             rintro e w9 ⟨rfl, hb⟩
             replace h_b := Lib.hid (h_b.out.below hb)
             replace h_q := Lib.hid (h_q.out.below hb)
             have B_w9 := Lib.hid (below_next B_w8.out hb)
             have K_w9 := KK.out _ B_w9.out
             clear hb
             clear t_k tok2)
          | (go_at_call 15
             have t_k := tok3
             refine (CB.out _).mono ?_
             rintro e w10 ⟨v_b2, rfl, hb, h_b2⟩
             obtain ⟨A_b2, n_b2, cap_b2, rfl, -⟩ := id h_b2.form
             replace h_b2 := Lib.hid h_b2
             replace h_b := Lib.hid (h_b.out.below hb)
             replace h_q := Lib.hid (h_q.out.below hb)
             have B_w10 := Lib.hid (below_next B_w9.out hb)
             have K_w10 := KK.out _ B_w10.out
             clear hb
             clear t_k tok3)
          | (go_at_call 39
             refine (P2.out _ _ _ h_b2.out (h_p.out.below B_w10.out)).mono ?_
             rintro e w11 ⟨v_f, rfl, hb, h_f⟩
             obtain ⟨A_f, n_f, cap_f, rfl, -⟩ := id h_f.form
             replace h_f := Lib.hid h_f
             replace h_b := Lib.hid (h_b.out.below hb)
             replace h_q := Lib.hid (h_q.out.below hb)
             replace h_b2 := Lib.hid (h_b2.out.below hb)
             have B_w11 := Lib.hid (below_next B_w10.out hb)
             have K_w11 := KK.out _ B_w11.out
             clear hb)
          | (go_at_call 19
             have t_k := tok5
             refine (T2.out _ _ _ _ h_f.out HR.out).mono ?_
             rintro e w12 ⟨rfl, hb⟩
             replace h_b := Lib.hid (h_b.out.below hb)
             replace h_q := Lib.hid (h_q.out.below hb)
             replace h_b2 := Lib.hid (h_b2.out.below hb)
             replace h_f := Lib.hid (h_f.out.below hb)
             have B_w12 := Lib.hid (below_next B_w11.out hb)
             have K_w12 := KK.out _ B_w12.out
             clear hb
             clear t_k tok5)
          | (go_at_call 25
             refine (CA.out _).mono ?_
             rintro e w13 ⟨rfl, hb⟩
             replace h_b := Lib.hid (h_b.out.below hb)
             replace h_q := Lib.hid (h_q.out.below hb)
             replace h_b2 := Lib.hid (h_b2.out.below hb)
             replace h_f := Lib.hid (h_f.out.below hb)
             have B_w13 := Lib.hid (below_next B_w12.out hb)
             have K_w13 := KK.out _ B_w13.out
             clear hb))
    clear KK K0 KD K_w7 K_w8 K_w9 K_w10 K_w11 K_w12 K_w13
    replace r_a := Lib.hid (r_a.out.keep B_w13.out)
    replace r_l := Lib.hid (r_l.out.keep B_w13.out)
    replace r_r := Lib.hid (r_r.out.keep B_w13.out)
    replace r_p := Lib.hid (r_p.out.keep B_w13.out)
    replace h_p := Lib.hid (h_p.out.below B_w13.out)
    replace BB := Lib.hid (below_next BB.out B_w13.out)
    clear B_w7 B_w8 B_w9 B_w10 B_w11 B_w12 B_w13
    go_wp2_with fail
    go_ret
    exact ⟨rfl, BB.out⟩
  · rw [h4] at CP
    clear h4 HM
    go_wp2_with fail
    have d_r := Lib.hid (And.intro BB.out.size (And.intro r_a.out.lt (And.intro r_l.out.lt (True.intro))))
    obtain ⟨hb, r_r⟩ := laid w3 #[.int .i64 rh, .int .u64 rl] 24
    replace r_a := Lib.hid (r_a.out.keep hb)
    replace r_l := Lib.hid (r_l.out.keep hb)
    replace BB := Lib.hid (below_next BB.out hb)
    replace r_r := Lib.hid r_r
    clear hb
    generalize w3.alloc (.cells #[.int .i64 rh, .int .u64 rl] 24) = w4 at *
    generalize w3.heap.size = g_r at *
    refine (CP.out _).mono ?_
    rintro e w5 ⟨v_p, rfl, hb, h_p⟩
    obtain ⟨A_p, n_p, cap_p, rfl, -⟩ := id h_p.form
    replace h_p := Lib.hid h_p
    replace r_a := Lib.hid (r_a.out.keep hb)
    replace r_l := Lib.hid (r_l.out.keep hb)
    replace r_r := Lib.hid (r_r.out.keep hb)
    replace BB := Lib.hid (below_next BB.out hb)
    clear hb
    go_wp2_with fail
    have d_p := Lib.hid (And.intro BB.out.size (And.intro r_a.out.lt (And.intro r_l.out.lt (And.intro r_r.out.lt (True.intro)))))
    obtain ⟨hb, r_p⟩ := laid w5 #[.bool (sgn (p)), .slice A_p n_p cap_p] 27
    replace r_a := Lib.hid (r_a.out.keep hb)
    replace r_l := Lib.hid (r_l.out.keep hb)
    replace r_r := Lib.hid (r_r.out.keep hb)
    replace h_p := Lib.hid (h_p.out.below hb)
    replace BB := Lib.hid (below_next BB.out hb)
    replace r_p := Lib.hid r_p
    clear hb
    generalize w5.alloc (.cells #[.bool (sgn (p)), .slice A_p n_p cap_p] 27) = w6 at *
    generalize w5.heap.size = g_p at *
    have KK := Lib.hid (fun (w9 : World) (h : Below w6.heap.size w6 w9) => (⟨cells2 (r_a.out.keep h), cells2 (r_l.out.keep h), cells2 (r_r.out.keep h), cells2 (r_p.out.keep h)⟩ : (w9.cell? ⟨w.heap.size, 0, none⟩ = some (.int .i64 ah) ∧ w9.cell? ⟨w.heap.size, 1, none⟩ = some (.int .u64 al)) ∧ (w9.cell? ⟨g_l, 0, none⟩ = some (.int .i64 lh) ∧ w9.cell? ⟨g_l, 1, none⟩ = some (.int .u64 ll)) ∧ (w9.cell? ⟨g_r, 0, none⟩ = some (.int .i64 rh) ∧ w9.cell? ⟨g_r, 1, none⟩ = some (.int .u64 rl)) ∧ (w9.cell? ⟨g_p, 0, none⟩ = some (.bool (sgn (p))) ∧ w9.cell? ⟨g_p, 1, none⟩ = some (.slice A_p n_p cap_p))))
    have K0 := KK.out w6 (Below.refl _ _)
    have KD := KK.out w6.drew (below_drew (Below.refl _ _))
    have tok0 : Hid True := trivial
    have tok2 : Hid True := trivial
    have tok3 : Hid True := trivial
    have tok5 : Hid True := trivial
    go_region_held3 (fun w9 => (w9.cell? ⟨w.heap.size, 0, none⟩ = some (.int .i64 ah) ∧ w9.cell? ⟨w.heap.size, 1, none⟩ = some (.int .u64 al)) ∧ (w9.cell? ⟨g_l, 0, none⟩ = some (.int .i64 lh) ∧ w9.cell? ⟨g_l, 1, none⟩ = some (.int .u64 ll)) ∧ (w9.cell? ⟨g_r, 0, none⟩ = some (.int .i64 rh) ∧ w9.cell? ⟨g_r, 1, none⟩ = some (.int .u64 rl)) ∧ (w9.cell? ⟨g_p, 0, none⟩ = some (.bool (sgn (p))) ∧ w9.cell? ⟨g_p, 1, none⟩ = some (.slice A_p n_p cap_p)))
        (first | with_reducible exact KD | with_reducible exact K0 | with_reducible exact K_w7 | with_reducible exact K_w8 | with_reducible exact K_w9 | with_reducible exact K_w10 | with_reducible exact K_w11 | with_reducible exact K_w12 | with_reducible exact K_w13)
        (first
          | (go_at_call 15
             have t_k := tok0
             refine (CB.out _).mono ?_
             rintro e w7 ⟨v_b, rfl, hb, h_b⟩
             obtain ⟨A_b, n_b, cap_b, rfl, -⟩ := id h_b.form
             replace h_b := Lib.hid h_b
             have B_w7 := Lib.hid (reg_next (w0 := w6) (by repeat (first | with_reducible exact Below.refl _ _ | with_reducible apply below_drew | with_reducible apply below_new)) hb)
             have K_w7 := KK.out _ B_w7.out
             clear hb
             clear t_k tok0)
          | (go_at_call 28
             refine (P1.out _ _ _ h_b.out (h_p.out.below B_w7.out)).mono ?_
             rintro e w8 ⟨v_q, rfl, hb, h_q⟩
             obtain ⟨A_q, n_q, cap_q, rfl, -⟩ := id h_q.form
             replace h_q := Lib.hid h_q
             replace h_b := Lib.hid (h_b.out.below hb)
             have B_w8 := Lib.hid (below_next B_w7.out hb)
             have K_w8 := KK.out _ B_w8.out
             clear hb)
          | (go_at_call 19
             have t_k := tok2
             refine (T1.out _ _ _ _ _ h_q.out HL.out).mono ?_
             rintro e w9 ⟨rfl, hb⟩
             replace h_b := Lib.hid (h_b.out.below hb)
             replace h_q := Lib.hid (h_q.out.below hb)
             have B_w9 := Lib.hid (below_next B_w8.out hb)
             have K_w9 := KK.out _ B_w9.out
             clear hb
             clear t_k tok2)
          | (go_at_call 15
             have t_k := tok3
             refine (CB.out _).mono ?_
             rintro e w10 ⟨v_b2, rfl, hb, h_b2⟩
             obtain ⟨A_b2, n_b2, cap_b2, rfl, -⟩ := id h_b2.form
             replace h_b2 := Lib.hid h_b2
             replace h_b := Lib.hid (h_b.out.below hb)
             replace h_q := Lib.hid (h_q.out.below hb)
             have B_w10 := Lib.hid (below_next B_w9.out hb)
             have K_w10 := KK.out _ B_w10.out
             clear hb
             clear t_k tok3)
          | (go_at_call 39
             refine (P2.out _ _ _ h_b2.out (h_p.out.below B_w10.out)).mono ?_
             rintro e w11 ⟨v_f, rfl, hb, h_f⟩
             obtain ⟨A_f, n_f, cap_f, rfl, -⟩ := id h_f.form
             replace h_f := Lib.hid h_f
             replace h_b := Lib.hid (h_b.out.below hb)
             replace h_q := Lib.hid (h_q.out.below hb)
             replace h_b2 := Lib.hid (h_b2.out.below hb)
             have B_w11 := Lib.hid (below_next B_w10.out hb)
             have K_w11 := KK.out _ B_w11.out
             clear hb)
          | (go_at_call 19
             have t_k := tok5
             refine (T2.out _ _ _ _ h_f.out HR.out).mono ?_
             rintro e w12 ⟨rfl, hb⟩
             replace h_b := Lib.hid (h_b.out.below hb)
             replace h_q := Lib.hid (h_q.out.below hb)
             replace h_b2 := Lib.hid (h_b2.out.below hb)
             replace h_f := Lib.hid (h_f.out.below hb)
             have B_w12 := Lib.hid (below_next B_w11.out hb)
             have K_w12 := KK.out _ B_w12.out
             clear hb
             clear t_k tok5)
          | (go_at_call 25
             refine (CA.out _).mono ?_
             rintro e w13 ⟨rfl, hb⟩
             replace h_b := Lib.hid (h_b.out.below hb)
             replace h_q := Lib.hid (h_q.out.below hb)
             replace h_b2 := Lib.hid (h_b2.out.below hb)
             replace h_f := Lib.hid (h_f.out.below hb)
             have B_w13 := Lib.hid (below_next B_w12.out hb)
             have K_w13 := KK.out _ B_w13.out
             clear hb))
    clear KK K0 KD K_w7 K_w8 K_w9 K_w10 K_w11 K_w12 K_w13
    replace r_a := Lib.hid (r_a.out.keep B_w13.out)
    replace r_l := Lib.hid (r_l.out.keep B_w13.out)
    replace r_r := Lib.hid (r_r.out.keep B_w13.out)
    replace r_p := Lib.hid (r_p.out.keep B_w13.out)
    replace h_p := Lib.hid (h_p.out.below B_w13.out)
    replace BB := Lib.hid (below_next BB.out B_w13.out)
    clear B_w7 B_w8 B_w9 B_w10 B_w11 B_w12 B_w13
    go_wp2_with fail
    go_ret
    exact ⟨rfl, BB.out⟩

set_option maxHeartbeats 4000000 in
set_option maxRecDepth 100000 in
theorem wideShifts_neg (ah al n : Int) (a1 : I64 ah) (a2 : U64 al) (hn : n < 0) (w : World) :
    Calls Try.prog 7 #[wv ah al, .int .i64 n] w fun e w' => e = .returned (.bool true) ∧ Below w.heap.size w w' := by
  obtain ⟨a, ha⟩ : ∃ a, W128 a ah al := ⟨_, a1, a2, rfl⟩
  have C1 := Lib.hid (fun w => wshl_neg ah al n hn w)
  have C2 := Lib.hid (fun w => wshr_none a ah al n (by omega) ha w)
  have CA := Lib.hid (fun w => alive1_any w)
  clear ha a1 a2
  go_enter Try.func7, Try.ntmps7
  go_wp2_with fail
  have BB := start1 w #[.int .i64 ah, .int .u64 al] 24
  obtain ⟨BB, hsz, r_a⟩ := BB
  generalize (w.alloc (.cells #[.int .i64 ah, .int .u64 al] 24)) = w0 at *
  replace BB := Lib.hid BB
  replace r_a := Lib.hid r_a
  clear hsz
  refine (C1.out _).mono ?_
  rintro e w1 ⟨rfl, hb⟩
  replace r_a := Lib.hid (r_a.out.keep hb)
  replace BB := Lib.hid (below_next BB.out hb)
  clear hb
  obtain ⟨c_a0, c_a1, f_a0, f_a1⟩ := reads2 r_a.out
  have l_a := r_a.out.lt
  go_wp2_with fail
  clear c_a0 c_a1 f_a0 f_a1 l_a
  have d_l := Lib.hid (And.intro BB.out.size (And.intro r_a.out.lt (True.intro)))
  obtain ⟨hb, r_l⟩ := laid w1 #[.int .i64 0, .int .u64 0] 24
  replace r_a := Lib.hid (r_a.out.keep hb)
  replace BB := Lib.hid (below_next BB.out hb)
  replace r_l := Lib.hid r_l
  clear hb
  generalize w1.alloc (.cells #[.int .i64 0, .int .u64 0] 24) = w2 at *
  generalize w1.heap.size = g_l at *
  refine (C2.out _).mono ?_
  rintro e w3 ⟨rfl, hb⟩
  replace r_a := Lib.hid (r_a.out.keep hb)
  replace r_l := Lib.hid (r_l.out.keep hb)
  replace BB := Lib.hid (below_next BB.out hb)
  clear hb
  obtain ⟨c_a0, c_a1, f_a0, f_a1⟩ := reads2 r_a.out
  have l_a := r_a.out.lt
  obtain ⟨c_l0, c_l1, f_l0, f_l1⟩ := reads2 r_l.out
  have l_l := r_l.out.lt
  go_wp2_with fail
  clear c_a0 c_a1 f_a0 f_a1 l_a c_l0 c_l1 f_l0 f_l1 l_l
  have d_r := Lib.hid (And.intro BB.out.size (And.intro r_a.out.lt (And.intro r_l.out.lt (True.intro))))
  obtain ⟨hb, r_r⟩ := laid w3 #[.int .i64 ah, .int .u64 al] 24
  replace r_a := Lib.hid (r_a.out.keep hb)
  replace r_l := Lib.hid (r_l.out.keep hb)
  replace BB := Lib.hid (below_next BB.out hb)
  replace r_r := Lib.hid r_r
  clear hb
  generalize w3.alloc (.cells #[.int .i64 ah, .int .u64 al] 24) = w4 at *
  generalize w3.heap.size = g_r at *
  refine (CA.out _).mono ?_
  rintro e w5 ⟨rfl, hb⟩
  replace r_a := Lib.hid (r_a.out.keep hb)
  replace r_l := Lib.hid (r_l.out.keep hb)
  replace r_r := Lib.hid (r_r.out.keep hb)
  replace BB := Lib.hid (below_next BB.out hb)
  clear hb
  go_wp2_with fail
  go_ret
  exact ⟨rfl, BB.out⟩

theorem wideShifts_any (ah al n : Int) (a1 : I64 ah) (a2 : U64 al) (hn : I64 n) (w : World) :
    Calls Try.prog 7 #[wv ah al, .int .i64 n] w fun e w' => e = .returned (.bool true) ∧ Below w.heap.size w w' := by
  by_cases h : n < 0
  · exact wideShifts_neg ah al n a1 a2 h w
  · obtain ⟨k, rfl⟩ := Int.eq_ofNat_of_zero_le (show 0 ≤ n by omega)
    have := hn.2
    by_cases h3 : k < 300
    · exact wideShifts_pos ah al k k a1 a2 (by omega) (by omega) (.inl rfl) w
    · exact wideShifts_pos ah al k 300 a1 a2 (by omega) (by omega) (.inr ⟨by omega, rfl⟩) w

end Go.Proofs.Ytalihekeipbafaa
