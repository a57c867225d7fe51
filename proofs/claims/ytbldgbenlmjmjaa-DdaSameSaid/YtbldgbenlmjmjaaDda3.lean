/- Contracts of an axis' leaps. -/
import Derived.Test.YtbldgbenlmjmjaaDda2
set_option linter.unusedVariables false
set_option linter.unusedSimpArgs false
namespace Go.Proofs.Ytbldgbenlmjmjaa
open Go.RowKit
def GiveSk (F G B n : Int) (g : Nat) (cs : Int → Int → Int → Array Value) (sh sl more : Int) (w : World) (e : Ending) (w' : World) : Prop :=
  e = .returned (.tuple #[]) ∧ Below w.heap.size w w' ∧ ∃ qh ql left, AtB w' g (cs qh ql left) WK ∧ AX (F + n * G) G B qh ql sh sl left more
set_option maxRecDepth 100000 in
set_option maxHeartbeats 16000000 in
theorem ddskip_u (F G B n qh ql sh sl left more : Int) (x0 x1 x2 x3 x4 x5 x6 x7 : Value) (g : Nat) (hn : 0 ≤ n ∧ n ≤ 4194304) (hX : AXB F G B) (ax : AX F G B qh ql sh sl left more) (w w0 : World) (BB : Below w.heap.size w w0) (hg : w.heap.size ≤ g) (r_k : AtB w0 g #[x0, .int .i64 qh, .int .u64 ql, .int .i64 sh, .int .u64 sl, .int .i64 left, .int .i64 more, .int .i64 B, x1, x2, x3, x4, x5, x6, x7] WK) :
    Calls Try.prog 65 #[.pointer (some ⟨g, 1, none⟩), .int .i64 n] w0 (GiveSk F G B n g (fun qh ql left => #[x0, .int .i64 qh, .int .u64 ql, .int .i64 sh, .int .u64 sl, .int .i64 left, .int .i64 more, .int .i64 B, x1, x2, x3, x4, x5, x6, x7]) sh sl more w) := by
  obtain ⟨hl, hm⟩ := ax.quot hX.b.1
  have k1 := fdiv_room' (z := F * 65536) hX.b.1 ⟨by have := hX.f; omega, by have := hX.f; omega⟩
  have k2 := fdiv_room' (z := G * 65536) hX.b.1 ⟨by have := hX.g; omega, by have := hX.g; omega⟩
  have hS := fdiv_steps (x := F * 65536) (y := G * 65536) (n := n) hX.b.1
  rw [show F * 65536 + n * (G * 65536) = (F + n * G) * 65536 by rw [Int.add_mul, Int.mul_assoc], ← ax.l, ← ax.m] at hS
  have hbB := hX.b
  have p1 : 0 ≤ more * n ∧ more * n ≤ 1125899906842624 * 4194304 := ⟨Int.mul_nonneg (by omega) hn.1, Int.mul_le_mul (by omega) hn.2 hn.1 (by omega)⟩
  have p2 : -(1267650600228229401496703205376 * 4194304) ≤ (G * 65536).fdiv B * n ∧ (G * 65536).fdiv B * n ≤ 1267650600228229401496703205376 * 4194304 := by
    have := mul_in k2 (show -4194304 ≤ n ∧ n ≤ 4194304 by omega); omega
  have k3 := fdiv_room' (z := more * n + left) hX.b.1 ⟨by omega, by omega⟩
  have R := Lib.hid (show I128 ((G * 65536).fdiv B * n) ∧ I128 (more * n + left) ∧ I128 ((more * n + left).fdiv B) ∧ I128 ((F * 65536).fdiv B + (G * 65536).fdiv B * n) ∧ I128 ((F * 65536).fdiv B + (G * 65536).fdiv B * n + (more * n + left).fdiv B) by
    unfold I128; refine ⟨⟨?_, ?_⟩, ⟨?_, ?_⟩, ⟨?_, ?_⟩, ⟨?_, ?_⟩, ⟨?_, ?_⟩⟩ <;> omega)
  have i1 : I64 n := ⟨by omega, by omega⟩
  have i2 : I64 more := ⟨by omega, by omega⟩
  have i3 : I64 left := ⟨by omega, by omega⟩
  have i4 : I64 B := ⟨by omega, by omega⟩
  have hb0 := Lib.hid (show B ≠ 0 by omega)
  have C1 := Lib.hid (fun w => wscale ((G * 65536).fdiv B) n sh sl ax.s i1 w)
  have C2 := Lib.hid (fun w => wmul more n i2 i1 w)
  have C3 := Lib.hid (fun w => wof left i3 w)
  have C4 := Lib.hid (fun ah al bh bl hx hy w => wadd (more * n) left ah al bh bl hx hy w)
  have C5 := Lib.hid (fun ah al hz w => qwide (more * n + left) ah al B hz i4 w)
  have C6 := Lib.hid (fun bh bl hy w => wadd ((F * 65536).fdiv B) ((G * 65536).fdiv B * n) qh ql bh bl ax.q hy w)
  have C7 := Lib.hid (fun ah al bh bl hx hy w => wadd ((F * 65536).fdiv B + (G * 65536).fdiv B * n) ((more * n + left).fdiv B) ah al bh bl hx hy w)
  have HS := Lib.hid ax.s
  have HM := Lib.hid ax.m
  replace hS := Lib.hid hS
  clear ax hX k1 k2 k3 hl hm hbB p1 p2 i1 i2 i3 i4 hn
  have BB := Lib.hid BB
  have r_k := Lib.hid r_k

  generalize more * n + left = V at *
  generalize more * n = M at *
  generalize eS : (G * 65536).fdiv B = S at *
  generalize (F * 65536).fdiv B = Q at *
  replace eS := Lib.hid eS
  generalize S * n = T at *
  go_enter Try.func65, Try.ntmps65
  obtain ⟨c_k0, c_k1, c_k2, c_k3, c_k4, c_k5, c_k6, c_k7, c_k8, c_k9, c_k10, c_k11, c_k12, c_k13, c_k14, f_k0, f_k1, f_k2, f_k3, f_k4, f_k5, f_k6, f_k7, f_k8, f_k9, f_k10, f_k11, f_k12, f_k13, f_k14⟩ := reads15 r_k.out
  have l_k := r_k.out.lt
  go_wp2_with fail
  refine (C1.out _).mono ?_
  rintro e w1 ⟨h1, l1, ok1, rfl, hb, hw1⟩
  clear c_k0 c_k1 c_k2 c_k3 c_k4 c_k5 c_k6 c_k7 c_k8 c_k9 c_k10 c_k11 c_k12 c_k13 c_k14 f_k0 f_k1 f_k2 f_k3 f_k4 f_k5 f_k6 f_k7 f_k8 f_k9 f_k10 f_k11 f_k12 f_k13 f_k14 l_k
  replace r_k := Lib.hid (r_k.out.keep hb)
  replace BB := Lib.hid (below_next BB.out hb)
  clear hb
  replace hw1 := Lib.hid (hw1.of_room R.out.1)
  go_wp2_with fail
  have d_far := Lib.hid (And.intro BB.out.size (And.intro r_k.out.lt (True.intro)))
  obtain ⟨hb, r_far⟩ := laid w1 #[.int .i64 h1, .int .u64 l1] WT
  replace r_k := Lib.hid (r_k.out.keep hb)
  replace BB := Lib.hid (below_next BB.out hb)
  replace r_far := Lib.hid r_far
  clear hb
  generalize w1.alloc (.cells #[.int .i64 h1, .int .u64 l1] WT) = w2 at *
  generalize w1.heap.size = g_far at *
  go_cut [6] (fun s5 wc1 => ∃ gp h4 l4, s5 = .pointer (some ⟨gp, 0, none⟩) ∧ Hid (AtB wc1 gp #[.int .i64 h4, .int .u64 l4] WT ∧ (W128 V h4 l4) ∧ Below w2.heap.size w2 wc1 ∧ w2.heap.size ≤ gp))
  case first =>
    have KK := Lib.hid (fun (w9 : World) (h : Below w2.heap.size w2 w9) => (cells15 (r_k.out.keep h) : (w9.cell? ⟨g, 0, none⟩ = some (x0) ∧ w9.cell? ⟨g, 1, none⟩ = some (.int .i64 qh) ∧ w9.cell? ⟨g, 2, none⟩ = some (.int .u64 ql) ∧ w9.cell? ⟨g, 3, none⟩ = some (.int .i64 sh) ∧ w9.cell? ⟨g, 4, none⟩ = some (.int .u64 sl) ∧ w9.cell? ⟨g, 5, none⟩ = some (.int .i64 left) ∧ w9.cell? ⟨g, 6, none⟩ = some (.int .i64 more) ∧ w9.cell? ⟨g, 7, none⟩ = some (.int .i64 B) ∧ w9.cell? ⟨g, 8, none⟩ = some (x1) ∧ w9.cell? ⟨g, 9, none⟩ = some (x2) ∧ w9.cell? ⟨g, 10, none⟩ = some (x3) ∧ w9.cell? ⟨g, 11, none⟩ = some (x4) ∧ w9.cell? ⟨g, 12, none⟩ = some (x5) ∧ w9.cell? ⟨g, 13, none⟩ = some (x6) ∧ w9.cell? ⟨g, 14, none⟩ = some (x7))))
    have K0 := KK.out w2 (Below.refl _ _)
    have KD := KK.out w2.drew (below_drew (Below.refl _ _))
    go_region_held3 (fun w9 => (w9.cell? ⟨g, 0, none⟩ = some (x0) ∧ w9.cell? ⟨g, 1, none⟩ = some (.int .i64 qh) ∧ w9.cell? ⟨g, 2, none⟩ = some (.int .u64 ql) ∧ w9.cell? ⟨g, 3, none⟩ = some (.int .i64 sh) ∧ w9.cell? ⟨g, 4, none⟩ = some (.int .u64 sl) ∧ w9.cell? ⟨g, 5, none⟩ = some (.int .i64 left) ∧ w9.cell? ⟨g, 6, none⟩ = some (.int .i64 more) ∧ w9.cell? ⟨g, 7, none⟩ = some (.int .i64 B) ∧ w9.cell? ⟨g, 8, none⟩ = some (x1) ∧ w9.cell? ⟨g, 9, none⟩ = some (x2) ∧ w9.cell? ⟨g, 10, none⟩ = some (x3) ∧ w9.cell? ⟨g, 11, none⟩ = some (x4) ∧ w9.cell? ⟨g, 12, none⟩ = some (x5) ∧ w9.cell? ⟨g, 13, none⟩ = some (x6) ∧ w9.cell? ⟨g, 14, none⟩ = some (x7)))
        (first | with_reducible exact KD | with_reducible exact K0 | with_reducible exact K_w3 | with_reducible exact K_w4 | with_reducible exact K_w5 | (refine KK.out _ ?_; repeat' (first | with_reducible exact Below.refl _ _ | with_reducible exact B_w3.out | with_reducible exact B_w4.out | with_reducible exact B_w5.out | with_reducible apply below_new | with_reducible apply below_drew | with_reducible apply below_set | omega)))
        (first
          | (go_at_call 70
             refine (C2.out _).mono ?_
             rintro e w3 ⟨h2, l2, rfl, hb, hw2⟩
             have B_w3 := Lib.hid (reg_next (w0 := w2) (by repeat (first | with_reducible exact Below.refl _ _ | with_reducible apply below_drew | with_reducible apply below_new)) hb)
             have K_w3 := KK.out _ B_w3.out
             obtain ⟨hc_w3, hf_w3⟩ := below_reads hb
             have hz_w3 := hb.size
             try simp at hz_w3
             try (have z1_w3 := Nat.lt_of_succ_le hz_w3)
             try (have z2_w3 := Nat.lt_of_succ_lt z1_w3)
             have HB_w3 := Lib.hid hb
             clear hb)
          | (go_at_call 84
             refine (C3.out _).mono ?_
             rintro e w4 ⟨h3, l3, rfl, hb, hw3⟩
             have B_w4 := Lib.hid (below_next (by repeat (first | with_reducible exact B_w3.out | with_reducible apply below_new | with_reducible apply below_drew)) hb)
             have K_w4 := KK.out _ B_w4.out
             obtain ⟨hc_w4, hf_w4⟩ := below_reads hb
             have hz_w4 := hb.size
             try simp at hz_w4
             try (have z1_w4 := Nat.lt_of_succ_le hz_w4)
             try (have z2_w4 := Nat.lt_of_succ_lt z1_w4)
             have HB_w4 := Lib.hid hb
             have y_w4_w3 := Nat.le_trans HB_w3.out.size (Nat.le_trans (by (try simp only [World.size_alloc]); omega) hb.size)
             try simp at y_w4_w3
             try (have z3_w4_w3 := Nat.lt_of_succ_le y_w4_w3)
             try (have z4_w4_w3 := Nat.lt_of_succ_lt z3_w4_w3)
             clear hb)
          | (go_at_call 71
             refine (C4.out _ _ _ _ hw2 hw3 _).mono ?_
             rintro e w5 ⟨h4, l4, ok4, rfl, hb, hw4⟩
             have B_w5 := Lib.hid (below_next (by repeat (first | with_reducible exact B_w4.out | with_reducible apply below_new | with_reducible apply below_drew)) hb)
             have K_w5 := KK.out _ B_w5.out
             obtain ⟨hc_w5, hf_w5⟩ := below_reads hb
             have hz_w5 := hb.size
             try simp at hz_w5
             try (have z1_w5 := Nat.lt_of_succ_le hz_w5)
             try (have z2_w5 := Nat.lt_of_succ_lt z1_w5)
             have HB_w5 := Lib.hid hb
             have y_w5_w3 := Nat.le_trans HB_w3.out.size (Nat.le_trans (by (try simp only [World.size_alloc]); omega) hb.size)
             try simp at y_w5_w3
             try (have z3_w5_w3 := Nat.lt_of_succ_le y_w5_w3)
             try (have z4_w5_w3 := Nat.lt_of_succ_lt z3_w5_w3)
             have y_w5_w4 := Nat.le_trans HB_w4.out.size (Nat.le_trans (by (try simp only [World.size_alloc]); omega) hb.size)
             try simp at y_w5_w4
             try (have z3_w5_w4 := Nat.lt_of_succ_le y_w5_w4)
             try (have z4_w5_w4 := Nat.lt_of_succ_lt z3_w5_w4)
             clear hb))
    all_goals clear KK K0 KD K_w3 K_w4 K_w5
    all_goals replace hw4 := Lib.hid (hw4.of_room R.out.2.1)
    all_goals go_wp2_with fail
    all_goals go_meet
    all_goals refine ⟨_, _, _, rfl, ⟨?_, hw4.out, ?_, ?_⟩⟩
    all_goals repeat' (first | with_reducible exact B_w3.out | with_reducible exact B_w4.out | with_reducible exact B_w5.out | with_reducible exact Below.refl _ _ | with_reducible apply below_new | with_reducible apply below_drew | (with_reducible refine below_set ?_ ?_ _) | (with_reducible refine AtB.set2 (a := .bool false) (b := .slice none 0 0) (T := 52) ?_ _ _) | (with_reducible refine AtB.set2 (a := .int .i64 0) (b := .int .u64 0) (T := 88) ?_ _ _) | (with_reducible refine AtB.far2 ?_ ?_ _ _) | (with_reducible refine BR.alloc ?_ _) | (with_reducible refine BR.far2 (a := .bool false) (b := .slice none 0 0) (T := 52) ?_ ?_ (by decide) _ _) | (with_reducible refine new_at_eq ?_ _ _; first | rfl | (simp; done)) | (with_reducible refine AtB.alloc ?_ _) | with_reducible apply AtB.drew | (with_reducible refine AtB.keep ?_ HB_w5.out) | (with_reducible refine AtB.keep ?_ HB_w4.out) | (with_reducible refine AtB.keep ?_ HB_w3.out) | omega)
  obtain ⟨wc1, rfl⟩ : ∃ wo : World, wo = wc := ⟨_, rfl⟩
  obtain ⟨g_over, h4, l4, rfl, hcut⟩ := hcut
  obtain ⟨r_over, h_over, hb, hge⟩ := hcut.out
  clear hcut
  replace r_over := Lib.hid r_over; replace h_over := Lib.hid h_over
  have d_over := Lib.hid (And.intro (Nat.le_trans BB.out.size hge) (And.intro (Nat.lt_of_lt_of_le r_k.out.lt hge) (And.intro (Nat.lt_of_lt_of_le r_far.out.lt hge) (True.intro))))
  replace r_k := Lib.hid (r_k.out.keep hb)
  replace r_far := Lib.hid (r_far.out.keep hb)
  replace BB := Lib.hid (below_next BB.out hb)
  clear hb hge
  go_wp2_with fail
  go_cut [8, 9] (fun s5 u9 wc2 => ∃ gp h5 l5 left', s5 = .pointer (some ⟨gp, 0, none⟩) ∧ u9 = .int .i64 left' ∧ Hid (AtB wc2 gp #[.int .i64 h5, .int .u64 l5] WT ∧ (W128 (V.fdiv B) h5 l5 ∧ left' = V.fmod B) ∧ Below wc1.heap.size wc1 wc2 ∧ wc1.heap.size ≤ gp))
  case first =>
    have KK := Lib.hid (fun (w9 : World) (h : Below wc1.heap.size wc1 w9) => (⟨cells15 (r_k.out.keep h), cells2 (r_over.out.keep h)⟩ : (w9.cell? ⟨g, 0, none⟩ = some (x0) ∧ w9.cell? ⟨g, 1, none⟩ = some (.int .i64 qh) ∧ w9.cell? ⟨g, 2, none⟩ = some (.int .u64 ql) ∧ w9.cell? ⟨g, 3, none⟩ = some (.int .i64 sh) ∧ w9.cell? ⟨g, 4, none⟩ = some (.int .u64 sl) ∧ w9.cell? ⟨g, 5, none⟩ = some (.int .i64 left) ∧ w9.cell? ⟨g, 6, none⟩ = some (.int .i64 more) ∧ w9.cell? ⟨g, 7, none⟩ = some (.int .i64 B) ∧ w9.cell? ⟨g, 8, none⟩ = some (x1) ∧ w9.cell? ⟨g, 9, none⟩ = some (x2) ∧ w9.cell? ⟨g, 10, none⟩ = some (x3) ∧ w9.cell? ⟨g, 11, none⟩ = some (x4) ∧ w9.cell? ⟨g, 12, none⟩ = some (x5) ∧ w9.cell? ⟨g, 13, none⟩ = some (x6) ∧ w9.cell? ⟨g, 14, none⟩ = some (x7)) ∧ (w9.cell? ⟨g_over, 0, none⟩ = some (.int .i64 h4) ∧ w9.cell? ⟨g_over, 1, none⟩ = some (.int .u64 l4))))
    have K0 := KK.out wc1 (Below.refl _ _)
    have KD := KK.out wc1.drew (below_drew (Below.refl _ _))
    go_region_held3 (fun w9 => (w9.cell? ⟨g, 0, none⟩ = some (x0) ∧ w9.cell? ⟨g, 1, none⟩ = some (.int .i64 qh) ∧ w9.cell? ⟨g, 2, none⟩ = some (.int .u64 ql) ∧ w9.cell? ⟨g, 3, none⟩ = some (.int .i64 sh) ∧ w9.cell? ⟨g, 4, none⟩ = some (.int .u64 sl) ∧ w9.cell? ⟨g, 5, none⟩ = some (.int .i64 left) ∧ w9.cell? ⟨g, 6, none⟩ = some (.int .i64 more) ∧ w9.cell? ⟨g, 7, none⟩ = some (.int .i64 B) ∧ w9.cell? ⟨g, 8, none⟩ = some (x1) ∧ w9.cell? ⟨g, 9, none⟩ = some (x2) ∧ w9.cell? ⟨g, 10, none⟩ = some (x3) ∧ w9.cell? ⟨g, 11, none⟩ = some (x4) ∧ w9.cell? ⟨g, 12, none⟩ = some (x5) ∧ w9.cell? ⟨g, 13, none⟩ = some (x6) ∧ w9.cell? ⟨g, 14, none⟩ = some (x7)) ∧ (w9.cell? ⟨g_over, 0, none⟩ = some (.int .i64 h4) ∧ w9.cell? ⟨g_over, 1, none⟩ = some (.int .u64 l4)))
        (first | with_reducible exact KD | with_reducible exact K0 | with_reducible exact K_w6 | (refine KK.out _ ?_; repeat' (first | with_reducible exact Below.refl _ _ | with_reducible exact B_w6.out | with_reducible apply below_new | with_reducible apply below_drew | with_reducible apply below_set | omega)))
        (first
          | (go_at_call 68
             refine (C5.out _ _ h_over.out _).mono ?_
             rintro e w6 ⟨h5, l5, left', ok5, rfl, hb, hw5⟩
             have B_w6 := Lib.hid (reg_next (w0 := wc1) (by repeat (first | with_reducible exact Below.refl _ _ | with_reducible apply below_drew | with_reducible apply below_new)) hb)
             have K_w6 := KK.out _ B_w6.out
             obtain ⟨hc_w6, hf_w6⟩ := below_reads hb
             have hz_w6 := hb.size
             try simp at hz_w6
             try (have z1_w6 := Nat.lt_of_succ_le hz_w6)
             try (have z2_w6 := Nat.lt_of_succ_lt z1_w6)
             have HB_w6 := Lib.hid hb
             clear hb))
    all_goals clear KK K0 KD K_w6
    all_goals replace hw5 := Lib.hid (hw5.of_room hb0.out R.out.2.2.1)
    all_goals go_wp2_with fail
    all_goals go_meet
    all_goals refine ⟨_, _, _, _, rfl, rfl, ⟨?_, hw5.out, ?_, ?_⟩⟩
    all_goals repeat' (first | with_reducible exact B_w6.out | with_reducible exact Below.refl _ _ | with_reducible apply below_new | with_reducible apply below_drew | (with_reducible refine below_set ?_ ?_ _) | (with_reducible refine AtB.set2 (a := .bool false) (b := .slice none 0 0) (T := 52) ?_ _ _) | (with_reducible refine AtB.set2 (a := .int .i64 0) (b := .int .u64 0) (T := 88) ?_ _ _) | (with_reducible refine AtB.far2 ?_ ?_ _ _) | (with_reducible refine BR.alloc ?_ _) | (with_reducible refine BR.far2 (a := .bool false) (b := .slice none 0 0) (T := 52) ?_ ?_ (by decide) _ _) | (with_reducible refine new_at_eq ?_ _ _; first | rfl | (simp; done)) | (with_reducible refine AtB.alloc ?_ _) | with_reducible apply AtB.drew | (with_reducible refine AtB.keep ?_ HB_w6.out) | omega)
  obtain ⟨wc2, rfl⟩ : ∃ wo : World, wo = wc := ⟨_, rfl⟩
  obtain ⟨g_q, h5, l5, left', rfl, rfl, hcut⟩ := hcut
  obtain ⟨r_q, h_q, hb, hge⟩ := hcut.out
  clear hcut
  replace r_q := Lib.hid r_q; replace h_q := Lib.hid h_q
  have d_q := Lib.hid (And.intro (Nat.le_trans BB.out.size hge) (And.intro (Nat.lt_of_lt_of_le r_k.out.lt hge) (And.intro (Nat.lt_of_lt_of_le r_far.out.lt hge) (And.intro (Nat.lt_of_lt_of_le r_over.out.lt hge) (True.intro)))))
  replace r_k := Lib.hid (r_k.out.keep hb)
  replace r_far := Lib.hid (r_far.out.keep hb)
  replace r_over := Lib.hid (r_over.out.keep hb)
  replace BB := Lib.hid (below_next BB.out hb)
  clear hb hge
  go_wp2_with fail
  have KK := Lib.hid (fun (w9 : World) (h : Below wc2.heap.size wc2 w9) => (⟨cells15 (r_k.out.keep h), cells2 (r_far.out.keep h)⟩ : (w9.cell? ⟨g, 0, none⟩ = some (x0) ∧ w9.cell? ⟨g, 1, none⟩ = some (.int .i64 qh) ∧ w9.cell? ⟨g, 2, none⟩ = some (.int .u64 ql) ∧ w9.cell? ⟨g, 3, none⟩ = some (.int .i64 sh) ∧ w9.cell? ⟨g, 4, none⟩ = some (.int .u64 sl) ∧ w9.cell? ⟨g, 5, none⟩ = some (.int .i64 left) ∧ w9.cell? ⟨g, 6, none⟩ = some (.int .i64 more) ∧ w9.cell? ⟨g, 7, none⟩ = some (.int .i64 B) ∧ w9.cell? ⟨g, 8, none⟩ = some (x1) ∧ w9.cell? ⟨g, 9, none⟩ = some (x2) ∧ w9.cell? ⟨g, 10, none⟩ = some (x3) ∧ w9.cell? ⟨g, 11, none⟩ = some (x4) ∧ w9.cell? ⟨g, 12, none⟩ = some (x5) ∧ w9.cell? ⟨g, 13, none⟩ = some (x6) ∧ w9.cell? ⟨g, 14, none⟩ = some (x7)) ∧ (w9.cell? ⟨g_far, 0, none⟩ = some (.int .i64 h1) ∧ w9.cell? ⟨g_far, 1, none⟩ = some (.int .u64 l1))))
  have K0 := KK.out wc2 (Below.refl _ _)
  have KD := KK.out wc2.drew (below_drew (Below.refl _ _))
  refine AnyG.begin_ (fun w9 => (w9.cell? ⟨g, 0, none⟩ = some (x0) ∧ w9.cell? ⟨g, 1, none⟩ = some (.int .i64 qh) ∧ w9.cell? ⟨g, 2, none⟩ = some (.int .u64 ql) ∧ w9.cell? ⟨g, 3, none⟩ = some (.int .i64 sh) ∧ w9.cell? ⟨g, 4, none⟩ = some (.int .u64 sl) ∧ w9.cell? ⟨g, 5, none⟩ = some (.int .i64 left) ∧ w9.cell? ⟨g, 6, none⟩ = some (.int .i64 more) ∧ w9.cell? ⟨g, 7, none⟩ = some (.int .i64 B) ∧ w9.cell? ⟨g, 8, none⟩ = some (x1) ∧ w9.cell? ⟨g, 9, none⟩ = some (x2) ∧ w9.cell? ⟨g, 10, none⟩ = some (x3) ∧ w9.cell? ⟨g, 11, none⟩ = some (x4) ∧ w9.cell? ⟨g, 12, none⟩ = some (x5) ∧ w9.cell? ⟨g, 13, none⟩ = some (x6) ∧ w9.cell? ⟨g, 14, none⟩ = some (x7)) ∧ (w9.cell? ⟨g_far, 0, none⟩ = some (.int .i64 h1) ∧ w9.cell? ⟨g_far, 1, none⟩ = some (.int .u64 l1))) 12 (by kernel_rfl) ?_
  refine AnyG.take (i := 0) (v := ?_) rfl (by kernel_rfl) (by kernel_rfl) (by kernel_rfl) (fun _ _ _ h => h) (by kernel_rfl) (by kernel_rfl) (Or.inl ⟨by rfl, ?_⟩) (by assumption) ?_
  rotate_left
  · intro w9 hSw; (try dsimp only at hSw); go_simp <;> with_reducible rfl
  try simp only [Act.put, List.getElem_toArray, List.getElem_cons_zero, List.getElem_cons_succ, List.setIfInBounds_toArray, List.set_cons_zero, List.set_cons_succ]
  refine AnyG.take (i := 1) (v := ?_) rfl (by kernel_rfl) (by kernel_rfl) (by kernel_rfl) (fun _ _ _ h => h) (by kernel_rfl) (by kernel_rfl) (Or.inl ⟨by rfl, ?_⟩) (by assumption) ?_
  rotate_left
  · intro w9 hSw; (try dsimp only at hSw); go_simp <;> with_reducible rfl
  try simp only [Act.put, List.getElem_toArray, List.getElem_cons_zero, List.getElem_cons_succ, List.setIfInBounds_toArray, List.set_cons_zero, List.set_cons_succ]
  refine AnyG.take (i := 2) (v := ?_) rfl (by kernel_rfl) (by kernel_rfl) (by kernel_rfl) (fun _ _ _ h => h) (by kernel_rfl) (by kernel_rfl) (Or.inl ⟨by rfl, ?_⟩) (by assumption) ?_
  rotate_left
  · intro w9 hSw; (try dsimp only at hSw); go_simp <;> with_reducible rfl
  try simp only [Act.put, List.getElem_toArray, List.getElem_cons_zero, List.getElem_cons_succ, List.setIfInBounds_toArray, List.set_cons_zero, List.set_cons_succ]
  refine AnyG.take (i := 3) (v := ?_) rfl (by kernel_rfl) (by kernel_rfl) (by kernel_rfl) (fun _ _ _ h => h) (by kernel_rfl) (by kernel_rfl) (Or.inl ⟨by rfl, ?_⟩) (by assumption) ?_
  rotate_left
  · intro w9 hSw; (try dsimp only at hSw); go_simp <;> with_reducible rfl
  try simp only [Act.put, List.getElem_toArray, List.getElem_cons_zero, List.getElem_cons_succ, List.setIfInBounds_toArray, List.set_cons_zero, List.set_cons_succ]
  refine AnyG.take (i := 4) (v := ?_) rfl (by kernel_rfl) (by kernel_rfl) (by kernel_rfl) (fun _ _ _ h => h) (by kernel_rfl) (by kernel_rfl) (Or.inl ⟨by rfl, ?_⟩) (by assumption) ?_
  rotate_left
  · intro w9 hSw; (try dsimp only at hSw); go_simp <;> with_reducible rfl
  try simp only [Act.put, List.getElem_toArray, List.getElem_cons_zero, List.getElem_cons_succ, List.setIfInBounds_toArray, List.set_cons_zero, List.set_cons_succ]
  refine AnyG.take (i := 5) (v := ?_) rfl (by kernel_rfl) (by kernel_rfl) (by kernel_rfl) (fun _ _ _ h => h) (by kernel_rfl) (by kernel_rfl) (Or.inl ⟨by rfl, ?_⟩) (by assumption) ?_
  rotate_left
  · intro w9 hSw; (try dsimp only at hSw); go_simp <;> with_reducible rfl
  try simp only [Act.put, List.getElem_toArray, List.getElem_cons_zero, List.getElem_cons_succ, List.setIfInBounds_toArray, List.set_cons_zero, List.set_cons_succ]
  refine AnyG.step (i := 6) (by kernel_rfl) rfl (fun K hK => ?_)
  go_simp
  go_at_call 71
  refine (C6.out _ _ hw1.out _).mono ?_
  rintro e w7 ⟨h6, l6, ok6, rfl, hb, hw6⟩
  have B_w7 := Lib.hid (reg_next (w0 := wc2) (by repeat (first | with_reducible exact Below.refl _ _ | with_reducible apply below_drew | with_reducible apply below_new)) hb)
  have K_w7 := KK.out _ B_w7.out
  obtain ⟨rc_k0, rc_k1, rc_k2, rc_k3, rc_k4, rc_k5, rc_k6, rc_k7, rc_k8, rc_k9, rc_k10, rc_k11, rc_k12, rc_k13, rc_k14, rf_k0, rf_k1, rf_k2, rf_k3, rf_k4, rf_k5, rf_k6, rf_k7, rf_k8, rf_k9, rf_k10, rf_k11, rf_k12, rf_k13, rf_k14⟩ := reads15 (r_k.out.keep B_w7.out)
  have rl_k := (r_k.out.keep B_w7.out).lt
  clear hb
  refine hK.out _ _ (fun _ => K_w7) (fun hHeld => ?_)
  replace hHeld := hHeld (by decide)
  clear hK
  try simp only [Act.put, List.getElem_toArray, List.getElem_cons_zero, List.getElem_cons_succ, List.setIfInBounds_toArray, List.set_cons_zero, List.set_cons_succ]
  refine AnyG.take (i := 7) (v := ?_) rfl (by kernel_rfl) (by kernel_rfl) (by kernel_rfl) (fun _ _ _ h => h) (by kernel_rfl) (by kernel_rfl) (Or.inl ⟨by rfl, ?_⟩) (by assumption) ?_
  rotate_left
  · intro w9 hSw; (try dsimp only at hSw); go_simp <;> with_reducible rfl
  try simp only [Act.put, List.getElem_toArray, List.getElem_cons_zero, List.getElem_cons_succ, List.setIfInBounds_toArray, List.set_cons_zero, List.set_cons_succ]
  refine AnyG.take (i := 8) (v := ?_) rfl (by kernel_rfl) (by kernel_rfl) (by kernel_rfl) (fun _ _ _ h => h) (by kernel_rfl) (by kernel_rfl) (Or.inl ⟨by rfl, ?_⟩) (by assumption) ?_
  rotate_left
  · intro w9 hSw; (try dsimp only at hSw); go_simp <;> with_reducible rfl
  try simp only [Act.put, List.getElem_toArray, List.getElem_cons_zero, List.getElem_cons_succ, List.setIfInBounds_toArray, List.set_cons_zero, List.set_cons_succ]
  refine AnyG.take0 (i := 9) (v := ?_) rfl (by kernel_rfl) (by kernel_rfl) (by kernel_rfl) (fun _ _ _ h => h) (by decide) (Or.inl ⟨by rfl, ?_⟩) (by assumption) ?_
  rotate_left
  · intro w9 hSw; clear hSw; go_simp <;> with_reducible rfl
  try simp only [Act.put, List.getElem_toArray, List.getElem_cons_zero, List.getElem_cons_succ, List.setIfInBounds_toArray, List.set_cons_zero, List.set_cons_succ]
  refine AnyG.take (i := 10) (v := ?_) rfl (by kernel_rfl) (by kernel_rfl) (by kernel_rfl) (fun _ _ _ h => h) (by kernel_rfl) (by kernel_rfl) (Or.inl ⟨by rfl, ?_⟩) (by assumption) ?_
  rotate_left
  · intro w9 hSw; (try dsimp only at hSw); go_simp <;> with_reducible rfl
  try simp only [Act.put, List.getElem_toArray, List.getElem_cons_zero, List.getElem_cons_succ, List.setIfInBounds_toArray, List.set_cons_zero, List.set_cons_succ]
  refine AnyG.take (i := 11) (v := ?_) rfl (by kernel_rfl) (by kernel_rfl) (by kernel_rfl) (fun _ _ _ h => h) (by kernel_rfl) (by kernel_rfl) (Or.inl ⟨by rfl, ?_⟩) (by assumption) ?_
  rotate_left
  · intro w9 hSw; (try dsimp only at hSw); go_simp <;> with_reducible rfl
  try simp only [Act.put, List.getElem_toArray, List.getElem_cons_zero, List.getElem_cons_succ, List.setIfInBounds_toArray, List.set_cons_zero, List.set_cons_succ]
  refine AnyG.step (i := 12) (by kernel_rfl) rfl (fun K hK => ?_)
  go_simp
  refine hK.out _ _ (fun h => absurd h (by decide)) (fun _ => ?_)
  clear hK
  try simp only [Act.put, List.getElem_toArray, List.getElem_cons_zero, List.getElem_cons_succ, List.setIfInBounds_toArray, List.set_cons_zero, List.set_cons_succ]
  refine AnyG.done (by kernel_rfl) ?_ _
  clear KK K0 KD K_w7
  replace r_k := Lib.hid (r_k.out.keep B_w7.out)
  replace r_far := Lib.hid (r_far.out.keep B_w7.out)
  replace r_over := Lib.hid (r_over.out.keep B_w7.out)
  replace r_q := Lib.hid (r_q.out.keep B_w7.out)
  replace BB := Lib.hid (below_next BB.out B_w7.out)
  clear B_w7
  replace hw6 := Lib.hid (hw6.of_room R.out.2.2.2.1)
  replace r_k := Lib.hid (show AtB ((w7.setCell ⟨g, 1, none⟩ (.int .i64 h6)).setCell ⟨g, 2, none⟩ (.int .u64 l6)) (g) #[x0, .int .i64 h6, .int .u64 l6, .int .i64 sh, .int .u64 sl, .int .i64 left, .int .i64 more, .int .i64 B, x1, x2, x3, x4, x5, x6, x7] WK from by have k := ((r_k.out.set_n 1 (.int .i64 h6)).set_n 2 (.int .u64 l6)); simpa using k)
  replace r_far := Lib.hid ((r_far.out.far (p := g) (by have dd_far := d_far.out; omega) 1 (.int .i64 h6)).far (p := g) (by have dd_far := d_far.out; omega) 2 (.int .u64 l6))
  replace r_over := Lib.hid ((r_over.out.far (p := g) (by have dd_over := d_over.out; omega) 1 (.int .i64 h6)).far (p := g) (by have dd_over := d_over.out; omega) 2 (.int .u64 l6))
  replace r_q := Lib.hid ((r_q.out.far (p := g) (by have dd_q := d_q.out; omega) 1 (.int .i64 h6)).far (p := g) (by have dd_q := d_q.out; omega) 2 (.int .u64 l6))
  replace BB := Lib.hid (below_set (below_set BB.out (b := g) (o := 1) (by omega) (.int .i64 h6)) (b := g) (o := 2) (by omega) (.int .u64 l6))
  generalize ((w7.setCell ⟨g, 1, none⟩ (.int .i64 h6)).setCell ⟨g, 2, none⟩ (.int .u64 l6)) = w8 at *
  go_wp2_with fail
  have KK := Lib.hid (fun (w9 : World) (h : Below w8.heap.size w8 w9) => (⟨cells15 (r_k.out.keep h), cells2 (r_q.out.keep h)⟩ : (w9.cell? ⟨g, 0, none⟩ = some (x0) ∧ w9.cell? ⟨g, 1, none⟩ = some (.int .i64 h6) ∧ w9.cell? ⟨g, 2, none⟩ = some (.int .u64 l6) ∧ w9.cell? ⟨g, 3, none⟩ = some (.int .i64 sh) ∧ w9.cell? ⟨g, 4, none⟩ = some (.int .u64 sl) ∧ w9.cell? ⟨g, 5, none⟩ = some (.int .i64 left) ∧ w9.cell? ⟨g, 6, none⟩ = some (.int .i64 more) ∧ w9.cell? ⟨g, 7, none⟩ = some (.int .i64 B) ∧ w9.cell? ⟨g, 8, none⟩ = some (x1) ∧ w9.cell? ⟨g, 9, none⟩ = some (x2) ∧ w9.cell? ⟨g, 10, none⟩ = some (x3) ∧ w9.cell? ⟨g, 11, none⟩ = some (x4) ∧ w9.cell? ⟨g, 12, none⟩ = some (x5) ∧ w9.cell? ⟨g, 13, none⟩ = some (x6) ∧ w9.cell? ⟨g, 14, none⟩ = some (x7)) ∧ (w9.cell? ⟨g_q, 0, none⟩ = some (.int .i64 h5) ∧ w9.cell? ⟨g_q, 1, none⟩ = some (.int .u64 l5))))
  have K0 := KK.out w8 (Below.refl _ _)
  have KD := KK.out w8.drew (below_drew (Below.refl _ _))
  refine AnyG.begin_ (fun w9 => (w9.cell? ⟨g, 0, none⟩ = some (x0) ∧ w9.cell? ⟨g, 1, none⟩ = some (.int .i64 h6) ∧ w9.cell? ⟨g, 2, none⟩ = some (.int .u64 l6) ∧ w9.cell? ⟨g, 3, none⟩ = some (.int .i64 sh) ∧ w9.cell? ⟨g, 4, none⟩ = some (.int .u64 sl) ∧ w9.cell? ⟨g, 5, none⟩ = some (.int .i64 left) ∧ w9.cell? ⟨g, 6, none⟩ = some (.int .i64 more) ∧ w9.cell? ⟨g, 7, none⟩ = some (.int .i64 B) ∧ w9.cell? ⟨g, 8, none⟩ = some (x1) ∧ w9.cell? ⟨g, 9, none⟩ = some (x2) ∧ w9.cell? ⟨g, 10, none⟩ = some (x3) ∧ w9.cell? ⟨g, 11, none⟩ = some (x4) ∧ w9.cell? ⟨g, 12, none⟩ = some (x5) ∧ w9.cell? ⟨g, 13, none⟩ = some (x6) ∧ w9.cell? ⟨g, 14, none⟩ = some (x7)) ∧ (w9.cell? ⟨g_q, 0, none⟩ = some (.int .i64 h5) ∧ w9.cell? ⟨g_q, 1, none⟩ = some (.int .u64 l5))) 12 (by kernel_rfl) ?_
  refine AnyG.take (i := 0) (v := ?_) rfl (by kernel_rfl) (by kernel_rfl) (by kernel_rfl) (fun _ _ _ h => h) (by kernel_rfl) (by kernel_rfl) (Or.inl ⟨by rfl, ?_⟩) (by assumption) ?_
  rotate_left
  · intro w9 hSw; (try dsimp only at hSw); go_simp <;> with_reducible rfl
  try simp only [Act.put, List.getElem_toArray, List.getElem_cons_zero, List.getElem_cons_succ, List.setIfInBounds_toArray, List.set_cons_zero, List.set_cons_succ]
  refine AnyG.take (i := 1) (v := ?_) rfl (by kernel_rfl) (by kernel_rfl) (by kernel_rfl) (fun _ _ _ h => h) (by kernel_rfl) (by kernel_rfl) (Or.inl ⟨by rfl, ?_⟩) (by assumption) ?_
  rotate_left
  · intro w9 hSw; (try dsimp only at hSw); go_simp <;> with_reducible rfl
  try simp only [Act.put, List.getElem_toArray, List.getElem_cons_zero, List.getElem_cons_succ, List.setIfInBounds_toArray, List.set_cons_zero, List.set_cons_succ]
  refine AnyG.take (i := 2) (v := ?_) rfl (by kernel_rfl) (by kernel_rfl) (by kernel_rfl) (fun _ _ _ h => h) (by kernel_rfl) (by kernel_rfl) (Or.inl ⟨by rfl, ?_⟩) (by assumption) ?_
  rotate_left
  · intro w9 hSw; (try dsimp only at hSw); go_simp <;> with_reducible rfl
  try simp only [Act.put, List.getElem_toArray, List.getElem_cons_zero, List.getElem_cons_succ, List.setIfInBounds_toArray, List.set_cons_zero, List.set_cons_succ]
  refine AnyG.take (i := 3) (v := ?_) rfl (by kernel_rfl) (by kernel_rfl) (by kernel_rfl) (fun _ _ _ h => h) (by kernel_rfl) (by kernel_rfl) (Or.inl ⟨by rfl, ?_⟩) (by assumption) ?_
  rotate_left
  · intro w9 hSw; (try dsimp only at hSw); go_simp <;> with_reducible rfl
  try simp only [Act.put, List.getElem_toArray, List.getElem_cons_zero, List.getElem_cons_succ, List.setIfInBounds_toArray, List.set_cons_zero, List.set_cons_succ]
  refine AnyG.take (i := 4) (v := ?_) rfl (by kernel_rfl) (by kernel_rfl) (by kernel_rfl) (fun _ _ _ h => h) (by kernel_rfl) (by kernel_rfl) (Or.inl ⟨by rfl, ?_⟩) (by assumption) ?_
  rotate_left
  · intro w9 hSw; (try dsimp only at hSw); go_simp <;> with_reducible rfl
  try simp only [Act.put, List.getElem_toArray, List.getElem_cons_zero, List.getElem_cons_succ, List.setIfInBounds_toArray, List.set_cons_zero, List.set_cons_succ]
  refine AnyG.take (i := 5) (v := ?_) rfl (by kernel_rfl) (by kernel_rfl) (by kernel_rfl) (fun _ _ _ h => h) (by kernel_rfl) (by kernel_rfl) (Or.inl ⟨by rfl, ?_⟩) (by assumption) ?_
  rotate_left
  · intro w9 hSw; (try dsimp only at hSw); go_simp <;> with_reducible rfl
  try simp only [Act.put, List.getElem_toArray, List.getElem_cons_zero, List.getElem_cons_succ, List.setIfInBounds_toArray, List.set_cons_zero, List.set_cons_succ]
  refine AnyG.step (i := 6) (by kernel_rfl) rfl (fun K hK => ?_)
  go_simp
  go_at_call 71
  refine (C7.out _ _ _ _ hw6.out h_q.out.1 _).mono ?_
  rintro e w9 ⟨h7, l7, ok7, rfl, hb, hw7⟩
  have B_w9 := Lib.hid (reg_next (w0 := w8) (by repeat (first | with_reducible exact Below.refl _ _ | with_reducible apply below_drew | with_reducible apply below_new)) hb)
  have K_w9 := KK.out _ B_w9.out
  obtain ⟨rc_k0, rc_k1, rc_k2, rc_k3, rc_k4, rc_k5, rc_k6, rc_k7, rc_k8, rc_k9, rc_k10, rc_k11, rc_k12, rc_k13, rc_k14, rf_k0, rf_k1, rf_k2, rf_k3, rf_k4, rf_k5, rf_k6, rf_k7, rf_k8, rf_k9, rf_k10, rf_k11, rf_k12, rf_k13, rf_k14⟩ := reads15 (r_k.out.keep B_w9.out)
  have rl_k := (r_k.out.keep B_w9.out).lt
  clear hb
  refine hK.out _ _ (fun _ => K_w9) (fun hHeld => ?_)
  replace hHeld := hHeld (by decide)
  clear hK
  try simp only [Act.put, List.getElem_toArray, List.getElem_cons_zero, List.getElem_cons_succ, List.setIfInBounds_toArray, List.set_cons_zero, List.set_cons_succ]
  refine AnyG.take (i := 7) (v := ?_) rfl (by kernel_rfl) (by kernel_rfl) (by kernel_rfl) (fun _ _ _ h => h) (by kernel_rfl) (by kernel_rfl) (Or.inl ⟨by rfl, ?_⟩) (by assumption) ?_
  rotate_left
  · intro w9 hSw; (try dsimp only at hSw); go_simp <;> with_reducible rfl
  try simp only [Act.put, List.getElem_toArray, List.getElem_cons_zero, List.getElem_cons_succ, List.setIfInBounds_toArray, List.set_cons_zero, List.set_cons_succ]
  refine AnyG.take (i := 8) (v := ?_) rfl (by kernel_rfl) (by kernel_rfl) (by kernel_rfl) (fun _ _ _ h => h) (by kernel_rfl) (by kernel_rfl) (Or.inl ⟨by rfl, ?_⟩) (by assumption) ?_
  rotate_left
  · intro w9 hSw; (try dsimp only at hSw); go_simp <;> with_reducible rfl
  try simp only [Act.put, List.getElem_toArray, List.getElem_cons_zero, List.getElem_cons_succ, List.setIfInBounds_toArray, List.set_cons_zero, List.set_cons_succ]
  refine AnyG.take0 (i := 9) (v := ?_) rfl (by kernel_rfl) (by kernel_rfl) (by kernel_rfl) (fun _ _ _ h => h) (by decide) (Or.inl ⟨by rfl, ?_⟩) (by assumption) ?_
  rotate_left
  · intro w9 hSw; clear hSw; go_simp <;> with_reducible rfl
  try simp only [Act.put, List.getElem_toArray, List.getElem_cons_zero, List.getElem_cons_succ, List.setIfInBounds_toArray, List.set_cons_zero, List.set_cons_succ]
  refine AnyG.take (i := 10) (v := ?_) rfl (by kernel_rfl) (by kernel_rfl) (by kernel_rfl) (fun _ _ _ h => h) (by kernel_rfl) (by kernel_rfl) (Or.inl ⟨by rfl, ?_⟩) (by assumption) ?_
  rotate_left
  · intro w9 hSw; (try dsimp only at hSw); go_simp <;> with_reducible rfl
  try simp only [Act.put, List.getElem_toArray, List.getElem_cons_zero, List.getElem_cons_succ, List.setIfInBounds_toArray, List.set_cons_zero, List.set_cons_succ]
  refine AnyG.take (i := 11) (v := ?_) rfl (by kernel_rfl) (by kernel_rfl) (by kernel_rfl) (fun _ _ _ h => h) (by kernel_rfl) (by kernel_rfl) (Or.inl ⟨by rfl, ?_⟩) (by assumption) ?_
  rotate_left
  · intro w9 hSw; (try dsimp only at hSw); go_simp <;> with_reducible rfl
  try simp only [Act.put, List.getElem_toArray, List.getElem_cons_zero, List.getElem_cons_succ, List.setIfInBounds_toArray, List.set_cons_zero, List.set_cons_succ]
  refine AnyG.step (i := 12) (by kernel_rfl) rfl (fun K hK => ?_)
  go_simp
  refine hK.out _ _ (fun h => absurd h (by decide)) (fun _ => ?_)
  clear hK
  try simp only [Act.put, List.getElem_toArray, List.getElem_cons_zero, List.getElem_cons_succ, List.setIfInBounds_toArray, List.set_cons_zero, List.set_cons_succ]
  refine AnyG.done (by kernel_rfl) ?_ _
  clear KK K0 KD K_w9
  replace r_k := Lib.hid (r_k.out.keep B_w9.out)
  replace r_far := Lib.hid (r_far.out.keep B_w9.out)
  replace r_over := Lib.hid (r_over.out.keep B_w9.out)
  replace r_q := Lib.hid (r_q.out.keep B_w9.out)
  replace BB := Lib.hid (below_next BB.out B_w9.out)
  clear B_w9
  replace hw7 := Lib.hid (hw7.of_room R.out.2.2.2.2)
  replace r_k := Lib.hid (show AtB ((w9.setCell ⟨g, 1, none⟩ (.int .i64 h7)).setCell ⟨g, 2, none⟩ (.int .u64 l7)) (g) #[x0, .int .i64 h7, .int .u64 l7, .int .i64 sh, .int .u64 sl, .int .i64 left, .int .i64 more, .int .i64 B, x1, x2, x3, x4, x5, x6, x7] WK from by have k := ((r_k.out.set_n 1 (.int .i64 h7)).set_n 2 (.int .u64 l7)); simpa using k)
  replace r_far := Lib.hid ((r_far.out.far (p := g) (by have dd_far := d_far.out; omega) 1 (.int .i64 h7)).far (p := g) (by have dd_far := d_far.out; omega) 2 (.int .u64 l7))
  replace r_over := Lib.hid ((r_over.out.far (p := g) (by have dd_over := d_over.out; omega) 1 (.int .i64 h7)).far (p := g) (by have dd_over := d_over.out; omega) 2 (.int .u64 l7))
  replace r_q := Lib.hid ((r_q.out.far (p := g) (by have dd_q := d_q.out; omega) 1 (.int .i64 h7)).far (p := g) (by have dd_q := d_q.out; omega) 2 (.int .u64 l7))
  replace BB := Lib.hid (below_set (below_set BB.out (b := g) (o := 1) (by omega) (.int .i64 h7)) (b := g) (o := 2) (by omega) (.int .u64 l7))
  generalize ((w9.setCell ⟨g, 1, none⟩ (.int .i64 h7)).setCell ⟨g, 2, none⟩ (.int .u64 l7)) = w10 at *
  obtain ⟨c_k0, c_k1, c_k2, c_k3, c_k4, c_k5, c_k6, c_k7, c_k8, c_k9, c_k10, c_k11, c_k12, c_k13, c_k14, f_k0, f_k1, f_k2, f_k3, f_k4, f_k5, f_k6, f_k7, f_k8, f_k9, f_k10, f_k11, f_k12, f_k13, f_k14⟩ := reads15 r_k.out
  have l_k := r_k.out.lt
  go_wp2_with fail
  clear c_k0 c_k1 c_k2 c_k3 c_k4 c_k5 c_k6 c_k7 c_k8 c_k9 c_k10 c_k11 c_k12 c_k13 c_k14 f_k0 f_k1 f_k2 f_k3 f_k4 f_k5 f_k6 f_k7 f_k8 f_k9 f_k10 f_k11 f_k12 f_k13 f_k14 l_k
  replace r_k := Lib.hid (show AtB (w10.setCell ⟨g, 5, none⟩ (.int .i64 left')) (g) #[x0, .int .i64 h7, .int .u64 l7, .int .i64 sh, .int .u64 sl, .int .i64 left', .int .i64 more, .int .i64 B, x1, x2, x3, x4, x5, x6, x7] WK from by have k := (r_k.out.set_n 5 (.int .i64 left')); simpa using k)
  replace r_far := Lib.hid (r_far.out.far (p := g) (by have dd_far := d_far.out; omega) 5 (.int .i64 left'))
  replace r_over := Lib.hid (r_over.out.far (p := g) (by have dd_over := d_over.out; omega) 5 (.int .i64 left'))
  replace r_q := Lib.hid (r_q.out.far (p := g) (by have dd_q := d_q.out; omega) 5 (.int .i64 left'))
  replace BB := Lib.hid (below_set BB.out (b := g) (o := 5) (by omega) (.int .i64 left'))
  generalize (w10.setCell ⟨g, 5, none⟩ (.int .i64 left')) = w11 at *
  refine bodyPost_ret (v := .tuple #[]) (by unfold results; simp only [Try.results65]; go_simp) rfl ?_
  exact ⟨rfl, BB.out, _, _, _, r_k.out, ⟨by rw [hS.out.1]; exact hw7.out, by rw [eS.out]; exact HS.out, by rw [hS.out.2]; exact h_q.out.2, HM.out⟩⟩

set_option maxRecDepth 100000 in
set_option maxHeartbeats 16000000 in
theorem ddskip_v (F G B n qh ql sh sl left more : Int) (x0 x1 x2 x3 x4 x5 x6 x7 : Value) (g : Nat) (hn : 0 ≤ n ∧ n ≤ 4194304) (hX : AXB F G B) (ax : AX F G B qh ql sh sl left more) (w w0 : World) (BB : Below w.heap.size w w0) (hg : w.heap.size ≤ g) (r_k : AtB w0 g #[x0, x1, x2, x3, x4, x5, x6, x7, .int .i64 qh, .int .u64 ql, .int .i64 sh, .int .u64 sl, .int .i64 left, .int .i64 more, .int .i64 B] WK) :
    Calls Try.prog 65 #[.pointer (some ⟨g, 8, none⟩), .int .i64 n] w0 (GiveSk F G B n g (fun qh ql left => #[x0, x1, x2, x3, x4, x5, x6, x7, .int .i64 qh, .int .u64 ql, .int .i64 sh, .int .u64 sl, .int .i64 left, .int .i64 more, .int .i64 B]) sh sl more w) := by
  obtain ⟨hl, hm⟩ := ax.quot hX.b.1
  have k1 := fdiv_room' (z := F * 65536) hX.b.1 ⟨by have := hX.f; omega, by have := hX.f; omega⟩
  have k2 := fdiv_room' (z := G * 65536) hX.b.1 ⟨by have := hX.g; omega, by have := hX.g; omega⟩
  have hS := fdiv_steps (x := F * 65536) (y := G * 65536) (n := n) hX.b.1
  rw [show F * 65536 + n * (G * 65536) = (F + n * G) * 65536 by rw [Int.add_mul, Int.mul_assoc], ← ax.l, ← ax.m] at hS
  have hbB := hX.b
  have p1 : 0 ≤ more * n ∧ more * n ≤ 1125899906842624 * 4194304 := ⟨Int.mul_nonneg (by omega) hn.1, Int.mul_le_mul (by omega) hn.2 hn.1 (by omega)⟩
  have p2 : -(1267650600228229401496703205376 * 4194304) ≤ (G * 65536).fdiv B * n ∧ (G * 65536).fdiv B * n ≤ 1267650600228229401496703205376 * 4194304 := by
    have := mul_in k2 (show -4194304 ≤ n ∧ n ≤ 4194304 by omega); omega
  have k3 := fdiv_room' (z := more * n + left) hX.b.1 ⟨by omega, by omega⟩
  have R := Lib.hid (show I128 ((G * 65536).fdiv B * n) ∧ I128 (more * n + left) ∧ I128 ((more * n + left).fdiv B) ∧ I128 ((F * 65536).fdiv B + (G * 65536).fdiv B * n) ∧ I128 ((F * 65536).fdiv B + (G * 65536).fdiv B * n + (more * n + left).fdiv B) by
    unfold I128; refine ⟨⟨?_, ?_⟩, ⟨?_, ?_⟩, ⟨?_, ?_⟩, ⟨?_, ?_⟩, ⟨?_, ?_⟩⟩ <;> omega)
  have i1 : I64 n := ⟨by omega, by omega⟩
  have i2 : I64 more := ⟨by omega, by omega⟩
  have i3 : I64 left := ⟨by omega, by omega⟩
  have i4 : I64 B := ⟨by omega, by omega⟩
  have hb0 := Lib.hid (show B ≠ 0 by omega)
  have C1 := Lib.hid (fun w => wscale ((G * 65536).fdiv B) n sh sl ax.s i1 w)
  have C2 := Lib.hid (fun w => wmul more n i2 i1 w)
  have C3 := Lib.hid (fun w => wof left i3 w)
  have C4 := Lib.hid (fun ah al bh bl hx hy w => wadd (more * n) left ah al bh bl hx hy w)
  have C5 := Lib.hid (fun ah al hz w => qwide (more * n + left) ah al B hz i4 w)
  have C6 := Lib.hid (fun bh bl hy w => wadd ((F * 65536).fdiv B) ((G * 65536).fdiv B * n) qh ql bh bl ax.q hy w)
  have C7 := Lib.hid (fun ah al bh bl hx hy w => wadd ((F * 65536).fdiv B + (G * 65536).fdiv B * n) ((more * n + left).fdiv B) ah al bh bl hx hy w)
  have HS := Lib.hid ax.s
  have HM := Lib.hid ax.m
  replace hS := Lib.hid hS
  clear ax hX k1 k2 k3 hl hm hbB p1 p2 i1 i2 i3 i4 hn
  have BB := Lib.hid BB
  have r_k := Lib.hid r_k

  generalize more * n + left = V at *
  generalize more * n = M at *
  generalize eS : (G * 65536).fdiv B = S at *
  generalize (F * 65536).fdiv B = Q at *
  replace eS := Lib.hid eS
  generalize S * n = T at *
  go_enter Try.func65, Try.ntmps65
  obtain ⟨c_k0, c_k1, c_k2, c_k3, c_k4, c_k5, c_k6, c_k7, c_k8, c_k9, c_k10, c_k11, c_k12, c_k13, c_k14, f_k0, f_k1, f_k2, f_k3, f_k4, f_k5, f_k6, f_k7, f_k8, f_k9, f_k10, f_k11, f_k12, f_k13, f_k14⟩ := reads15 r_k.out
  have l_k := r_k.out.lt
  go_wp2_with fail
  refine (C1.out _).mono ?_
  rintro e w1 ⟨h1, l1, ok1, rfl, hb, hw1⟩
  clear c_k0 c_k1 c_k2 c_k3 c_k4 c_k5 c_k6 c_k7 c_k8 c_k9 c_k10 c_k11 c_k12 c_k13 c_k14 f_k0 f_k1 f_k2 f_k3 f_k4 f_k5 f_k6 f_k7 f_k8 f_k9 f_k10 f_k11 f_k12 f_k13 f_k14 l_k
  replace r_k := Lib.hid (r_k.out.keep hb)
  replace BB := Lib.hid (below_next BB.out hb)
  clear hb
  replace hw1 := Lib.hid (hw1.of_room R.out.1)
  go_wp2_with fail
  have d_far := Lib.hid (And.intro BB.out.size (And.intro r_k.out.lt (True.intro)))
  obtain ⟨hb, r_far⟩ := laid w1 #[.int .i64 h1, .int .u64 l1] WT
  replace r_k := Lib.hid (r_k.out.keep hb)
  replace BB := Lib.hid (below_next BB.out hb)
  replace r_far := Lib.hid r_far
  clear hb
  generalize w1.alloc (.cells #[.int .i64 h1, .int .u64 l1] WT) = w2 at *
  generalize w1.heap.size = g_far at *
  go_cut [6] (fun s5 wc1 => ∃ gp h4 l4, s5 = .pointer (some ⟨gp, 0, none⟩) ∧ Hid (AtB wc1 gp #[.int .i64 h4, .int .u64 l4] WT ∧ (W128 V h4 l4) ∧ Below w2.heap.size w2 wc1 ∧ w2.heap.size ≤ gp))
  case first =>
    have KK := Lib.hid (fun (w9 : World) (h : Below w2.heap.size w2 w9) => (cells15 (r_k.out.keep h) : (w9.cell? ⟨g, 0, none⟩ = some (x0) ∧ w9.cell? ⟨g, 1, none⟩ = some (x1) ∧ w9.cell? ⟨g, 2, none⟩ = some (x2) ∧ w9.cell? ⟨g, 3, none⟩ = some (x3) ∧ w9.cell? ⟨g, 4, none⟩ = some (x4) ∧ w9.cell? ⟨g, 5, none⟩ = some (x5) ∧ w9.cell? ⟨g, 6, none⟩ = some (x6) ∧ w9.cell? ⟨g, 7, none⟩ = some (x7) ∧ w9.cell? ⟨g, 8, none⟩ = some (.int .i64 qh) ∧ w9.cell? ⟨g, 9, none⟩ = some (.int .u64 ql) ∧ w9.cell? ⟨g, 10, none⟩ = some (.int .i64 sh) ∧ w9.cell? ⟨g, 11, none⟩ = some (.int .u64 sl) ∧ w9.cell? ⟨g, 12, none⟩ = some (.int .i64 left) ∧ w9.cell? ⟨g, 13, none⟩ = some (.int .i64 more) ∧ w9.cell? ⟨g, 14, none⟩ = some (.int .i64 B))))
    have K0 := KK.out w2 (Below.refl _ _)
    have KD := KK.out w2.drew (below_drew (Below.refl _ _))
    go_region_held3 (fun w9 => (w9.cell? ⟨g, 0, none⟩ = some (x0) ∧ w9.cell? ⟨g, 1, none⟩ = some (x1) ∧ w9.cell? ⟨g, 2, none⟩ = some (x2) ∧ w9.cell? ⟨g, 3, none⟩ = some (x3) ∧ w9.cell? ⟨g, 4, none⟩ = some (x4) ∧ w9.cell? ⟨g, 5, none⟩ = some (x5) ∧ w9.cell? ⟨g, 6, none⟩ = some (x6) ∧ w9.cell? ⟨g, 7, none⟩ = some (x7) ∧ w9.cell? ⟨g, 8, none⟩ = some (.int .i64 qh) ∧ w9.cell? ⟨g, 9, none⟩ = some (.int .u64 ql) ∧ w9.cell? ⟨g, 10, none⟩ = some (.int .i64 sh) ∧ w9.cell? ⟨g, 11, none⟩ = some (.int .u64 sl) ∧ w9.cell? ⟨g, 12, none⟩ = some (.int .i64 left) ∧ w9.cell? ⟨g, 13, none⟩ = some (.int .i64 more) ∧ w9.cell? ⟨g, 14, none⟩ = some (.int .i64 B)))
        (first | with_reducible exact KD | with_reducible exact K0 | with_reducible exact K_w3 | with_reducible exact K_w4 | with_reducible exact K_w5 | (refine KK.out _ ?_; repeat' (first | with_reducible exact Below.refl _ _ | with_reducible exact B_w3.out | with_reducible exact B_w4.out | with_reducible exact B_w5.out | with_reducible apply below_new | with_reducible apply below_drew | with_reducible apply below_set | omega)))
        (first
          | (go_at_call 70
             refine (C2.out _).mono ?_
             rintro e w3 ⟨h2, l2, rfl, hb, hw2⟩
             have B_w3 := Lib.hid (reg_next (w0 := w2) (by repeat (first | with_reducible exact Below.refl _ _ | with_reducible apply below_drew | with_reducible apply below_new)) hb)
             have K_w3 := KK.out _ B_w3.out
             obtain ⟨hc_w3, hf_w3⟩ := below_reads hb
             have hz_w3 := hb.size
             try simp at hz_w3
             try (have z1_w3 := Nat.lt_of_succ_le hz_w3)
             try (have z2_w3 := Nat.lt_of_succ_lt z1_w3)
             have HB_w3 := Lib.hid hb
             clear hb)
          | (go_at_call 84
             refine (C3.out _).mono ?_
             rintro e w4 ⟨h3, l3, rfl, hb, hw3⟩
             have B_w4 := Lib.hid (below_next (by repeat (first | with_reducible exact B_w3.out | with_reducible apply below_new | with_reducible apply below_drew)) hb)
             have K_w4 := KK.out _ B_w4.out
             obtain ⟨hc_w4, hf_w4⟩ := below_reads hb
             have hz_w4 := hb.size
             try simp at hz_w4
             try (have z1_w4 := Nat.lt_of_succ_le hz_w4)
             try (have z2_w4 := Nat.lt_of_succ_lt z1_w4)
             have HB_w4 := Lib.hid hb
             have y_w4_w3 := Nat.le_trans HB_w3.out.size (Nat.le_trans (by (try simp only [World.size_alloc]); omega) hb.size)
             try simp at y_w4_w3
             try (have z3_w4_w3 := Nat.lt_of_succ_le y_w4_w3)
             try (have z4_w4_w3 := Nat.lt_of_succ_lt z3_w4_w3)
             clear hb)
          | (go_at_call 71
             refine (C4.out _ _ _ _ hw2 hw3 _).mono ?_
             rintro e w5 ⟨h4, l4, ok4, rfl, hb, hw4⟩
             have B_w5 := Lib.hid (below_next (by repeat (first | with_reducible exact B_w4.out | with_reducible apply below_new | with_reducible apply below_drew)) hb)
             have K_w5 := KK.out _ B_w5.out
             obtain ⟨hc_w5, hf_w5⟩ := below_reads hb
             have hz_w5 := hb.size
             try simp at hz_w5
             try (have z1_w5 := Nat.lt_of_succ_le hz_w5)
             try (have z2_w5 := Nat.lt_of_succ_lt z1_w5)
             have HB_w5 := Lib.hid hb
             have y_w5_w3 := Nat.le_trans HB_w3.out.size (Nat.le_trans (by (try simp only [World.size_alloc]); omega) hb.size)
             try simp at y_w5_w3
             try (have z3_w5_w3 := Nat.lt_of_succ_le y_w5_w3)
             try (have z4_w5_w3 := Nat.lt_of_succ_lt z3_w5_w3)
             have y_w5_w4 := Nat.le_trans HB_w4.out.size (Nat.le_trans (by (try simp only [World.size_alloc]); omega) hb.size)
             try simp at y_w5_w4
             try (have z3_w5_w4 := Nat.lt_of_succ_le y_w5_w4)
             try (have z4_w5_w4 := Nat.lt_of_succ_lt z3_w5_w4)
             clear hb))
    all_goals clear KK K0 KD K_w3 K_w4 K_w5
    all_goals replace hw4 := Lib.hid (hw4.of_room R.out.2.1)
    all_goals go_wp2_with fail
    all_goals go_meet
    all_goals refine ⟨_, _, _, rfl, ⟨?_, hw4.out, ?_, ?_⟩⟩
    all_goals repeat' (first | with_reducible exact B_w3.out | with_reducible exact B_w4.out | with_reducible exact B_w5.out | with_reducible exact Below.refl _ _ | with_reducible apply below_new | with_reducible apply below_drew | (with_reducible refine below_set ?_ ?_ _) | (with_reducible refine AtB.set2 (a := .bool false) (b := .slice none 0 0) (T := 52) ?_ _ _) | (with_reducible refine AtB.set2 (a := .int .i64 0) (b := .int .u64 0) (T := 88) ?_ _ _) | (with_reducible refine AtB.far2 ?_ ?_ _ _) | (with_reducible refine BR.alloc ?_ _) | (with_reducible refine BR.far2 (a := .bool false) (b := .slice none 0 0) (T := 52) ?_ ?_ (by decide) _ _) | (with_reducible refine new_at_eq ?_ _ _; first | rfl | (simp; done)) | (with_reducible refine AtB.alloc ?_ _) | with_reducible apply AtB.drew | (with_reducible refine AtB.keep ?_ HB_w5.out) | (with_reducible refine AtB.keep ?_ HB_w4.out) | (with_reducible refine AtB.keep ?_ HB_w3.out) | omega)
  obtain ⟨wc1, rfl⟩ : ∃ wo : World, wo = wc := ⟨_, rfl⟩
  obtain ⟨g_over, h4, l4, rfl, hcut⟩ := hcut
  obtain ⟨r_over, h_over, hb, hge⟩ := hcut.out
  clear hcut
  replace r_over := Lib.hid r_over; replace h_over := Lib.hid h_over
  have d_over := Lib.hid (And.intro (Nat.le_trans BB.out.size hge) (And.intro (Nat.lt_of_lt_of_le r_k.out.lt hge) (And.intro (Nat.lt_of_lt_of_le r_far.out.lt hge) (True.intro))))
  replace r_k := Lib.hid (r_k.out.keep hb)
  replace r_far := Lib.hid (r_far.out.keep hb)
  replace BB := Lib.hid (below_next BB.out hb)
  clear hb hge
  go_wp2_with fail
  go_cut [8, 9] (fun s5 u9 wc2 => ∃ gp h5 l5 left', s5 = .pointer (some ⟨gp, 0, none⟩) ∧ u9 = .int .i64 left' ∧ Hid (AtB wc2 gp #[.int .i64 h5, .int .u64 l5] WT ∧ (W128 (V.fdiv B) h5 l5 ∧ left' = V.fmod B) ∧ Below wc1.heap.size wc1 wc2 ∧ wc1.heap.size ≤ gp))
  case first =>
    have KK := Lib.hid (fun (w9 : World) (h : Below wc1.heap.size wc1 w9) => (⟨cells15 (r_k.out.keep h), cells2 (r_over.out.keep h)⟩ : (w9.cell? ⟨g, 0, none⟩ = some (x0) ∧ w9.cell? ⟨g, 1, none⟩ = some (x1) ∧ w9.cell? ⟨g, 2, none⟩ = some (x2) ∧ w9.cell? ⟨g, 3, none⟩ = some (x3) ∧ w9.cell? ⟨g, 4, none⟩ = some (x4) ∧ w9.cell? ⟨g, 5, none⟩ = some (x5) ∧ w9.cell? ⟨g, 6, none⟩ = some (x6) ∧ w9.cell? ⟨g, 7, none⟩ = some (x7) ∧ w9.cell? ⟨g, 8, none⟩ = some (.int .i64 qh) ∧ w9.cell? ⟨g, 9, none⟩ = some (.int .u64 ql) ∧ w9.cell? ⟨g, 10, none⟩ = some (.int .i64 sh) ∧ w9.cell? ⟨g, 11, none⟩ = some (.int .u64 sl) ∧ w9.cell? ⟨g, 12, none⟩ = some (.int .i64 left) ∧ w9.cell? ⟨g, 13, none⟩ = some (.int .i64 more) ∧ w9.cell? ⟨g, 14, none⟩ = some (.int .i64 B)) ∧ (w9.cell? ⟨g_over, 0, none⟩ = some (.int .i64 h4) ∧ w9.cell? ⟨g_over, 1, none⟩ = some (.int .u64 l4))))
    have K0 := KK.out wc1 (Below.refl _ _)
    have KD := KK.out wc1.drew (below_drew (Below.refl _ _))
    go_region_held3 (fun w9 => (w9.cell? ⟨g, 0, none⟩ = some (x0) ∧ w9.cell? ⟨g, 1, none⟩ = some (x1) ∧ w9.cell? ⟨g, 2, none⟩ = some (x2) ∧ w9.cell? ⟨g, 3, none⟩ = some (x3) ∧ w9.cell? ⟨g, 4, none⟩ = some (x4) ∧ w9.cell? ⟨g, 5, none⟩ = some (x5) ∧ w9.cell? ⟨g, 6, none⟩ = some (x6) ∧ w9.cell? ⟨g, 7, none⟩ = some (x7) ∧ w9.cell? ⟨g, 8, none⟩ = some (.int .i64 qh) ∧ w9.cell? ⟨g, 9, none⟩ = some (.int .u64 ql) ∧ w9.cell? ⟨g, 10, none⟩ = some (.int .i64 sh) ∧ w9.cell? ⟨g, 11, none⟩ = some (.int .u64 sl) ∧ w9.cell? ⟨g, 12, none⟩ = some (.int .i64 left) ∧ w9.cell? ⟨g, 13, none⟩ = some (.int .i64 more) ∧ w9.cell? ⟨g, 14, none⟩ = some (.int .i64 B)) ∧ (w9.cell? ⟨g_over, 0, none⟩ = some (.int .i64 h4) ∧ w9.cell? ⟨g_over, 1, none⟩ = some (.int .u64 l4)))
        (first | with_reducible exact KD | with_reducible exact K0 | with_reducible exact K_w6 | (refine KK.out _ ?_; repeat' (first | with_reducible exact Below.refl _ _ | with_reducible exact B_w6.out | with_reducible apply below_new | with_reducible apply below_drew | with_reducible apply below_set | omega)))
        (first
          | (go_at_call 68
             refine (C5.out _ _ h_over.out _).mono ?_
             rintro e w6 ⟨h5, l5, left', ok5, rfl, hb, hw5⟩
             have B_w6 := Lib.hid (reg_next (w0 := wc1) (by repeat (first | with_reducible exact Below.refl _ _ | with_reducible apply below_drew | with_reducible apply below_new)) hb)
             have K_w6 := KK.out _ B_w6.out
             obtain ⟨hc_w6, hf_w6⟩ := below_reads hb
             have hz_w6 := hb.size
             try simp at hz_w6
             try (have z1_w6 := Nat.lt_of_succ_le hz_w6)
             try (have z2_w6 := Nat.lt_of_succ_lt z1_w6)
             have HB_w6 := Lib.hid hb
             clear hb))
    all_goals clear KK K0 KD K_w6
    all_goals replace hw5 := Lib.hid (hw5.of_room hb0.out R.out.2.2.1)
    all_goals go_wp2_with fail
    all_goals go_meet
    all_goals refine ⟨_, _, _, _, rfl, rfl, ⟨?_, hw5.out, ?_, ?_⟩⟩
    all_goals repeat' (first | with_reducible exact B_w6.out | with_reducible exact Below.refl _ _ | with_reducible apply below_new | with_reducible apply below_drew | (with_reducible refine below_set ?_ ?_ _) | (with_reducible refine AtB.set2 (a := .bool false) (b := .slice none 0 0) (T := 52) ?_ _ _) | (with_reducible refine AtB.set2 (a := .int .i64 0) (b := .int .u64 0) (T := 88) ?_ _ _) | (with_reducible refine AtB.far2 ?_ ?_ _ _) | (with_reducible refine BR.alloc ?_ _) | (with_reducible refine BR.far2 (a := .bool false) (b := .slice none 0 0) (T := 52) ?_ ?_ (by decide) _ _) | (with_reducible refine new_at_eq ?_ _ _; first | rfl | (simp; done)) | (with_reducible refine AtB.alloc ?_ _) | with_reducible apply AtB.drew | (with_reducible refine AtB.keep ?_ HB_w6.out) | omega)
  obtain ⟨wc2, rfl⟩ : ∃ wo : World, wo = wc := ⟨_, rfl⟩
  obtain ⟨g_q, h5, l5, left', rfl, rfl, hcut⟩ := hcut
  obtain ⟨r_q, h_q, hb, hge⟩ := hcut.out
  clear hcut
  replace r_q := Lib.hid r_q; replace h_q := Lib.hid h_q
  have d_q := Lib.hid (And.intro (Nat.le_trans BB.out.size hge) (And.intro (Nat.lt_of_lt_of_le r_k.out.lt hge) (And.intro (Nat.lt_of_lt_of_le r_far.out.lt hge) (And.intro (Nat.lt_of_lt_of_le r_over.out.lt hge) (True.intro)))))
  replace r_k := Lib.hid (r_k.out.keep hb)
  replace r_far := Lib.hid (r_far.out.keep hb)
  replace r_over := Lib.hid (r_over.out.keep hb)
  replace BB := Lib.hid (below_next BB.out hb)
  clear hb hge
  go_wp2_with fail
  have KK := Lib.hid (fun (w9 : World) (h : Below wc2.heap.size wc2 w9) => (⟨cells15 (r_k.out.keep h), cells2 (r_far.out.keep h)⟩ : (w9.cell? ⟨g, 0, none⟩ = some (x0) ∧ w9.cell? ⟨g, 1, none⟩ = some (x1) ∧ w9.cell? ⟨g, 2, none⟩ = some (x2) ∧ w9.cell? ⟨g, 3, none⟩ = some (x3) ∧ w9.cell? ⟨g, 4, none⟩ = some (x4) ∧ w9.cell? ⟨g, 5, none⟩ = some (x5) ∧ w9.cell? ⟨g, 6, none⟩ = some (x6) ∧ w9.cell? ⟨g, 7, none⟩ = some (x7) ∧ w9.cell? ⟨g, 8, none⟩ = some (.int .i64 qh) ∧ w9.cell? ⟨g, 9, none⟩ = some (.int .u64 ql) ∧ w9.cell? ⟨g, 10, none⟩ = some (.int .i64 sh) ∧ w9.cell? ⟨g, 11, none⟩ = some (.int .u64 sl) ∧ w9.cell? ⟨g, 12, none⟩ = some (.int .i64 left) ∧ w9.cell? ⟨g, 13, none⟩ = some (.int .i64 more) ∧ w9.cell? ⟨g, 14, none⟩ = some (.int .i64 B)) ∧ (w9.cell? ⟨g_far, 0, none⟩ = some (.int .i64 h1) ∧ w9.cell? ⟨g_far, 1, none⟩ = some (.int .u64 l1))))
  have K0 := KK.out wc2 (Below.refl _ _)
  have KD := KK.out wc2.drew (below_drew (Below.refl _ _))
  refine AnyG.begin_ (fun w9 => (w9.cell? ⟨g, 0, none⟩ = some (x0) ∧ w9.cell? ⟨g, 1, none⟩ = some (x1) ∧ w9.cell? ⟨g, 2, none⟩ = some (x2) ∧ w9.cell? ⟨g, 3, none⟩ = some (x3) ∧ w9.cell? ⟨g, 4, none⟩ = some (x4) ∧ w9.cell? ⟨g, 5, none⟩ = some (x5) ∧ w9.cell? ⟨g, 6, none⟩ = some (x6) ∧ w9.cell? ⟨g, 7, none⟩ = some (x7) ∧ w9.cell? ⟨g, 8, none⟩ = some (.int .i64 qh) ∧ w9.cell? ⟨g, 9, none⟩ = some (.int .u64 ql) ∧ w9.cell? ⟨g, 10, none⟩ = some (.int .i64 sh) ∧ w9.cell? ⟨g, 11, none⟩ = some (.int .u64 sl) ∧ w9.cell? ⟨g, 12, none⟩ = some (.int .i64 left) ∧ w9.cell? ⟨g, 13, none⟩ = some (.int .i64 more) ∧ w9.cell? ⟨g, 14, none⟩ = some (.int .i64 B)) ∧ (w9.cell? ⟨g_far, 0, none⟩ = some (.int .i64 h1) ∧ w9.cell? ⟨g_far, 1, none⟩ = some (.int .u64 l1))) 12 (by kernel_rfl) ?_
  refine AnyG.take (i := 0) (v := ?_) rfl (by kernel_rfl) (by kernel_rfl) (by kernel_rfl) (fun _ _ _ h => h) (by kernel_rfl) (by kernel_rfl) (Or.inl ⟨by rfl, ?_⟩) (by assumption) ?_
  rotate_left
  · intro w9 hSw; (try dsimp only at hSw); go_simp <;> with_reducible rfl
  try simp only [Act.put, List.getElem_toArray, List.getElem_cons_zero, List.getElem_cons_succ, List.setIfInBounds_toArray, List.set_cons_zero, List.set_cons_succ]
  refine AnyG.take (i := 1) (v := ?_) rfl (by kernel_rfl) (by kernel_rfl) (by kernel_rfl) (fun _ _ _ h => h) (by kernel_rfl) (by kernel_rfl) (Or.inl ⟨by rfl, ?_⟩) (by assumption) ?_
  rotate_left
  · intro w9 hSw; (try dsimp only at hSw); go_simp <;> with_reducible rfl
  try simp only [Act.put, List.getElem_toArray, List.getElem_cons_zero, List.getElem_cons_succ, List.setIfInBounds_toArray, List.set_cons_zero, List.set_cons_succ]
  refine AnyG.take (i := 2) (v := ?_) rfl (by kernel_rfl) (by kernel_rfl) (by kernel_rfl) (fun _ _ _ h => h) (by kernel_rfl) (by kernel_rfl) (Or.inl ⟨by rfl, ?_⟩) (by assumption) ?_
  rotate_left
  · intro w9 hSw; (try dsimp only at hSw); go_simp <;> with_reducible rfl
  try simp only [Act.put, List.getElem_toArray, List.getElem_cons_zero, List.getElem_cons_succ, List.setIfInBounds_toArray, List.set_cons_zero, List.set_cons_succ]
  refine AnyG.take (i := 3) (v := ?_) rfl (by kernel_rfl) (by kernel_rfl) (by kernel_rfl) (fun _ _ _ h => h) (by kernel_rfl) (by kernel_rfl) (Or.inl ⟨by rfl, ?_⟩) (by assumption) ?_
  rotate_left
  · intro w9 hSw; (try dsimp only at hSw); go_simp <;> with_reducible rfl
  try simp only [Act.put, List.getElem_toArray, List.getElem_cons_zero, List.getElem_cons_succ, List.setIfInBounds_toArray, List.set_cons_zero, List.set_cons_succ]
  refine AnyG.take (i := 4) (v := ?_) rfl (by kernel_rfl) (by kernel_rfl) (by kernel_rfl) (fun _ _ _ h => h) (by kernel_rfl) (by kernel_rfl) (Or.inl ⟨by rfl, ?_⟩) (by assumption) ?_
  rotate_left
  · intro w9 hSw; (try dsimp only at hSw); go_simp <;> with_reducible rfl
  try simp only [Act.put, List.getElem_toArray, List.getElem_cons_zero, List.getElem_cons_succ, List.setIfInBounds_toArray, List.set_cons_zero, List.set_cons_succ]
  refine AnyG.take (i := 5) (v := ?_) rfl (by kernel_rfl) (by kernel_rfl) (by kernel_rfl) (fun _ _ _ h => h) (by kernel_rfl) (by kernel_rfl) (Or.inl ⟨by rfl, ?_⟩) (by assumption) ?_
  rotate_left
  · intro w9 hSw; (try dsimp only at hSw); go_simp <;> with_reducible rfl
  try simp only [Act.put, List.getElem_toArray, List.getElem_cons_zero, List.getElem_cons_succ, List.setIfInBounds_toArray, List.set_cons_zero, List.set_cons_succ]
  refine AnyG.step (i := 6) (by kernel_rfl) rfl (fun K hK => ?_)
  go_simp
  go_at_call 71
  refine (C6.out _ _ hw1.out _).mono ?_
  rintro e w7 ⟨h6, l6, ok6, rfl, hb, hw6⟩
  have B_w7 := Lib.hid (reg_next (w0 := wc2) (by repeat (first | with_reducible exact Below.refl _ _ | with_reducible apply below_drew | with_reducible apply below_new)) hb)
  have K_w7 := KK.out _ B_w7.out
  obtain ⟨rc_k0, rc_k1, rc_k2, rc_k3, rc_k4, rc_k5, rc_k6, rc_k7, rc_k8, rc_k9, rc_k10, rc_k11, rc_k12, rc_k13, rc_k14, rf_k0, rf_k1, rf_k2, rf_k3, rf_k4, rf_k5, rf_k6, rf_k7, rf_k8, rf_k9, rf_k10, rf_k11, rf_k12, rf_k13, rf_k14⟩ := reads15 (r_k.out.keep B_w7.out)
  have rl_k := (r_k.out.keep B_w7.out).lt
  clear hb
  refine hK.out _ _ (fun _ => K_w7) (fun hHeld => ?_)
  replace hHeld := hHeld (by decide)
  clear hK
  try simp only [Act.put, List.getElem_toArray, List.getElem_cons_zero, List.getElem_cons_succ, List.setIfInBounds_toArray, List.set_cons_zero, List.set_cons_succ]
  refine AnyG.take (i := 7) (v := ?_) rfl (by kernel_rfl) (by kernel_rfl) (by kernel_rfl) (fun _ _ _ h => h) (by kernel_rfl) (by kernel_rfl) (Or.inl ⟨by rfl, ?_⟩) (by assumption) ?_
  rotate_left
  · intro w9 hSw; (try dsimp only at hSw); go_simp <;> with_reducible rfl
  try simp only [Act.put, List.getElem_toArray, List.getElem_cons_zero, List.getElem_cons_succ, List.setIfInBounds_toArray, List.set_cons_zero, List.set_cons_succ]
  refine AnyG.take (i := 8) (v := ?_) rfl (by kernel_rfl) (by kernel_rfl) (by kernel_rfl) (fun _ _ _ h => h) (by kernel_rfl) (by kernel_rfl) (Or.inl ⟨by rfl, ?_⟩) (by assumption) ?_
  rotate_left
  · intro w9 hSw; (try dsimp only at hSw); go_simp <;> with_reducible rfl
  try simp only [Act.put, List.getElem_toArray, List.getElem_cons_zero, List.getElem_cons_succ, List.setIfInBounds_toArray, List.set_cons_zero, List.set_cons_succ]
  refine AnyG.take0 (i := 9) (v := ?_) rfl (by kernel_rfl) (by kernel_rfl) (by kernel_rfl) (fun _ _ _ h => h) (by decide) (Or.inl ⟨by rfl, ?_⟩) (by assumption) ?_
  rotate_left
  · intro w9 hSw; clear hSw; go_simp <;> with_reducible rfl
  try simp only [Act.put, List.getElem_toArray, List.getElem_cons_zero, List.getElem_cons_succ, List.setIfInBounds_toArray, List.set_cons_zero, List.set_cons_succ]
  refine AnyG.take (i := 10) (v := ?_) rfl (by kernel_rfl) (by kernel_rfl) (by kernel_rfl) (fun _ _ _ h => h) (by kernel_rfl) (by kernel_rfl) (Or.inl ⟨by rfl, ?_⟩) (by assumption) ?_
  rotate_left
  · intro w9 hSw; (try dsimp only at hSw); go_simp <;> with_reducible rfl
  try simp only [Act.put, List.getElem_toArray, List.getElem_cons_zero, List.getElem_cons_succ, List.setIfInBounds_toArray, List.set_cons_zero, List.set_cons_succ]
  refine AnyG.take (i := 11) (v := ?_) rfl (by kernel_rfl) (by kernel_rfl) (by kernel_rfl) (fun _ _ _ h => h) (by kernel_rfl) (by kernel_rfl) (Or.inl ⟨by rfl, ?_⟩) (by assumption) ?_
  rotate_left
  · intro w9 hSw; (try dsimp only at hSw); go_simp <;> with_reducible rfl
  try simp only [Act.put, List.getElem_toArray, List.getElem_cons_zero, List.getElem_cons_succ, List.setIfInBounds_toArray, List.set_cons_zero, List.set_cons_succ]
  refine AnyG.step (i := 12) (by kernel_rfl) rfl (fun K hK => ?_)
  go_simp
  refine hK.out _ _ (fun h => absurd h (by decide)) (fun _ => ?_)
  clear hK
  try simp only [Act.put, List.getElem_toArray, List.getElem_cons_zero, List.getElem_cons_succ, List.setIfInBounds_toArray, List.set_cons_zero, List.set_cons_succ]
  refine AnyG.done (by kernel_rfl) ?_ _
  clear KK K0 KD K_w7
  replace r_k := Lib.hid (r_k.out.keep B_w7.out)
  replace r_far := Lib.hid (r_far.out.keep B_w7.out)
  replace r_over := Lib.hid (r_over.out.keep B_w7.out)
  replace r_q := Lib.hid (r_q.out.keep B_w7.out)
  replace BB := Lib.hid (below_next BB.out B_w7.out)
  clear B_w7
  replace hw6 := Lib.hid (hw6.of_room R.out.2.2.2.1)
  replace r_k := Lib.hid (show AtB ((w7.setCell ⟨g, 8, none⟩ (.int .i64 h6)).setCell ⟨g, 9, none⟩ (.int .u64 l6)) (g) #[x0, x1, x2, x3, x4, x5, x6, x7, .int .i64 h6, .int .u64 l6, .int .i64 sh, .int .u64 sl, .int .i64 left, .int .i64 more, .int .i64 B] WK from by have k := ((r_k.out.set_n 8 (.int .i64 h6)).set_n 9 (.int .u64 l6)); simpa using k)
  replace r_far := Lib.hid ((r_far.out.far (p := g) (by have dd_far := d_far.out; omega) 8 (.int .i64 h6)).far (p := g) (by have dd_far := d_far.out; omega) 9 (.int .u64 l6))
  replace r_over := Lib.hid ((r_over.out.far (p := g) (by have dd_over := d_over.out; omega) 8 (.int .i64 h6)).far (p := g) (by have dd_over := d_over.out; omega) 9 (.int .u64 l6))
  replace r_q := Lib.hid ((r_q.out.far (p := g) (by have dd_q := d_q.out; omega) 8 (.int .i64 h6)).far (p := g) (by have dd_q := d_q.out; omega) 9 (.int .u64 l6))
  replace BB := Lib.hid (below_set (below_set BB.out (b := g) (o := 8) (by omega) (.int .i64 h6)) (b := g) (o := 9) (by omega) (.int .u64 l6))
  generalize ((w7.setCell ⟨g, 8, none⟩ (.int .i64 h6)).setCell ⟨g, 9, none⟩ (.int .u64 l6)) = w8 at *
  go_wp2_with fail
  have KK := Lib.hid (fun (w9 : World) (h : Below w8.heap.size w8 w9) => (⟨cells15 (r_k.out.keep h), cells2 (r_q.out.keep h)⟩ : (w9.cell? ⟨g, 0, none⟩ = some (x0) ∧ w9.cell? ⟨g, 1, none⟩ = some (x1) ∧ w9.cell? ⟨g, 2, none⟩ = some (x2) ∧ w9.cell? ⟨g, 3, none⟩ = some (x3) ∧ w9.cell? ⟨g, 4, none⟩ = some (x4) ∧ w9.cell? ⟨g, 5, none⟩ = some (x5) ∧ w9.cell? ⟨g, 6, none⟩ = some (x6) ∧ w9.cell? ⟨g, 7, none⟩ = some (x7) ∧ w9.cell? ⟨g, 8, none⟩ = some (.int .i64 h6) ∧ w9.cell? ⟨g, 9, none⟩ = some (.int .u64 l6) ∧ w9.cell? ⟨g, 10, none⟩ = some (.int .i64 sh) ∧ w9.cell? ⟨g, 11, none⟩ = some (.int .u64 sl) ∧ w9.cell? ⟨g, 12, none⟩ = some (.int .i64 left) ∧ w9.cell? ⟨g, 13, none⟩ = some (.int .i64 more) ∧ w9.cell? ⟨g, 14, none⟩ = some (.int .i64 B)) ∧ (w9.cell? ⟨g_q, 0, none⟩ = some (.int .i64 h5) ∧ w9.cell? ⟨g_q, 1, none⟩ = some (.int .u64 l5))))
  have K0 := KK.out w8 (Below.refl _ _)
  have KD := KK.out w8.drew (below_drew (Below.refl _ _))
  refine AnyG.begin_ (fun w9 => (w9.cell? ⟨g, 0, none⟩ = some (x0) ∧ w9.cell? ⟨g, 1, none⟩ = some (x1) ∧ w9.cell? ⟨g, 2, none⟩ = some (x2) ∧ w9.cell? ⟨g, 3, none⟩ = some (x3) ∧ w9.cell? ⟨g, 4, none⟩ = some (x4) ∧ w9.cell? ⟨g, 5, none⟩ = some (x5) ∧ w9.cell? ⟨g, 6, none⟩ = some (x6) ∧ w9.cell? ⟨g, 7, none⟩ = some (x7) ∧ w9.cell? ⟨g, 8, none⟩ = some (.int .i64 h6) ∧ w9.cell? ⟨g, 9, none⟩ = some (.int .u64 l6) ∧ w9.cell? ⟨g, 10, none⟩ = some (.int .i64 sh) ∧ w9.cell? ⟨g, 11, none⟩ = some (.int .u64 sl) ∧ w9.cell? ⟨g, 12, none⟩ = some (.int .i64 left) ∧ w9.cell? ⟨g, 13, none⟩ = some (.int .i64 more) ∧ w9.cell? ⟨g, 14, none⟩ = some (.int .i64 B)) ∧ (w9.cell? ⟨g_q, 0, none⟩ = some (.int .i64 h5) ∧ w9.cell? ⟨g_q, 1, none⟩ = some (.int .u64 l5))) 12 (by kernel_rfl) ?_
  refine AnyG.take (i := 0) (v := ?_) rfl (by kernel_rfl) (by kernel_rfl) (by kernel_rfl) (fun _ _ _ h => h) (by kernel_rfl) (by kernel_rfl) (Or.inl ⟨by rfl, ?_⟩) (by assumption) ?_
  rotate_left
  · intro w9 hSw; (try dsimp only at hSw); go_simp <;> with_reducible rfl
  try simp only [Act.put, List.getElem_toArray, List.getElem_cons_zero, List.getElem_cons_succ, List.setIfInBounds_toArray, List.set_cons_zero, List.set_cons_succ]
  refine AnyG.take (i := 1) (v := ?_) rfl (by kernel_rfl) (by kernel_rfl) (by kernel_rfl) (fun _ _ _ h => h) (by kernel_rfl) (by kernel_rfl) (Or.inl ⟨by rfl, ?_⟩) (by assumption) ?_
  rotate_left
  · intro w9 hSw; (try dsimp only at hSw); go_simp <;> with_reducible rfl
  try simp only [Act.put, List.getElem_toArray, List.getElem_cons_zero, List.getElem_cons_succ, List.setIfInBounds_toArray, List.set_cons_zero, List.set_cons_succ]
  refine AnyG.take (i := 2) (v := ?_) rfl (by kernel_rfl) (by kernel_rfl) (by kernel_rfl) (fun _ _ _ h => h) (by kernel_rfl) (by kernel_rfl) (Or.inl ⟨by rfl, ?_⟩) (by assumption) ?_
  rotate_left
  · intro w9 hSw; (try dsimp only at hSw); go_simp <;> with_reducible rfl
  try simp only [Act.put, List.getElem_toArray, List.getElem_cons_zero, List.getElem_cons_succ, List.setIfInBounds_toArray, List.set_cons_zero, List.set_cons_succ]
  refine AnyG.take (i := 3) (v := ?_) rfl (by kernel_rfl) (by kernel_rfl) (by kernel_rfl) (fun _ _ _ h => h) (by kernel_rfl) (by kernel_rfl) (Or.inl ⟨by rfl, ?_⟩) (by assumption) ?_
  rotate_left
  · intro w9 hSw; (try dsimp only at hSw); go_simp <;> with_reducible rfl
  try simp only [Act.put, List.getElem_toArray, List.getElem_cons_zero, List.getElem_cons_succ, List.setIfInBounds_toArray, List.set_cons_zero, List.set_cons_succ]
  refine AnyG.take (i := 4) (v := ?_) rfl (by kernel_rfl) (by kernel_rfl) (by kernel_rfl) (fun _ _ _ h => h) (by kernel_rfl) (by kernel_rfl) (Or.inl ⟨by rfl, ?_⟩) (by assumption) ?_
  rotate_left
  · intro w9 hSw; (try dsimp only at hSw); go_simp <;> with_reducible rfl
  try simp only [Act.put, List.getElem_toArray, List.getElem_cons_zero, List.getElem_cons_succ, List.setIfInBounds_toArray, List.set_cons_zero, List.set_cons_succ]
  refine AnyG.take (i := 5) (v := ?_) rfl (by kernel_rfl) (by kernel_rfl) (by kernel_rfl) (fun _ _ _ h => h) (by kernel_rfl) (by kernel_rfl) (Or.inl ⟨by rfl, ?_⟩) (by assumption) ?_
  rotate_left
  · intro w9 hSw; (try dsimp only at hSw); go_simp <;> with_reducible rfl
  try simp only [Act.put, List.getElem_toArray, List.getElem_cons_zero, List.getElem_cons_succ, List.setIfInBounds_toArray, List.set_cons_zero, List.set_cons_succ]
  refine AnyG.step (i := 6) (by kernel_rfl) rfl (fun K hK => ?_)
  go_simp
  go_at_call 71
  refine (C7.out _ _ _ _ hw6.out h_q.out.1 _).mono ?_
  rintro e w9 ⟨h7, l7, ok7, rfl, hb, hw7⟩
  have B_w9 := Lib.hid (reg_next (w0 := w8) (by repeat (first | with_reducible exact Below.refl _ _ | with_reducible apply below_drew | with_reducible apply below_new)) hb)
  have K_w9 := KK.out _ B_w9.out
  obtain ⟨rc_k0, rc_k1, rc_k2, rc_k3, rc_k4, rc_k5, rc_k6, rc_k7, rc_k8, rc_k9, rc_k10, rc_k11, rc_k12, rc_k13, rc_k14, rf_k0, rf_k1, rf_k2, rf_k3, rf_k4, rf_k5, rf_k6, rf_k7, rf_k8, rf_k9, rf_k10, rf_k11, rf_k12, rf_k13, rf_k14⟩ := reads15 (r_k.out.keep B_w9.out)
  have rl_k := (r_k.out.keep B_w9.out).lt
  clear hb
  refine hK.out _ _ (fun _ => K_w9) (fun hHeld => ?_)
  replace hHeld := hHeld (by decide)
  clear hK
  try simp only [Act.put, List.getElem_toArray, List.getElem_cons_zero, List.getElem_cons_succ, List.setIfInBounds_toArray, List.set_cons_zero, List.set_cons_succ]
  refine AnyG.take (i := 7) (v := ?_) rfl (by kernel_rfl) (by kernel_rfl) (by kernel_rfl) (fun _ _ _ h => h) (by kernel_rfl) (by kernel_rfl) (Or.inl ⟨by rfl, ?_⟩) (by assumption) ?_
  rotate_left
  · intro w9 hSw; (try dsimp only at hSw); go_simp <;> with_reducible rfl
  try simp only [Act.put, List.getElem_toArray, List.getElem_cons_zero, List.getElem_cons_succ, List.setIfInBounds_toArray, List.set_cons_zero, List.set_cons_succ]
  refine AnyG.take (i := 8) (v := ?_) rfl (by kernel_rfl) (by kernel_rfl) (by kernel_rfl) (fun _ _ _ h => h) (by kernel_rfl) (by kernel_rfl) (Or.inl ⟨by rfl, ?_⟩) (by assumption) ?_
  rotate_left
  · intro w9 hSw; (try dsimp only at hSw); go_simp <;> with_reducible rfl
  try simp only [Act.put, List.getElem_toArray, List.getElem_cons_zero, List.getElem_cons_succ, List.setIfInBounds_toArray, List.set_cons_zero, List.set_cons_succ]
  refine AnyG.take0 (i := 9) (v := ?_) rfl (by kernel_rfl) (by kernel_rfl) (by kernel_rfl) (fun _ _ _ h => h) (by decide) (Or.inl ⟨by rfl, ?_⟩) (by assumption) ?_
  rotate_left
  · intro w9 hSw; clear hSw; go_simp <;> with_reducible rfl
  try simp only [Act.put, List.getElem_toArray, List.getElem_cons_zero, List.getElem_cons_succ, List.setIfInBounds_toArray, List.set_cons_zero, List.set_cons_succ]
  refine AnyG.take (i := 10) (v := ?_) rfl (by kernel_rfl) (by kernel_rfl) (by kernel_rfl) (fun _ _ _ h => h) (by kernel_rfl) (by kernel_rfl) (Or.inl ⟨by rfl, ?_⟩) (by assumption) ?_
  rotate_left
  · intro w9 hSw; (try dsimp only at hSw); go_simp <;> with_reducible rfl
  try simp only [Act.put, List.getElem_toArray, List.getElem_cons_zero, List.getElem_cons_succ, List.setIfInBounds_toArray, List.set_cons_zero, List.set_cons_succ]
  refine AnyG.take (i := 11) (v := ?_) rfl (by kernel_rfl) (by kernel_rfl) (by kernel_rfl) (fun _ _ _ h => h) (by kernel_rfl) (by kernel_rfl) (Or.inl ⟨by rfl, ?_⟩) (by assumption) ?_
  rotate_left
  · intro w9 hSw; (try dsimp only at hSw); go_simp <;> with_reducible rfl
  try simp only [Act.put, List.getElem_toArray, List.getElem_cons_zero, List.getElem_cons_succ, List.setIfInBounds_toArray, List.set_cons_zero, List.set_cons_succ]
  refine AnyG.step (i := 12) (by kernel_rfl) rfl (fun K hK => ?_)
  go_simp
  refine hK.out _ _ (fun h => absurd h (by decide)) (fun _ => ?_)
  clear hK
  try simp only [Act.put, List.getElem_toArray, List.getElem_cons_zero, List.getElem_cons_succ, List.setIfInBounds_toArray, List.set_cons_zero, List.set_cons_succ]
  refine AnyG.done (by kernel_rfl) ?_ _
  clear KK K0 KD K_w9
  replace r_k := Lib.hid (r_k.out.keep B_w9.out)
  replace r_far := Lib.hid (r_far.out.keep B_w9.out)
  replace r_over := Lib.hid (r_over.out.keep B_w9.out)
  replace r_q := Lib.hid (r_q.out.keep B_w9.out)
  replace BB := Lib.hid (below_next BB.out B_w9.out)
  clear B_w9
  replace hw7 := Lib.hid (hw7.of_room R.out.2.2.2.2)
  replace r_k := Lib.hid (show AtB ((w9.setCell ⟨g, 8, none⟩ (.int .i64 h7)).setCell ⟨g, 9, none⟩ (.int .u64 l7)) (g) #[x0, x1, x2, x3, x4, x5, x6, x7, .int .i64 h7, .int .u64 l7, .int .i64 sh, .int .u64 sl, .int .i64 left, .int .i64 more, .int .i64 B] WK from by have k := ((r_k.out.set_n 8 (.int .i64 h7)).set_n 9 (.int .u64 l7)); simpa using k)
  replace r_far := Lib.hid ((r_far.out.far (p := g) (by have dd_far := d_far.out; omega) 8 (.int .i64 h7)).far (p := g) (by have dd_far := d_far.out; omega) 9 (.int .u64 l7))
  replace r_over := Lib.hid ((r_over.out.far (p := g) (by have dd_over := d_over.out; omega) 8 (.int .i64 h7)).far (p := g) (by have dd_over := d_over.out; omega) 9 (.int .u64 l7))
  replace r_q := Lib.hid ((r_q.out.far (p := g) (by have dd_q := d_q.out; omega) 8 (.int .i64 h7)).far (p := g) (by have dd_q := d_q.out; omega) 9 (.int .u64 l7))
  replace BB := Lib.hid (below_set (below_set BB.out (b := g) (o := 8) (by omega) (.int .i64 h7)) (b := g) (o := 9) (by omega) (.int .u64 l7))
  generalize ((w9.setCell ⟨g, 8, none⟩ (.int .i64 h7)).setCell ⟨g, 9, none⟩ (.int .u64 l7)) = w10 at *
  obtain ⟨c_k0, c_k1, c_k2, c_k3, c_k4, c_k5, c_k6, c_k7, c_k8, c_k9, c_k10, c_k11, c_k12, c_k13, c_k14, f_k0, f_k1, f_k2, f_k3, f_k4, f_k5, f_k6, f_k7, f_k8, f_k9, f_k10, f_k11, f_k12, f_k13, f_k14⟩ := reads15 r_k.out
  have l_k := r_k.out.lt
  go_wp2_with fail
  clear c_k0 c_k1 c_k2 c_k3 c_k4 c_k5 c_k6 c_k7 c_k8 c_k9 c_k10 c_k11 c_k12 c_k13 c_k14 f_k0 f_k1 f_k2 f_k3 f_k4 f_k5 f_k6 f_k7 f_k8 f_k9 f_k10 f_k11 f_k12 f_k13 f_k14 l_k
  replace r_k := Lib.hid (show AtB (w10.setCell ⟨g, 12, none⟩ (.int .i64 left')) (g) #[x0, x1, x2, x3, x4, x5, x6, x7, .int .i64 h7, .int .u64 l7, .int .i64 sh, .int .u64 sl, .int .i64 left', .int .i64 more, .int .i64 B] WK from by have k := (r_k.out.set_n 12 (.int .i64 left')); simpa using k)
  replace r_far := Lib.hid (r_far.out.far (p := g) (by have dd_far := d_far.out; omega) 12 (.int .i64 left'))
  replace r_over := Lib.hid (r_over.out.far (p := g) (by have dd_over := d_over.out; omega) 12 (.int .i64 left'))
  replace r_q := Lib.hid (r_q.out.far (p := g) (by have dd_q := d_q.out; omega) 12 (.int .i64 left'))
  replace BB := Lib.hid (below_set BB.out (b := g) (o := 12) (by omega) (.int .i64 left'))
  generalize (w10.setCell ⟨g, 12, none⟩ (.int .i64 left')) = w11 at *
  refine bodyPost_ret (v := .tuple #[]) (by unfold results; simp only [Try.results65]; go_simp) rfl ?_
  exact ⟨rfl, BB.out, _, _, _, r_k.out, ⟨by rw [hS.out.1]; exact hw7.out, by rw [eS.out]; exact HS.out, by rw [hS.out.2]; exact h_q.out.2, HM.out⟩⟩

end Go.Proofs.Ytbldgbenlmjmjaa
