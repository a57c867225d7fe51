/- Walk of QuotBack. -/
import Derived.Test.YtalihekeipbafaaQLaws
set_option linter.unusedVariables false
namespace Go.Proofs.Ytalihekeipbafaa
open Go.RowKit

theorem WB.same {z h l h' l' : Int} {ok ok' : Bool} (a : WB z h l ok) (b : WB z h' l' ok') : h = h' ∧ l = l' ∧ ok = ok' := by
  rcases a with ⟨r, rfl, a⟩ | ⟨r, rfl, rfl, rfl⟩ <;> rcases b with ⟨r', rfl, b⟩ | ⟨r', rfl, rfl, rfl⟩
  · obtain ⟨e1, e2⟩ := (W128.cmp a b).2.1 rfl; exact ⟨e1, e2, rfl⟩
  · exact absurd r r'
  · exact absurd r' r
  · exact ⟨rfl, rfl, rfl⟩

set_option maxRecDepth 100000 in
set_option maxHeartbeats 4000000 in
theorem quotBack_any (ah al b : Int) (a1 : I64 ah) (a2 : U64 al) (hb : I64 b) (w : World) :
    Calls Try.prog 10 #[wv ah al, .int .i64 b] w fun e w' => e = .returned (.bool true) ∧ Below w.heap.size w w' := by
  obtain ⟨z, hz⟩ : ∃ z, W128 z ah al := ⟨_, a1, a2, rfl⟩
  have CW := Lib.hid (fun w => qwide z ah al b hz hb w)
  have CA := Lib.hid (fun w => alive2_any w)
  go_enter Try.func10, Try.ntmps10
  go_wp2_with fail
  have BB := start1 w #[.int .i64 ah, .int .u64 al] 24
  obtain ⟨BB, hsz, r_a⟩ := BB
  generalize (w.alloc (.cells #[.int .i64 ah, .int .u64 al] 24)) = w0 at *
  replace BB := Lib.hid BB
  replace r_a := Lib.hid r_a
  clear hsz
  have HB := Lib.hid hb
  clear hb
  refine (CW.out _).mono ?_
  rintro e w1 ⟨qh, ql, r, ok, rfl, hb, hq⟩
  replace r_a := Lib.hid (r_a.out.keep hb)
  replace BB := Lib.hid (below_next BB.out hb)
  clear hb
  clear CW
  rcases hq with ⟨-, h0, rfl, hW, rfl⟩ | ⟨hn, rfl, rfl, rfl, rfl⟩
  · have hr := fmod_bounds (a := z) h0
    have hm : I64 (z.fmod b) := by have := HB.out; unfold I64 at *; omega
    have CS := Lib.hid (fun w => wscale (z.fdiv b) b qh ql hW HB.out w)
    have CO := Lib.hid (fun w => wof (z.fmod b) hm w)
    have CD := Lib.hid (fun oh ol (ho : W128 (z.fmod b) oh ol) w => wsub z (z.fmod b) ah al oh ol hz ho w)
    rw [show z.fdiv b * b = z - z.fmod b by have := fdiv_spec z b; rw [Int.mul_comm] at this; omega] at CS
    have hb1 : (b == 0) = false := by simpa using h0
    by_cases hbn : b < 0
    · have d1 : decide (b > 0) = false := decide_eq_false (by omega)
      have d2 : decide (b < 0) = true := decide_eq_true hbn
      have d3 : decide (z.fmod b > 0) = false := decide_eq_false (by omega)
      have d4 : decide (z.fmod b ≤ b) = false := decide_eq_false (by omega)
      clear hW hm HB hz a1 a2 hr h0
      generalize z - z.fmod b = d at *
      generalize z.fmod b = m at *
      generalize z.fdiv b = q at *
      obtain ⟨c_a0, c_a1, f_a0, f_a1⟩ := reads2 r_a.out
      have l_a := r_a.out.lt
      go_wp2_with fail
      clear c_a0 c_a1 f_a0 f_a1 l_a
      have d_q := Lib.hid (And.intro BB.out.size (And.intro r_a.out.lt (True.intro)))
      obtain ⟨hb, r_q⟩ := laid w1 #[.int .i64 qh, .int .u64 ql] 24
      replace r_a := Lib.hid (r_a.out.keep hb)
      replace BB := Lib.hid (below_next BB.out hb)
      replace r_q := Lib.hid r_q
      clear hb
      generalize w1.alloc (.cells #[.int .i64 qh, .int .u64 ql] 24) = w2 at *
      generalize w1.heap.size = g_q at *
      refine (CS.out _).mono ?_
      rintro e w3 ⟨ph, pl, po, rfl, hb, hp⟩
      replace r_a := Lib.hid (r_a.out.keep hb)
      replace r_q := Lib.hid (r_q.out.keep hb)
      replace BB := Lib.hid (below_next BB.out hb)
      clear hb
      have HP := Lib.hid hp
      clear hp CS
      go_wp2_with fail
      have d_p := Lib.hid (And.intro BB.out.size (And.intro r_a.out.lt (And.intro r_q.out.lt (True.intro))))
      obtain ⟨hb, r_p⟩ := laid w3 #[.int .i64 ph, .int .u64 pl] 24
      replace r_a := Lib.hid (r_a.out.keep hb)
      replace r_q := Lib.hid (r_q.out.keep hb)
      replace BB := Lib.hid (below_next BB.out hb)
      replace r_p := Lib.hid r_p
      clear hb
      generalize w3.alloc (.cells #[.int .i64 ph, .int .u64 pl] 24) = w4 at *
      generalize w3.heap.size = g_p at *
      clear d1 d2 d3 d4
      go_cut [10, 11] (fun s10 s11 wc => ∃ gd, s10 = .pointer (some ⟨gd, 0, none⟩) ∧ s11 = .bool po ∧
        Hid (AtB wc gd #[.int .i64 ph, .int .u64 pl] 24 ∧ Below w4.heap.size w4 wc))
      case first =>
        clear CA
        have KK := Lib.hid (fun (w9 : World) (h : Below w4.heap.size w4 w9) => (cells2 (r_a.out.keep h) : (w9.cell? ⟨w.heap.size, 0, none⟩ = some (.int .i64 ah) ∧ w9.cell? ⟨w.heap.size, 1, none⟩ = some (.int .u64 al))))
        have K0 := KK.out w4 (Below.refl _ _)
        have KD := KK.out w4.drew (below_drew (Below.refl _ _))
        go_region_held3 (fun w9 => (w9.cell? ⟨w.heap.size, 0, none⟩ = some (.int .i64 ah) ∧ w9.cell? ⟨w.heap.size, 1, none⟩ = some (.int .u64 al)))
            (first | with_reducible exact KD | with_reducible exact K0 | with_reducible exact K_w5 | with_reducible exact K_w6 | (refine KK.out _ ?_; repeat' (first | with_reducible exact Below.refl _ _ | with_reducible exact B_w5.out | with_reducible exact B_w6.out | with_reducible apply below_new | with_reducible apply below_drew | with_reducible apply below_set | omega)))
            (first
              | (go_at_call 23
                 refine (CO.out _).mono ?_
                 rintro e w5 ⟨oh, ol, rfl, hb, ho⟩
                 have B_w5 := Lib.hid (reg_next (w0 := w4) (by repeat (first | with_reducible exact Below.refl _ _ | with_reducible apply below_drew | with_reducible apply below_new)) hb)
                 have K_w5 := KK.out _ B_w5.out
                 obtain ⟨hc_w5, hf_w5⟩ := below_reads hb
                 have hz_w5 := hb.size
                 try simp at hz_w5
                 try (have z1_w5 := Nat.lt_of_succ_le hz_w5)
                 try (have z2_w5 := Nat.lt_of_succ_lt z1_w5)
                 have HB_w5 := Lib.hid hb
                 clear hb)
              | (go_at_call 17
                 refine (CD.out _ _ ho _).mono ?_
                 rintro e w6 ⟨xh, xl, xo, rfl, hb, hx⟩
                 have B_w6 := Lib.hid (below_next (by repeat (first | with_reducible exact B_w5.out | with_reducible apply below_new | with_reducible apply below_drew)) hb)
                 have K_w6 := KK.out _ B_w6.out
                 obtain ⟨hc_w6, hf_w6⟩ := below_reads hb
                 have hz_w6 := hb.size
                 try simp at hz_w6
                 try (have z1_w6 := Nat.lt_of_succ_le hz_w6)
                 try (have z2_w6 := Nat.lt_of_succ_lt z1_w6)
                 have HB_w6 := Lib.hid hb
                 have y_w6_w5 := Nat.le_trans HB_w5.out.size (Nat.le_trans (by (try simp only [World.size_alloc]); omega) hb.size)
                 try simp at y_w6_w5
                 try (have z3_w6_w5 := Nat.lt_of_succ_le y_w6_w5)
                 try (have z4_w6_w5 := Nat.lt_of_succ_lt z3_w6_w5)
                 clear hb))
        all_goals clear KK K0 KD K_w5 K_w6
        all_goals obtain ⟨rfl, rfl, rfl⟩ := HP.out.same hx
        all_goals go_wp2_with fail
        all_goals go_meet
        all_goals refine ⟨_, rfl, rfl, ⟨?_, ?_⟩⟩
        all_goals repeat' (first | with_reducible exact B_w5.out | with_reducible exact B_w6.out | with_reducible exact Below.refl _ _ | with_reducible apply below_new | with_reducible apply below_drew | (with_reducible refine below_set ?_ ?_ _) | (with_reducible refine AtB.set2 (a := .bool false) (b := .slice none 0 0) (T := 27) ?_ _ _) | (with_reducible refine AtB.set2 (a := .int .i64 0) (b := .int .u64 0) (T := 24) ?_ _ _) | (with_reducible refine AtB.far2 ?_ ?_ _ _) | (with_reducible refine BR.alloc ?_ _) | (with_reducible refine BR.far2 (a := .bool false) (b := .slice none 0 0) (T := 27) ?_ ?_ (by decide) _ _) | (with_reducible refine new_at_eq ?_ _ _; first | rfl | (simp; done)) | (with_reducible refine AtB.alloc ?_ _) | with_reducible apply AtB.drew | (with_reducible refine AtB.keep ?_ HB_w6.out) | (with_reducible refine AtB.keep ?_ HB_w5.out) | omega)
      case rest =>
        obtain ⟨gd, rfl, rfl, hcut⟩ := hcut
        obtain ⟨r_d, hb⟩ := hcut.out
        clear hcut
        replace r_d := Lib.hid r_d
        replace r_p := Lib.hid (r_p.out.keep hb)
        replace BB := Lib.hid (below_next BB.out hb)
        clear hb CO CD
        obtain ⟨c_p0, c_p1, f_p0, f_p1⟩ := reads2 r_p.out
        have l_p := r_p.out.lt
        obtain ⟨c_d0, c_d1, f_d0, f_d1⟩ := reads2 r_d.out
        have l_d := r_d.out.lt
        go_wp2_with fail
        refine (CA.out _).mono ?_
        rintro e w7 ⟨rfl, hb⟩
        clear c_p0 c_p1 f_p0 f_p1 l_p c_d0 c_d1 f_d0 f_d1 l_d
        replace r_p := Lib.hid (r_p.out.keep hb)
        replace r_d := Lib.hid (r_d.out.keep hb)
        replace BB := Lib.hid (below_next BB.out hb)
        clear hb
        go_wp2_with fail
        go_ret
        exact ⟨rfl, BB.out⟩
    · have d1 : decide (b > 0) = true := decide_eq_true (by omega)
      have d2 : decide (b < 0) = false := decide_eq_false (by omega)
      have d3 : decide (z.fmod b < 0) = false := decide_eq_false (by omega)
      have d4 : decide (z.fmod b ≥ b) = false := decide_eq_false (by omega)
      clear hW hm HB hz a1 a2 hr h0
      generalize z - z.fmod b = d at *
      generalize z.fmod b = m at *
      generalize z.fdiv b = q at *
      obtain ⟨c_a0, c_a1, f_a0, f_a1⟩ := reads2 r_a.out
      have l_a := r_a.out.lt
      go_wp2_with fail
      clear c_a0 c_a1 f_a0 f_a1 l_a
      have d_q := Lib.hid (And.intro BB.out.size (And.intro r_a.out.lt (True.intro)))
      obtain ⟨hb, r_q⟩ := laid w1 #[.int .i64 qh, .int .u64 ql] 24
      replace r_a := Lib.hid (r_a.out.keep hb)
      replace BB := Lib.hid (below_next BB.out hb)
      replace r_q := Lib.hid r_q
      clear hb
      generalize w1.alloc (.cells #[.int .i64 qh, .int .u64 ql] 24) = w2 at *
      generalize w1.heap.size = g_q at *
      refine (CS.out _).mono ?_
      rintro e w3 ⟨ph, pl, po, rfl, hb, hp⟩
      replace r_a := Lib.hid (r_a.out.keep hb)
      replace r_q := Lib.hid (r_q.out.keep hb)
      replace BB := Lib.hid (below_next BB.out hb)
      clear hb
      have HP := Lib.hid hp
      clear hp CS
      go_wp2_with fail
      have d_p := Lib.hid (And.intro BB.out.size (And.intro r_a.out.lt (And.intro r_q.out.lt (True.intro))))
      obtain ⟨hb, r_p⟩ := laid w3 #[.int .i64 ph, .int .u64 pl] 24
      replace r_a := Lib.hid (r_a.out.keep hb)
      replace r_q := Lib.hid (r_q.out.keep hb)
      replace BB := Lib.hid (below_next BB.out hb)
      replace r_p := Lib.hid r_p
      clear hb
      generalize w3.alloc (.cells #[.int .i64 ph, .int .u64 pl] 24) = w4 at *
      generalize w3.heap.size = g_p at *
      clear d1 d2 d3 d4
      go_cut [10, 11] (fun s10 s11 wc => ∃ gd, s10 = .pointer (some ⟨gd, 0, none⟩) ∧ s11 = .bool po ∧
        Hid (AtB wc gd #[.int .i64 ph, .int .u64 pl] 24 ∧ Below w4.heap.size w4 wc))
      case first =>
        clear CA
        have KK := Lib.hid (fun (w9 : World) (h : Below w4.heap.size w4 w9) => (cells2 (r_a.out.keep h) : (w9.cell? ⟨w.heap.size, 0, none⟩ = some (.int .i64 ah) ∧ w9.cell? ⟨w.heap.size, 1, none⟩ = some (.int .u64 al))))
        have K0 := KK.out w4 (Below.refl _ _)
        have KD := KK.out w4.drew (below_drew (Below.refl _ _))
        go_region_held3 (fun w9 => (w9.cell? ⟨w.heap.size, 0, none⟩ = some (.int .i64 ah) ∧ w9.cell? ⟨w.heap.size, 1, none⟩ = some (.int .u64 al)))
            (first | with_reducible exact KD | with_reducible exact K0 | with_reducible exact K_w5 | with_reducible exact K_w6 | (refine KK.out _ ?_; repeat' (first | with_reducible exact Below.refl _ _ | with_reducible exact B_w5.out | with_reducible exact B_w6.out | with_reducible apply below_new | with_reducible apply below_drew | with_reducible apply below_set | omega)))
            (first
              | (go_at_call 23
                 refine (CO.out _).mono ?_
                 rintro e w5 ⟨oh, ol, rfl, hb, ho⟩
                 have B_w5 := Lib.hid (reg_next (w0 := w4) (by repeat (first | with_reducible exact Below.refl _ _ | with_reducible apply below_drew | with_reducible apply below_new)) hb)
                 have K_w5 := KK.out _ B_w5.out
                 obtain ⟨hc_w5, hf_w5⟩ := below_reads hb
                 have hz_w5 := hb.size
                 try simp at hz_w5
                 try (have z1_w5 := Nat.lt_of_succ_le hz_w5)
                 try (have z2_w5 := Nat.lt_of_succ_lt z1_w5)
                 have HB_w5 := Lib.hid hb
                 clear hb)
              | (go_at_call 17
                 refine (CD.out _ _ ho _).mono ?_
                 rintro e w6 ⟨xh, xl, xo, rfl, hb, hx⟩
                 have B_w6 := Lib.hid (below_next (by repeat (first | with_reducible exact B_w5.out | with_reducible apply below_new | with_reducible apply below_drew)) hb)
                 have K_w6 := KK.out _ B_w6.out
                 obtain ⟨hc_w6, hf_w6⟩ := below_reads hb
                 have hz_w6 := hb.size
                 try simp at hz_w6
                 try (have z1_w6 := Nat.lt_of_succ_le hz_w6)
                 try (have z2_w6 := Nat.lt_of_succ_lt z1_w6)
                 have HB_w6 := Lib.hid hb
                 have y_w6_w5 := Nat.le_trans HB_w5.out.size (Nat.le_trans (by (try simp only [World.size_alloc]); omega) hb.size)
                 try simp at y_w6_w5
                 try (have z3_w6_w5 := Nat.lt_of_succ_le y_w6_w5)
                 try (have z4_w6_w5 := Nat.lt_of_succ_lt z3_w6_w5)
                 clear hb))
        all_goals clear KK K0 KD K_w5 K_w6
        all_goals obtain ⟨rfl, rfl, rfl⟩ := HP.out.same hx
        all_goals go_wp2_with fail
        all_goals go_meet
        all_goals refine ⟨_, rfl, rfl, ⟨?_, ?_⟩⟩
        all_goals repeat' (first | with_reducible exact B_w5.out | with_reducible exact B_w6.out | with_reducible exact Below.refl _ _ | with_reducible apply below_new | with_reducible apply below_drew | (with_reducible refine below_set ?_ ?_ _) | (with_reducible refine AtB.set2 (a := .bool false) (b := .slice none 0 0) (T := 27) ?_ _ _) | (with_reducible refine AtB.set2 (a := .int .i64 0) (b := .int .u64 0) (T := 24) ?_ _ _) | (with_reducible refine AtB.far2 ?_ ?_ _ _) | (with_reducible refine BR.alloc ?_ _) | (with_reducible refine BR.far2 (a := .bool false) (b := .slice none 0 0) (T := 27) ?_ ?_ (by decide) _ _) | (with_reducible refine new_at_eq ?_ _ _; first | rfl | (simp; done)) | (with_reducible refine AtB.alloc ?_ _) | with_reducible apply AtB.drew | (with_reducible refine AtB.keep ?_ HB_w6.out) | (with_reducible refine AtB.keep ?_ HB_w5.out) | omega)
      case rest =>
        obtain ⟨gd, rfl, rfl, hcut⟩ := hcut
        obtain ⟨r_d, hb⟩ := hcut.out
        clear hcut
        replace r_d := Lib.hid r_d
        replace r_p := Lib.hid (r_p.out.keep hb)
        replace BB := Lib.hid (below_next BB.out hb)
        clear hb CO CD
        obtain ⟨c_p0, c_p1, f_p0, f_p1⟩ := reads2 r_p.out
        have l_p := r_p.out.lt
        obtain ⟨c_d0, c_d1, f_d0, f_d1⟩ := reads2 r_d.out
        have l_d := r_d.out.lt
        go_wp2_with fail
        refine (CA.out _).mono ?_
        rintro e w7 ⟨rfl, hb⟩
        clear c_p0 c_p1 f_p0 f_p1 l_p c_d0 c_d1 f_d0 f_d1 l_d
        replace r_p := Lib.hid (r_p.out.keep hb)
        replace r_d := Lib.hid (r_d.out.keep hb)
        replace BB := Lib.hid (below_next BB.out hb)
        clear hb
        go_wp2_with fail
        go_ret
        exact ⟨rfl, BB.out⟩
  · skip
    go_wp2_with fail
    have d_q := Lib.hid (And.intro BB.out.size (And.intro r_a.out.lt (True.intro)))
    obtain ⟨hb, r_q⟩ := laid w1 #[.int .i64 0, .int .u64 0] 24
    replace r_a := Lib.hid (r_a.out.keep hb)
    replace BB := Lib.hid (below_next BB.out hb)
    replace r_q := Lib.hid r_q
    clear hb
    generalize w1.alloc (.cells #[.int .i64 0, .int .u64 0] 24) = w2 at *
    generalize w1.heap.size = g_q at *
    refine (CA.out _).mono ?_
    rintro e w3 ⟨rfl, hb⟩
    replace r_a := Lib.hid (r_a.out.keep hb)
    replace r_q := Lib.hid (r_q.out.keep hb)
    replace BB := Lib.hid (below_next BB.out hb)
    clear hb
    go_wp2_with fail
    go_ret
    exact ⟨rfl, (by repeat (first | with_reducible exact BB.out | with_reducible exact Below.refl _ _ | with_reducible apply below_new | with_reducible apply below_drawn | with_reducible apply below_drew | (with_reducible refine below_set ?_ (by omega) _)))⟩

end Go.Proofs.Ytalihekeipbafaa
