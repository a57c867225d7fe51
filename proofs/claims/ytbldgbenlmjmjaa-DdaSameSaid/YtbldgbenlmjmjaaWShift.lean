/- Walks of wide.Shr, shl, Shl. -/
import Derived.Test.YtbldgbenlmjmjaaShiftLaw
set_option linter.unusedVariables false
namespace Go.Proofs.Ytbldgbenlmjmjaa
open Go.RowKit

theorem give_w_res {z hi lo : Int} {w w1 : World} {e : Ending} (he : e = .returned (wv hi lo)) (hb : Below w.heap.size w w1) (h : W128 z hi lo) : GiveW z w e w1 := ⟨_, _, he, hb, h⟩

set_option maxRecDepth 100000 in
theorem wshr_mid (x ah al : Int) (n : Nat) (h0 : 0 < n) (h1 : n < 64) (h : W128 x ah al) (w : World) : Calls Try.prog 88 #[wv ah al, .int .i64 (n : Int)] w (GiveW (x / 2 ^ n) w) := by
  have HL := Lib.hid (shr_mid_law h h0 h1)
  obtain ⟨⟨a10, a11⟩, ⟨a20, a21⟩, _⟩ := h
  have h2 : ¬ (n : Int) ≤ 0 := by omega
  have h3 : ¬ 64 ≤ (n : Int) := by omega
  go_enter Try.func88, Try.ntmps88
  go_wp2
  exact bodyPost_ret (v := wv _ _) (by unfold results; simp only [Try.results88]; go_simp) rfl (give_w_res rfl (below_new (below_new (Below.refl _ _) _) _) HL.out)
set_option maxRecDepth 100000 in
theorem wshr_far (x ah al : Int) (n : Nat) (h0 : 64 ≤ n) (h1 : n ≤ 9223372036854775807) (h : W128 x ah al) (w : World) : Calls Try.prog 88 #[wv ah al, .int .i64 (n : Int)] w (GiveW (x / 2 ^ n) w) := by
  have hh := h
  obtain ⟨⟨a10, a11⟩, ⟨a20, a21⟩, _⟩ := h
  have h2 : ¬ (n : Int) ≤ 0 := by omega
  have h3 : 64 ≤ (n : Int) := by omega
  have hn0 : (n = 0) = False := by simp; omega
  by_cases h4 : 63 < n - 64
  · have h5 : (63 : Int) < (n : Int) - 64 := by omega
    have HL := Lib.hid (shr_far_law (y := ah / 9223372036854775808) hh h0 (div_far hh.1 (by omega)).symm)
    clear hh
    go_enter Try.func88, Try.ntmps88
    go_wp2
    all_goals exact bodyPost_ret (v := wv _ _) (by unfold results; simp only [Try.results88]; go_simp) rfl (give_w_res rfl (below_new (below_new (Below.refl _ _) _) _) HL.out)
  · have h5 : ¬ (63 : Int) < (n : Int) - 64 := by omega
    have HL := Lib.hid (shr_far_law (y := ah / 2 ^ (n - 64)) hh h0 rfl)
    clear hh
    go_enter Try.func88, Try.ntmps88
    go_wp2
    all_goals exact bodyPost_ret (v := wv _ _) (by unfold results; simp only [Try.results88]; go_simp) rfl (give_w_res rfl (below_new (below_new (Below.refl _ _) _) _) HL.out)
set_option maxRecDepth 100000 in
theorem wshr_none (x ah al n : Int) (hn : n ≤ 0) (h : W128 x ah al) (w : World) : Calls Try.prog 88 #[wv ah al, .int .i64 n] w fun e w' => e = .returned (wv ah al) ∧ Below w.heap.size w w' := by
  clear h
  go_enter Try.func88, Try.ntmps88
  go_wp2
  exact bodyPost_ret (v := wv _ _) (by unfold results; simp only [Try.results88]; go_simp) rfl ⟨rfl, below_new (below_new (Below.refl _ _) _) _⟩
theorem wshr (x ah al : Int) (n : Nat) (h1 : n ≤ 9223372036854775807) (h : W128 x ah al) (w : World) : Calls Try.prog 88 #[wv ah al, .int .i64 (n : Int)] w (GiveW (x / 2 ^ n) w) := by
  by_cases h0 : n = 0
  · subst h0
    refine (wshr_none x ah al 0 (by omega) h w).mono ?_
    rintro e w' ⟨rfl, hb⟩
    exact ⟨_, _, rfl, hb, by simpa using h⟩
  · by_cases h2 : n < 64
    · exact wshr_mid x ah al n (by omega) h2 h w
    · exact wshr_far x ah al n (by omega) h1 h w

def GiveW2 (z : Int) (w : World) (e : Ending) (w' : World) : Prop := ∃ hi lo k, e = .returned (wv hi lo) ∧ Below w.heap.size w w' ∧ W128 (z + k * 340282366920938463463374607431768211456) hi lo
set_option maxRecDepth 100000 in
theorem wshl0 (x ah al : Int) (n : Nat) (hn : n ≤ 127) (h : W128 x ah al) (w : World) : Calls Try.prog 87 #[wv ah al, .int .i64 (n : Int)] w (GiveW2 (x * 2 ^ n) w) := by
  by_cases h0 : n = 0
  · subst h0
    have HL : Hid (W128 (x * 2 ^ 0 + 0 * 340282366920938463463374607431768211456) ah al) := by show W128 _ _ _; simpa using h
    obtain ⟨⟨a10, a11⟩, ⟨a20, a21⟩, _⟩ := h
    go_enter Try.func87, Try.ntmps87
    go_wp2
    all_goals exact bodyPost_ret (v := wv _ _) (by unfold results; simp only [Try.results87]; go_simp) rfl ⟨_, _, _, rfl, below_new (below_new (Below.refl _ _) _) _, HL.out⟩
  · by_cases h1 : n < 64
    · obtain ⟨k, hk⟩ := shl_mid_law h (by omega) h1
      have HL := Lib.hid hk
      obtain ⟨⟨a10, a11⟩, ⟨a20, a21⟩, _⟩ := h
      have h2 : ((n : Int) == 0) = false := by simp; omega
      have h3 : ¬ 64 ≤ (n : Int) := by omega
      have h4 : 0 < n := by omega
      clear hk
      go_enter Try.func87, Try.ntmps87
      go_wp2
      exact bodyPost_ret (v := wv _ _) (by unfold results; simp only [Try.results87]; go_simp) rfl ⟨_, _, _, rfl, below_new (below_new (Below.refl _ _) _) _, HL.out⟩
    · obtain ⟨k, hk⟩ := shl_far_law h (by omega) hn
      have HL := Lib.hid hk
      obtain ⟨⟨a10, a11⟩, ⟨a20, a21⟩, _⟩ := h
      have h2 : ((n : Int) == 0) = false := by simp; omega
      have h3 : 64 ≤ (n : Int) := by omega
      clear hk
      go_enter Try.func87, Try.ntmps87
      go_wp2
      exact bodyPost_ret (v := wv _ _) (by unfold results; simp only [Try.results87]; go_simp) rfl ⟨_, _, _, rfl, below_new (below_new (Below.refl _ _) _) _, HL.out⟩

theorem cmpI_nz {x : Int} (h : cmpI x 0 = 0) : x = 0 := by unfold cmpI at h; split at h <;> (try split at h) <;> omega
theorem W128.halves {z hi lo : Int} (h : W128 z hi lo) : hi = z / 18446744073709551616 ∧ lo = z % 18446744073709551616 := by unfold W128 U64 at h; omega
theorem W128.mk {z : Int} (h : I128 z) : W128 z (z / 18446744073709551616) (z % 18446744073709551616) := by unfold I128 at h; unfold W128 I64 U64; omega
theorem GiveW.fixed {z : Int} {w : World} {e : Ending} {w' : World} (h : GiveW z w e w') : e = .returned (wv (z / 18446744073709551616) (z % 18446744073709551616)) ∧ Below w.heap.size w w' := by
  obtain ⟨hi, lo, rfl, hb, h⟩ := h
  rw [← h.halves.1, ← h.halves.2]; exact ⟨rfl, hb⟩
theorem I128.shr {z : Int} (h : I128 z) (n : Nat) : I128 (z / 2 ^ n) := by
  have p := two_pos n
  have e := Int.mul_ediv_add_emod z (2 ^ n)
  unfold I128 at *
  rcases Int.lt_or_le z 0 with hz | hz
  · have h1 : z / 2 ^ n < 0 := Int.ediv_neg_of_neg_of_pos hz p
    have h2 : z * 1 ≤ z / 2 ^ n := by
      refine Int.le_ediv_of_mul_le p ?_
      rw [Int.mul_one]
      have : z * 2 ^ n ≤ z * 1 := Int.mul_le_mul_of_nonpos_left (by omega) (by omega)
      omega
    omega
  · have h1 : 0 ≤ z / 2 ^ n := Int.ediv_nonneg hz (by omega)
    have h2 : z / 2 ^ n ≤ z := Int.ediv_le_self _ hz
    omega
theorem I128.of_mul {x p : Int} (hp : 0 < p) (h : I128 (x * p)) : I128 x := by
  unfold I128 at *
  have h1 : x.natAbs ≤ (x * p).natAbs := by
    rw [Int.natAbs_mul]; exact Nat.le_mul_of_pos_right _ (by omega)
  rcases Int.lt_or_le x 0 with hx | hx
  · have : x * p ≤ x * 1 := Int.mul_le_mul_of_nonpos_left (by omega) (by omega)
    omega
  · have : x * 1 ≤ x * p := Int.mul_le_mul_of_nonneg_left (by omega) hx
    omega
theorem not_room {x : Int} (hx : x ≠ 0) {n : Nat} (hn : 128 ≤ n) : ¬ I128 (x * 2 ^ n) := by
  intro h
  have en : 128 + (n - 128) = n := by omega
  have e : (2 : Int) ^ n = 2 ^ 128 * 2 ^ (n - 128) := by rw [← Int.pow_add, en]
  rw [e, ← Int.mul_assoc] at h
  have h2 := I128.of_mul (two_pos _) h
  have e64 : (2 : Int) ^ 64 = 18446744073709551616 := by decide
  have e128 : (2 : Int) ^ 128 = 18446744073709551616 * 18446744073709551616 := by rw [← e64]; exact Int.pow_add 2 64 64
  rw [e128] at h2
  unfold I128 at h2; omega
theorem wide_eq {x y ah al bh bl : Int} (hx : W128 x ah al) (hy : W128 y bh bl) : (ah == bh && al == bl) = true ↔ x = y := by
  have := (W128.cmp hx hy).2
  simp only [Bool.and_eq_true, beq_iff_eq]; omega

set_option maxHeartbeats 1000000 in
set_option maxRecDepth 100000 in
/-- Shl: a number times a power of two. -/
theorem wshl (x ah al : Int) (n : Nat) (h1 : n ≤ 9223372036854775807) (h : W128 x ah al) (w : World) : Calls Try.prog 66 #[wv ah al, .int .i64 (n : Int)] w (GiveWB (x * 2 ^ n) w) := by
  have CS := Lib.hid (fun w => wsign x ah al h w)
  have hn0 : ¬ (n : Int) < 0 := by omega
  by_cases hx : x = 0
  · have HR : Hid (WB (x * 2 ^ n) ah al true) := by
      refine .inl ⟨by subst hx; rw [Int.zero_mul]; unfold I128; omega, rfl, by subst hx; rw [Int.zero_mul]; exact h⟩
    have hc : cmpI x 0 = 0 := by subst hx; exact cmpI_eq 0
    rw [hc] at CS
    clear h hx hc
    go_enter Try.func66, Try.ntmps66
    go_wp2_with fail
    have BB := start2 w #[.int .i64 ah, .int .u64 al] 88 #[.int .i64 0, .int .u64 0] 88
    obtain ⟨BB, hsz, r_a, r_res⟩ := BB
    generalize ((w.alloc (.cells #[.int .i64 ah, .int .u64 al] 88)).alloc (.cells #[.int .i64 0, .int .u64 0] 88)) = w0 at *
    replace BB := Lib.hid BB
    replace r_a := Lib.hid r_a
    replace r_res := Lib.hid r_res
    clear hsz
    refine (CS.out _).mono ?_
    rintro e w1 ⟨rfl, hb⟩
    replace r_a := Lib.hid (r_a.out.keep hb)
    replace r_res := Lib.hid (r_res.out.keep hb)
    replace BB := Lib.hid (below_next BB.out hb)
    clear hb
    obtain ⟨c_a0, c_a1, f_a0, f_a1⟩ := reads2 r_a.out
    have l_a := r_a.out.lt
    obtain ⟨c_res0, c_res1, f_res0, f_res1⟩ := reads2 r_res.out
    have l_res := r_res.out.lt
    go_wp2_with fail
    exact bodyPost_ret (v := .tuple #[wv ah al, .bool true]) (by unfold results; simp only [Try.results66]; go_simp) rfl ⟨_, _, _, rfl, below_set2 BB.out (by omega) _ _, HR.out⟩
  · have hc : cmpI x 0 ≠ 0 := fun hz => hx (cmpI_nz hz)
    have hc' : (cmpI x 0 == 0) = false := by simpa using hc
    generalize cmpI x 0 = c at *
    by_cases hbig : 127 < n
    · have HR : Hid (WB (x * 2 ^ n) 0 0 false) := .inr ⟨not_room hx (by omega), rfl, rfl, rfl⟩
      have hb2 : (127 : Int) < n := by omega
      clear h hx hc
      go_enter Try.func66, Try.ntmps66
      go_wp2_with fail
      have BB := start2 w #[.int .i64 ah, .int .u64 al] 88 #[.int .i64 0, .int .u64 0] 88
      obtain ⟨BB, hsz, r_a, r_res⟩ := BB
      generalize ((w.alloc (.cells #[.int .i64 ah, .int .u64 al] 88)).alloc (.cells #[.int .i64 0, .int .u64 0] 88)) = w0 at *
      replace BB := Lib.hid BB
      replace r_a := Lib.hid r_a
      replace r_res := Lib.hid r_res
      clear hsz
      refine (CS.out _).mono ?_
      rintro e w1 ⟨rfl, hb⟩
      replace r_a := Lib.hid (r_a.out.keep hb)
      replace r_res := Lib.hid (r_res.out.keep hb)
      replace BB := Lib.hid (below_next BB.out hb)
      clear hb
      obtain ⟨c_a0, c_a1, f_a0, f_a1⟩ := reads2 r_a.out
      have l_a := r_a.out.lt
      obtain ⟨c_res0, c_res1, f_res0, f_res1⟩ := reads2 r_res.out
      have l_res := r_res.out.lt
      go_wp2_with fail
      exact bodyPost_ret (v := .tuple #[wv 0 0, .bool false]) (by unfold results; simp only [Try.results66]; go_simp) rfl ⟨_, _, _, rfl, below_set2 BB.out (by omega) _ _, HR.out⟩
    · have hb2 : ¬ (127 : Int) < n := by omega
      have CL := Lib.hid (fun w => wshl0 x ah al n (by omega) h w)
      have HH := Lib.hid h
      have HBK := Lib.hid (fun S k hS e => shl_back (n := n) (by omega) h.room (S := S) (k := k) hS e)
      clear h hx hc
      go_enter Try.func66, Try.ntmps66
      go_wp2_with fail
      have BB := start2 w #[.int .i64 ah, .int .u64 al] 88 #[.int .i64 0, .int .u64 0] 88
      obtain ⟨BB, hsz, r_a, r_res⟩ := BB
      generalize ((w.alloc (.cells #[.int .i64 ah, .int .u64 al] 88)).alloc (.cells #[.int .i64 0, .int .u64 0] 88)) = w0 at *
      replace BB := Lib.hid BB
      replace r_a := Lib.hid r_a
      replace r_res := Lib.hid r_res
      clear hsz
      refine (CS.out _).mono ?_
      rintro e w1 ⟨rfl, hb⟩
      replace r_a := Lib.hid (r_a.out.keep hb)
      replace r_res := Lib.hid (r_res.out.keep hb)
      replace BB := Lib.hid (below_next BB.out hb)
      clear hb
      obtain ⟨c_a0, c_a1, f_a0, f_a1⟩ := reads2 r_a.out
      have l_a := r_a.out.lt
      obtain ⟨c_res0, c_res1, f_res0, f_res1⟩ := reads2 r_res.out
      have l_res := r_res.out.lt
      go_wp2_with fail
      refine (CL.out _).mono ?_
      rintro e w2 ⟨sh, sl, k, rfl, hb, hs⟩
      clear c_a0 c_a1 f_a0 f_a1 l_a c_res0 c_res1 f_res0 f_res1 l_res
      replace r_a := Lib.hid (r_a.out.keep hb)
      replace r_res := Lib.hid (r_res.out.keep hb)
      replace BB := Lib.hid (below_next BB.out hb)
      clear hb
      have HS := Lib.hid hs
      clear hs
      go_wp2_with fail
      have d_s := Lib.hid (And.intro BB.out.size (And.intro r_a.out.lt (And.intro r_res.out.lt (True.intro))))
      obtain ⟨hb, r_s⟩ := laid w2 #[.int .i64 sh, .int .u64 sl] 88
      replace r_a := Lib.hid (r_a.out.keep hb)
      replace r_res := Lib.hid (r_res.out.keep hb)
      replace BB := Lib.hid (below_next BB.out hb)
      replace r_s := Lib.hid r_s
      clear hb
      generalize w2.alloc (.cells #[.int .i64 sh, .int .u64 sl] 88) = w3 at *
      generalize w2.heap.size = g_s at *
      have CR := Lib.hid (fun w => (wshr _ sh sl n h1 HS.out w).mono (fun _ _ g => g.fixed))
      have HE := Lib.hid (wide_eq (W128.mk (HS.out.room.shr n)) HH.out)
      have HB2 := Lib.hid (HBK.out _ k HS.out.room rfl)
      generalize (x * 2 ^ n + k * 340282366920938463463374607431768211456) / 2 ^ n / 18446744073709551616 = rh at *
      generalize (x * 2 ^ n + k * 340282366920938463463374607431768211456) / 2 ^ n % 18446744073709551616 = rl at *
      cases hq : (rh == ah) <;> cases hq2 : (rl == al)
      · skip
        have HF : Hid (WB (x * 2 ^ n) 0 0 false) := by
          refine .inr ⟨fun hi => ?_, rfl, rfl, rfl⟩
          have := HE.out.2 (HB2.out.2.2 hi)
          rw [hq, hq2] at this; cases this
        have KK := Lib.hid (fun (w9 : World) (h : Below w3.heap.size w3 w9) => (⟨cells2 (r_a.out.keep h), cells2 (r_s.out.keep h)⟩ : (w9.cell? ⟨w.heap.size, 0, none⟩ = some (.int .i64 ah) ∧ w9.cell? ⟨w.heap.size, 1, none⟩ = some (.int .u64 al)) ∧ (w9.cell? ⟨g_s, 0, none⟩ = some (.int .i64 sh) ∧ w9.cell? ⟨g_s, 1, none⟩ = some (.int .u64 sl))))
        have K0 := KK.out w3 (Below.refl _ _)
        have KD := KK.out w3.drew (below_drew (Below.refl _ _))
        go_region_held3 (fun w9 => (w9.cell? ⟨w.heap.size, 0, none⟩ = some (.int .i64 ah) ∧ w9.cell? ⟨w.heap.size, 1, none⟩ = some (.int .u64 al)) ∧ (w9.cell? ⟨g_s, 0, none⟩ = some (.int .i64 sh) ∧ w9.cell? ⟨g_s, 1, none⟩ = some (.int .u64 sl)))
            (first | with_reducible exact KD | with_reducible exact K0 | with_reducible exact K_w4)
            (first
              | (go_at_call 88
                 refine (CR.out _).mono ?_
                 rintro e w4 ⟨rfl, hb⟩
                 have B_w4 := Lib.hid (reg_next (w0 := w3) (by repeat (first | with_reducible exact Below.refl _ _ | with_reducible apply below_drew | with_reducible apply below_new)) hb)
                 have K_w4 := KK.out _ B_w4.out
                 clear hb))
        clear KK K0 KD K_w4
        replace r_a := Lib.hid (r_a.out.keep B_w4.out)
        replace r_res := Lib.hid (r_res.out.keep B_w4.out)
        replace r_s := Lib.hid (r_s.out.keep B_w4.out)
        replace BB := Lib.hid (below_next BB.out B_w4.out)
        clear B_w4
        obtain ⟨c_res0, c_res1, f_res0, f_res1⟩ := reads2 r_res.out
        have l_res := r_res.out.lt
        go_wp2_with fail
        exact bodyPost_ret (v := .tuple #[wv 0 0, .bool false]) (by unfold results; simp only [Try.results66]; go_simp) rfl ⟨_, _, _, rfl, below_set2 BB.out (by omega) _ _, HF.out⟩
      · skip
        have HF : Hid (WB (x * 2 ^ n) 0 0 false) := by
          refine .inr ⟨fun hi => ?_, rfl, rfl, rfl⟩
          have := HE.out.2 (HB2.out.2.2 hi)
          rw [hq, hq2] at this; cases this
        have KK := Lib.hid (fun (w9 : World) (h : Below w3.heap.size w3 w9) => (⟨cells2 (r_a.out.keep h), cells2 (r_s.out.keep h)⟩ : (w9.cell? ⟨w.heap.size, 0, none⟩ = some (.int .i64 ah) ∧ w9.cell? ⟨w.heap.size, 1, none⟩ = some (.int .u64 al)) ∧ (w9.cell? ⟨g_s, 0, none⟩ = some (.int .i64 sh) ∧ w9.cell? ⟨g_s, 1, none⟩ = some (.int .u64 sl))))
        have K0 := KK.out w3 (Below.refl _ _)
        have KD := KK.out w3.drew (below_drew (Below.refl _ _))
        go_region_held3 (fun w9 => (w9.cell? ⟨w.heap.size, 0, none⟩ = some (.int .i64 ah) ∧ w9.cell? ⟨w.heap.size, 1, none⟩ = some (.int .u64 al)) ∧ (w9.cell? ⟨g_s, 0, none⟩ = some (.int .i64 sh) ∧ w9.cell? ⟨g_s, 1, none⟩ = some (.int .u64 sl)))
            (first | with_reducible exact KD | with_reducible exact K0 | with_reducible exact K_w4)
            (first
              | (go_at_call 88
                 refine (CR.out _).mono ?_
                 rintro e w4 ⟨rfl, hb⟩
                 have B_w4 := Lib.hid (reg_next (w0 := w3) (by repeat (first | with_reducible exact Below.refl _ _ | with_reducible apply below_drew | with_reducible apply below_new)) hb)
                 have K_w4 := KK.out _ B_w4.out
                 clear hb))
        clear KK K0 KD K_w4
        replace r_a := Lib.hid (r_a.out.keep B_w4.out)
        replace r_res := Lib.hid (r_res.out.keep B_w4.out)
        replace r_s := Lib.hid (r_s.out.keep B_w4.out)
        replace BB := Lib.hid (below_next BB.out B_w4.out)
        clear B_w4
        obtain ⟨c_res0, c_res1, f_res0, f_res1⟩ := reads2 r_res.out
        have l_res := r_res.out.lt
        go_wp2_with fail
        exact bodyPost_ret (v := .tuple #[wv 0 0, .bool false]) (by unfold results; simp only [Try.results66]; go_simp) rfl ⟨_, _, _, rfl, below_set2 BB.out (by omega) _ _, HF.out⟩
      · skip
        have HF : Hid (WB (x * 2 ^ n) 0 0 false) := by
          refine .inr ⟨fun hi => ?_, rfl, rfl, rfl⟩
          have := HE.out.2 (HB2.out.2.2 hi)
          rw [hq, hq2] at this; cases this
        have KK := Lib.hid (fun (w9 : World) (h : Below w3.heap.size w3 w9) => (⟨cells2 (r_a.out.keep h), cells2 (r_s.out.keep h)⟩ : (w9.cell? ⟨w.heap.size, 0, none⟩ = some (.int .i64 ah) ∧ w9.cell? ⟨w.heap.size, 1, none⟩ = some (.int .u64 al)) ∧ (w9.cell? ⟨g_s, 0, none⟩ = some (.int .i64 sh) ∧ w9.cell? ⟨g_s, 1, none⟩ = some (.int .u64 sl))))
        have K0 := KK.out w3 (Below.refl _ _)
        have KD := KK.out w3.drew (below_drew (Below.refl _ _))
        go_region_held3 (fun w9 => (w9.cell? ⟨w.heap.size, 0, none⟩ = some (.int .i64 ah) ∧ w9.cell? ⟨w.heap.size, 1, none⟩ = some (.int .u64 al)) ∧ (w9.cell? ⟨g_s, 0, none⟩ = some (.int .i64 sh) ∧ w9.cell? ⟨g_s, 1, none⟩ = some (.int .u64 sl)))
            (first | with_reducible exact KD | with_reducible exact K0 | with_reducible exact K_w4)
            (first
              | (go_at_call 88
                 refine (CR.out _).mono ?_
                 rintro e w4 ⟨rfl, hb⟩
                 have B_w4 := Lib.hid (reg_next (w0 := w3) (by repeat (first | with_reducible exact Below.refl _ _ | with_reducible apply below_drew | with_reducible apply below_new)) hb)
                 have K_w4 := KK.out _ B_w4.out
                 clear hb))
        clear KK K0 KD K_w4
        replace r_a := Lib.hid (r_a.out.keep B_w4.out)
        replace r_res := Lib.hid (r_res.out.keep B_w4.out)
        replace r_s := Lib.hid (r_s.out.keep B_w4.out)
        replace BB := Lib.hid (below_next BB.out B_w4.out)
        clear B_w4
        obtain ⟨c_res0, c_res1, f_res0, f_res1⟩ := reads2 r_res.out
        have l_res := r_res.out.lt
        go_wp2_with fail
        exact bodyPost_ret (v := .tuple #[wv 0 0, .bool false]) (by unfold results; simp only [Try.results66]; go_simp) rfl ⟨_, _, _, rfl, below_set2 BB.out (by omega) _ _, HF.out⟩
      · skip
        have HF : Hid (WB (x * 2 ^ n) sh sl true) := by
          have hi := HB2.out.2.1 (HE.out.1 (by rw [hq, hq2]; rfl))
          refine .inl ⟨hi, rfl, ?_⟩
          rw [← HB2.out.1 hi]; exact HS.out
        have KK := Lib.hid (fun (w9 : World) (h : Below w3.heap.size w3 w9) => (⟨cells2 (r_a.out.keep h), cells2 (r_s.out.keep h)⟩ : (w9.cell? ⟨w.heap.size, 0, none⟩ = some (.int .i64 ah) ∧ w9.cell? ⟨w.heap.size, 1, none⟩ = some (.int .u64 al)) ∧ (w9.cell? ⟨g_s, 0, none⟩ = some (.int .i64 sh) ∧ w9.cell? ⟨g_s, 1, none⟩ = some (.int .u64 sl))))
        have K0 := KK.out w3 (Below.refl _ _)
        have KD := KK.out w3.drew (below_drew (Below.refl _ _))
        go_region_held3 (fun w9 => (w9.cell? ⟨w.heap.size, 0, none⟩ = some (.int .i64 ah) ∧ w9.cell? ⟨w.heap.size, 1, none⟩ = some (.int .u64 al)) ∧ (w9.cell? ⟨g_s, 0, none⟩ = some (.int .i64 sh) ∧ w9.cell? ⟨g_s, 1, none⟩ = some (.int .u64 sl)))
            (first | with_reducible exact KD | with_reducible exact K0 | with_reducible exact K_w4)
            (first
              | (go_at_call 88
                 refine (CR.out _).mono ?_
                 rintro e w4 ⟨rfl, hb⟩
                 have B_w4 := Lib.hid (reg_next (w0 := w3) (by repeat (first | with_reducible exact Below.refl _ _ | with_reducible apply below_drew | with_reducible apply below_new)) hb)
                 have K_w4 := KK.out _ B_w4.out
                 clear hb))
        clear KK K0 KD K_w4
        replace r_a := Lib.hid (r_a.out.keep B_w4.out)
        replace r_res := Lib.hid (r_res.out.keep B_w4.out)
        replace r_s := Lib.hid (r_s.out.keep B_w4.out)
        replace BB := Lib.hid (below_next BB.out B_w4.out)
        clear B_w4
        obtain ⟨c_res0, c_res1, f_res0, f_res1⟩ := reads2 r_res.out
        have l_res := r_res.out.lt
        obtain ⟨c_s0, c_s1, f_s0, f_s1⟩ := reads2 r_s.out
        have l_s := r_s.out.lt
        go_wp2_with fail
        exact bodyPost_ret (v := .tuple #[wv sh sl, .bool true]) (by unfold results; simp only [Try.results66]; go_simp) rfl ⟨_, _, _, rfl, below_set2 BB.out (by omega) _ _, HF.out⟩

end Go.Proofs.Ytbldgbenlmjmjaa
