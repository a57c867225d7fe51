/- Contracts of cubic.At. -/
import Derived.Test.YtnklbnphiokpiaaCu3
set_option linter.unusedVariables false
set_option linter.unusedSimpArgs false
namespace Go.Proofs.Ytnklbnphiokpiaa
open Go.RowKit
set_option maxRecDepth 100000 in
theorem zpixel (W H C m c0 c1 c2 c3 x y : Int) (s : Value) (zs : List Int) (w : World) (hi : IMG w s W H C zs) (hm : I64 m) (hx : I64 x) (hy : I64 y) (h : ibC W H C m zs.length = 0) :
    Calls Try.prog 86 #[byv W H C s m c0 c1 c2 c3, .int .i64 x, .int .i64 y] w (GiveRow (pixL W H C m x y [c0, c1, c2, c3] zs) w) := by
  have CP := Lib.hid (fun w hi => bpixel W H C m c0 c1 c2 c3 x y s zs w hi hm hx hy h)
  have hl := Lib.hid (pixL_len (x := x) (y := y) (cl := [c0, c1, c2, c3]) h rfl)
  have hi := Lib.hid hi
  clear hm hx hy h
  generalize hL : pixL W H C m x y [c0, c1, c2, c3] zs = L at *
  replace hL := Lib.hid hL
  go_enter Try.func86, Try.ntmps86
  go_wp2_with fail
  have BB := start1 w #[.int .i64 W, .int .i64 H, .int .i64 C, s, .int .i64 m, .int .u8 c0, .int .u8 c1, .int .u8 c2, .int .u8 c3] 114
  obtain ⟨BB, hsz, r_q⟩ := BB
  generalize (w.alloc (.cells #[.int .i64 W, .int .i64 H, .int .i64 C, s, .int .i64 m, .int .u8 c0, .int .u8 c1, .int .u8 c2, .int .u8 c3] 114)) = w0 at *
  replace BB := Lib.hid BB
  replace r_q := Lib.hid r_q
  clear hsz
  have h_m := Lib.hid (hi.out.below BB.out)
  have hs0 := Lib.hid BB.out.size
  refine (CP.out _ h_m.out).mono ?_
  rintro e w1 ⟨g, c, rfl, hc, hb, hg, hr⟩
  replace r_q := Lib.hid (r_q.out.keep hb)
  replace BB := Lib.hid (below_next BB.out hb)
  clear hb
  have hg' := Nat.le_trans hs0.out hg
  obtain rfl : c = L.length := by have := hl.out; omega
  go_wp2_with fail
  go_ret
  exact ⟨g, rfl, BB.out, hg', by rw [← hL.out]; exact hr⟩
theorem give_get2 {w : World} {L : List Int} {w1 w2 : World} {e : Ending} (hb : ∀ z ∈ L, 0 ≤ z ∧ z ≤ 255) (hl : L.length ≤ 1000) (h : GiveRow L w1 e w2) : GiveGet2 w L w1 e w2 := by
  obtain ⟨g, h1, h2, h3, h4⟩ := h
  refine ⟨_, _, _, h1, h2, h4.bs hb (by omega), fun _ a ea => ?_⟩
  simp only [Option.some.injEq] at ea
  subst ea
  exact Or.inr h3
theorem zby_at (W H m c0 c1 c2 c3 u v : Int) (c : Nat) (s : Value) (zs : List Int) (w : World) (hcol : ∀ z ∈ [c0, c1, c2, c3], 0 ≤ z ∧ z ≤ 255) (hi : IMG w s W H c zs) (hm : I64 m) (hu : inB u 70368744177664 = true) (hv : inB v 70368744177664 = true) (h : ibC W H c m zs.length = 0) :
    Calls Try.prog 42 #[.func (.func 86) #[byv W H c s m c0 c1 c2 c3] #[], .int .i64 (c : Int), .int .i64 u, .int .i64 v] w (GiveRow (cubL W H c m u v [c0, c1, c2, c3] zs c) w) := by
  obtain ⟨u0, u1⟩ := inB_iff.1 hu
  obtain ⟨v0, v1⟩ := inB_iff.1 hv
  have hz := ibC_zero h
  have hl := fun x y => pixL_len (x := x) (y := y) (cl := [c0, c1, c2, c3]) h rfl
  have hy := fun x y => pixL_byte (W := W) (H := H) (C := c) (m := m) (x := x) (y := y) hi.ib.all hcol
  unfold cubL
  refine zby _ c (by omega) (pix4 W H c m (u / 65536) (v / 65536) [c0, c1, c2, c3] zs 4 (-1)) u v hu hv w (fun X Y hX hY w1 hb => ?_)
  have e1 : (Y * 4 + X) % 4 = X := by omega
  have e2 : (Y * 4 + X) / 4 = Y := by omega
  unfold pix4
  rw [e1, e2, show u / 65536 - 1 + (X : Int) = u / 65536 + -1 + X by omega, show v / 65536 - 1 + (Y : Int) = v / 65536 + -1 + Y by omega]
  exact (zpixel W H c m c0 c1 c2 c3 _ _ s zs w1 (hi.below hb) hm ⟨by omega, by omega⟩ ⟨by omega, by omega⟩ h).mono fun e w' hh => give_get2 (hy _ _) (by have := hl (u / 65536 + -1 + (X : Int)) (v / 65536 + -1 + (Y : Int)); omega) hh
theorem cubL_len (W H C m u v : Int) (cl zs : List Int) (c : Nat) : (cubL W H C m u v cl zs c).length = c := by unfold cubL; exact cubRow_len _ _ _ _ _ _ _ _ _ _
set_option maxRecDepth 100000 in
set_option maxHeartbeats 4000000 in
theorem zat_no (W H C m c0 c1 c2 c3 u v : Int) (A : Option Addr) (n cap : Nat) (h : nrC W H C m u v n ≠ 0) (w : World) :
    Calls Try.prog 48 #[imv W H C (.slice A n cap), brv m c0 c1 c2 c3, .int .i64 u, .int .i64 v] w fun e w' => e = .returned (.tuple #[.slice none 0 0, .int .i64 (nrC W H C m u v n)]) ∧ Below w.heap.size w w' := by
  have CI := Lib.hid (fun w => icheck W H C A n cap w)
  have CB := Lib.hid (fun w => bcheck_any m c0 c1 c2 c3 w)
  have CN := Lib.hid (fun x w => cub_in x w)
  have J0 := errno_at_0
  have J1 := errno_at_1
  by_cases hi : imC W H C n = 0
  · have e1 : ibC W H C m n = bC m := if_pos hi
    rw [hi] at CI
    by_cases hb : bC m = 0
    · have e2 : nrC W H C m u v n = if inB u 70368744177664 = true ∧ inB v 70368744177664 = true then 0 else 11 := if_pos (e1.trans hb)
      rw [hb] at CB
      rcases hbu : inB u 70368744177664 with _ | _
      · have F : Hid (nrC W H C m u v n = 11) := by show _ = _; rw [e2, hbu]; simp
        replace hbu := Lib.hid hbu
        clear e1 e2 hi hb h
        generalize nrC W H C m u v n = d at *
        go_enter Try.func48, Try.ntmps48
        go_wp2_with fail
        have BB := start2 w #[.int .i64 W, .int .i64 H, .int .i64 C, .slice A n cap] IT #[.int .i64 m, .int .u8 c0, .int .u8 c1, .int .u8 c2, .int .u8 c3] RT
        obtain ⟨BB, hsz, r_i, r_b⟩ := BB
        generalize ((w.alloc (.cells #[.int .i64 W, .int .i64 H, .int .i64 C, .slice A n cap] IT)).alloc (.cells #[.int .i64 m, .int .u8 c0, .int .u8 c1, .int .u8 c2, .int .u8 c3] RT)) = w0 at *
        replace BB := Lib.hid BB
        replace r_i := Lib.hid r_i
        replace r_b := Lib.hid r_b
        clear hsz
        have KK := Lib.hid (fun (w9 : World) (h : Below w0.heap.size w0 w9) => (⟨cells4 (r_i.out.keep h), cells5 (r_b.out.keep h)⟩ : (w9.cell? ⟨w.heap.size, 0, none⟩ = some (.int .i64 W) ∧ w9.cell? ⟨w.heap.size, 1, none⟩ = some (.int .i64 H) ∧ w9.cell? ⟨w.heap.size, 2, none⟩ = some (.int .i64 C) ∧ w9.cell? ⟨w.heap.size, 3, none⟩ = some (.slice A n cap)) ∧ (w9.cell? ⟨w.heap.size + 1, 0, none⟩ = some (.int .i64 m) ∧ w9.cell? ⟨w.heap.size + 1, 1, none⟩ = some (.int .u8 c0) ∧ w9.cell? ⟨w.heap.size + 1, 2, none⟩ = some (.int .u8 c1) ∧ w9.cell? ⟨w.heap.size + 1, 3, none⟩ = some (.int .u8 c2) ∧ w9.cell? ⟨w.heap.size + 1, 4, none⟩ = some (.int .u8 c3))))
        have K0 := KK.out w0 (Below.refl _ _)
        have KD := KK.out w0.drew (below_drew (Below.refl _ _))
        go_region_held3 (fun w9 => (w9.cell? ⟨w.heap.size, 0, none⟩ = some (.int .i64 W) ∧ w9.cell? ⟨w.heap.size, 1, none⟩ = some (.int .i64 H) ∧ w9.cell? ⟨w.heap.size, 2, none⟩ = some (.int .i64 C) ∧ w9.cell? ⟨w.heap.size, 3, none⟩ = some (.slice A n cap)) ∧ (w9.cell? ⟨w.heap.size + 1, 0, none⟩ = some (.int .i64 m) ∧ w9.cell? ⟨w.heap.size + 1, 1, none⟩ = some (.int .u8 c0) ∧ w9.cell? ⟨w.heap.size + 1, 2, none⟩ = some (.int .u8 c1) ∧ w9.cell? ⟨w.heap.size + 1, 3, none⟩ = some (.int .u8 c2) ∧ w9.cell? ⟨w.heap.size + 1, 4, none⟩ = some (.int .u8 c3)))
            (first | with_reducible exact KD | with_reducible exact K0 | with_reducible exact K_w1 | with_reducible exact K_w2)
            (first
              | (go_at_call 73
                 refine (CI.out _).mono ?_
                 rintro e w1 ⟨rfl, hb⟩
                 have B_w1 := Lib.hid (reg_next (w0 := w0) (by repeat (first | with_reducible exact Below.refl _ _ | with_reducible apply below_drew | with_reducible apply below_new)) hb)
                 have K_w1 := KK.out _ B_w1.out
                 clear hb)
              | (go_at_call 74
                 refine (CB.out _).mono ?_
                 rintro e w2 ⟨rfl, hb⟩
                 have B_w2 := Lib.hid (below_next B_w1.out hb)
                 have K_w2 := KK.out _ B_w2.out
                 clear hb))
        clear KK K0 KD K_w1 K_w2
        replace r_i := Lib.hid (r_i.out.keep B_w2.out)
        replace r_b := Lib.hid (r_b.out.keep B_w2.out)
        replace BB := Lib.hid (below_next BB.out B_w2.out)
        clear B_w1 B_w2
        go_wp2_with fail
        refine wp_loop_rounds 3 ?_
        rw [rounds_succ]
        go_wp2_with fail
        rw [rounds_succ]
        go_wp2_with fail
        rw [rounds_succ]
        go_wp2_with fail
        refine (CN.out _ _).mono ?_
        rintro e w9 ⟨rfl, rfl⟩
        rw [hbu.out]
        go_wp2_with fail
        refine bodyPost_ret (v := .tuple #[.slice none 0 0, .int .i64 11]) (by unfold results; simp only [Try.results48]; go_simp) rfl ?_
        exact ⟨by rw [F.out], BB.out⟩
      · rcases hbv : inB v 70368744177664 with _ | _
        · have F : Hid (nrC W H C m u v n = 11) := by show _ = _; rw [e2, hbu, hbv]; simp
          replace hbu := Lib.hid hbu; replace hbv := Lib.hid hbv
          clear e1 e2 hi hb h
          generalize nrC W H C m u v n = d at *
          go_enter Try.func48, Try.ntmps48
          go_wp2_with fail
          have BB := start2 w #[.int .i64 W, .int .i64 H, .int .i64 C, .slice A n cap] IT #[.int .i64 m, .int .u8 c0, .int .u8 c1, .int .u8 c2, .int .u8 c3] RT
          obtain ⟨BB, hsz, r_i, r_b⟩ := BB
          generalize ((w.alloc (.cells #[.int .i64 W, .int .i64 H, .int .i64 C, .slice A n cap] IT)).alloc (.cells #[.int .i64 m, .int .u8 c0, .int .u8 c1, .int .u8 c2, .int .u8 c3] RT)) = w0 at *
          replace BB := Lib.hid BB
          replace r_i := Lib.hid r_i
          replace r_b := Lib.hid r_b
          clear hsz
          have KK := Lib.hid (fun (w9 : World) (h : Below w0.heap.size w0 w9) => (⟨cells4 (r_i.out.keep h), cells5 (r_b.out.keep h)⟩ : (w9.cell? ⟨w.heap.size, 0, none⟩ = some (.int .i64 W) ∧ w9.cell? ⟨w.heap.size, 1, none⟩ = some (.int .i64 H) ∧ w9.cell? ⟨w.heap.size, 2, none⟩ = some (.int .i64 C) ∧ w9.cell? ⟨w.heap.size, 3, none⟩ = some (.slice A n cap)) ∧ (w9.cell? ⟨w.heap.size + 1, 0, none⟩ = some (.int .i64 m) ∧ w9.cell? ⟨w.heap.size + 1, 1, none⟩ = some (.int .u8 c0) ∧ w9.cell? ⟨w.heap.size + 1, 2, none⟩ = some (.int .u8 c1) ∧ w9.cell? ⟨w.heap.size + 1, 3, none⟩ = some (.int .u8 c2) ∧ w9.cell? ⟨w.heap.size + 1, 4, none⟩ = some (.int .u8 c3))))
          have K0 := KK.out w0 (Below.refl _ _)
          have KD := KK.out w0.drew (below_drew (Below.refl _ _))
          go_region_held3 (fun w9 => (w9.cell? ⟨w.heap.size, 0, none⟩ = some (.int .i64 W) ∧ w9.cell? ⟨w.heap.size, 1, none⟩ = some (.int .i64 H) ∧ w9.cell? ⟨w.heap.size, 2, none⟩ = some (.int .i64 C) ∧ w9.cell? ⟨w.heap.size, 3, none⟩ = some (.slice A n cap)) ∧ (w9.cell? ⟨w.heap.size + 1, 0, none⟩ = some (.int .i64 m) ∧ w9.cell? ⟨w.heap.size + 1, 1, none⟩ = some (.int .u8 c0) ∧ w9.cell? ⟨w.heap.size + 1, 2, none⟩ = some (.int .u8 c1) ∧ w9.cell? ⟨w.heap.size + 1, 3, none⟩ = some (.int .u8 c2) ∧ w9.cell? ⟨w.heap.size + 1, 4, none⟩ = some (.int .u8 c3)))
              (first | with_reducible exact KD | with_reducible exact K0 | with_reducible exact K_w1 | with_reducible exact K_w2)
              (first
                | (go_at_call 73
                   refine (CI.out _).mono ?_
                   rintro e w1 ⟨rfl, hb⟩
                   have B_w1 := Lib.hid (reg_next (w0 := w0) (by repeat (first | with_reducible exact Below.refl _ _ | with_reducible apply below_drew | with_reducible apply below_new)) hb)
                   have K_w1 := KK.out _ B_w1.out
                   clear hb)
                | (go_at_call 74
                   refine (CB.out _).mono ?_
                   rintro e w2 ⟨rfl, hb⟩
                   have B_w2 := Lib.hid (below_next B_w1.out hb)
                   have K_w2 := KK.out _ B_w2.out
                   clear hb))
          clear KK K0 KD K_w1 K_w2
          replace r_i := Lib.hid (r_i.out.keep B_w2.out)
          replace r_b := Lib.hid (r_b.out.keep B_w2.out)
          replace BB := Lib.hid (below_next BB.out B_w2.out)
          clear B_w1 B_w2
          go_wp2_with fail
          refine wp_loop_rounds 3 ?_
          rw [rounds_succ]
          go_wp2_with fail
          rw [rounds_succ]
          go_wp2_with fail
          rw [rounds_succ]
          go_wp2_with fail
          refine (CN.out _ _).mono ?_
          rintro e w9 ⟨rfl, rfl⟩
          rw [hbu.out]
          go_wp2_with fail
          refine (CN.out _ _).mono ?_
          rintro e w9 ⟨rfl, rfl⟩
          rw [hbv.out]
          go_wp2_with fail
          refine bodyPost_ret (v := .tuple #[.slice none 0 0, .int .i64 11]) (by unfold results; simp only [Try.results48]; go_simp) rfl ?_
          exact ⟨by rw [F.out], BB.out⟩
        · exact absurd (by rw [e2, hbu, hbv]; simp) h
    · have F : Hid (nrC W H C m u v n = bC m) := by show _ = _; unfold nrC; rw [e1, if_neg hb]
      have hq : (bC m == 0) = false := by simpa using hb
      have hq2 : (bC m != 0) = true := by simpa using hb
      clear e1 hi hb h
      generalize nrC W H C m u v n = d at *
      generalize bC m = q at *
      go_enter Try.func48, Try.ntmps48
      go_wp2_with fail
      have BB := start2 w #[.int .i64 W, .int .i64 H, .int .i64 C, .slice A n cap] IT #[.int .i64 m, .int .u8 c0, .int .u8 c1, .int .u8 c2, .int .u8 c3] RT
      obtain ⟨BB, hsz, r_i, r_b⟩ := BB
      generalize ((w.alloc (.cells #[.int .i64 W, .int .i64 H, .int .i64 C, .slice A n cap] IT)).alloc (.cells #[.int .i64 m, .int .u8 c0, .int .u8 c1, .int .u8 c2, .int .u8 c3] RT)) = w0 at *
      replace BB := Lib.hid BB
      replace r_i := Lib.hid r_i
      replace r_b := Lib.hid r_b
      clear hsz
      have KK := Lib.hid (fun (w9 : World) (h : Below w0.heap.size w0 w9) => (⟨cells4 (r_i.out.keep h), cells5 (r_b.out.keep h)⟩ : (w9.cell? ⟨w.heap.size, 0, none⟩ = some (.int .i64 W) ∧ w9.cell? ⟨w.heap.size, 1, none⟩ = some (.int .i64 H) ∧ w9.cell? ⟨w.heap.size, 2, none⟩ = some (.int .i64 C) ∧ w9.cell? ⟨w.heap.size, 3, none⟩ = some (.slice A n cap)) ∧ (w9.cell? ⟨w.heap.size + 1, 0, none⟩ = some (.int .i64 m) ∧ w9.cell? ⟨w.heap.size + 1, 1, none⟩ = some (.int .u8 c0) ∧ w9.cell? ⟨w.heap.size + 1, 2, none⟩ = some (.int .u8 c1) ∧ w9.cell? ⟨w.heap.size + 1, 3, none⟩ = some (.int .u8 c2) ∧ w9.cell? ⟨w.heap.size + 1, 4, none⟩ = some (.int .u8 c3))))
      have K0 := KK.out w0 (Below.refl _ _)
      have KD := KK.out w0.drew (below_drew (Below.refl _ _))
      go_region_held3 (fun w9 => (w9.cell? ⟨w.heap.size, 0, none⟩ = some (.int .i64 W) ∧ w9.cell? ⟨w.heap.size, 1, none⟩ = some (.int .i64 H) ∧ w9.cell? ⟨w.heap.size, 2, none⟩ = some (.int .i64 C) ∧ w9.cell? ⟨w.heap.size, 3, none⟩ = some (.slice A n cap)) ∧ (w9.cell? ⟨w.heap.size + 1, 0, none⟩ = some (.int .i64 m) ∧ w9.cell? ⟨w.heap.size + 1, 1, none⟩ = some (.int .u8 c0) ∧ w9.cell? ⟨w.heap.size + 1, 2, none⟩ = some (.int .u8 c1) ∧ w9.cell? ⟨w.heap.size + 1, 3, none⟩ = some (.int .u8 c2) ∧ w9.cell? ⟨w.heap.size + 1, 4, none⟩ = some (.int .u8 c3)))
          (first | with_reducible exact KD | with_reducible exact K0 | with_reducible exact K_w1 | with_reducible exact K_w2)
          (first
            | (go_at_call 73
               refine (CI.out _).mono ?_
               rintro e w1 ⟨rfl, hb⟩
               have B_w1 := Lib.hid (reg_next (w0 := w0) (by repeat (first | with_reducible exact Below.refl _ _ | with_reducible apply below_drew | with_reducible apply below_new)) hb)
               have K_w1 := KK.out _ B_w1.out
               clear hb)
            | (go_at_call 74
               refine (CB.out _).mono ?_
               rintro e w2 ⟨rfl, hb⟩
               have B_w2 := Lib.hid (below_next B_w1.out hb)
               have K_w2 := KK.out _ B_w2.out
               clear hb))
      clear KK K0 KD K_w1 K_w2
      replace r_i := Lib.hid (r_i.out.keep B_w2.out)
      replace r_b := Lib.hid (r_b.out.keep B_w2.out)
      replace BB := Lib.hid (below_next BB.out B_w2.out)
      clear B_w1 B_w2
      go_wp2_with fail
      refine wp_loop_rounds 3 ?_
      rw [rounds_succ]
      go_wp2_with fail
      rw [rounds_succ]
      go_wp2_with fail
      refine bodyPost_ret (v := .tuple #[.slice none 0 0, .int .i64 q]) (by unfold results; simp only [Try.results48]; go_simp) rfl ?_
      exact ⟨by rw [F.out], BB.out⟩
  · have e1 : ibC W H C m n = imC W H C n := if_neg hi
    have F : Hid (nrC W H C m u v n = imC W H C n) := by show _ = _; unfold nrC; rw [e1, if_neg hi]
    have hq : (imC W H C n == 0) = false := by simpa using hi
    have hq2 : (imC W H C n != 0) = true := by simpa using hi
    clear e1 hi h
    generalize nrC W H C m u v n = d at *
    generalize imC W H C n = q at *
    generalize bC m = q' at *
    go_enter Try.func48, Try.ntmps48
    go_wp2_with fail
    have BB := start2 w #[.int .i64 W, .int .i64 H, .int .i64 C, .slice A n cap] IT #[.int .i64 m, .int .u8 c0, .int .u8 c1, .int .u8 c2, .int .u8 c3] RT
    obtain ⟨BB, hsz, r_i, r_b⟩ := BB
    generalize ((w.alloc (.cells #[.int .i64 W, .int .i64 H, .int .i64 C, .slice A n cap] IT)).alloc (.cells #[.int .i64 m, .int .u8 c0, .int .u8 c1, .int .u8 c2, .int .u8 c3] RT)) = w0 at *
    replace BB := Lib.hid BB
    replace r_i := Lib.hid r_i
    replace r_b := Lib.hid r_b
    clear hsz
    have KK := Lib.hid (fun (w9 : World) (h : Below w0.heap.size w0 w9) => (⟨cells4 (r_i.out.keep h), cells5 (r_b.out.keep h)⟩ : (w9.cell? ⟨w.heap.size, 0, none⟩ = some (.int .i64 W) ∧ w9.cell? ⟨w.heap.size, 1, none⟩ = some (.int .i64 H) ∧ w9.cell? ⟨w.heap.size, 2, none⟩ = some (.int .i64 C) ∧ w9.cell? ⟨w.heap.size, 3, none⟩ = some (.slice A n cap)) ∧ (w9.cell? ⟨w.heap.size + 1, 0, none⟩ = some (.int .i64 m) ∧ w9.cell? ⟨w.heap.size + 1, 1, none⟩ = some (.int .u8 c0) ∧ w9.cell? ⟨w.heap.size + 1, 2, none⟩ = some (.int .u8 c1) ∧ w9.cell? ⟨w.heap.size + 1, 3, none⟩ = some (.int .u8 c2) ∧ w9.cell? ⟨w.heap.size + 1, 4, none⟩ = some (.int .u8 c3))))
    have K0 := KK.out w0 (Below.refl _ _)
    have KD := KK.out w0.drew (below_drew (Below.refl _ _))
    go_region_held3 (fun w9 => (w9.cell? ⟨w.heap.size, 0, none⟩ = some (.int .i64 W) ∧ w9.cell? ⟨w.heap.size, 1, none⟩ = some (.int .i64 H) ∧ w9.cell? ⟨w.heap.size, 2, none⟩ = some (.int .i64 C) ∧ w9.cell? ⟨w.heap.size, 3, none⟩ = some (.slice A n cap)) ∧ (w9.cell? ⟨w.heap.size + 1, 0, none⟩ = some (.int .i64 m) ∧ w9.cell? ⟨w.heap.size + 1, 1, none⟩ = some (.int .u8 c0) ∧ w9.cell? ⟨w.heap.size + 1, 2, none⟩ = some (.int .u8 c1) ∧ w9.cell? ⟨w.heap.size + 1, 3, none⟩ = some (.int .u8 c2) ∧ w9.cell? ⟨w.heap.size + 1, 4, none⟩ = some (.int .u8 c3)))
        (first | with_reducible exact KD | with_reducible exact K0 | with_reducible exact K_w1 | with_reducible exact K_w2)
        (first
          | (go_at_call 73
             refine (CI.out _).mono ?_
             rintro e w1 ⟨rfl, hb⟩
             have B_w1 := Lib.hid (reg_next (w0 := w0) (by repeat (first | with_reducible exact Below.refl _ _ | with_reducible apply below_drew | with_reducible apply below_new)) hb)
             have K_w1 := KK.out _ B_w1.out
             clear hb)
          | (go_at_call 74
             refine (CB.out _).mono ?_
             rintro e w2 ⟨rfl, hb⟩
             have B_w2 := Lib.hid (below_next B_w1.out hb)
             have K_w2 := KK.out _ B_w2.out
             clear hb))
    clear KK K0 KD K_w1 K_w2
    replace r_i := Lib.hid (r_i.out.keep B_w2.out)
    replace r_b := Lib.hid (r_b.out.keep B_w2.out)
    replace BB := Lib.hid (below_next BB.out B_w2.out)
    clear B_w1 B_w2
    go_wp2_with fail
    refine wp_loop_rounds 3 ?_
    rw [rounds_succ]
    go_wp2_with fail
    refine bodyPost_ret (v := .tuple #[.slice none 0 0, .int .i64 q]) (by unfold results; simp only [Try.results48]; go_simp) rfl ?_
    exact ⟨by rw [F.out], BB.out⟩
set_option maxRecDepth 100000 in
set_option maxHeartbeats 4000000 in
theorem zat_ok (W H m c0 c1 c2 c3 u v : Int) (c : Nat) (A : Option Addr) (zs : List Int) (cap : Nat) (h : nrC W H c m u v zs.length = 0) (hm : I64 m) (hcol : ∀ z ∈ [c0, c1, c2, c3], 0 ≤ z ∧ z ≤ 255) (w : World) (hi : IMG w (.slice A zs.length cap) W H c zs) :
    Calls Try.prog 48 #[imv W H c (.slice A zs.length cap), brv m c0 c1 c2 c3, .int .i64 u, .int .i64 v] w fun e w' => ∃ g, e = .returned (.tuple #[.slice (some ⟨g, 0, none⟩) c c, .int .i64 0]) ∧ Below w.heap.size w w' ∧ BRow w' g (cubL W H c m u v [c0, c1, c2, c3] zs c) := by
  have h' := h
  unfold nrC at h'
  split at h'
  · rename_i h0
    split at h'
    · rename_i hin
      have CI := Lib.hid (fun w => icheck W H c A zs.length cap w)
      have CB := Lib.hid (fun w => bcheck_any m c0 c1 c2 c3 w)
      have CN := Lib.hid (fun x w => cub_in x w)
      have J0 := errno_at_0
      have J1 := errno_at_1
      have CY := Lib.hid (fun w hi => zby_at W H m c0 c1 c2 c3 u v c (.slice A zs.length cap) zs w hcol hi hm hin.1 hin.2 h0)
      have hl := cubL_len W H c m u v [c0, c1, c2, c3] zs c
      have hz := ibC_zero h0
      rw [hz.1] at CI
      rw [show bC m = 0 from if_neg (by have := hz.2.1; omega)] at CB
      obtain ⟨hbu, hbv⟩ := hin
      replace hbu := Lib.hid hbu; replace hbv := Lib.hid hbv
      have hi := Lib.hid hi
      clear h h' hz h0 hm hcol
      generalize cubL W H c m u v [c0, c1, c2, c3] zs c = L at *
      generalize zs.length = n at *
      obtain rfl : c = L.length := by omega
      go_enter Try.func48, Try.ntmps48
      go_wp2_with fail
      have BB := start2 w #[.int .i64 W, .int .i64 H, .int .i64 L.length, .slice A n cap] IT #[.int .i64 m, .int .u8 c0, .int .u8 c1, .int .u8 c2, .int .u8 c3] RT
      obtain ⟨BB, hsz, r_i, r_b⟩ := BB
      generalize ((w.alloc (.cells #[.int .i64 W, .int .i64 H, .int .i64 L.length, .slice A n cap] IT)).alloc (.cells #[.int .i64 m, .int .u8 c0, .int .u8 c1, .int .u8 c2, .int .u8 c3] RT)) = w0 at *
      replace BB := Lib.hid BB
      replace r_i := Lib.hid r_i
      replace r_b := Lib.hid r_b
      clear hsz
      have h_m := Lib.hid (hi.out.below BB.out)
      have KK := Lib.hid (fun (w9 : World) (h : Below w0.heap.size w0 w9) => (⟨cells4 (r_i.out.keep h), cells5 (r_b.out.keep h)⟩ : (w9.cell? ⟨w.heap.size, 0, none⟩ = some (.int .i64 W) ∧ w9.cell? ⟨w.heap.size, 1, none⟩ = some (.int .i64 H) ∧ w9.cell? ⟨w.heap.size, 2, none⟩ = some (.int .i64 L.length) ∧ w9.cell? ⟨w.heap.size, 3, none⟩ = some (.slice A n cap)) ∧ (w9.cell? ⟨w.heap.size + 1, 0, none⟩ = some (.int .i64 m) ∧ w9.cell? ⟨w.heap.size + 1, 1, none⟩ = some (.int .u8 c0) ∧ w9.cell? ⟨w.heap.size + 1, 2, none⟩ = some (.int .u8 c1) ∧ w9.cell? ⟨w.heap.size + 1, 3, none⟩ = some (.int .u8 c2) ∧ w9.cell? ⟨w.heap.size + 1, 4, none⟩ = some (.int .u8 c3))))
      have K0 := KK.out w0 (Below.refl _ _)
      have KD := KK.out w0.drew (below_drew (Below.refl _ _))
      go_region_held3 (fun w9 => (w9.cell? ⟨w.heap.size, 0, none⟩ = some (.int .i64 W) ∧ w9.cell? ⟨w.heap.size, 1, none⟩ = some (.int .i64 H) ∧ w9.cell? ⟨w.heap.size, 2, none⟩ = some (.int .i64 L.length) ∧ w9.cell? ⟨w.heap.size, 3, none⟩ = some (.slice A n cap)) ∧ (w9.cell? ⟨w.heap.size + 1, 0, none⟩ = some (.int .i64 m) ∧ w9.cell? ⟨w.heap.size + 1, 1, none⟩ = some (.int .u8 c0) ∧ w9.cell? ⟨w.heap.size + 1, 2, none⟩ = some (.int .u8 c1) ∧ w9.cell? ⟨w.heap.size + 1, 3, none⟩ = some (.int .u8 c2) ∧ w9.cell? ⟨w.heap.size + 1, 4, none⟩ = some (.int .u8 c3)))
          (first | with_reducible exact KD | with_reducible exact K0 | with_reducible exact K_w1 | with_reducible exact K_w2)
          (first
            | (go_at_call 73
               refine (CI.out _).mono ?_
               rintro e w1 ⟨rfl, hb⟩
               have B_w1 := Lib.hid (reg_next (w0 := w0) (by repeat (first | with_reducible exact Below.refl _ _ | with_reducible apply below_drew | with_reducible apply below_new)) hb)
               have K_w1 := KK.out _ B_w1.out
               clear hb)
            | (go_at_call 74
               refine (CB.out _).mono ?_
               rintro e w2 ⟨rfl, hb⟩
               have B_w2 := Lib.hid (below_next B_w1.out hb)
               have K_w2 := KK.out _ B_w2.out
               clear hb))
      clear KK K0 KD K_w1 K_w2
      replace r_i := Lib.hid (r_i.out.keep B_w2.out)
      replace r_b := Lib.hid (r_b.out.keep B_w2.out)
      replace h_m := Lib.hid (IMG.below h_m.out B_w2.out)
      replace BB := Lib.hid (below_next BB.out B_w2.out)
      clear B_w1 B_w2
      go_wp2_with fail
      refine wp_loop_rounds 3 ?_
      rw [rounds_succ]
      go_wp2_with fail
      rw [rounds_succ]
      go_wp2_with fail
      rw [rounds_succ]
      go_wp2_with fail
      refine (CN.out _ _).mono ?_
      rintro e w9 ⟨rfl, rfl⟩
      rw [hbu.out]
      go_wp2_with fail
      refine (CN.out _ _).mono ?_
      rintro e w9 ⟨rfl, rfl⟩
      rw [hbv.out]
      obtain ⟨c_i0, c_i1, c_i2, c_i3, f_i0, f_i1, f_i2, f_i3⟩ := reads4 r_i.out
      have l_i := r_i.out.lt
      obtain ⟨c_b0, c_b1, c_b2, c_b3, c_b4, f_b0, f_b1, f_b2, f_b3, f_b4⟩ := reads5 r_b.out
      have l_b := r_b.out.lt
      go_wp2_with fail
      refine (CY.out _ h_m.out).mono ?_
      rintro e w3 ⟨g, rfl, hb, hg, hr⟩
      clear c_i0 c_i1 c_i2 c_i3 f_i0 f_i1 f_i2 f_i3 l_i c_b0 c_b1 c_b2 c_b3 c_b4 f_b0 f_b1 f_b2 f_b3 f_b4 l_b
      replace r_i := Lib.hid (r_i.out.keep hb)
      replace r_b := Lib.hid (r_b.out.keep hb)
      replace h_m := Lib.hid (IMG.below h_m.out hb)
      replace BB := Lib.hid (below_next BB.out hb)
      clear hb
      go_wp2_with fail
      refine bodyPost_ret (v := .tuple #[.slice (some ⟨g, 0, none⟩) L.length L.length, .int .i64 0]) (by unfold results; simp only [Try.results48]; go_simp) rfl ?_
      exact ⟨g, rfl, BB.out, hr⟩
    · omega
  · exact absurd h' ‹_›
end Go.Proofs.Ytnklbnphiokpiaa
