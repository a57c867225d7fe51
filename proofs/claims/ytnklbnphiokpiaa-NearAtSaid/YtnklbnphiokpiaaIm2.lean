/- Contracts of the document's Place and of a channel of its pixels. -/
import Derived.Test.YtnklbnphiokpiaaIm1
set_option linter.unusedVariables false
set_option linter.unusedSimpArgs false
namespace Go.Proofs.Ytnklbnphiokpiaa
open Go.RowKit
theorem IMG.below {w w1 : World} {s : Value} {W H C : Int} {zs : List Int} (h : IMG w s W H C zs) (hb : Below w.heap.size w w1) : IMG w1 s W H C zs := ⟨h.iw, h.ih, h.ic, h.ib.below hb⟩

set_option maxRecDepth 100000 in
set_option maxHeartbeats 4000000 in
theorem rplace (W H X Y k : Int) (c n cap : Nat) (A : Option Addr) (h : imC W H c n = 0) (hX : 0 ≤ X ∧ X < W) (hY : 0 ≤ Y ∧ Y < H) (hk : 0 ≤ k ∧ k < c) (w : World) :
    Calls Try.prog 81 #[imv W H c (.slice A n cap), .int .i64 X, .int .i64 Y, .int .i64 k] w fun e w' => e = .returned (.int .i64 ((Y * W + X) * c + k)) ∧ Below w.heap.size w w' := by
  have h2 : fitC W H c = 0 := by
    have h' := h
    unfold imC at h'
    split at h'
    · assumption
    · exact absurd h' ‹_›
  obtain ⟨hC, hW1, hH1, q0, q1⟩ := fitC_zero h2
  obtain ⟨r1, r2, r3, r4, r5⟩ := place_in hC hX hY (by omega) (by omega)
  have CK := Lib.hid (fun w => rcheck07 W H c A n cap w)
  rw [h] at CK
  have e1 : wrap64 (Y * W) = Y * W := wr_in (by omega) (by omega)
  have e2 : wrap64 (Y * W + X) = Y * W + X := wr_in (by omega) (by omega)
  have e3 : wrap64 ((Y * W + X) * c) = (Y * W + X) * c := wr_in (by omega) (by omega)
  have e4 : wrap64 ((Y * W + X) * c + k) = (Y * W + X) * c + k := wr_in (by omega) (by omega)
  have F := Lib.hid (And.intro e1 (And.intro e2 (And.intro e3 e4)))
  have d1 : decide (X < 0) = false := decide_eq_false (by omega)
  have d2 : decide (X ≥ W) = false := decide_eq_false (by omega)
  have d3 : decide (Y < 0) = false := decide_eq_false (by omega)
  have d4 : decide (Y ≥ H) = false := decide_eq_false (by omega)
  have d5 : decide (k < 0) = false := decide_eq_false (by omega)
  have d6 : decide (k ≥ c) = false := decide_eq_false (by omega)
  clear h h2 hC hW1 hH1 q0 q1 r1 r2 r3 r4 r5 hX hY hk e1 e2 e3 e4
  go_enter Try.func81, Try.ntmps81
  go_wp2_with fail
  have BB := start1 w #[.int .i64 W, .int .i64 H, .int .i64 c, .slice A n cap] IT
  obtain ⟨BB, hsz, r_m⟩ := BB
  generalize (w.alloc (.cells #[.int .i64 W, .int .i64 H, .int .i64 c, .slice A n cap] IT)) = w0 at *
  replace BB := Lib.hid BB
  replace r_m := Lib.hid r_m
  clear hsz
  refine (CK.out _).mono ?_
  rintro e w1 ⟨rfl, hb⟩
  replace r_m := Lib.hid (r_m.out.keep hb)
  replace BB := Lib.hid (below_next BB.out hb)
  clear hb
  obtain ⟨c_m0, c_m1, c_m2, c_m3, f_m0, f_m1, f_m2, f_m3⟩ := reads4 r_m.out
  have l_m := r_m.out.lt
  go_wp2_with fail
  go_ret
  exact ⟨ret_int (by
    show wrap64 (wrap64 (wrap64 (wrap64 (Y * W) + X) * c) + k) = _
    rw [F.out.1, F.out.2.1, F.out.2.2.1, F.out.2.2.2]), BB.out⟩

set_option maxRecDepth 100000 in
set_option maxHeartbeats 4000000 in
theorem r8at_beyond (W H m c0 c1 c2 c3 x y : Int) (c k n cap : Nat) (A : Option Addr) (hW : I64 W) (hH : I64 H) (hm : I64 m) (hx : I64 x) (hy : I64 y) (hk : k < 4) (hb : ¬ (bOk m x W = true ∧ bOk m y H = true)) (w : World) :
    Calls Try.prog 41 #[imv W H c (.slice A n cap), brv m c0 c1 c2 c3, .int .i64 x, .int .i64 y, .int .i64 (k : Int)] w fun e w' => e = .returned (.int .u8 ([c0, c1, c2, c3].getD k 0)) ∧ Below w.heap.size w w' := by
  have CX := Lib.hid (fun w => dindex_any m x W hm hx hW w)
  have CY := Lib.hid (fun w => dindex_any m y H hm hy hH w)
  clear hm hx hy hW hH
  generalize bI m x W = X at *
  generalize bI m y H = Y at *
  rcases ox : bOk m x W with _ | _
  · clear hb
    rw [ox] at CX
    generalize bOk m y H = oy at *
    clear ox
    match k, hk with
    | 0, _ =>
      go_enter Try.func41, Try.ntmps41
      go_wp2_with fail
      have BB := start2 w #[.int .i64 W, .int .i64 H, .int .i64 c, .slice A n cap] IT #[.int .i64 m, .int .u8 c0, .int .u8 c1, .int .u8 c2, .int .u8 c3] RT
      obtain ⟨BB, hsz, r_i, r_b⟩ := BB
      generalize ((w.alloc (.cells #[.int .i64 W, .int .i64 H, .int .i64 c, .slice A n cap] IT)).alloc (.cells #[.int .i64 m, .int .u8 c0, .int .u8 c1, .int .u8 c2, .int .u8 c3] RT)) = w0 at *
      replace BB := Lib.hid BB
      replace r_i := Lib.hid r_i
      replace r_b := Lib.hid r_b
      clear hsz
      obtain ⟨c_i0, c_i1, c_i2, c_i3, f_i0, f_i1, f_i2, f_i3⟩ := reads4 r_i.out
      have l_i := r_i.out.lt
      obtain ⟨c_b0, c_b1, c_b2, c_b3, c_b4, f_b0, f_b1, f_b2, f_b3, f_b4⟩ := reads5 r_b.out
      have l_b := r_b.out.lt
      go_wp2_with fail
      refine (CX.out _).mono ?_
      rintro e w1 ⟨rfl, hb⟩
      clear c_i0 c_i1 c_i2 c_i3 f_i0 f_i1 f_i2 f_i3 l_i c_b0 c_b1 c_b2 c_b3 c_b4 f_b0 f_b1 f_b2 f_b3 f_b4 l_b
      replace r_i := Lib.hid (r_i.out.keep hb)
      replace r_b := Lib.hid (r_b.out.keep hb)
      replace BB := Lib.hid (below_next BB.out hb)
      clear hb
      obtain ⟨c_i0, c_i1, c_i2, c_i3, f_i0, f_i1, f_i2, f_i3⟩ := reads4 r_i.out
      have l_i := r_i.out.lt
      obtain ⟨c_b0, c_b1, c_b2, c_b3, c_b4, f_b0, f_b1, f_b2, f_b3, f_b4⟩ := reads5 r_b.out
      have l_b := r_b.out.lt
      go_wp2_with fail
      refine (CY.out _).mono ?_
      rintro e w2 ⟨rfl, hb⟩
      clear c_i0 c_i1 c_i2 c_i3 f_i0 f_i1 f_i2 f_i3 l_i c_b0 c_b1 c_b2 c_b3 c_b4 f_b0 f_b1 f_b2 f_b3 f_b4 l_b
      replace r_i := Lib.hid (r_i.out.keep hb)
      replace r_b := Lib.hid (r_b.out.keep hb)
      replace BB := Lib.hid (below_next BB.out hb)
      clear hb
      obtain ⟨c_i0, c_i1, c_i2, c_i3, f_i0, f_i1, f_i2, f_i3⟩ := reads4 r_i.out
      have l_i := r_i.out.lt
      obtain ⟨c_b0, c_b1, c_b2, c_b3, c_b4, f_b0, f_b1, f_b2, f_b3, f_b4⟩ := reads5 r_b.out
      have l_b := r_b.out.lt
      go_wp2_with fail
      go_ret
      exact ⟨rfl, BB.out⟩
    | 1, _ =>
      go_enter Try.func41, Try.ntmps41
      go_wp2_with fail
      have BB := start2 w #[.int .i64 W, .int .i64 H, .int .i64 c, .slice A n cap] IT #[.int .i64 m, .int .u8 c0, .int .u8 c1, .int .u8 c2, .int .u8 c3] RT
      obtain ⟨BB, hsz, r_i, r_b⟩ := BB
      generalize ((w.alloc (.cells #[.int .i64 W, .int .i64 H, .int .i64 c, .slice A n cap] IT)).alloc (.cells #[.int .i64 m, .int .u8 c0, .int .u8 c1, .int .u8 c2, .int .u8 c3] RT)) = w0 at *
      replace BB := Lib.hid BB
      replace r_i := Lib.hid r_i
      replace r_b := Lib.hid r_b
      clear hsz
      obtain ⟨c_i0, c_i1, c_i2, c_i3, f_i0, f_i1, f_i2, f_i3⟩ := reads4 r_i.out
      have l_i := r_i.out.lt
      obtain ⟨c_b0, c_b1, c_b2, c_b3, c_b4, f_b0, f_b1, f_b2, f_b3, f_b4⟩ := reads5 r_b.out
      have l_b := r_b.out.lt
      go_wp2_with fail
      refine (CX.out _).mono ?_
      rintro e w1 ⟨rfl, hb⟩
      clear c_i0 c_i1 c_i2 c_i3 f_i0 f_i1 f_i2 f_i3 l_i c_b0 c_b1 c_b2 c_b3 c_b4 f_b0 f_b1 f_b2 f_b3 f_b4 l_b
      replace r_i := Lib.hid (r_i.out.keep hb)
      replace r_b := Lib.hid (r_b.out.keep hb)
      replace BB := Lib.hid (below_next BB.out hb)
      clear hb
      obtain ⟨c_i0, c_i1, c_i2, c_i3, f_i0, f_i1, f_i2, f_i3⟩ := reads4 r_i.out
      have l_i := r_i.out.lt
      obtain ⟨c_b0, c_b1, c_b2, c_b3, c_b4, f_b0, f_b1, f_b2, f_b3, f_b4⟩ := reads5 r_b.out
      have l_b := r_b.out.lt
      go_wp2_with fail
      refine (CY.out _).mono ?_
      rintro e w2 ⟨rfl, hb⟩
      clear c_i0 c_i1 c_i2 c_i3 f_i0 f_i1 f_i2 f_i3 l_i c_b0 c_b1 c_b2 c_b3 c_b4 f_b0 f_b1 f_b2 f_b3 f_b4 l_b
      replace r_i := Lib.hid (r_i.out.keep hb)
      replace r_b := Lib.hid (r_b.out.keep hb)
      replace BB := Lib.hid (below_next BB.out hb)
      clear hb
      obtain ⟨c_i0, c_i1, c_i2, c_i3, f_i0, f_i1, f_i2, f_i3⟩ := reads4 r_i.out
      have l_i := r_i.out.lt
      obtain ⟨c_b0, c_b1, c_b2, c_b3, c_b4, f_b0, f_b1, f_b2, f_b3, f_b4⟩ := reads5 r_b.out
      have l_b := r_b.out.lt
      go_wp2_with fail
      go_ret
      exact ⟨rfl, BB.out⟩
    | 2, _ =>
      go_enter Try.func41, Try.ntmps41
      go_wp2_with fail
      have BB := start2 w #[.int .i64 W, .int .i64 H, .int .i64 c, .slice A n cap] IT #[.int .i64 m, .int .u8 c0, .int .u8 c1, .int .u8 c2, .int .u8 c3] RT
      obtain ⟨BB, hsz, r_i, r_b⟩ := BB
      generalize ((w.alloc (.cells #[.int .i64 W, .int .i64 H, .int .i64 c, .slice A n cap] IT)).alloc (.cells #[.int .i64 m, .int .u8 c0, .int .u8 c1, .int .u8 c2, .int .u8 c3] RT)) = w0 at *
      replace BB := Lib.hid BB
      replace r_i := Lib.hid r_i
      replace r_b := Lib.hid r_b
      clear hsz
      obtain ⟨c_i0, c_i1, c_i2, c_i3, f_i0, f_i1, f_i2, f_i3⟩ := reads4 r_i.out
      have l_i := r_i.out.lt
      obtain ⟨c_b0, c_b1, c_b2, c_b3, c_b4, f_b0, f_b1, f_b2, f_b3, f_b4⟩ := reads5 r_b.out
      have l_b := r_b.out.lt
      go_wp2_with fail
      refine (CX.out _).mono ?_
      rintro e w1 ⟨rfl, hb⟩
      clear c_i0 c_i1 c_i2 c_i3 f_i0 f_i1 f_i2 f_i3 l_i c_b0 c_b1 c_b2 c_b3 c_b4 f_b0 f_b1 f_b2 f_b3 f_b4 l_b
      replace r_i := Lib.hid (r_i.out.keep hb)
      replace r_b := Lib.hid (r_b.out.keep hb)
      replace BB := Lib.hid (below_next BB.out hb)
      clear hb
      obtain ⟨c_i0, c_i1, c_i2, c_i3, f_i0, f_i1, f_i2, f_i3⟩ := reads4 r_i.out
      have l_i := r_i.out.lt
      obtain ⟨c_b0, c_b1, c_b2, c_b3, c_b4, f_b0, f_b1, f_b2, f_b3, f_b4⟩ := reads5 r_b.out
      have l_b := r_b.out.lt
      go_wp2_with fail
      refine (CY.out _).mono ?_
      rintro e w2 ⟨rfl, hb⟩
      clear c_i0 c_i1 c_i2 c_i3 f_i0 f_i1 f_i2 f_i3 l_i c_b0 c_b1 c_b2 c_b3 c_b4 f_b0 f_b1 f_b2 f_b3 f_b4 l_b
      replace r_i := Lib.hid (r_i.out.keep hb)
      replace r_b := Lib.hid (r_b.out.keep hb)
      replace BB := Lib.hid (below_next BB.out hb)
      clear hb
      obtain ⟨c_i0, c_i1, c_i2, c_i3, f_i0, f_i1, f_i2, f_i3⟩ := reads4 r_i.out
      have l_i := r_i.out.lt
      obtain ⟨c_b0, c_b1, c_b2, c_b3, c_b4, f_b0, f_b1, f_b2, f_b3, f_b4⟩ := reads5 r_b.out
      have l_b := r_b.out.lt
      go_wp2_with fail
      go_ret
      exact ⟨rfl, BB.out⟩
    | 3, _ =>
      go_enter Try.func41, Try.ntmps41
      go_wp2_with fail
      have BB := start2 w #[.int .i64 W, .int .i64 H, .int .i64 c, .slice A n cap] IT #[.int .i64 m, .int .u8 c0, .int .u8 c1, .int .u8 c2, .int .u8 c3] RT
      obtain ⟨BB, hsz, r_i, r_b⟩ := BB
      generalize ((w.alloc (.cells #[.int .i64 W, .int .i64 H, .int .i64 c, .slice A n cap] IT)).alloc (.cells #[.int .i64 m, .int .u8 c0, .int .u8 c1, .int .u8 c2, .int .u8 c3] RT)) = w0 at *
      replace BB := Lib.hid BB
      replace r_i := Lib.hid r_i
      replace r_b := Lib.hid r_b
      clear hsz
      obtain ⟨c_i0, c_i1, c_i2, c_i3, f_i0, f_i1, f_i2, f_i3⟩ := reads4 r_i.out
      have l_i := r_i.out.lt
      obtain ⟨c_b0, c_b1, c_b2, c_b3, c_b4, f_b0, f_b1, f_b2, f_b3, f_b4⟩ := reads5 r_b.out
      have l_b := r_b.out.lt
      go_wp2_with fail
      refine (CX.out _).mono ?_
      rintro e w1 ⟨rfl, hb⟩
      clear c_i0 c_i1 c_i2 c_i3 f_i0 f_i1 f_i2 f_i3 l_i c_b0 c_b1 c_b2 c_b3 c_b4 f_b0 f_b1 f_b2 f_b3 f_b4 l_b
      replace r_i := Lib.hid (r_i.out.keep hb)
      replace r_b := Lib.hid (r_b.out.keep hb)
      replace BB := Lib.hid (below_next BB.out hb)
      clear hb
      obtain ⟨c_i0, c_i1, c_i2, c_i3, f_i0, f_i1, f_i2, f_i3⟩ := reads4 r_i.out
      have l_i := r_i.out.lt
      obtain ⟨c_b0, c_b1, c_b2, c_b3, c_b4, f_b0, f_b1, f_b2, f_b3, f_b4⟩ := reads5 r_b.out
      have l_b := r_b.out.lt
      go_wp2_with fail
      refine (CY.out _).mono ?_
      rintro e w2 ⟨rfl, hb⟩
      clear c_i0 c_i1 c_i2 c_i3 f_i0 f_i1 f_i2 f_i3 l_i c_b0 c_b1 c_b2 c_b3 c_b4 f_b0 f_b1 f_b2 f_b3 f_b4 l_b
      replace r_i := Lib.hid (r_i.out.keep hb)
      replace r_b := Lib.hid (r_b.out.keep hb)
      replace BB := Lib.hid (below_next BB.out hb)
      clear hb
      obtain ⟨c_i0, c_i1, c_i2, c_i3, f_i0, f_i1, f_i2, f_i3⟩ := reads4 r_i.out
      have l_i := r_i.out.lt
      obtain ⟨c_b0, c_b1, c_b2, c_b3, c_b4, f_b0, f_b1, f_b2, f_b3, f_b4⟩ := reads5 r_b.out
      have l_b := r_b.out.lt
      go_wp2_with fail
      go_ret
      exact ⟨rfl, BB.out⟩
  · rcases oy : bOk m y H with _ | _
    · clear hb
      rw [ox] at CX
      rw [oy] at CY
      clear ox oy
      match k, hk with
      | 0, _ =>
        go_enter Try.func41, Try.ntmps41
        go_wp2_with fail
        have BB := start2 w #[.int .i64 W, .int .i64 H, .int .i64 c, .slice A n cap] IT #[.int .i64 m, .int .u8 c0, .int .u8 c1, .int .u8 c2, .int .u8 c3] RT
        obtain ⟨BB, hsz, r_i, r_b⟩ := BB
        generalize ((w.alloc (.cells #[.int .i64 W, .int .i64 H, .int .i64 c, .slice A n cap] IT)).alloc (.cells #[.int .i64 m, .int .u8 c0, .int .u8 c1, .int .u8 c2, .int .u8 c3] RT)) = w0 at *
        replace BB := Lib.hid BB
        replace r_i := Lib.hid r_i
        replace r_b := Lib.hid r_b
        clear hsz
        obtain ⟨c_i0, c_i1, c_i2, c_i3, f_i0, f_i1, f_i2, f_i3⟩ := reads4 r_i.out
        have l_i := r_i.out.lt
        obtain ⟨c_b0, c_b1, c_b2, c_b3, c_b4, f_b0, f_b1, f_b2, f_b3, f_b4⟩ := reads5 r_b.out
        have l_b := r_b.out.lt
        go_wp2_with fail
        refine (CX.out _).mono ?_
        rintro e w1 ⟨rfl, hb⟩
        clear c_i0 c_i1 c_i2 c_i3 f_i0 f_i1 f_i2 f_i3 l_i c_b0 c_b1 c_b2 c_b3 c_b4 f_b0 f_b1 f_b2 f_b3 f_b4 l_b
        replace r_i := Lib.hid (r_i.out.keep hb)
        replace r_b := Lib.hid (r_b.out.keep hb)
        replace BB := Lib.hid (below_next BB.out hb)
        clear hb
        obtain ⟨c_i0, c_i1, c_i2, c_i3, f_i0, f_i1, f_i2, f_i3⟩ := reads4 r_i.out
        have l_i := r_i.out.lt
        obtain ⟨c_b0, c_b1, c_b2, c_b3, c_b4, f_b0, f_b1, f_b2, f_b3, f_b4⟩ := reads5 r_b.out
        have l_b := r_b.out.lt
        go_wp2_with fail
        refine (CY.out _).mono ?_
        rintro e w2 ⟨rfl, hb⟩
        clear c_i0 c_i1 c_i2 c_i3 f_i0 f_i1 f_i2 f_i3 l_i c_b0 c_b1 c_b2 c_b3 c_b4 f_b0 f_b1 f_b2 f_b3 f_b4 l_b
        replace r_i := Lib.hid (r_i.out.keep hb)
        replace r_b := Lib.hid (r_b.out.keep hb)
        replace BB := Lib.hid (below_next BB.out hb)
        clear hb
        obtain ⟨c_i0, c_i1, c_i2, c_i3, f_i0, f_i1, f_i2, f_i3⟩ := reads4 r_i.out
        have l_i := r_i.out.lt
        obtain ⟨c_b0, c_b1, c_b2, c_b3, c_b4, f_b0, f_b1, f_b2, f_b3, f_b4⟩ := reads5 r_b.out
        have l_b := r_b.out.lt
        go_wp2_with fail
        go_ret
        exact ⟨rfl, BB.out⟩
      | 1, _ =>
        go_enter Try.func41, Try.ntmps41
        go_wp2_with fail
        have BB := start2 w #[.int .i64 W, .int .i64 H, .int .i64 c, .slice A n cap] IT #[.int .i64 m, .int .u8 c0, .int .u8 c1, .int .u8 c2, .int .u8 c3] RT
        obtain ⟨BB, hsz, r_i, r_b⟩ := BB
        generalize ((w.alloc (.cells #[.int .i64 W, .int .i64 H, .int .i64 c, .slice A n cap] IT)).alloc (.cells #[.int .i64 m, .int .u8 c0, .int .u8 c1, .int .u8 c2, .int .u8 c3] RT)) = w0 at *
        replace BB := Lib.hid BB
        replace r_i := Lib.hid r_i
        replace r_b := Lib.hid r_b
        clear hsz
        obtain ⟨c_i0, c_i1, c_i2, c_i3, f_i0, f_i1, f_i2, f_i3⟩ := reads4 r_i.out
        have l_i := r_i.out.lt
        obtain ⟨c_b0, c_b1, c_b2, c_b3, c_b4, f_b0, f_b1, f_b2, f_b3, f_b4⟩ := reads5 r_b.out
        have l_b := r_b.out.lt
        go_wp2_with fail
        refine (CX.out _).mono ?_
        rintro e w1 ⟨rfl, hb⟩
        clear c_i0 c_i1 c_i2 c_i3 f_i0 f_i1 f_i2 f_i3 l_i c_b0 c_b1 c_b2 c_b3 c_b4 f_b0 f_b1 f_b2 f_b3 f_b4 l_b
        replace r_i := Lib.hid (r_i.out.keep hb)
        replace r_b := Lib.hid (r_b.out.keep hb)
        replace BB := Lib.hid (below_next BB.out hb)
        clear hb
        obtain ⟨c_i0, c_i1, c_i2, c_i3, f_i0, f_i1, f_i2, f_i3⟩ := reads4 r_i.out
        have l_i := r_i.out.lt
        obtain ⟨c_b0, c_b1, c_b2, c_b3, c_b4, f_b0, f_b1, f_b2, f_b3, f_b4⟩ := reads5 r_b.out
        have l_b := r_b.out.lt
        go_wp2_with fail
        refine (CY.out _).mono ?_
        rintro e w2 ⟨rfl, hb⟩
        clear c_i0 c_i1 c_i2 c_i3 f_i0 f_i1 f_i2 f_i3 l_i c_b0 c_b1 c_b2 c_b3 c_b4 f_b0 f_b1 f_b2 f_b3 f_b4 l_b
        replace r_i := Lib.hid (r_i.out.keep hb)
        replace r_b := Lib.hid (r_b.out.keep hb)
        replace BB := Lib.hid (below_next BB.out hb)
        clear hb
        obtain ⟨c_i0, c_i1, c_i2, c_i3, f_i0, f_i1, f_i2, f_i3⟩ := reads4 r_i.out
        have l_i := r_i.out.lt
        obtain ⟨c_b0, c_b1, c_b2, c_b3, c_b4, f_b0, f_b1, f_b2, f_b3, f_b4⟩ := reads5 r_b.out
        have l_b := r_b.out.lt
        go_wp2_with fail
        go_ret
        exact ⟨rfl, BB.out⟩
      | 2, _ =>
        go_enter Try.func41, Try.ntmps41
        go_wp2_with fail
        have BB := start2 w #[.int .i64 W, .int .i64 H, .int .i64 c, .slice A n cap] IT #[.int .i64 m, .int .u8 c0, .int .u8 c1, .int .u8 c2, .int .u8 c3] RT
        obtain ⟨BB, hsz, r_i, r_b⟩ := BB
        generalize ((w.alloc (.cells #[.int .i64 W, .int .i64 H, .int .i64 c, .slice A n cap] IT)).alloc (.cells #[.int .i64 m, .int .u8 c0, .int .u8 c1, .int .u8 c2, .int .u8 c3] RT)) = w0 at *
        replace BB := Lib.hid BB
        replace r_i := Lib.hid r_i
        replace r_b := Lib.hid r_b
        clear hsz
        obtain ⟨c_i0, c_i1, c_i2, c_i3, f_i0, f_i1, f_i2, f_i3⟩ := reads4 r_i.out
        have l_i := r_i.out.lt
        obtain ⟨c_b0, c_b1, c_b2, c_b3, c_b4, f_b0, f_b1, f_b2, f_b3, f_b4⟩ := reads5 r_b.out
        have l_b := r_b.out.lt
        go_wp2_with fail
        refine (CX.out _).mono ?_
        rintro e w1 ⟨rfl, hb⟩
        clear c_i0 c_i1 c_i2 c_i3 f_i0 f_i1 f_i2 f_i3 l_i c_b0 c_b1 c_b2 c_b3 c_b4 f_b0 f_b1 f_b2 f_b3 f_b4 l_b
        replace r_i := Lib.hid (r_i.out.keep hb)
        replace r_b := Lib.hid (r_b.out.keep hb)
        replace BB := Lib.hid (below_next BB.out hb)
        clear hb
        obtain ⟨c_i0, c_i1, c_i2, c_i3, f_i0, f_i1, f_i2, f_i3⟩ := reads4 r_i.out
        have l_i := r_i.out.lt
        obtain ⟨c_b0, c_b1, c_b2, c_b3, c_b4, f_b0, f_b1, f_b2, f_b3, f_b4⟩ := reads5 r_b.out
        have l_b := r_b.out.lt
        go_wp2_with fail
        refine (CY.out _).mono ?_
        rintro e w2 ⟨rfl, hb⟩
        clear c_i0 c_i1 c_i2 c_i3 f_i0 f_i1 f_i2 f_i3 l_i c_b0 c_b1 c_b2 c_b3 c_b4 f_b0 f_b1 f_b2 f_b3 f_b4 l_b
        replace r_i := Lib.hid (r_i.out.keep hb)
        replace r_b := Lib.hid (r_b.out.keep hb)
        replace BB := Lib.hid (below_next BB.out hb)
        clear hb
        obtain ⟨c_i0, c_i1, c_i2, c_i3, f_i0, f_i1, f_i2, f_i3⟩ := reads4 r_i.out
        have l_i := r_i.out.lt
        obtain ⟨c_b0, c_b1, c_b2, c_b3, c_b4, f_b0, f_b1, f_b2, f_b3, f_b4⟩ := reads5 r_b.out
        have l_b := r_b.out.lt
        go_wp2_with fail
        go_ret
        exact ⟨rfl, BB.out⟩
      | 3, _ =>
        go_enter Try.func41, Try.ntmps41
        go_wp2_with fail
        have BB := start2 w #[.int .i64 W, .int .i64 H, .int .i64 c, .slice A n cap] IT #[.int .i64 m, .int .u8 c0, .int .u8 c1, .int .u8 c2, .int .u8 c3] RT
        obtain ⟨BB, hsz, r_i, r_b⟩ := BB
        generalize ((w.alloc (.cells #[.int .i64 W, .int .i64 H, .int .i64 c, .slice A n cap] IT)).alloc (.cells #[.int .i64 m, .int .u8 c0, .int .u8 c1, .int .u8 c2, .int .u8 c3] RT)) = w0 at *
        replace BB := Lib.hid BB
        replace r_i := Lib.hid r_i
        replace r_b := Lib.hid r_b
        clear hsz
        obtain ⟨c_i0, c_i1, c_i2, c_i3, f_i0, f_i1, f_i2, f_i3⟩ := reads4 r_i.out
        have l_i := r_i.out.lt
        obtain ⟨c_b0, c_b1, c_b2, c_b3, c_b4, f_b0, f_b1, f_b2, f_b3, f_b4⟩ := reads5 r_b.out
        have l_b := r_b.out.lt
        go_wp2_with fail
        refine (CX.out _).mono ?_
        rintro e w1 ⟨rfl, hb⟩
        clear c_i0 c_i1 c_i2 c_i3 f_i0 f_i1 f_i2 f_i3 l_i c_b0 c_b1 c_b2 c_b3 c_b4 f_b0 f_b1 f_b2 f_b3 f_b4 l_b
        replace r_i := Lib.hid (r_i.out.keep hb)
        replace r_b := Lib.hid (r_b.out.keep hb)
        replace BB := Lib.hid (below_next BB.out hb)
        clear hb
        obtain ⟨c_i0, c_i1, c_i2, c_i3, f_i0, f_i1, f_i2, f_i3⟩ := reads4 r_i.out
        have l_i := r_i.out.lt
        obtain ⟨c_b0, c_b1, c_b2, c_b3, c_b4, f_b0, f_b1, f_b2, f_b3, f_b4⟩ := reads5 r_b.out
        have l_b := r_b.out.lt
        go_wp2_with fail
        refine (CY.out _).mono ?_
        rintro e w2 ⟨rfl, hb⟩
        clear c_i0 c_i1 c_i2 c_i3 f_i0 f_i1 f_i2 f_i3 l_i c_b0 c_b1 c_b2 c_b3 c_b4 f_b0 f_b1 f_b2 f_b3 f_b4 l_b
        replace r_i := Lib.hid (r_i.out.keep hb)
        replace r_b := Lib.hid (r_b.out.keep hb)
        replace BB := Lib.hid (below_next BB.out hb)
        clear hb
        obtain ⟨c_i0, c_i1, c_i2, c_i3, f_i0, f_i1, f_i2, f_i3⟩ := reads4 r_i.out
        have l_i := r_i.out.lt
        obtain ⟨c_b0, c_b1, c_b2, c_b3, c_b4, f_b0, f_b1, f_b2, f_b3, f_b4⟩ := reads5 r_b.out
        have l_b := r_b.out.lt
        go_wp2_with fail
        go_ret
        exact ⟨rfl, BB.out⟩
    · exact absurd ⟨ox, oy⟩ hb

set_option maxRecDepth 100000 in
set_option maxHeartbeats 8000000 in
theorem r8at_within (W H m c0 c1 c2 c3 x y : Int) (c k pb po cap : Nat) (zs : List Int) (hW : I64 W) (hH : I64 H) (hm : I64 m) (hx : I64 x) (hy : I64 y) (hk : k < c) (h : ibC W H c m zs.length = 0) (hcap : zs.length ≤ cap) (hcap' : (cap : Int) ≤ 9223372036854775807) (hb : bOk m x W = true ∧ bOk m y H = true) (w : World)
    (hlt : pb < w.heap.size) (hp : ∀ i, i < zs.length → w.cell? ⟨pb, po + i, none⟩ = some (.int .u8 (zs.getD i 0))) :
    Calls Try.prog 41 #[imv W H c (.slice (some ⟨pb, po, none⟩) zs.length cap), brv m c0 c1 c2 c3, .int .i64 x, .int .i64 y, .int .i64 (k : Int)] w fun e w' => e = .returned (.int .u8 (zs.getD (((bI m y H * W + bI m x W) * c).toNat + k) 0)) ∧ Below w.heap.size w w' := by
  obtain ⟨h0, -, hC, hW1, hH1, q0, q1, hn⟩ := ibC_zero h
  have bX := bI_bounds (mode := m) (i := x) (n := W) (by omega)
  have bY := bI_bounds (mode := m) (i := y) (n := H) (by omega)
  obtain ⟨r1, r2, r3, r4, r5⟩ := place_in hC bX bY (by omega) (by omega)
  have CP := Lib.hid (fun w => rplace W H (bI m x W) (bI m y H) k c zs.length cap (some ⟨pb, po, none⟩) h0 bX bY ⟨by omega, by omega⟩ w)
  have CX := Lib.hid (fun w => dindex_any m x W hm hx hW w)
  have CY := Lib.hid (fun w => dindex_any m y H hm hy hH w)
  rw [hb.1] at CX
  rw [hb.2] at CY
  obtain ⟨q, hq⟩ : ∃ q : Nat, (q : Int) = (bI m y H * W + bI m x W) * c + k := ⟨((bI m y H * W + bI m x W) * c + k).toNat, Int.toNat_of_nonneg (by omega)⟩
  rw [← hq] at CP
  have hqe : ((bI m y H * W + bI m x W) * c).toNat + k = q := by omega
  rw [hqe]
  have k0 : (0 : Int) ≤ (q : Int) := by omega
  have k1 : (q : Int) < (zs.length : Int) := by omega
  have hcell := hp q (by omega)
  clear h h0 hm hx hy hW hH hb hp hC hW1 hH1 q0 q1 hn r1 r2 r3 r4 r5 hqe
  generalize bI m x W = X at *
  generalize bI m y H = Y at *
  generalize zs.getD q 0 = R at *
  generalize zs.length = n at *
  clear hq bX bY
  have KC := Lib.hid (fun (w9 : World) (h : Below w.heap.size w w9) => (h.cell (p := ⟨pb, po + q, none⟩) hlt).trans hcell)
  clear hcell
  go_enter Try.func41, Try.ntmps41
  go_wp2_with fail
  have BB := start2 w #[.int .i64 W, .int .i64 H, .int .i64 c, .slice (some ⟨pb, po, none⟩) n cap] IT #[.int .i64 m, .int .u8 c0, .int .u8 c1, .int .u8 c2, .int .u8 c3] RT
  obtain ⟨BB, hsz, r_i, r_b⟩ := BB
  generalize ((w.alloc (.cells #[.int .i64 W, .int .i64 H, .int .i64 c, .slice (some ⟨pb, po, none⟩) n cap] IT)).alloc (.cells #[.int .i64 m, .int .u8 c0, .int .u8 c1, .int .u8 c2, .int .u8 c3] RT)) = w0 at *
  replace BB := Lib.hid BB
  replace r_i := Lib.hid r_i
  replace r_b := Lib.hid r_b
  clear hsz
  obtain ⟨c_i0, c_i1, c_i2, c_i3, f_i0, f_i1, f_i2, f_i3⟩ := reads4 r_i.out
  have l_i := r_i.out.lt
  obtain ⟨c_b0, c_b1, c_b2, c_b3, c_b4, f_b0, f_b1, f_b2, f_b3, f_b4⟩ := reads5 r_b.out
  have l_b := r_b.out.lt
  go_wp2_with fail
  refine (CX.out _).mono ?_
  rintro e w1 ⟨rfl, hb⟩
  clear c_i0 c_i1 c_i2 c_i3 f_i0 f_i1 f_i2 f_i3 l_i c_b0 c_b1 c_b2 c_b3 c_b4 f_b0 f_b1 f_b2 f_b3 f_b4 l_b
  replace r_i := Lib.hid (r_i.out.keep hb)
  replace r_b := Lib.hid (r_b.out.keep hb)
  replace BB := Lib.hid (below_next BB.out hb)
  clear hb
  obtain ⟨c_i0, c_i1, c_i2, c_i3, f_i0, f_i1, f_i2, f_i3⟩ := reads4 r_i.out
  have l_i := r_i.out.lt
  obtain ⟨c_b0, c_b1, c_b2, c_b3, c_b4, f_b0, f_b1, f_b2, f_b3, f_b4⟩ := reads5 r_b.out
  have l_b := r_b.out.lt
  go_wp2_with fail
  refine (CY.out _).mono ?_
  rintro e w2 ⟨rfl, hb⟩
  clear c_i0 c_i1 c_i2 c_i3 f_i0 f_i1 f_i2 f_i3 l_i c_b0 c_b1 c_b2 c_b3 c_b4 f_b0 f_b1 f_b2 f_b3 f_b4 l_b
  replace r_i := Lib.hid (r_i.out.keep hb)
  replace r_b := Lib.hid (r_b.out.keep hb)
  replace BB := Lib.hid (below_next BB.out hb)
  clear hb
  obtain ⟨c_i0, c_i1, c_i2, c_i3, f_i0, f_i1, f_i2, f_i3⟩ := reads4 r_i.out
  have l_i := r_i.out.lt
  obtain ⟨c_b0, c_b1, c_b2, c_b3, c_b4, f_b0, f_b1, f_b2, f_b3, f_b4⟩ := reads5 r_b.out
  have l_b := r_b.out.lt
  go_wp2_with fail
  clear c_i0 c_i1 c_i2 c_i3 f_i0 f_i1 f_i2 f_i3 l_i c_b0 c_b1 c_b2 c_b3 c_b4 f_b0 f_b1 f_b2 f_b3 f_b4 l_b
  have KK := Lib.hid (fun (w9 : World) (h : Below w2.heap.size w2 w9) => (⟨cells4 (r_i.out.keep h), KC.out _ (below_next BB.out h)⟩ : (w9.cell? ⟨w.heap.size, 0, none⟩ = some (.int .i64 W) ∧ w9.cell? ⟨w.heap.size, 1, none⟩ = some (.int .i64 H) ∧ w9.cell? ⟨w.heap.size, 2, none⟩ = some (.int .i64 c) ∧ w9.cell? ⟨w.heap.size, 3, none⟩ = some (.slice (some ⟨pb, po, none⟩) n cap)) ∧ (w9.cell? ⟨pb, po + q, none⟩ = some (.int .u8 R))))
  have K0 := KK.out w2 (Below.refl _ _)
  have KD := KK.out w2.drew (below_drew (Below.refl _ _))
  go_region_held3 (fun w9 => (w9.cell? ⟨w.heap.size, 0, none⟩ = some (.int .i64 W) ∧ w9.cell? ⟨w.heap.size, 1, none⟩ = some (.int .i64 H) ∧ w9.cell? ⟨w.heap.size, 2, none⟩ = some (.int .i64 c) ∧ w9.cell? ⟨w.heap.size, 3, none⟩ = some (.slice (some ⟨pb, po, none⟩) n cap)) ∧ (w9.cell? ⟨pb, po + q, none⟩ = some (.int .u8 R)))
      (first | with_reducible exact KD | with_reducible exact K0 | with_reducible exact K_w3)
      (first
        | (go_at_call 81
           refine (CP.out _).mono ?_
           rintro e w3 ⟨rfl, hb⟩
           have B_w3 := Lib.hid (reg_next (w0 := w2) (by repeat (first | with_reducible exact Below.refl _ _ | with_reducible apply below_drew | with_reducible apply below_new)) hb)
           have K_w3 := KK.out _ B_w3.out
           clear hb))
  clear KK K0 KD K_w3
  replace r_i := Lib.hid (r_i.out.keep B_w3.out)
  replace r_b := Lib.hid (r_b.out.keep B_w3.out)
  replace BB := Lib.hid (below_next BB.out B_w3.out)
  clear B_w3
  go_wp2_with fail
  go_ret
  exact ⟨rfl, BB.out⟩

/-- A channel of the pixel. -/
theorem r8at (W H C m c0 c1 c2 c3 x y : Int) (k : Nat) (s : Value) (zs : List Int) (w : World) (hi : IMG w s W H C zs) (hm : I64 m) (hx : I64 x) (hy : I64 y) (h : ibC W H C m zs.length = 0) (hk : (k : Int) < C) :
    Calls Try.prog 41 #[imv W H C s, brv m c0 c1 c2 c3, .int .i64 x, .int .i64 y, .int .i64 (k : Int)] w fun e w' => e = .returned (.int .u8 ((pixL W H C m x y [c0, c1, c2, c3] zs).getD k 0)) ∧ Below w.heap.size w w' := by
  obtain ⟨hW, hH, hC, hb⟩ := hi
  obtain ⟨-, -, hC', hW1, hH1, q0, q1, hn⟩ := ibC_zero h
  obtain ⟨c, rfl⟩ : ∃ c : Nat, C = (c : Int) := ⟨C.toNat, by omega⟩
  have hne : zs ≠ [] := by
    rintro rfl
    simp at hn
    generalize W * H = p at *
    rcases hC' with e | e | e <;> rw [e] at hn <;> omega
  obtain ⟨b, off, cap, rfl, k1, k2, k3, k4⟩ := hb.some hne
  have hkc : k < c := by omega
  by_cases hk2 : bOk m x W = true ∧ bOk m y H = true
  · refine (r8at_within W H m c0 c1 c2 c3 x y c k b off cap zs hW hH hm hx hy hkc h k1 k2 hk2 w k3 k4).mono ?_
    rintro e w' ⟨rfl, h1⟩
    refine ⟨?_, h1⟩
    unfold pixL
    rw [if_pos hk2, Int.toNat_natCast]
    refine ret_int ?_
    simp only [List.getD_eq_getElem?_getD, List.getElem?_take, if_pos hkc, List.getElem?_drop]
  · refine (r8at_beyond W H m c0 c1 c2 c3 x y c k zs.length cap _ hW hH hm hx hy (by omega) hk2 w).mono ?_
    rintro e w' ⟨rfl, h1⟩
    refine ⟨?_, h1⟩
    unfold pixL
    rw [if_neg hk2, Int.toNat_natCast]
    refine ret_int ?_
    simp only [List.getD_eq_getElem?_getD, List.getElem?_take, if_pos hkc]

end Go.Proofs.Ytnklbnphiokpiaa
