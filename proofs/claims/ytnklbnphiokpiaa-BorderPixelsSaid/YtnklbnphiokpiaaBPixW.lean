/- The walk of BorderPixels. -/
import Derived.Test.YtnklbnphiokpiaaBPix
import Derived.Test.YtnklbnphiokpiaaPeriodLaw
set_option linter.unusedVariables false
set_option linter.unusedSimpArgs false
namespace Go.Proofs.Ytnklbnphiokpiaa
open Go.RowKit
abbrev A3T : TypeId := 35

theorem row_cell {w : World} {g j : Nat} {L : List Int} (h : BRow w g L) (hj : j < L.length) : w.cell? ⟨g, j, none⟩ = some (.int .u8 (L.getD j 0)) := by
  refine AtB.cell h j ?_
  simp [List.getD, hj]
set_option maxRecDepth 100000 in
theorem bpixels_many (W H C m c0 c1 c2 c3 x y k : Int) (A : Option Addr) (n cap : Nat) (h : 20000 < n) (w : World) :
    Calls Try.prog 7 #[imv W H C (.slice A n cap), brv m c0 c1 c2 c3, .agg #[.int .i64 x, .int .i64 y, .int .i64 k]] w fun e w' => e = .returned (.bool true) ∧ Below w.heap.size w w' := by
  have CF := Lib.hid (fun w => rfew W H C 20000 A n cap w)
  have hfew : decide ((n : Int) ≤ 20000) = false := decide_eq_false (by omega)
  clear h
  go_enter Try.func7, Try.ntmps7
  go_wp2_with fail
  have BB := start3 w #[.int .i64 W, .int .i64 H, .int .i64 C, .slice A n cap] IT #[.int .i64 m, .int .u8 c0, .int .u8 c1, .int .u8 c2, .int .u8 c3] RT #[.int .i64 x, .int .i64 y, .int .i64 k] A3T
  obtain ⟨BB, hsz, r_i, r_b, r_p⟩ := BB
  generalize (((w.alloc (.cells #[.int .i64 W, .int .i64 H, .int .i64 C, .slice A n cap] IT)).alloc (.cells #[.int .i64 m, .int .u8 c0, .int .u8 c1, .int .u8 c2, .int .u8 c3] RT)).alloc (.cells #[.int .i64 x, .int .i64 y, .int .i64 k] A3T)) = w0 at *
  replace BB := Lib.hid BB
  replace r_i := Lib.hid r_i
  replace r_b := Lib.hid r_b
  replace r_p := Lib.hid r_p
  clear hsz
  refine (CF.out _).mono ?_
  rintro e w1 ⟨rfl, hb⟩
  replace r_i := Lib.hid (r_i.out.keep hb)
  replace r_b := Lib.hid (r_b.out.keep hb)
  replace r_p := Lib.hid (r_p.out.keep hb)
  replace BB := Lib.hid (below_next BB.out hb)
  clear hb
  rw [hfew]
  go_wp2_with fail
  go_ret
  exact ⟨rfl, BB.out⟩

set_option maxRecDepth 100000 in
set_option maxHeartbeats 4000000 in
theorem bpixels_no (W H C m c0 c1 c2 c3 x y k : Int) (A : Option Addr) (zs : List Int) (cap : Nat) (hn : zs.length ≤ 20000) (hm : I64 m) (hx : I64 x) (hy : I64 y) (hk : I64 k) (h : ibC W H C m zs.length ≠ 0) (w : World) (hi : IMG w (.slice A zs.length cap) W H C zs) :
    Calls Try.prog 7 #[imv W H C (.slice A zs.length cap), brv m c0 c1 c2 c3, .agg #[.int .i64 x, .int .i64 y, .int .i64 k]] w fun e w' => e = .returned (.bool true) ∧ Below w.heap.size w w' := by
  have CF := Lib.hid (fun w => rfew W H C 20000 A zs.length cap w)
  have hfew : decide ((zs.length : Int) ≤ 20000) = true := decide_eq_true (by omega)
  have CA := Lib.hid (fun w hi => bat W H C m c0 c1 c2 c3 x y k (.slice A zs.length cap) zs w hi hm hx hy hk)
  rw [show atV W H C m x y k [c0, c1, c2, c3] zs = 0 from if_neg (fun q => h q.1), show atC W H C m k zs.length = ibC W H C m zs.length from if_neg h] at CA
  have CP := Lib.hid (fun w => bpixel_no W H C m c0 c1 c2 c3 x y A zs.length cap h w)
  have CK := Lib.hid (fun w => rcheck07 W H C A zs.length cap w)
  have CL := Lib.hid (fun w => border_alive w)
  have hi := Lib.hid hi
  have hq : (ibC W H C m zs.length == 0) = false := by simpa using h
  have hq2 : (ibC W H C m zs.length != 0) = true := by simpa using h
  by_cases hz : imC W H C zs.length = 0
  · have e : ibC W H C m zs.length = 10 := by
      have : ibC W H C m zs.length = bC m := if_pos hz
      rw [this] at h ⊢
      unfold bC at *
      split at h
      · rename_i hh; rw [if_pos hh]
      · omega
    rw [hz] at CK
    rw [e] at CA CP
    have hmm : m < 0 ∨ 3 < m := by
      have h1 : ibC W H C m zs.length = bC m := if_pos hz
      rw [h1] at h
      unfold bC at h
      split at h
      · assumption
      · omega
    clear hq hq2 h hz e hm hx hy hk hn
    by_cases m0 : m < 0
    · have d1 : decide (m < 0) = true := decide_eq_true m0
      clear hmm
      go_enter Try.func7, Try.ntmps7
      go_wp2_with fail
      have BB := start3 w #[.int .i64 W, .int .i64 H, .int .i64 C, .slice A zs.length cap] IT #[.int .i64 m, .int .u8 c0, .int .u8 c1, .int .u8 c2, .int .u8 c3] RT #[.int .i64 x, .int .i64 y, .int .i64 k] A3T
      obtain ⟨BB, hsz, r_i, r_b, r_p⟩ := BB
      generalize (((w.alloc (.cells #[.int .i64 W, .int .i64 H, .int .i64 C, .slice A zs.length cap] IT)).alloc (.cells #[.int .i64 m, .int .u8 c0, .int .u8 c1, .int .u8 c2, .int .u8 c3] RT)).alloc (.cells #[.int .i64 x, .int .i64 y, .int .i64 k] A3T)) = w0 at *
      replace BB := Lib.hid BB
      replace r_i := Lib.hid r_i
      replace r_b := Lib.hid r_b
      replace r_p := Lib.hid r_p
      clear hsz
      refine (CF.out _).mono ?_
      rintro e w1 ⟨rfl, hb⟩
      replace r_i := Lib.hid (r_i.out.keep hb)
      replace r_b := Lib.hid (r_b.out.keep hb)
      replace r_p := Lib.hid (r_p.out.keep hb)
      replace BB := Lib.hid (below_next BB.out hb)
      clear hb
      rw [hfew]
      obtain ⟨c_p0, c_p1, c_p2, f_p0, f_p1, f_p2⟩ := reads3 r_p.out
      have l_p := r_p.out.lt
      obtain ⟨c_i0, c_i1, c_i2, c_i3, f_i0, f_i1, f_i2, f_i3⟩ := reads4 r_i.out
      have l_i := r_i.out.lt
      obtain ⟨c_b0, c_b1, c_b2, c_b3, c_b4, f_b0, f_b1, f_b2, f_b3, f_b4⟩ := reads5 r_b.out
      have l_b := r_b.out.lt
      go_wp2_with fail
      refine (CA.out _ (hi.out.below BB.out)).mono ?_
      rintro e w2 ⟨rfl, hb⟩
      clear c_p0 c_p1 c_p2 f_p0 f_p1 f_p2 l_p c_i0 c_i1 c_i2 c_i3 f_i0 f_i1 f_i2 f_i3 l_i c_b0 c_b1 c_b2 c_b3 c_b4 f_b0 f_b1 f_b2 f_b3 f_b4 l_b
      replace r_i := Lib.hid (r_i.out.keep hb)
      replace r_b := Lib.hid (r_b.out.keep hb)
      replace r_p := Lib.hid (r_p.out.keep hb)
      replace BB := Lib.hid (below_next BB.out hb)
      clear hb
      obtain ⟨c_p0, c_p1, c_p2, f_p0, f_p1, f_p2⟩ := reads3 r_p.out
      have l_p := r_p.out.lt
      obtain ⟨c_i0, c_i1, c_i2, c_i3, f_i0, f_i1, f_i2, f_i3⟩ := reads4 r_i.out
      have l_i := r_i.out.lt
      obtain ⟨c_b0, c_b1, c_b2, c_b3, c_b4, f_b0, f_b1, f_b2, f_b3, f_b4⟩ := reads5 r_b.out
      have l_b := r_b.out.lt
      go_wp2_with fail
      refine (CP.out _).mono ?_
      rintro e w3 ⟨rfl, hb⟩
      clear c_p0 c_p1 c_p2 f_p0 f_p1 f_p2 l_p c_i0 c_i1 c_i2 c_i3 f_i0 f_i1 f_i2 f_i3 l_i c_b0 c_b1 c_b2 c_b3 c_b4 f_b0 f_b1 f_b2 f_b3 f_b4 l_b
      replace r_i := Lib.hid (r_i.out.keep hb)
      replace r_b := Lib.hid (r_b.out.keep hb)
      replace r_p := Lib.hid (r_p.out.keep hb)
      replace BB := Lib.hid (below_next BB.out hb)
      clear hb
      obtain ⟨c_p0, c_p1, c_p2, f_p0, f_p1, f_p2⟩ := reads3 r_p.out
      have l_p := r_p.out.lt
      obtain ⟨c_i0, c_i1, c_i2, c_i3, f_i0, f_i1, f_i2, f_i3⟩ := reads4 r_i.out
      have l_i := r_i.out.lt
      obtain ⟨c_b0, c_b1, c_b2, c_b3, c_b4, f_b0, f_b1, f_b2, f_b3, f_b4⟩ := reads5 r_b.out
      have l_b := r_b.out.lt
      go_wp2_with fail
      refine (CK.out _).mono ?_
      rintro e w4 ⟨rfl, hb⟩
      clear c_p0 c_p1 c_p2 f_p0 f_p1 f_p2 l_p c_i0 c_i1 c_i2 c_i3 f_i0 f_i1 f_i2 f_i3 l_i c_b0 c_b1 c_b2 c_b3 c_b4 f_b0 f_b1 f_b2 f_b3 f_b4 l_b
      replace r_i := Lib.hid (r_i.out.keep hb)
      replace r_b := Lib.hid (r_b.out.keep hb)
      replace r_p := Lib.hid (r_p.out.keep hb)
      replace BB := Lib.hid (below_next BB.out hb)
      clear hb
      obtain ⟨c_p0, c_p1, c_p2, f_p0, f_p1, f_p2⟩ := reads3 r_p.out
      have l_p := r_p.out.lt
      obtain ⟨c_i0, c_i1, c_i2, c_i3, f_i0, f_i1, f_i2, f_i3⟩ := reads4 r_i.out
      have l_i := r_i.out.lt
      obtain ⟨c_b0, c_b1, c_b2, c_b3, c_b4, f_b0, f_b1, f_b2, f_b3, f_b4⟩ := reads5 r_b.out
      have l_b := r_b.out.lt
      go_wp2_with fail
      refine (CL.out _).mono ?_
      rintro e w5 ⟨rfl, hb⟩
      clear c_p0 c_p1 c_p2 f_p0 f_p1 f_p2 l_p c_i0 c_i1 c_i2 c_i3 f_i0 f_i1 f_i2 f_i3 l_i c_b0 c_b1 c_b2 c_b3 c_b4 f_b0 f_b1 f_b2 f_b3 f_b4 l_b
      replace r_i := Lib.hid (r_i.out.keep hb)
      replace r_b := Lib.hid (r_b.out.keep hb)
      replace r_p := Lib.hid (r_p.out.keep hb)
      replace BB := Lib.hid (below_next BB.out hb)
      clear hb
      go_wp2_with fail
      go_ret
      exact ⟨rfl, BB.out⟩
    · have d1 : decide (m < 0) = false := decide_eq_false m0
      have d2 : decide (m > 3) = true := decide_eq_true (by omega)
      clear hmm
      go_enter Try.func7, Try.ntmps7
      go_wp2_with fail
      have BB := start3 w #[.int .i64 W, .int .i64 H, .int .i64 C, .slice A zs.length cap] IT #[.int .i64 m, .int .u8 c0, .int .u8 c1, .int .u8 c2, .int .u8 c3] RT #[.int .i64 x, .int .i64 y, .int .i64 k] A3T
      obtain ⟨BB, hsz, r_i, r_b, r_p⟩ := BB
      generalize (((w.alloc (.cells #[.int .i64 W, .int .i64 H, .int .i64 C, .slice A zs.length cap] IT)).alloc (.cells #[.int .i64 m, .int .u8 c0, .int .u8 c1, .int .u8 c2, .int .u8 c3] RT)).alloc (.cells #[.int .i64 x, .int .i64 y, .int .i64 k] A3T)) = w0 at *
      replace BB := Lib.hid BB
      replace r_i := Lib.hid r_i
      replace r_b := Lib.hid r_b
      replace r_p := Lib.hid r_p
      clear hsz
      refine (CF.out _).mono ?_
      rintro e w1 ⟨rfl, hb⟩
      replace r_i := Lib.hid (r_i.out.keep hb)
      replace r_b := Lib.hid (r_b.out.keep hb)
      replace r_p := Lib.hid (r_p.out.keep hb)
      replace BB := Lib.hid (below_next BB.out hb)
      clear hb
      rw [hfew]
      obtain ⟨c_p0, c_p1, c_p2, f_p0, f_p1, f_p2⟩ := reads3 r_p.out
      have l_p := r_p.out.lt
      obtain ⟨c_i0, c_i1, c_i2, c_i3, f_i0, f_i1, f_i2, f_i3⟩ := reads4 r_i.out
      have l_i := r_i.out.lt
      obtain ⟨c_b0, c_b1, c_b2, c_b3, c_b4, f_b0, f_b1, f_b2, f_b3, f_b4⟩ := reads5 r_b.out
      have l_b := r_b.out.lt
      go_wp2_with fail
      refine (CA.out _ (hi.out.below BB.out)).mono ?_
      rintro e w2 ⟨rfl, hb⟩
      clear c_p0 c_p1 c_p2 f_p0 f_p1 f_p2 l_p c_i0 c_i1 c_i2 c_i3 f_i0 f_i1 f_i2 f_i3 l_i c_b0 c_b1 c_b2 c_b3 c_b4 f_b0 f_b1 f_b2 f_b3 f_b4 l_b
      replace r_i := Lib.hid (r_i.out.keep hb)
      replace r_b := Lib.hid (r_b.out.keep hb)
      replace r_p := Lib.hid (r_p.out.keep hb)
      replace BB := Lib.hid (below_next BB.out hb)
      clear hb
      obtain ⟨c_p0, c_p1, c_p2, f_p0, f_p1, f_p2⟩ := reads3 r_p.out
      have l_p := r_p.out.lt
      obtain ⟨c_i0, c_i1, c_i2, c_i3, f_i0, f_i1, f_i2, f_i3⟩ := reads4 r_i.out
      have l_i := r_i.out.lt
      obtain ⟨c_b0, c_b1, c_b2, c_b3, c_b4, f_b0, f_b1, f_b2, f_b3, f_b4⟩ := reads5 r_b.out
      have l_b := r_b.out.lt
      go_wp2_with fail
      refine (CP.out _).mono ?_
      rintro e w3 ⟨rfl, hb⟩
      clear c_p0 c_p1 c_p2 f_p0 f_p1 f_p2 l_p c_i0 c_i1 c_i2 c_i3 f_i0 f_i1 f_i2 f_i3 l_i c_b0 c_b1 c_b2 c_b3 c_b4 f_b0 f_b1 f_b2 f_b3 f_b4 l_b
      replace r_i := Lib.hid (r_i.out.keep hb)
      replace r_b := Lib.hid (r_b.out.keep hb)
      replace r_p := Lib.hid (r_p.out.keep hb)
      replace BB := Lib.hid (below_next BB.out hb)
      clear hb
      obtain ⟨c_p0, c_p1, c_p2, f_p0, f_p1, f_p2⟩ := reads3 r_p.out
      have l_p := r_p.out.lt
      obtain ⟨c_i0, c_i1, c_i2, c_i3, f_i0, f_i1, f_i2, f_i3⟩ := reads4 r_i.out
      have l_i := r_i.out.lt
      obtain ⟨c_b0, c_b1, c_b2, c_b3, c_b4, f_b0, f_b1, f_b2, f_b3, f_b4⟩ := reads5 r_b.out
      have l_b := r_b.out.lt
      go_wp2_with fail
      refine (CK.out _).mono ?_
      rintro e w4 ⟨rfl, hb⟩
      clear c_p0 c_p1 c_p2 f_p0 f_p1 f_p2 l_p c_i0 c_i1 c_i2 c_i3 f_i0 f_i1 f_i2 f_i3 l_i c_b0 c_b1 c_b2 c_b3 c_b4 f_b0 f_b1 f_b2 f_b3 f_b4 l_b
      replace r_i := Lib.hid (r_i.out.keep hb)
      replace r_b := Lib.hid (r_b.out.keep hb)
      replace r_p := Lib.hid (r_p.out.keep hb)
      replace BB := Lib.hid (below_next BB.out hb)
      clear hb
      obtain ⟨c_p0, c_p1, c_p2, f_p0, f_p1, f_p2⟩ := reads3 r_p.out
      have l_p := r_p.out.lt
      obtain ⟨c_i0, c_i1, c_i2, c_i3, f_i0, f_i1, f_i2, f_i3⟩ := reads4 r_i.out
      have l_i := r_i.out.lt
      obtain ⟨c_b0, c_b1, c_b2, c_b3, c_b4, f_b0, f_b1, f_b2, f_b3, f_b4⟩ := reads5 r_b.out
      have l_b := r_b.out.lt
      go_wp2_with fail
      refine (CL.out _).mono ?_
      rintro e w5 ⟨rfl, hb⟩
      clear c_p0 c_p1 c_p2 f_p0 f_p1 f_p2 l_p c_i0 c_i1 c_i2 c_i3 f_i0 f_i1 f_i2 f_i3 l_i c_b0 c_b1 c_b2 c_b3 c_b4 f_b0 f_b1 f_b2 f_b3 f_b4 l_b
      replace r_i := Lib.hid (r_i.out.keep hb)
      replace r_b := Lib.hid (r_b.out.keep hb)
      replace r_p := Lib.hid (r_p.out.keep hb)
      replace BB := Lib.hid (below_next BB.out hb)
      clear hb
      go_wp2_with fail
      go_ret
      exact ⟨rfl, BB.out⟩
  · have e : ibC W H C m zs.length = imC W H C zs.length := if_neg hz
    rw [← e] at CK
    clear e hz h hm hx hy hk hn
    generalize ibC W H C m zs.length = d at *
    go_enter Try.func7, Try.ntmps7
    go_wp2_with fail
    have BB := start3 w #[.int .i64 W, .int .i64 H, .int .i64 C, .slice A zs.length cap] IT #[.int .i64 m, .int .u8 c0, .int .u8 c1, .int .u8 c2, .int .u8 c3] RT #[.int .i64 x, .int .i64 y, .int .i64 k] A3T
    obtain ⟨BB, hsz, r_i, r_b, r_p⟩ := BB
    generalize (((w.alloc (.cells #[.int .i64 W, .int .i64 H, .int .i64 C, .slice A zs.length cap] IT)).alloc (.cells #[.int .i64 m, .int .u8 c0, .int .u8 c1, .int .u8 c2, .int .u8 c3] RT)).alloc (.cells #[.int .i64 x, .int .i64 y, .int .i64 k] A3T)) = w0 at *
    replace BB := Lib.hid BB
    replace r_i := Lib.hid r_i
    replace r_b := Lib.hid r_b
    replace r_p := Lib.hid r_p
    clear hsz
    refine (CF.out _).mono ?_
    rintro e w1 ⟨rfl, hb⟩
    replace r_i := Lib.hid (r_i.out.keep hb)
    replace r_b := Lib.hid (r_b.out.keep hb)
    replace r_p := Lib.hid (r_p.out.keep hb)
    replace BB := Lib.hid (below_next BB.out hb)
    clear hb
    rw [hfew]
    obtain ⟨c_p0, c_p1, c_p2, f_p0, f_p1, f_p2⟩ := reads3 r_p.out
    have l_p := r_p.out.lt
    obtain ⟨c_i0, c_i1, c_i2, c_i3, f_i0, f_i1, f_i2, f_i3⟩ := reads4 r_i.out
    have l_i := r_i.out.lt
    obtain ⟨c_b0, c_b1, c_b2, c_b3, c_b4, f_b0, f_b1, f_b2, f_b3, f_b4⟩ := reads5 r_b.out
    have l_b := r_b.out.lt
    go_wp2_with fail
    refine (CA.out _ (hi.out.below BB.out)).mono ?_
    rintro e w2 ⟨rfl, hb⟩
    clear c_p0 c_p1 c_p2 f_p0 f_p1 f_p2 l_p c_i0 c_i1 c_i2 c_i3 f_i0 f_i1 f_i2 f_i3 l_i c_b0 c_b1 c_b2 c_b3 c_b4 f_b0 f_b1 f_b2 f_b3 f_b4 l_b
    replace r_i := Lib.hid (r_i.out.keep hb)
    replace r_b := Lib.hid (r_b.out.keep hb)
    replace r_p := Lib.hid (r_p.out.keep hb)
    replace BB := Lib.hid (below_next BB.out hb)
    clear hb
    obtain ⟨c_p0, c_p1, c_p2, f_p0, f_p1, f_p2⟩ := reads3 r_p.out
    have l_p := r_p.out.lt
    obtain ⟨c_i0, c_i1, c_i2, c_i3, f_i0, f_i1, f_i2, f_i3⟩ := reads4 r_i.out
    have l_i := r_i.out.lt
    obtain ⟨c_b0, c_b1, c_b2, c_b3, c_b4, f_b0, f_b1, f_b2, f_b3, f_b4⟩ := reads5 r_b.out
    have l_b := r_b.out.lt
    go_wp2_with fail
    refine (CP.out _).mono ?_
    rintro e w3 ⟨rfl, hb⟩
    clear c_p0 c_p1 c_p2 f_p0 f_p1 f_p2 l_p c_i0 c_i1 c_i2 c_i3 f_i0 f_i1 f_i2 f_i3 l_i c_b0 c_b1 c_b2 c_b3 c_b4 f_b0 f_b1 f_b2 f_b3 f_b4 l_b
    replace r_i := Lib.hid (r_i.out.keep hb)
    replace r_b := Lib.hid (r_b.out.keep hb)
    replace r_p := Lib.hid (r_p.out.keep hb)
    replace BB := Lib.hid (below_next BB.out hb)
    clear hb
    obtain ⟨c_p0, c_p1, c_p2, f_p0, f_p1, f_p2⟩ := reads3 r_p.out
    have l_p := r_p.out.lt
    obtain ⟨c_i0, c_i1, c_i2, c_i3, f_i0, f_i1, f_i2, f_i3⟩ := reads4 r_i.out
    have l_i := r_i.out.lt
    obtain ⟨c_b0, c_b1, c_b2, c_b3, c_b4, f_b0, f_b1, f_b2, f_b3, f_b4⟩ := reads5 r_b.out
    have l_b := r_b.out.lt
    go_wp2_with fail
    refine (CK.out _).mono ?_
    rintro e w4 ⟨rfl, hb⟩
    clear c_p0 c_p1 c_p2 f_p0 f_p1 f_p2 l_p c_i0 c_i1 c_i2 c_i3 f_i0 f_i1 f_i2 f_i3 l_i c_b0 c_b1 c_b2 c_b3 c_b4 f_b0 f_b1 f_b2 f_b3 f_b4 l_b
    replace r_i := Lib.hid (r_i.out.keep hb)
    replace r_b := Lib.hid (r_b.out.keep hb)
    replace r_p := Lib.hid (r_p.out.keep hb)
    replace BB := Lib.hid (below_next BB.out hb)
    clear hb
    obtain ⟨c_p0, c_p1, c_p2, f_p0, f_p1, f_p2⟩ := reads3 r_p.out
    have l_p := r_p.out.lt
    obtain ⟨c_i0, c_i1, c_i2, c_i3, f_i0, f_i1, f_i2, f_i3⟩ := reads4 r_i.out
    have l_i := r_i.out.lt
    obtain ⟨c_b0, c_b1, c_b2, c_b3, c_b4, f_b0, f_b1, f_b2, f_b3, f_b4⟩ := reads5 r_b.out
    have l_b := r_b.out.lt
    go_wp2_with fail
    refine (CL.out _).mono ?_
    rintro e w5 ⟨rfl, hb⟩
    clear c_p0 c_p1 c_p2 f_p0 f_p1 f_p2 l_p c_i0 c_i1 c_i2 c_i3 f_i0 f_i1 f_i2 f_i3 l_i c_b0 c_b1 c_b2 c_b3 c_b4 f_b0 f_b1 f_b2 f_b3 f_b4 l_b
    replace r_i := Lib.hid (r_i.out.keep hb)
    replace r_b := Lib.hid (r_b.out.keep hb)
    replace r_p := Lib.hid (r_p.out.keep hb)
    replace BB := Lib.hid (below_next BB.out hb)
    clear hb
    go_wp2_with fail
    go_ret
    exact ⟨rfl, BB.out⟩


set_option maxRecDepth 100000 in
set_option maxHeartbeats 16000000 in
theorem bpixels_ok (W H m c0 c1 c2 c3 x y k a e0 : Int) (c : Nat) (A : Option Addr) (zs L : List Int) (cap : Nat) (hn : zs.length ≤ 20000) (hm : I64 m) (hx : I64 x) (hy : I64 y) (hk : I64 k) (h : ibC W H c m zs.length = 0) (hL : L = pixL W H c m x y [c0, c1, c2, c3] zs) (hlen : L.length = c) (w : World) (hi : IMG w (.slice A zs.length cap) W H c zs)
    (ha : atV W H c m x y k [c0, c1, c2, c3] zs = a) (he : atC W H c m k zs.length = e0) (hae : (0 ≤ k ∧ k < (c : Int) ∧ a = L.getD k.toNat 0 ∧ e0 = 0) ∨ (¬ (0 ≤ k ∧ k < (c : Int)) ∧ a = 0 ∧ e0 = 11)) :
    Calls Try.prog 7 #[imv W H c (.slice A zs.length cap), brv m c0 c1 c2 c3, .agg #[.int .i64 x, .int .i64 y, .int .i64 k]] w fun e w' => e = .returned (.bool true) ∧ Below w.heap.size w w' := by
  have CF := Lib.hid (fun w => rfew W H c 20000 A zs.length cap w)
  have hfew : decide ((zs.length : Int) ≤ 20000) = true := decide_eq_true (by omega)
  have CA := Lib.hid (fun w hi => bat W H c m c0 c1 c2 c3 x y k (.slice A zs.length cap) zs w hi hm hx hy hk)
  rw [ha, he] at CA
  have CP := Lib.hid (fun w hi => bpixel W H c m c0 c1 c2 c3 x y (.slice A zs.length cap) zs w hi hm hx hy h)
  have CK := Lib.hid (fun w => rcheck07 W H c A zs.length cap w)
  have CL := Lib.hid (fun w => border_alive w)
  have CR := Lib.hid (fun j w hi hj => r8at W H c m c0 c1 c2 c3 x y j (.slice A zs.length cap) zs w hi hm hx hy h hj)
  rw [← hL] at CR
  rw [(ibC_zero h).1] at CK
  have hm' := (ibC_zero h).2.1
  have hc4 : c ≤ 4 := by have := (ibC_zero h).2.2.1; omega
  have d1 : decide (m < 0) = false := decide_eq_false (by omega)
  have d2 : decide (m > 3) = false := decide_eq_false (by omega)
  have hi := Lib.hid hi
  have HL := Lib.hid hL
  have HA := Lib.hid hae
  clear h hm hx hy hk hn hm' hL ha he hae
  go_enter Try.func7, Try.ntmps7
  go_wp2_with fail
  have BB := start3 w #[.int .i64 W, .int .i64 H, .int .i64 c, .slice A zs.length cap] IT #[.int .i64 m, .int .u8 c0, .int .u8 c1, .int .u8 c2, .int .u8 c3] RT #[.int .i64 x, .int .i64 y, .int .i64 k] A3T
  obtain ⟨BB, hsz, r_i, r_b, r_p⟩ := BB
  generalize (((w.alloc (.cells #[.int .i64 W, .int .i64 H, .int .i64 c, .slice A zs.length cap] IT)).alloc (.cells #[.int .i64 m, .int .u8 c0, .int .u8 c1, .int .u8 c2, .int .u8 c3] RT)).alloc (.cells #[.int .i64 x, .int .i64 y, .int .i64 k] A3T)) = w0 at *
  replace BB := Lib.hid BB
  replace r_i := Lib.hid r_i
  replace r_b := Lib.hid r_b
  replace r_p := Lib.hid r_p
  clear hsz
  refine (CF.out _).mono ?_
  rintro e w1 ⟨rfl, hb⟩
  replace r_i := Lib.hid (r_i.out.keep hb)
  replace r_b := Lib.hid (r_b.out.keep hb)
  replace r_p := Lib.hid (r_p.out.keep hb)
  replace BB := Lib.hid (below_next BB.out hb)
  clear hb
  rw [hfew]
  have h_m := Lib.hid (hi.out.below BB.out)
  obtain ⟨c_p0, c_p1, c_p2, f_p0, f_p1, f_p2⟩ := reads3 r_p.out
  have l_p := r_p.out.lt
  obtain ⟨c_i0, c_i1, c_i2, c_i3, f_i0, f_i1, f_i2, f_i3⟩ := reads4 r_i.out
  have l_i := r_i.out.lt
  obtain ⟨c_b0, c_b1, c_b2, c_b3, c_b4, f_b0, f_b1, f_b2, f_b3, f_b4⟩ := reads5 r_b.out
  have l_b := r_b.out.lt
  go_wp2_with fail
  refine (CA.out _ h_m.out).mono ?_
  rintro e w2 ⟨rfl, hb⟩
  clear c_p0 c_p1 c_p2 f_p0 f_p1 f_p2 l_p c_i0 c_i1 c_i2 c_i3 f_i0 f_i1 f_i2 f_i3 l_i c_b0 c_b1 c_b2 c_b3 c_b4 f_b0 f_b1 f_b2 f_b3 f_b4 l_b
  replace r_i := Lib.hid (r_i.out.keep hb)
  replace r_b := Lib.hid (r_b.out.keep hb)
  replace r_p := Lib.hid (r_p.out.keep hb)
  replace h_m := Lib.hid (IMG.below h_m.out hb)
  replace BB := Lib.hid (below_next BB.out hb)
  clear hb
  obtain ⟨c_p0, c_p1, c_p2, f_p0, f_p1, f_p2⟩ := reads3 r_p.out
  have l_p := r_p.out.lt
  obtain ⟨c_i0, c_i1, c_i2, c_i3, f_i0, f_i1, f_i2, f_i3⟩ := reads4 r_i.out
  have l_i := r_i.out.lt
  obtain ⟨c_b0, c_b1, c_b2, c_b3, c_b4, f_b0, f_b1, f_b2, f_b3, f_b4⟩ := reads5 r_b.out
  have l_b := r_b.out.lt
  go_wp2_with fail
  refine (CP.out _ h_m.out).mono ?_
  rintro e w3 ⟨g, c', rfl, hc', hb, hg, hr⟩
  clear c_p0 c_p1 c_p2 f_p0 f_p1 f_p2 l_p c_i0 c_i1 c_i2 c_i3 f_i0 f_i1 f_i2 f_i3 l_i c_b0 c_b1 c_b2 c_b3 c_b4 f_b0 f_b1 f_b2 f_b3 f_b4 l_b
  replace r_i := Lib.hid (r_i.out.keep hb)
  replace r_b := Lib.hid (r_b.out.keep hb)
  replace r_p := Lib.hid (r_p.out.keep hb)
  replace h_m := Lib.hid (IMG.below h_m.out hb)
  replace BB := Lib.hid (below_next BB.out hb)
  clear hb
  obtain rfl : c = c' := by omega
  rw [← HL.out] at hr
  have h_r := Lib.hid hr
  clear hr hc'
  obtain ⟨c_p0, c_p1, c_p2, f_p0, f_p1, f_p2⟩ := reads3 r_p.out
  have l_p := r_p.out.lt
  obtain ⟨c_i0, c_i1, c_i2, c_i3, f_i0, f_i1, f_i2, f_i3⟩ := reads4 r_i.out
  have l_i := r_i.out.lt
  obtain ⟨c_b0, c_b1, c_b2, c_b3, c_b4, f_b0, f_b1, f_b2, f_b3, f_b4⟩ := reads5 r_b.out
  have l_b := r_b.out.lt
  go_wp2_with fail
  refine (CK.out _).mono ?_
  rintro e w4 ⟨rfl, hb⟩
  clear c_p0 c_p1 c_p2 f_p0 f_p1 f_p2 l_p c_i0 c_i1 c_i2 c_i3 f_i0 f_i1 f_i2 f_i3 l_i c_b0 c_b1 c_b2 c_b3 c_b4 f_b0 f_b1 f_b2 f_b3 f_b4 l_b
  replace r_i := Lib.hid (r_i.out.keep hb)
  replace r_b := Lib.hid (r_b.out.keep hb)
  replace r_p := Lib.hid (r_p.out.keep hb)
  replace h_m := Lib.hid (IMG.below h_m.out hb)
  replace h_r := Lib.hid (BRow.keep h_r.out hb)
  replace BB := Lib.hid (below_next BB.out hb)
  clear hb
  obtain ⟨c_p0, c_p1, c_p2, f_p0, f_p1, f_p2⟩ := reads3 r_p.out
  have l_p := r_p.out.lt
  obtain ⟨c_i0, c_i1, c_i2, c_i3, f_i0, f_i1, f_i2, f_i3⟩ := reads4 r_i.out
  have l_i := r_i.out.lt
  obtain ⟨c_b0, c_b1, c_b2, c_b3, c_b4, f_b0, f_b1, f_b2, f_b3, f_b4⟩ := reads5 r_b.out
  have l_b := r_b.out.lt
  go_wp2_with fail
  clear c_p0 c_p1 c_p2 f_p0 f_p1 f_p2 l_p c_i0 c_i1 c_i2 c_i3 f_i0 f_i1 f_i2 f_i3 l_i c_b0 c_b1 c_b2 c_b3 c_b4 f_b0 f_b1 f_b2 f_b3 f_b4 l_b
  clear CF CA CP CK
  go_loopw [13] (fun s wr => ∃ j : Nat, j ≤ c ∧ s = .int .i64 j ∧ Hid (AtB wr w.heap.size #[.int .i64 W, .int .i64 H, .int .i64 c, .slice A zs.length cap] IT ∧ AtB wr (w.heap.size + 1) #[.int .i64 m, .int .u8 c0, .int .u8 c1, .int .u8 c2, .int .u8 c3] RT ∧ AtB wr (w.heap.size + 2) #[.int .i64 x, .int .i64 y, .int .i64 k] A3T ∧ IMG wr (.slice A zs.length cap) W H c zs ∧ BRow wr g L ∧ Below w.heap.size w wr)) (fun s _ => c - (intOf s).toNat)
  case atStart => exact ⟨0, by omega, rfl, ⟨r_i.out, r_b.out, r_p.out, h_m.out, h_r.out, BB.out⟩⟩
  case round =>
    clear r_i r_b r_p h_m h_r BB
    obtain ⟨j, hj, rfl, hinv⟩ := hrel
    obtain ⟨r_i, r_b, r_p, h_m, h_r, BB⟩ := hinv.out
    replace r_i := Lib.hid r_i; replace r_b := Lib.hid r_b; replace r_p := Lib.hid r_p; replace h_m := Lib.hid h_m; replace h_r := Lib.hid h_r; replace BB := Lib.hid BB
    clear hinv
    by_cases hlt : j < c
    · have j0 : (0 : Int) ≤ (j : Int) := by omega
      have j1 : (j : Int) < (c : Int) := by omega
      have KR := Lib.hid (fun (w9 : World) (h : Below wr.heap.size wr w9) => (row_cell (h_r.out.keep h) (show j < L.length by omega)))
      have CJ := Lib.hid (fun (w9 : World) (h : Below wr.heap.size wr w9) => CR.out j w9 (h_m.out.below h) j1)
      generalize L.getD j 0 = z at *
      obtain ⟨c_i0, c_i1, c_i2, c_i3, f_i0, f_i1, f_i2, f_i3⟩ := reads4 r_i.out
      have l_i := r_i.out.lt
      go_wp2_with fail
      clear c_i0 c_i1 c_i2 c_i3 f_i0 f_i1 f_i2 f_i3 l_i
      have KK := Lib.hid (fun (w9 : World) (h : Below wr.heap.size wr w9) => (⟨cells4 (r_i.out.keep h), cells5 (r_b.out.keep h), cells3 (r_p.out.keep h), KR.out _ h⟩ : (w9.cell? ⟨w.heap.size, 0, none⟩ = some (.int .i64 W) ∧ w9.cell? ⟨w.heap.size, 1, none⟩ = some (.int .i64 H) ∧ w9.cell? ⟨w.heap.size, 2, none⟩ = some (.int .i64 c) ∧ w9.cell? ⟨w.heap.size, 3, none⟩ = some (.slice A zs.length cap)) ∧ (w9.cell? ⟨w.heap.size + 1, 0, none⟩ = some (.int .i64 m) ∧ w9.cell? ⟨w.heap.size + 1, 1, none⟩ = some (.int .u8 c0) ∧ w9.cell? ⟨w.heap.size + 1, 2, none⟩ = some (.int .u8 c1) ∧ w9.cell? ⟨w.heap.size + 1, 3, none⟩ = some (.int .u8 c2) ∧ w9.cell? ⟨w.heap.size + 1, 4, none⟩ = some (.int .u8 c3)) ∧ (w9.cell? ⟨w.heap.size + 2, 0, none⟩ = some (.int .i64 x) ∧ w9.cell? ⟨w.heap.size + 2, 1, none⟩ = some (.int .i64 y) ∧ w9.cell? ⟨w.heap.size + 2, 2, none⟩ = some (.int .i64 k)) ∧ (w9.cell? ⟨g, j, none⟩ = some (.int .u8 z))))
      have K0 := KK.out wr (Below.refl _ _)
      have KD := KK.out wr.drew (below_drew (Below.refl _ _))
      go_region_held3 (fun w9 => (w9.cell? ⟨w.heap.size, 0, none⟩ = some (.int .i64 W) ∧ w9.cell? ⟨w.heap.size, 1, none⟩ = some (.int .i64 H) ∧ w9.cell? ⟨w.heap.size, 2, none⟩ = some (.int .i64 c) ∧ w9.cell? ⟨w.heap.size, 3, none⟩ = some (.slice A zs.length cap)) ∧ (w9.cell? ⟨w.heap.size + 1, 0, none⟩ = some (.int .i64 m) ∧ w9.cell? ⟨w.heap.size + 1, 1, none⟩ = some (.int .u8 c0) ∧ w9.cell? ⟨w.heap.size + 1, 2, none⟩ = some (.int .u8 c1) ∧ w9.cell? ⟨w.heap.size + 1, 3, none⟩ = some (.int .u8 c2) ∧ w9.cell? ⟨w.heap.size + 1, 4, none⟩ = some (.int .u8 c3)) ∧ (w9.cell? ⟨w.heap.size + 2, 0, none⟩ = some (.int .i64 x) ∧ w9.cell? ⟨w.heap.size + 2, 1, none⟩ = some (.int .i64 y) ∧ w9.cell? ⟨w.heap.size + 2, 2, none⟩ = some (.int .i64 k)) ∧ (w9.cell? ⟨g, j, none⟩ = some (.int .u8 z)))
          (first | with_reducible exact KD | with_reducible exact K0 | with_reducible exact K_w5)
          (first
            | (go_at_call 41
               refine (CJ.out _ ?_).mono ?_
               · repeat (first | with_reducible exact Below.refl _ _ | with_reducible apply below_drew | with_reducible apply below_new)
               rintro e w5 ⟨rfl, hb⟩
               have B_w5 := Lib.hid (reg_next (w0 := wr) (by repeat (first | with_reducible exact Below.refl _ _ | with_reducible apply below_drew | with_reducible apply below_new)) hb)
               have K_w5 := KK.out _ B_w5.out
               clear hb))
      clear KK K0 KD K_w5
      replace r_i := Lib.hid (r_i.out.keep B_w5.out)
      replace r_b := Lib.hid (r_b.out.keep B_w5.out)
      replace r_p := Lib.hid (r_p.out.keep B_w5.out)
      replace h_m := Lib.hid (IMG.below h_m.out B_w5.out)
      replace h_r := Lib.hid (BRow.keep h_r.out B_w5.out)
      replace BB := Lib.hid (below_next BB.out B_w5.out)
      clear B_w5
      go_wp2_with fail
      go_roundw
      case rel => exact ⟨j + 1, by omega, by go_num, ⟨r_i.out, r_b.out, r_p.out, h_m.out, h_r.out, BB.out⟩⟩
      case measure => simp [intOf]; omega
    · obtain rfl : j = c := by omega
      clear CR
      rcases HA.out with ⟨k0, k1, ka, ke⟩ | ⟨kn, ka, ke⟩
      · obtain ⟨q, rfl⟩ : ∃ q : Nat, k = (q : Int) := ⟨k.toNat, by omega⟩
        rw [Int.toNat_natCast] at ka
        have d3 : decide ((q : Int) < 0) = false := decide_eq_false (by omega)
        have d4 : decide ((q : Int) ≥ (j : Int)) = false := decide_eq_false (by omega)
        have hc := row_cell h_r.out (show q < L.length by omega)
        rw [← ka] at hc
        subst ke
        clear HA HL ka
        obtain ⟨c_i0, c_i1, c_i2, c_i3, f_i0, f_i1, f_i2, f_i3⟩ := reads4 r_i.out
        have l_i := r_i.out.lt
        go_wp2_with fail
        refine (CL.out _).mono ?_
        rintro e w5 ⟨rfl, hb⟩
        clear c_i0 c_i1 c_i2 c_i3 f_i0 f_i1 f_i2 f_i3 l_i
        replace r_i := Lib.hid (r_i.out.keep hb)
        replace r_b := Lib.hid (r_b.out.keep hb)
        replace r_p := Lib.hid (r_p.out.keep hb)
        replace h_m := Lib.hid (IMG.below h_m.out hb)
        replace h_r := Lib.hid (BRow.keep h_r.out hb)
        replace BB := Lib.hid (below_next BB.out hb)
        clear hb
        go_wp2_with fail
        go_ret
        exact ⟨rfl, BB.out⟩
      · subst ka ke
        clear HA HL
        by_cases k0 : k < 0
        · have d3 : decide (k < 0) = true := decide_eq_true k0
          obtain ⟨c_i0, c_i1, c_i2, c_i3, f_i0, f_i1, f_i2, f_i3⟩ := reads4 r_i.out
          have l_i := r_i.out.lt
          go_wp2_with fail
          refine (CL.out _).mono ?_
          rintro e w5 ⟨rfl, hb⟩
          clear c_i0 c_i1 c_i2 c_i3 f_i0 f_i1 f_i2 f_i3 l_i
          replace r_i := Lib.hid (r_i.out.keep hb)
          replace r_b := Lib.hid (r_b.out.keep hb)
          replace r_p := Lib.hid (r_p.out.keep hb)
          replace h_m := Lib.hid (IMG.below h_m.out hb)
          replace h_r := Lib.hid (BRow.keep h_r.out hb)
          replace BB := Lib.hid (below_next BB.out hb)
          clear hb
          go_wp2_with fail
          go_ret
          exact ⟨rfl, BB.out⟩
        · have d3 : decide (k < 0) = false := decide_eq_false k0
          have d4 : decide (k ≥ (j : Int)) = true := decide_eq_true (by omega)
          obtain ⟨c_i0, c_i1, c_i2, c_i3, f_i0, f_i1, f_i2, f_i3⟩ := reads4 r_i.out
          have l_i := r_i.out.lt
          go_wp2_with fail
          refine (CL.out _).mono ?_
          rintro e w5 ⟨rfl, hb⟩
          clear c_i0 c_i1 c_i2 c_i3 f_i0 f_i1 f_i2 f_i3 l_i
          replace r_i := Lib.hid (r_i.out.keep hb)
          replace r_b := Lib.hid (r_b.out.keep hb)
          replace r_p := Lib.hid (r_p.out.keep hb)
          replace h_m := Lib.hid (IMG.below h_m.out hb)
          replace h_r := Lib.hid (BRow.keep h_r.out hb)
          replace BB := Lib.hid (below_next BB.out hb)
          clear hb
          go_wp2_with fail
          go_ret
          exact ⟨rfl, BB.out⟩

theorem borderPixels_any (W H C m c0 c1 c2 c3 x y k : Int) (s : Value) (zs : List Int) (hm : I64 m) (hx : I64 x) (hy : I64 y) (hk : I64 k) (w : World) (hi : IMG w s W H C zs) :
    Calls Try.prog 7 #[imv W H C s, brv m c0 c1 c2 c3, .agg #[.int .i64 x, .int .i64 y, .int .i64 k]] w fun e w' => e = .returned (.bool true) ∧ Below w.heap.size w w' := by
  obtain ⟨A, cap, e⟩ := hi.ib.form
  subst e
  by_cases hn : zs.length ≤ 20000
  · by_cases h : ibC W H C m zs.length = 0
    · have hl := pixL_len (x := x) (y := y) (cl := [c0, c1, c2, c3]) h rfl
      obtain ⟨c, rfl⟩ : ∃ c : Nat, C = (c : Int) := ⟨_, hl.symm⟩
      refine bpixels_ok W H m c0 c1 c2 c3 x y k _ _ c A zs _ cap hn hm hx hy hk h rfl (by omega) w hi rfl rfl ?_
      by_cases hkc : 0 ≤ k ∧ k < (c : Int)
      · exact .inl ⟨hkc.1, hkc.2, if_pos ⟨h, hkc⟩, by unfold atC; rw [if_pos h, if_pos hkc]⟩
      · exact .inr ⟨hkc, if_neg (fun q => hkc q.2), by unfold atC; rw [if_pos h, if_neg hkc]⟩
    · exact bpixels_no W H C m c0 c1 c2 c3 x y k A zs cap hn hm hx hy hk h w hi
  · exact bpixels_many W H C m c0 c1 c2 c3 x y k A _ cap (by omega) w

end Go.Proofs.Ytnklbnphiokpiaa
