/- The walk of LinearBetween. -/
import Derived.Test.YtnklbnphiokpiaaLnR
set_option linter.unusedVariables false
set_option linter.unusedSimpArgs false
namespace Go.Proofs.Ytnklbnphiokpiaa
open Go.RowKit
set_option maxRecDepth 100000 in
theorem between_many (W H C m c0 c1 c2 c3 u v : Int) (A : Option Addr) (n cap : Nat) (h : 20000 < n) (w : World) :
    Calls Try.prog 13 #[imv W H C (.slice A n cap), brv m c0 c1 c2 c3, .agg #[.int .i64 u, .int .i64 v]] w fun e w' => e = .returned (.bool true) ∧ Below w.heap.size w w' := by
  have CF := Lib.hid (fun w => rfew W H C 20000 A n cap w)
  have hfew : decide ((n : Int) ≤ 20000) = false := decide_eq_false (by omega)
  clear h
  go_enter Try.func13, Try.ntmps13
  go_wp2_with fail
  have BB := start3 w #[.int .i64 W, .int .i64 H, .int .i64 C, .slice A n cap] IT #[.int .i64 m, .int .u8 c0, .int .u8 c1, .int .u8 c2, .int .u8 c3] RT #[.int .i64 u, .int .i64 v] P2T
  obtain ⟨BB, hsz, r_i, r_b, r_p⟩ := BB
  generalize (((w.alloc (.cells #[.int .i64 W, .int .i64 H, .int .i64 C, .slice A n cap] IT)).alloc (.cells #[.int .i64 m, .int .u8 c0, .int .u8 c1, .int .u8 c2, .int .u8 c3] RT)).alloc (.cells #[.int .i64 u, .int .i64 v] P2T)) = w0 at *
  replace BB := Lib.hid BB
  replace r_i := Lib.hid r_i
  replace r_b := Lib.hid r_b
  replace r_p := Lib.hid r_p
  clear hsz
  obtain ⟨c_p0, c_p1, f_p0, f_p1⟩ := reads2 r_p.out
  have l_p := r_p.out.lt
  obtain ⟨c_i0, c_i1, c_i2, c_i3, f_i0, f_i1, f_i2, f_i3⟩ := reads4 r_i.out
  have l_i := r_i.out.lt
  obtain ⟨c_b0, c_b1, c_b2, c_b3, c_b4, f_b0, f_b1, f_b2, f_b3, f_b4⟩ := reads5 r_b.out
  have l_b := r_b.out.lt
  go_wp2_with fail
  refine (CF.out _).mono ?_
  rintro e w1 ⟨rfl, hb⟩
  clear c_p0 c_p1 f_p0 f_p1 l_p c_i0 c_i1 c_i2 c_i3 f_i0 f_i1 f_i2 f_i3 l_i c_b0 c_b1 c_b2 c_b3 c_b4 f_b0 f_b1 f_b2 f_b3 f_b4 l_b
  replace r_i := Lib.hid (r_i.out.keep hb)
  replace r_b := Lib.hid (r_b.out.keep hb)
  replace r_p := Lib.hid (r_p.out.keep hb)
  replace BB := Lib.hid (below_next BB.out hb)
  clear hb
  rw [hfew]
  obtain ⟨c_p0, c_p1, f_p0, f_p1⟩ := reads2 r_p.out
  have l_p := r_p.out.lt
  obtain ⟨c_i0, c_i1, c_i2, c_i3, f_i0, f_i1, f_i2, f_i3⟩ := reads4 r_i.out
  have l_i := r_i.out.lt
  obtain ⟨c_b0, c_b1, c_b2, c_b3, c_b4, f_b0, f_b1, f_b2, f_b3, f_b4⟩ := reads5 r_b.out
  have l_b := r_b.out.lt
  go_wp2_with fail
  go_ret
  exact ⟨rfl, BB.out⟩
set_option maxRecDepth 100000 in
set_option maxHeartbeats 4000000 in
theorem between_wrong (W H C m c0 c1 c2 c3 u v : Int) (A : Option Addr) (n cap : Nat) (hn : n ≤ 20000) (h : nrC W H C m u v n ≠ 0) (w : World) :
    Calls Try.prog 13 #[imv W H C (.slice A n cap), brv m c0 c1 c2 c3, .agg #[.int .i64 u, .int .i64 v]] w fun e w' => e = .returned (.bool true) ∧ Below w.heap.size w w' := by
  have CF := Lib.hid (fun w => rfew W H C 20000 A n cap w)
  have hfew : decide ((n : Int) ≤ 20000) = true := decide_eq_true (by omega)
  have CK := Lib.hid (fun w => rcheck28 W H C m c0 c1 c2 c3 u v A n cap w)
  have hq : (nrC W H C m u v n == 0) = false := by simpa using h
  have hq2 : (nrC W H C m u v n != 0) = true := by simpa using h
  generalize nrC W H C m u v n = d at *
  clear h hn
  go_enter Try.func13, Try.ntmps13
  go_wp2_with fail
  have BB := start3 w #[.int .i64 W, .int .i64 H, .int .i64 C, .slice A n cap] IT #[.int .i64 m, .int .u8 c0, .int .u8 c1, .int .u8 c2, .int .u8 c3] RT #[.int .i64 u, .int .i64 v] P2T
  obtain ⟨BB, hsz, r_i, r_b, r_p⟩ := BB
  generalize (((w.alloc (.cells #[.int .i64 W, .int .i64 H, .int .i64 C, .slice A n cap] IT)).alloc (.cells #[.int .i64 m, .int .u8 c0, .int .u8 c1, .int .u8 c2, .int .u8 c3] RT)).alloc (.cells #[.int .i64 u, .int .i64 v] P2T)) = w0 at *
  replace BB := Lib.hid BB
  replace r_i := Lib.hid r_i
  replace r_b := Lib.hid r_b
  replace r_p := Lib.hid r_p
  clear hsz
  obtain ⟨c_p0, c_p1, f_p0, f_p1⟩ := reads2 r_p.out
  have l_p := r_p.out.lt
  obtain ⟨c_i0, c_i1, c_i2, c_i3, f_i0, f_i1, f_i2, f_i3⟩ := reads4 r_i.out
  have l_i := r_i.out.lt
  obtain ⟨c_b0, c_b1, c_b2, c_b3, c_b4, f_b0, f_b1, f_b2, f_b3, f_b4⟩ := reads5 r_b.out
  have l_b := r_b.out.lt
  go_wp2_with fail
  refine (CF.out _).mono ?_
  rintro e w1 ⟨rfl, hb⟩
  clear c_p0 c_p1 f_p0 f_p1 l_p c_i0 c_i1 c_i2 c_i3 f_i0 f_i1 f_i2 f_i3 l_i c_b0 c_b1 c_b2 c_b3 c_b4 f_b0 f_b1 f_b2 f_b3 f_b4 l_b
  replace r_i := Lib.hid (r_i.out.keep hb)
  replace r_b := Lib.hid (r_b.out.keep hb)
  replace r_p := Lib.hid (r_p.out.keep hb)
  replace BB := Lib.hid (below_next BB.out hb)
  clear hb
  rw [hfew]
  obtain ⟨c_p0, c_p1, f_p0, f_p1⟩ := reads2 r_p.out
  have l_p := r_p.out.lt
  obtain ⟨c_i0, c_i1, c_i2, c_i3, f_i0, f_i1, f_i2, f_i3⟩ := reads4 r_i.out
  have l_i := r_i.out.lt
  obtain ⟨c_b0, c_b1, c_b2, c_b3, c_b4, f_b0, f_b1, f_b2, f_b3, f_b4⟩ := reads5 r_b.out
  have l_b := r_b.out.lt
  go_wp2_with fail
  refine (CK.out _).mono ?_
  rintro e w2 ⟨rfl, hb⟩
  clear c_p0 c_p1 f_p0 f_p1 l_p c_i0 c_i1 c_i2 c_i3 f_i0 f_i1 f_i2 f_i3 l_i c_b0 c_b1 c_b2 c_b3 c_b4 f_b0 f_b1 f_b2 f_b3 f_b4 l_b
  replace r_i := Lib.hid (r_i.out.keep hb)
  replace r_b := Lib.hid (r_b.out.keep hb)
  replace r_p := Lib.hid (r_p.out.keep hb)
  replace BB := Lib.hid (below_next BB.out hb)
  clear hb
  go_wp2_with fail
  go_ret
  exact ⟨rfl, BB.out⟩

/-- The bytes that are told between lo and hi. -/
theorem get_byte {L : List Int} (h : ∀ z ∈ L, 0 ≤ z ∧ z ≤ 255) (k : Nat) : 0 ≤ L.getD k 0 ∧ L.getD k 0 ≤ 255 := by
  by_cases hk : k < L.length
  · have e : L.getD k 0 = L[k] := by simp [List.getD, hk]
    rw [e]; exact h _ (List.getElem_mem hk)
  · rw [getD_out hk]; omega
theorem lin_between {L0 L1 L2 L3 : List Int} {f g lo hi : Int} {k : Nat} (hf : 0 ≤ f ∧ f < 65536) (hg : 0 ≤ g ∧ g < 65536) (b0 : lo ≤ L0.getD k 0 ∧ L0.getD k 0 ≤ hi) (b1 : lo ≤ L1.getD k 0 ∧ L1.getD k 0 ≤ hi) (b2 : lo ≤ L2.getD k 0 ∧ L2.getD k 0 ≤ hi) (b3 : lo ≤ L3.getD k 0 ∧ L3.getD k 0 ≤ hi) (h0 : 0 ≤ lo) (h1 : hi ≤ 255) :
    lo ≤ linAt L0 L1 L2 L3 f g k ∧ linAt L0 L1 L2 L3 f g k ≤ hi := by
  obtain ⟨⟨w0, w1, w2, w3⟩, hs⟩ := lin_weights hf hg
  unfold linAt
  generalize (65536 - f) * (65536 - g) = x0 at *
  generalize f * (65536 - g) = x1 at *
  generalize (65536 - f) * g = x2 at *
  generalize f * g = x3 at *
  have l0 := Int.mul_le_mul_of_nonneg_left b0.1 w0
  have l1 := Int.mul_le_mul_of_nonneg_left b1.1 w1
  have l2 := Int.mul_le_mul_of_nonneg_left b2.1 w2
  have l3 := Int.mul_le_mul_of_nonneg_left b3.1 w3
  have u0 := Int.mul_le_mul_of_nonneg_left b0.2 w0
  have u1 := Int.mul_le_mul_of_nonneg_left b1.2 w1
  have u2 := Int.mul_le_mul_of_nonneg_left b2.2 w2
  have u3 := Int.mul_le_mul_of_nonneg_left b3.2 w3
  have e1 : x0 * lo + x1 * lo + x2 * lo + x3 * lo = 4294967296 * lo := by rw [← hs]; simp only [Int.add_mul]
  have e2 : x0 * hi + x1 * hi + x2 * hi + x3 * hi = 4294967296 * hi := by rw [← hs]; simp only [Int.add_mul]
  generalize x0 * L0.getD k 0 = y0 at *
  generalize x1 * L1.getD k 0 = y1 at *
  generalize x2 * L2.getD k 0 = y2 at *
  generalize x3 * L3.getD k 0 = y3 at *
  have hb := b0.1
  have hb' := b0.2
  generalize L0.getD k 0 = q0 at *
  unfold byteI nearI
  rw [if_neg (by omega), Int.fdiv_eq_ediv_of_nonneg _ (by omega)]
  omega

set_option maxRecDepth 100000 in
set_option maxHeartbeats 16000000 in
theorem between_ok (W H m c0 c1 c2 c3 u v : Int) (c cap : Nat) (A : Option Addr) (zs : List Int) (hn : zs.length ≤ 20000) (hm : I64 m) (h : nrC W H c m u v zs.length = 0) (hcol : ∀ z ∈ [c0, c1, c2, c3], 0 ≤ z ∧ z ≤ 255) (w : World) (hi : IMG w (.slice A zs.length cap) W H c zs) :
    Calls Try.prog 13 #[imv W H c (.slice A zs.length cap), brv m c0 c1 c2 c3, .agg #[.int .i64 u, .int .i64 v]] w fun e w' => e = .returned (.bool true) ∧ Below w.heap.size w w' := by
  have h' := h
  unfold nrC at h'
  split at h'
  case isFalse => exact absurd h' ‹_›
  rename_i h0
  split at h'
  case isFalse => omega
  rename_i hin
  obtain ⟨u0, u1⟩ := inB_iff.1 hin.1
  obtain ⟨v0, v1⟩ := inB_iff.1 hin.2
  obtain ⟨-, -, hC, -⟩ := ibC_zero h0
  have hc : 1 ≤ c ∧ c ≤ 4 := by omega
  have CF := Lib.hid (fun w => rfew W H c 20000 A zs.length cap w)
  have hfew : decide ((zs.length : Int) ≤ 20000) = true := decide_eq_true (by omega)
  have CA := Lib.hid (fun w hi => lat_ok W H m c0 c1 c2 c3 u v c A zs cap h hm hcol w hi)
  have CK := Lib.hid (fun w => rcheck28 W H c m c0 c1 c2 c3 u v A zs.length cap w)
  rw [h] at CK
  have SU := Lib.hid (fun w => rsplit u ⟨by omega, by omega⟩ w)
  have SV := Lib.hid (fun w => rsplit v ⟨by omega, by omega⟩ w)
  have CL := Lib.hid (fun w => alive29 w)
  have CR := (fun (dx dy : Int) (hd : 0 ≤ dx ∧ dx ≤ 1 ∧ 0 ≤ dy ∧ dy ≤ 1) (j : Nat) w hi (hj : (j : Int) < (c : Int)) => r8at W H c m c0 c1 c2 c3 (u / 65536 + dx) (v / 65536 + dy) j (.slice A zs.length cap) zs w hi hm ⟨by omega, by omega⟩ ⟨by omega, by omega⟩ h0 hj)
  have HY := fun x y => get_byte (pixL_byte (W := W) (H := H) (C := c) (m := m) (x := x) (y := y) hi.ib.all hcol)
  have CR0 := Lib.hid (CR 0 0 (by omega)); have CR1 := Lib.hid (CR 1 0 (by omega)); have CR2 := Lib.hid (CR 0 1 (by omega)); have CR3 := Lib.hid (CR 1 1 (by omega))
  simp only [Int.add_zero] at CR0 CR1 CR2
  have B0 := Lib.hid (HY (u / 65536) (v / 65536)); have B1 := Lib.hid (HY (u / 65536 + 1) (v / 65536)); have B2 := Lib.hid (HY (u / 65536) (v / 65536 + 1)); have B3 := Lib.hid (HY (u / 65536 + 1) (v / 65536 + 1))
  clear CR HY
  have bi : -1073741824 ≤ u / 65536 ∧ u / 65536 ≤ 1073741824 := by omega
  have bk : -1073741824 ≤ v / 65536 ∧ v / 65536 ≤ 1073741824 := by omega
  have bf : 0 ≤ u % 65536 ∧ u % 65536 < 65536 := by omega
  have bg : 0 ≤ v % 65536 ∧ v % 65536 < 65536 := by omega
  have HL := linL_len W H c m u v [c0, c1, c2, c3] zs c
  have hi := Lib.hid hi
  unfold linL linRow at CA HL
  generalize hP0 : pixL W H c m (u / 65536) (v / 65536) [c0, c1, c2, c3] zs = P0 at *
  generalize hP1 : pixL W H c m (u / 65536 + 1) (v / 65536) [c0, c1, c2, c3] zs = P1 at *
  generalize hP2 : pixL W H c m (u / 65536) (v / 65536 + 1) [c0, c1, c2, c3] zs = P2 at *
  generalize hP3 : pixL W H c m (u / 65536 + 1) (v / 65536 + 1) [c0, c1, c2, c3] zs = P3 at *
  clear hP0 hP1 hP2 hP3
  generalize u / 65536 = fx at *
  generalize v / 65536 = fy at *
  have HB := Lib.hid (fun k lo hi b0 b1 b2 b3 h0 h1 => lin_between (L0 := P0) (L1 := P1) (L2 := P2) (L3 := P3) (k := k) (lo := lo) (hi := hi) bf bg b0 b1 b2 b3 h0 h1)
  clear bf bg
  generalize u % 65536 = fu at *
  generalize v % 65536 = fv at *
  have HG : Hid (∀ k, k < c → ((List.range c).map (linAt P0 P1 P2 P3 fu fv)).getD k 0 = linAt P0 P1 P2 P3 fu fv k) := fun k hk => by simp [List.getD, hk]
  clear h h' hm hcol hin h0 u0 u1 v0 v1 hC hn
  go_enter Try.func13, Try.ntmps13
  go_wp2_with fail
  have BB := start3 w #[.int .i64 W, .int .i64 H, .int .i64 c, .slice A zs.length cap] IT #[.int .i64 m, .int .u8 c0, .int .u8 c1, .int .u8 c2, .int .u8 c3] RT #[.int .i64 u, .int .i64 v] P2T
  obtain ⟨BB, hsz, r_i, r_b, r_p⟩ := BB
  generalize (((w.alloc (.cells #[.int .i64 W, .int .i64 H, .int .i64 c, .slice A zs.length cap] IT)).alloc (.cells #[.int .i64 m, .int .u8 c0, .int .u8 c1, .int .u8 c2, .int .u8 c3] RT)).alloc (.cells #[.int .i64 u, .int .i64 v] P2T)) = w0 at *
  replace BB := Lib.hid BB
  replace r_i := Lib.hid r_i
  replace r_b := Lib.hid r_b
  replace r_p := Lib.hid r_p
  clear hsz
  obtain ⟨c_p0, c_p1, f_p0, f_p1⟩ := reads2 r_p.out
  have l_p := r_p.out.lt
  obtain ⟨c_i0, c_i1, c_i2, c_i3, f_i0, f_i1, f_i2, f_i3⟩ := reads4 r_i.out
  have l_i := r_i.out.lt
  obtain ⟨c_b0, c_b1, c_b2, c_b3, c_b4, f_b0, f_b1, f_b2, f_b3, f_b4⟩ := reads5 r_b.out
  have l_b := r_b.out.lt
  go_wp2_with fail
  refine (CF.out _).mono ?_
  rintro e w1 ⟨rfl, hb⟩
  clear c_p0 c_p1 f_p0 f_p1 l_p c_i0 c_i1 c_i2 c_i3 f_i0 f_i1 f_i2 f_i3 l_i c_b0 c_b1 c_b2 c_b3 c_b4 f_b0 f_b1 f_b2 f_b3 f_b4 l_b
  replace r_i := Lib.hid (r_i.out.keep hb)
  replace r_b := Lib.hid (r_b.out.keep hb)
  replace r_p := Lib.hid (r_p.out.keep hb)
  replace BB := Lib.hid (below_next BB.out hb)
  clear hb
  rw [hfew]
  obtain ⟨c_p0, c_p1, f_p0, f_p1⟩ := reads2 r_p.out
  have l_p := r_p.out.lt
  obtain ⟨c_i0, c_i1, c_i2, c_i3, f_i0, f_i1, f_i2, f_i3⟩ := reads4 r_i.out
  have l_i := r_i.out.lt
  obtain ⟨c_b0, c_b1, c_b2, c_b3, c_b4, f_b0, f_b1, f_b2, f_b3, f_b4⟩ := reads5 r_b.out
  have l_b := r_b.out.lt
  go_wp2_with fail
  have h_m := Lib.hid (hi.out.below BB.out)
  refine (CK.out _).mono ?_
  rintro e w2 ⟨rfl, hb⟩
  clear c_p0 c_p1 f_p0 f_p1 l_p c_i0 c_i1 c_i2 c_i3 f_i0 f_i1 f_i2 f_i3 l_i c_b0 c_b1 c_b2 c_b3 c_b4 f_b0 f_b1 f_b2 f_b3 f_b4 l_b
  replace r_i := Lib.hid (r_i.out.keep hb)
  replace r_b := Lib.hid (r_b.out.keep hb)
  replace r_p := Lib.hid (r_p.out.keep hb)
  replace h_m := Lib.hid (IMG.below h_m.out hb)
  replace BB := Lib.hid (below_next BB.out hb)
  clear hb
  obtain ⟨c_p0, c_p1, f_p0, f_p1⟩ := reads2 r_p.out
  have l_p := r_p.out.lt
  obtain ⟨c_i0, c_i1, c_i2, c_i3, f_i0, f_i1, f_i2, f_i3⟩ := reads4 r_i.out
  have l_i := r_i.out.lt
  obtain ⟨c_b0, c_b1, c_b2, c_b3, c_b4, f_b0, f_b1, f_b2, f_b3, f_b4⟩ := reads5 r_b.out
  have l_b := r_b.out.lt
  go_wp2_with fail
  refine (CA.out _ h_m.out).mono ?_
  rintro e w3 ⟨g, rfl, hb, hr⟩
  clear c_p0 c_p1 f_p0 f_p1 l_p c_i0 c_i1 c_i2 c_i3 f_i0 f_i1 f_i2 f_i3 l_i c_b0 c_b1 c_b2 c_b3 c_b4 f_b0 f_b1 f_b2 f_b3 f_b4 l_b
  replace r_i := Lib.hid (r_i.out.keep hb)
  replace r_b := Lib.hid (r_b.out.keep hb)
  replace r_p := Lib.hid (r_p.out.keep hb)
  replace h_m := Lib.hid (IMG.below h_m.out hb)
  replace BB := Lib.hid (below_next BB.out hb)
  clear hb
  have h_r := Lib.hid hr
  clear hr
  obtain ⟨c_p0, c_p1, f_p0, f_p1⟩ := reads2 r_p.out
  have l_p := r_p.out.lt
  obtain ⟨c_i0, c_i1, c_i2, c_i3, f_i0, f_i1, f_i2, f_i3⟩ := reads4 r_i.out
  have l_i := r_i.out.lt
  obtain ⟨c_b0, c_b1, c_b2, c_b3, c_b4, f_b0, f_b1, f_b2, f_b3, f_b4⟩ := reads5 r_b.out
  have l_b := r_b.out.lt
  go_wp2_with fail
  refine (SU.out _).mono ?_
  rintro e w9 ⟨rfl, rfl⟩
  go_wp2_with fail
  refine (SV.out _).mono ?_
  rintro e w9 ⟨rfl, rfl⟩
  go_wp2_with fail
  clear c_p0 c_p1 f_p0 f_p1 l_p c_i0 c_i1 c_i2 c_i3 f_i0 f_i1 f_i2 f_i3 l_i c_b0 c_b1 c_b2 c_b3 c_b4 f_b0 f_b1 f_b2 f_b3 f_b4 l_b
  clear CF CA CK SU SV
  go_loopw [13, 14, 15, 16, 17] (fun s _ _ _ _ wr => ∃ k : Nat, k ≤ c ∧ s = .int .i64 k ∧ Hid (AtB wr w.heap.size #[.int .i64 W, .int .i64 H, .int .i64 c, .slice A zs.length cap] IT ∧ AtB wr (w.heap.size + 1) #[.int .i64 m, .int .u8 c0, .int .u8 c1, .int .u8 c2, .int .u8 c3] RT ∧ IMG wr (.slice A zs.length cap) W H c zs ∧ BRow wr g ((List.range c).map (linAt P0 P1 P2 P3 fu fv)) ∧ Below w.heap.size w wr)) (fun s _ _ _ _ _ => c - (intOf s).toNat)
  case atStart => exact ⟨0, by omega, rfl, ⟨r_i.out, r_b.out, h_m.out, h_r.out, BB.out⟩⟩
  case round =>
    clear r_i r_b r_p h_m h_r BB
    obtain ⟨k, hk, rfl, hinv⟩ := hrel
    obtain ⟨r_i, r_b, h_m, h_r, BB⟩ := hinv.out
    replace r_i := Lib.hid r_i; replace r_b := Lib.hid r_b; replace h_m := Lib.hid h_m; replace h_r := Lib.hid h_r; replace BB := Lib.hid BB
    clear hinv
    by_cases hlt : k < c
    · have k0 : (0 : Int) ≤ (k : Int) := by omega
      have k1 : (k : Int) < (c : Int) := by omega
      have D0 := Lib.hid (fun w hi => CR0.out k w hi k1); have D1 := Lib.hid (fun w hi => CR1.out k w hi k1); have D2 := Lib.hid (fun w hi => CR2.out k w hi k1); have D3 := Lib.hid (fun w hi => CR3.out k w hi k1)
      have hB := Lib.hid (fun lo hi => HB.out k lo hi)
      have b0 := B0.out k; have b1 := B1.out k; have b2 := B2.out k; have b3 := B3.out k
      have hG := Lib.hid (HG.out k hlt)
      generalize P0.getD k 0 = q0 at *
      generalize P1.getD k 0 = q1 at *
      generalize P2.getD k 0 = q2 at *
      generalize P3.getD k 0 = q3 at *
      clear CR0 CR1 CR2 CR3 HB B0 B1 B2 B3 HG CL
      generalize hz : linAt P0 P1 P2 P3 fu fv k = z at *
      clear hz
      obtain ⟨c_i0, c_i1, c_i2, c_i3, f_i0, f_i1, f_i2, f_i3⟩ := reads4 r_i.out
      have l_i := r_i.out.lt
      go_wp2_with fail
      clear c_i0 c_i1 c_i2 c_i3 f_i0 f_i1 f_i2 f_i3 l_i
      go_loopw [14, 15, 16, 17] (fun lo hi i _ wr => ∃ (j : Nat) (x y : Int), j ≤ 4 ∧ lo = .int .u8 x ∧ hi = .int .u8 y ∧ i = .int .i64 j ∧ Hid (0 ≤ x ∧ x ≤ 255 ∧ 0 ≤ y ∧ y ≤ 255 ∧ (0 < j → x ≤ q0 ∧ q0 ≤ y) ∧ (1 < j → x ≤ q1 ∧ q1 ≤ y) ∧ (2 < j → x ≤ q2 ∧ q2 ≤ y) ∧ (3 < j → x ≤ q3 ∧ q3 ≤ y)) ∧ Hid (AtB wr w.heap.size #[.int .i64 W, .int .i64 H, .int .i64 c, .slice A zs.length cap] IT ∧ AtB wr (w.heap.size + 1) #[.int .i64 m, .int .u8 c0, .int .u8 c1, .int .u8 c2, .int .u8 c3] RT ∧ IMG wr (.slice A zs.length cap) W H c zs ∧ BRow wr g ((List.range c).map (linAt P0 P1 P2 P3 fu fv)) ∧ Below w.heap.size w wr)) (fun _ _ i _ _ => 4 - (intOf i).toNat)
      case atStart => exact ⟨0, 255, 0, by omega, rfl, rfl, rfl, ⟨by omega, by omega, by omega, by omega, by omega, by omega, by omega, by omega⟩, ⟨r_i.out, r_b.out, h_m.out, h_r.out, BB.out⟩⟩
      case round =>
        clear r_i r_b h_m h_r BB
        obtain ⟨j, x, y, hj, rfl, rfl, rfl, hq, hinv⟩ := hrel
        obtain ⟨r_i, r_b, h_m, h_r, BB⟩ := hinv.out
        replace r_i := Lib.hid r_i; replace r_b := Lib.hid r_b; replace h_m := Lib.hid h_m; replace h_r := Lib.hid h_r; replace BB := Lib.hid BB
        clear hinv
        have hj5 : j = 0 ∨ j = 1 ∨ j = 2 ∨ j = 3 ∨ j = 4 := by omega
        rcases hj5 with rfl | rfl | rfl | rfl | rfl
        · skip
          obtain ⟨c_i0, c_i1, c_i2, c_i3, f_i0, f_i1, f_i2, f_i3⟩ := reads4 r_i.out
          have l_i := r_i.out.lt
          obtain ⟨c_b0, c_b1, c_b2, c_b3, c_b4, f_b0, f_b1, f_b2, f_b3, f_b4⟩ := reads5 r_b.out
          have l_b := r_b.out.lt
          go_wp2_with fail
          refine (D0.out _ h_m.out).mono ?_
          rintro e w4 ⟨rfl, hb⟩
          clear c_i0 c_i1 c_i2 c_i3 f_i0 f_i1 f_i2 f_i3 l_i c_b0 c_b1 c_b2 c_b3 c_b4 f_b0 f_b1 f_b2 f_b3 f_b4 l_b
          replace r_i := Lib.hid (r_i.out.keep hb)
          replace r_b := Lib.hid (r_b.out.keep hb)
          replace h_m := Lib.hid (IMG.below h_m.out hb)
          replace h_r := Lib.hid (BRow.keep h_r.out hb)
          replace BB := Lib.hid (below_next BB.out hb)
          clear hb
          by_cases a1 : q0 < x
          · by_cases a2 : y < q0
            · have a3 : ¬ x < q0 := by omega
              have a4 : ¬ q0 < y := by omega
              go_wp2_with fail
              go_roundw
              case rel => exact ⟨0 + 1, _, _, by omega, rfl, rfl, rfl, ⟨by have h := hq.out; omega, by have h := hq.out; omega, by have h := hq.out; omega, by have h := hq.out; omega, fun hz => by have h := hq.out; omega, fun hz => by have h := hq.out; omega, fun hz => by have h := hq.out; omega, fun hz => by have h := hq.out; omega⟩, ⟨r_i.out, r_b.out, h_m.out, h_r.out, BB.out⟩⟩
              case measure => simp [intOf]
            · have a3 : ¬ x < q0 := by omega
              go_wp2_with fail
              go_roundw
              case rel => exact ⟨0 + 1, _, _, by omega, rfl, rfl, rfl, ⟨by have h := hq.out; omega, by have h := hq.out; omega, by have h := hq.out; omega, by have h := hq.out; omega, fun hz => by have h := hq.out; omega, fun hz => by have h := hq.out; omega, fun hz => by have h := hq.out; omega, fun hz => by have h := hq.out; omega⟩, ⟨r_i.out, r_b.out, h_m.out, h_r.out, BB.out⟩⟩
              case measure => simp [intOf]
          · by_cases a2 : y < q0
            · have a4 : ¬ q0 < y := by omega
              go_wp2_with fail
              go_roundw
              case rel => exact ⟨0 + 1, _, _, by omega, rfl, rfl, rfl, ⟨by have h := hq.out; omega, by have h := hq.out; omega, by have h := hq.out; omega, by have h := hq.out; omega, fun hz => by have h := hq.out; omega, fun hz => by have h := hq.out; omega, fun hz => by have h := hq.out; omega, fun hz => by have h := hq.out; omega⟩, ⟨r_i.out, r_b.out, h_m.out, h_r.out, BB.out⟩⟩
              case measure => simp [intOf]
            · skip
              go_wp2_with fail
              go_roundw
              case rel => exact ⟨0 + 1, _, _, by omega, rfl, rfl, rfl, ⟨by have h := hq.out; omega, by have h := hq.out; omega, by have h := hq.out; omega, by have h := hq.out; omega, fun hz => by have h := hq.out; omega, fun hz => by have h := hq.out; omega, fun hz => by have h := hq.out; omega, fun hz => by have h := hq.out; omega⟩, ⟨r_i.out, r_b.out, h_m.out, h_r.out, BB.out⟩⟩
              case measure => simp [intOf]
        · skip
          obtain ⟨c_i0, c_i1, c_i2, c_i3, f_i0, f_i1, f_i2, f_i3⟩ := reads4 r_i.out
          have l_i := r_i.out.lt
          obtain ⟨c_b0, c_b1, c_b2, c_b3, c_b4, f_b0, f_b1, f_b2, f_b3, f_b4⟩ := reads5 r_b.out
          have l_b := r_b.out.lt
          go_wp2_with fail
          refine (D1.out _ h_m.out).mono ?_
          rintro e w5 ⟨rfl, hb⟩
          clear c_i0 c_i1 c_i2 c_i3 f_i0 f_i1 f_i2 f_i3 l_i c_b0 c_b1 c_b2 c_b3 c_b4 f_b0 f_b1 f_b2 f_b3 f_b4 l_b
          replace r_i := Lib.hid (r_i.out.keep hb)
          replace r_b := Lib.hid (r_b.out.keep hb)
          replace h_m := Lib.hid (IMG.below h_m.out hb)
          replace h_r := Lib.hid (BRow.keep h_r.out hb)
          replace BB := Lib.hid (below_next BB.out hb)
          clear hb
          by_cases a1 : q1 < x
          · by_cases a2 : y < q1
            · have a3 : ¬ x < q1 := by omega
              have a4 : ¬ q1 < y := by omega
              go_wp2_with fail
              go_roundw
              case rel => exact ⟨1 + 1, _, _, by omega, rfl, rfl, rfl, ⟨by have h := hq.out; omega, by have h := hq.out; omega, by have h := hq.out; omega, by have h := hq.out; omega, fun hz => by have h := hq.out; omega, fun hz => by have h := hq.out; omega, fun hz => by have h := hq.out; omega, fun hz => by have h := hq.out; omega⟩, ⟨r_i.out, r_b.out, h_m.out, h_r.out, BB.out⟩⟩
              case measure => simp [intOf]
            · have a3 : ¬ x < q1 := by omega
              go_wp2_with fail
              go_roundw
              case rel => exact ⟨1 + 1, _, _, by omega, rfl, rfl, rfl, ⟨by have h := hq.out; omega, by have h := hq.out; omega, by have h := hq.out; omega, by have h := hq.out; omega, fun hz => by have h := hq.out; omega, fun hz => by have h := hq.out; omega, fun hz => by have h := hq.out; omega, fun hz => by have h := hq.out; omega⟩, ⟨r_i.out, r_b.out, h_m.out, h_r.out, BB.out⟩⟩
              case measure => simp [intOf]
          · by_cases a2 : y < q1
            · have a4 : ¬ q1 < y := by omega
              go_wp2_with fail
              go_roundw
              case rel => exact ⟨1 + 1, _, _, by omega, rfl, rfl, rfl, ⟨by have h := hq.out; omega, by have h := hq.out; omega, by have h := hq.out; omega, by have h := hq.out; omega, fun hz => by have h := hq.out; omega, fun hz => by have h := hq.out; omega, fun hz => by have h := hq.out; omega, fun hz => by have h := hq.out; omega⟩, ⟨r_i.out, r_b.out, h_m.out, h_r.out, BB.out⟩⟩
              case measure => simp [intOf]
            · skip
              go_wp2_with fail
              go_roundw
              case rel => exact ⟨1 + 1, _, _, by omega, rfl, rfl, rfl, ⟨by have h := hq.out; omega, by have h := hq.out; omega, by have h := hq.out; omega, by have h := hq.out; omega, fun hz => by have h := hq.out; omega, fun hz => by have h := hq.out; omega, fun hz => by have h := hq.out; omega, fun hz => by have h := hq.out; omega⟩, ⟨r_i.out, r_b.out, h_m.out, h_r.out, BB.out⟩⟩
              case measure => simp [intOf]
        · skip
          obtain ⟨c_i0, c_i1, c_i2, c_i3, f_i0, f_i1, f_i2, f_i3⟩ := reads4 r_i.out
          have l_i := r_i.out.lt
          obtain ⟨c_b0, c_b1, c_b2, c_b3, c_b4, f_b0, f_b1, f_b2, f_b3, f_b4⟩ := reads5 r_b.out
          have l_b := r_b.out.lt
          go_wp2_with fail
          refine (D2.out _ h_m.out).mono ?_
          rintro e w6 ⟨rfl, hb⟩
          clear c_i0 c_i1 c_i2 c_i3 f_i0 f_i1 f_i2 f_i3 l_i c_b0 c_b1 c_b2 c_b3 c_b4 f_b0 f_b1 f_b2 f_b3 f_b4 l_b
          replace r_i := Lib.hid (r_i.out.keep hb)
          replace r_b := Lib.hid (r_b.out.keep hb)
          replace h_m := Lib.hid (IMG.below h_m.out hb)
          replace h_r := Lib.hid (BRow.keep h_r.out hb)
          replace BB := Lib.hid (below_next BB.out hb)
          clear hb
          by_cases a1 : q2 < x
          · by_cases a2 : y < q2
            · have a3 : ¬ x < q2 := by omega
              have a4 : ¬ q2 < y := by omega
              go_wp2_with fail
              go_roundw
              case rel => exact ⟨2 + 1, _, _, by omega, rfl, rfl, rfl, ⟨by have h := hq.out; omega, by have h := hq.out; omega, by have h := hq.out; omega, by have h := hq.out; omega, fun hz => by have h := hq.out; omega, fun hz => by have h := hq.out; omega, fun hz => by have h := hq.out; omega, fun hz => by have h := hq.out; omega⟩, ⟨r_i.out, r_b.out, h_m.out, h_r.out, BB.out⟩⟩
              case measure => simp [intOf]
            · have a3 : ¬ x < q2 := by omega
              go_wp2_with fail
              go_roundw
              case rel => exact ⟨2 + 1, _, _, by omega, rfl, rfl, rfl, ⟨by have h := hq.out; omega, by have h := hq.out; omega, by have h := hq.out; omega, by have h := hq.out; omega, fun hz => by have h := hq.out; omega, fun hz => by have h := hq.out; omega, fun hz => by have h := hq.out; omega, fun hz => by have h := hq.out; omega⟩, ⟨r_i.out, r_b.out, h_m.out, h_r.out, BB.out⟩⟩
              case measure => simp [intOf]
          · by_cases a2 : y < q2
            · have a4 : ¬ q2 < y := by omega
              go_wp2_with fail
              go_roundw
              case rel => exact ⟨2 + 1, _, _, by omega, rfl, rfl, rfl, ⟨by have h := hq.out; omega, by have h := hq.out; omega, by have h := hq.out; omega, by have h := hq.out; omega, fun hz => by have h := hq.out; omega, fun hz => by have h := hq.out; omega, fun hz => by have h := hq.out; omega, fun hz => by have h := hq.out; omega⟩, ⟨r_i.out, r_b.out, h_m.out, h_r.out, BB.out⟩⟩
              case measure => simp [intOf]
            · skip
              go_wp2_with fail
              go_roundw
              case rel => exact ⟨2 + 1, _, _, by omega, rfl, rfl, rfl, ⟨by have h := hq.out; omega, by have h := hq.out; omega, by have h := hq.out; omega, by have h := hq.out; omega, fun hz => by have h := hq.out; omega, fun hz => by have h := hq.out; omega, fun hz => by have h := hq.out; omega, fun hz => by have h := hq.out; omega⟩, ⟨r_i.out, r_b.out, h_m.out, h_r.out, BB.out⟩⟩
              case measure => simp [intOf]
        · skip
          obtain ⟨c_i0, c_i1, c_i2, c_i3, f_i0, f_i1, f_i2, f_i3⟩ := reads4 r_i.out
          have l_i := r_i.out.lt
          obtain ⟨c_b0, c_b1, c_b2, c_b3, c_b4, f_b0, f_b1, f_b2, f_b3, f_b4⟩ := reads5 r_b.out
          have l_b := r_b.out.lt
          go_wp2_with fail
          refine (D3.out _ h_m.out).mono ?_
          rintro e w7 ⟨rfl, hb⟩
          clear c_i0 c_i1 c_i2 c_i3 f_i0 f_i1 f_i2 f_i3 l_i c_b0 c_b1 c_b2 c_b3 c_b4 f_b0 f_b1 f_b2 f_b3 f_b4 l_b
          replace r_i := Lib.hid (r_i.out.keep hb)
          replace r_b := Lib.hid (r_b.out.keep hb)
          replace h_m := Lib.hid (IMG.below h_m.out hb)
          replace h_r := Lib.hid (BRow.keep h_r.out hb)
          replace BB := Lib.hid (below_next BB.out hb)
          clear hb
          by_cases a1 : q3 < x
          · by_cases a2 : y < q3
            · have a3 : ¬ x < q3 := by omega
              have a4 : ¬ q3 < y := by omega
              go_wp2_with fail
              go_roundw
              case rel => exact ⟨3 + 1, _, _, by omega, rfl, rfl, rfl, ⟨by have h := hq.out; omega, by have h := hq.out; omega, by have h := hq.out; omega, by have h := hq.out; omega, fun hz => by have h := hq.out; omega, fun hz => by have h := hq.out; omega, fun hz => by have h := hq.out; omega, fun hz => by have h := hq.out; omega⟩, ⟨r_i.out, r_b.out, h_m.out, h_r.out, BB.out⟩⟩
              case measure => simp [intOf]
            · have a3 : ¬ x < q3 := by omega
              go_wp2_with fail
              go_roundw
              case rel => exact ⟨3 + 1, _, _, by omega, rfl, rfl, rfl, ⟨by have h := hq.out; omega, by have h := hq.out; omega, by have h := hq.out; omega, by have h := hq.out; omega, fun hz => by have h := hq.out; omega, fun hz => by have h := hq.out; omega, fun hz => by have h := hq.out; omega, fun hz => by have h := hq.out; omega⟩, ⟨r_i.out, r_b.out, h_m.out, h_r.out, BB.out⟩⟩
              case measure => simp [intOf]
          · by_cases a2 : y < q3
            · have a4 : ¬ q3 < y := by omega
              go_wp2_with fail
              go_roundw
              case rel => exact ⟨3 + 1, _, _, by omega, rfl, rfl, rfl, ⟨by have h := hq.out; omega, by have h := hq.out; omega, by have h := hq.out; omega, by have h := hq.out; omega, fun hz => by have h := hq.out; omega, fun hz => by have h := hq.out; omega, fun hz => by have h := hq.out; omega, fun hz => by have h := hq.out; omega⟩, ⟨r_i.out, r_b.out, h_m.out, h_r.out, BB.out⟩⟩
              case measure => simp [intOf]
            · skip
              go_wp2_with fail
              go_roundw
              case rel => exact ⟨3 + 1, _, _, by omega, rfl, rfl, rfl, ⟨by have h := hq.out; omega, by have h := hq.out; omega, by have h := hq.out; omega, by have h := hq.out; omega, fun hz => by have h := hq.out; omega, fun hz => by have h := hq.out; omega, fun hz => by have h := hq.out; omega, fun hz => by have h := hq.out; omega⟩, ⟨r_i.out, r_b.out, h_m.out, h_r.out, BB.out⟩⟩
              case measure => simp [intOf]
        · have hzz := (hB.out x y (hq.out.2.2.2.2.1 (by omega)) (hq.out.2.2.2.2.2.1 (by omega)) (hq.out.2.2.2.2.2.2.1 (by omega)) (hq.out.2.2.2.2.2.2.2 (by omega)) hq.out.1 hq.out.2.2.2.1)
          have z1 : ¬ z < x := by omega
          have z2 : ¬ y < z := by omega
          have cz := row_at h_r.out (by rw [HL]; exact hlt)
          rw [hG.out] at cz
          go_wp2_with fail
          go_roundw
          case rel => exact ⟨k + 1, by omega, by go_num, ⟨r_i.out, r_b.out, h_m.out, h_r.out, BB.out⟩⟩
          case measure => simp [intOf]; omega
    · obtain rfl : k = c := by omega
      obtain ⟨c_i0, c_i1, c_i2, c_i3, f_i0, f_i1, f_i2, f_i3⟩ := reads4 r_i.out
      have l_i := r_i.out.lt
      go_wp2_with fail
      refine (CL.out _).mono ?_
      rintro e w4 ⟨rfl, hb⟩
      clear c_i0 c_i1 c_i2 c_i3 f_i0 f_i1 f_i2 f_i3 l_i
      replace r_i := Lib.hid (r_i.out.keep hb)
      replace r_b := Lib.hid (r_b.out.keep hb)
      replace h_m := Lib.hid (IMG.below h_m.out hb)
      replace h_r := Lib.hid (BRow.keep h_r.out hb)
      replace BB := Lib.hid (below_next BB.out hb)
      clear hb
      go_wp2_with fail
      go_ret
      exact ⟨rfl, BB.out⟩
theorem linearBetween_any (W H C m c0 c1 c2 c3 u v : Int) (s : Value) (zs : List Int) (hm : I64 m) (hcol : ∀ z ∈ [c0, c1, c2, c3], 0 ≤ z ∧ z ≤ 255) (w : World) (hi : IMG w s W H C zs) :
    Calls Try.prog 13 #[imv W H C s, brv m c0 c1 c2 c3, .agg #[.int .i64 u, .int .i64 v]] w fun e w' => e = .returned (.bool true) ∧ Below w.heap.size w w' := by
  obtain ⟨A, cap, e⟩ := hi.ib.form
  subst e
  by_cases hn : zs.length ≤ 20000
  · by_cases h : nrC W H C m u v zs.length = 0
    · have h0 : ibC W H C m zs.length = 0 := by
        unfold nrC at h
        split at h
        · assumption
        · exact absurd h ‹_›
      obtain ⟨-, -, hC', -⟩ := ibC_zero h0
      obtain ⟨c, rfl⟩ : ∃ c : Nat, C = (c : Int) := ⟨C.toNat, by omega⟩
      exact between_ok W H m c0 c1 c2 c3 u v c cap A zs hn hm h hcol w hi
    · exact between_wrong W H C m c0 c1 c2 c3 u v A _ cap hn h w
  · exact between_many W H C m c0 c1 c2 c3 u v A _ cap (by omega) w
theorem col_byte {a b c d : Int} (h1 : 0 ≤ a ∧ a ≤ 255) (h2 : 0 ≤ b ∧ b ≤ 255) (h3 : 0 ≤ c ∧ c ≤ 255) (h4 : 0 ≤ d ∧ d ≤ 255) : ∀ z ∈ [a, b, c, d], 0 ≤ z ∧ z ≤ 255 := by
  intro z hz
  simp only [List.mem_cons, List.not_mem_nil, or_false] at hz
  rcases hz with rfl | rfl | rfl | rfl
  · exact h1
  · exact h2
  · exact h3
  · exact h4

end Go.Proofs.Ytnklbnphiokpiaa
