/- The walk of CubicAt. -/
import Derived.Test.YtnklbnphiokpiaaCu4
import Derived.Test.YtnklbnphiokpiaaNrL
set_option linter.unusedVariables false
set_option linter.unusedSimpArgs false
namespace Go.Proofs.Ytnklbnphiokpiaa
open Go.RowKit
set_option maxRecDepth 100000 in
theorem cubAt_many (W H C m c0 c1 c2 c3 u v : Int) (A : Option Addr) (n cap : Nat) (h : 20000 < n) (w : World) :
    Calls Try.prog 9 #[imv W H C (.slice A n cap), brv m c0 c1 c2 c3, .agg #[.int .i64 u, .int .i64 v]] w fun e w' => e = .returned (.bool true) ∧ Below w.heap.size w w' := by
  have CF := Lib.hid (fun w => rfew W H C 20000 A n cap w)
  have hfew : decide ((n : Int) ≤ 20000) = false := decide_eq_false (by omega)
  clear h
  go_enter Try.func9, Try.ntmps9
  go_wp2_with fail
  have BB := start3 w #[.int .i64 W, .int .i64 H, .int .i64 C, .slice A n cap] IT #[.int .i64 m, .int .u8 c0, .int .u8 c1, .int .u8 c2, .int .u8 c3] RT #[.int .i64 u, .int .i64 v] A2T
  obtain ⟨BB, hsz, r_i, r_b, r_p⟩ := BB
  generalize (((w.alloc (.cells #[.int .i64 W, .int .i64 H, .int .i64 C, .slice A n cap] IT)).alloc (.cells #[.int .i64 m, .int .u8 c0, .int .u8 c1, .int .u8 c2, .int .u8 c3] RT)).alloc (.cells #[.int .i64 u, .int .i64 v] A2T)) = w0 at *
  replace BB := Lib.hid BB
  replace r_i := Lib.hid r_i
  replace r_b := Lib.hid r_b
  replace r_p := Lib.hid r_p
  clear hsz
  refine (CF.out _).mono ?_
  rintro e w1 ⟨rfl, hb⟩
  replace r_i := Lib.hid (r_i.out.keep hb)
  replace r_b := Lib.hid (r_b.out.keep hb)
  replace r_p := Lib.hid (r_p.out.keep hb)
  replace BB := Lib.hid (below_next BB.out hb)
  clear hb
  rw [hfew]
  go_wp2_with fail
  go_ret
  exact ⟨rfl, BB.out⟩
set_option maxRecDepth 100000 in
set_option maxHeartbeats 4000000 in
theorem cubAt_wrong (W H C m c0 c1 c2 c3 u v : Int) (A : Option Addr) (n cap : Nat) (hn : n ≤ 20000) (h : nrC W H C m u v n ≠ 0) (w : World) :
    Calls Try.prog 9 #[imv W H C (.slice A n cap), brv m c0 c1 c2 c3, .agg #[.int .i64 u, .int .i64 v]] w fun e w' => e = .returned (.bool true) ∧ Below w.heap.size w w' := by
  have CF := Lib.hid (fun w => rfew W H C 20000 A n cap w)
  have hfew : decide ((n : Int) ≤ 20000) = true := decide_eq_true (by omega)
  have CA := Lib.hid (fun w => zat_no W H C m c0 c1 c2 c3 u v A n cap h w)
  have CK := Lib.hid (fun w => rcheck28 W H C m c0 c1 c2 c3 u v A n cap w)
  have CL := Lib.hid (fun w => cubic_alive w)
  have hq : (nrC W H C m u v n == 0) = false := by simpa using h
  have hq2 : (nrC W H C m u v n != 0) = true := by simpa using h
  generalize nrC W H C m u v n = d at *
  clear h hn
  go_enter Try.func9, Try.ntmps9
  go_wp2_with fail
  have BB := start3 w #[.int .i64 W, .int .i64 H, .int .i64 C, .slice A n cap] IT #[.int .i64 m, .int .u8 c0, .int .u8 c1, .int .u8 c2, .int .u8 c3] RT #[.int .i64 u, .int .i64 v] A2T
  obtain ⟨BB, hsz, r_i, r_b, r_p⟩ := BB
  generalize (((w.alloc (.cells #[.int .i64 W, .int .i64 H, .int .i64 C, .slice A n cap] IT)).alloc (.cells #[.int .i64 m, .int .u8 c0, .int .u8 c1, .int .u8 c2, .int .u8 c3] RT)).alloc (.cells #[.int .i64 u, .int .i64 v] A2T)) = w0 at *
  replace BB := Lib.hid BB
  replace r_i := Lib.hid r_i
  replace r_b := Lib.hid r_b
  replace r_p := Lib.hid r_p
  clear hsz
  refine (CF.out _).mono ?_
  rintro e w1 ⟨rfl, hb⟩
  replace r_i := Lib.hid (r_i.out.keep hb)
  replace r_b := Lib.hid (r_b.out.keep hb)
  replace r_p := Lib.hid (r_p.out.keep hb)
  replace BB := Lib.hid (below_next BB.out hb)
  clear hb
  rw [hfew]
  obtain ⟨c_p0, c_p1, f_p0, f_p1⟩ := reads2 r_p.out
  have l_p := r_p.out.lt
  obtain ⟨c_i0, c_i1, c_i2, c_i3, f_i0, f_i1, f_i2, f_i3⟩ := reads4 r_i.out
  have l_i := r_i.out.lt
  obtain ⟨c_b0, c_b1, c_b2, c_b3, c_b4, f_b0, f_b1, f_b2, f_b3, f_b4⟩ := reads5 r_b.out
  have l_b := r_b.out.lt
  go_wp2_with fail
  refine (CA.out _).mono ?_
  rintro e w2 ⟨rfl, hb⟩
  clear c_p0 c_p1 f_p0 f_p1 l_p c_i0 c_i1 c_i2 c_i3 f_i0 f_i1 f_i2 f_i3 l_i c_b0 c_b1 c_b2 c_b3 c_b4 f_b0 f_b1 f_b2 f_b3 f_b4 l_b
  replace r_i := Lib.hid (r_i.out.keep hb)
  replace r_b := Lib.hid (r_b.out.keep hb)
  replace r_p := Lib.hid (r_p.out.keep hb)
  replace BB := Lib.hid (below_next BB.out hb)
  clear hb
  obtain ⟨c_p0, c_p1, f_p0, f_p1⟩ := reads2 r_p.out
  have l_p := r_p.out.lt
  obtain ⟨c_i0, c_i1, c_i2, c_i3, f_i0, f_i1, f_i2, f_i3⟩ := reads4 r_i.out
  have l_i := r_i.out.lt
  obtain ⟨c_b0, c_b1, c_b2, c_b3, c_b4, f_b0, f_b1, f_b2, f_b3, f_b4⟩ := reads5 r_b.out
  have l_b := r_b.out.lt
  go_wp2_with fail
  refine (CK.out _).mono ?_
  rintro e w3 ⟨rfl, hb⟩
  clear c_p0 c_p1 f_p0 f_p1 l_p c_i0 c_i1 c_i2 c_i3 f_i0 f_i1 f_i2 f_i3 l_i c_b0 c_b1 c_b2 c_b3 c_b4 f_b0 f_b1 f_b2 f_b3 f_b4 l_b
  replace r_i := Lib.hid (r_i.out.keep hb)
  replace r_b := Lib.hid (r_b.out.keep hb)
  replace r_p := Lib.hid (r_p.out.keep hb)
  replace BB := Lib.hid (below_next BB.out hb)
  clear hb
  go_wp2_with fail
  refine (CL.out _).mono ?_
  rintro e w9 ⟨rfl, rfl⟩
  go_wp2_with fail
  go_ret
  exact ⟨rfl, BB.out⟩

theorem byte_fifty (z : Int) (hz : 0 ≤ z ∧ z ≤ 255) : byteI (1125899906842624 * z) 1125899906842624 = z := by
  unfold byteI nearI
  rw [if_neg (by omega), Int.fdiv_eq_ediv_of_nonneg _ (by omega)]
  omega
theorem cw_sum (t : Int) : cw0 t + cw1 t + cw2 t + cw3 t = 33554432 := by unfold cw0 cw1 cw2 cw3; omega
theorem cub_same {L : List Int} {Lf : Nat → List Int} {x0 x1 x2 x3 y0 y1 y2 y3 : Int} {c : Nat} (hf : ∀ i, Lf i = L) (hL : L.length = c) (hb : ∀ z ∈ L, 0 ≤ z ∧ z ≤ 255) (hx : x0 + x1 + x2 + x3 = 33554432) (hy : y0 + y1 + y2 + y3 = 33554432) : cubRow Lf x0 x1 x2 x3 y0 y1 y2 y3 c = L := by
  apply List.ext_getElem
  · simp [cubRow, hL]
  · intro k h1 h2
    simp only [cubRow, List.getElem_map, List.getElem_range, cubAt, hf]
    have e : L.getD k 0 = L[k] := by simp [List.getD, h2]
    rw [e]
    simp only [← Int.add_mul, hx, hy]
    rw [← Int.mul_assoc]
    exact byte_fifty _ (hb _ (List.getElem_mem h2))
theorem cub_mid {Lf : Nat → List Int} {c : Nat} (hL : (Lf 5).length = c) (hb : ∀ z ∈ Lf 5, 0 ≤ z ∧ z ≤ 255) : cubRow Lf 0 33554432 0 0 0 33554432 0 0 c = Lf 5 := by
  apply List.ext_getElem
  · simp [cubRow, hL]
  · intro k h1 h2
    simp only [cubRow, List.getElem_map, List.getElem_range, cubAt]
    have e : (Lf 5).getD k 0 = (Lf 5)[k] := by simp [List.getD, h2]
    rw [e]
    simp only [Int.zero_mul, Int.add_zero, Int.zero_add]
    rw [← Int.mul_assoc]
    exact byte_fifty _ (hb _ (List.getElem_mem h2))
theorem cub_one {W H m u v : Int} {c : Nat} {cl zs : List Int} (h : ibC W H c m zs.length = 0) (hcl : cl.length = 4) (hb : ∀ z ∈ zs, 0 ≤ z ∧ z ≤ 255) (hcn : c ≤ zs.length) (ho : oneP m c cl zs zs.length) : cubL W H c m u v cl zs c = zs.take c := by
  unfold cubL
  exact cub_same (fun i => by unfold pix4; exact one_pix h hcl ho) (by rw [List.length_take]; omega) (fun z hz => hb z (List.mem_of_mem_take hz)) (cw_sum _) (cw_sum _)
theorem cub_here {W H m u v : Int} {c : Nat} {cl zs : List Int} (hl : ∀ x y, (pixL W H c m x y cl zs).length = c) (hb : ∀ x y, ∀ z ∈ pixL W H c m x y cl zs, 0 ≤ z ∧ z ≤ 255) (hu : u % 65536 = 0) (hv : v % 65536 = 0) : cubL W H c m u v cl zs c = pixL W H c m (X28 u) (X28 v) cl zs := by
  have e5 : pix4 W H c m (u / 65536) (v / 65536) cl zs 4 (-1) 5 = pixL W H c m (X28 u) (X28 v) cl zs := by
    unfold pix4
    rw [show X28 u = u / 65536 by unfold X28; omega, show X28 v = v / 65536 by unfold X28; omega, show ((5 % 4 : Nat) : Int) = 1 from rfl, show u / 65536 + -1 + 1 = u / 65536 by omega, show v / 65536 + -1 + 1 = v / 65536 by omega]
  unfold cubL
  rw [hu, hv, show (0 : Int) / 256 = 0 from rfl, show cw0 0 = 0 from rfl, show cw1 0 = 33554432 from rfl, show cw2 0 = 0 from rfl, show cw3 0 = 0 from rfl, ← e5]
  exact cub_mid (by rw [e5]; exact hl _ _) (by rw [e5]; exact hb _ _)
set_option maxRecDepth 100000 in
set_option maxHeartbeats 8000000 in
theorem cubAt_ok (W H m c0 c1 c2 c3 u v : Int) (c pb po cap : Nat) (zs : List Int) (hn : zs.length ≤ 20000) (hm : I64 m) (h : nrC W H c m u v zs.length = 0) (hcol : ∀ z ∈ [c0, c1, c2, c3], 0 ≤ z ∧ z ≤ 255) (hcap : zs.length ≤ cap) (hcap' : (cap : Int) ≤ 9223372036854775807) (w : World) (hi : IMG w (.slice (some ⟨pb, po, none⟩) zs.length cap) W H c zs)
    (hlt : pb < w.heap.size) (hp : ∀ i, i < zs.length → w.cell? ⟨pb, po + i, none⟩ = some (.int .u8 (zs.getD i 0))) :
    Calls Try.prog 9 #[imv W H c (.slice (some ⟨pb, po, none⟩) zs.length cap), brv m c0 c1 c2 c3, .agg #[.int .i64 u, .int .i64 v]] w fun e w' => e = .returned (.bool true) ∧ Below w.heap.size w w' := by
  have h' := h
  unfold nrC at h'
  split at h'
  case isFalse => exact absurd h' ‹_›
  rename_i h0
  split at h'
  case isFalse => omega
  rename_i hin
  have hu := inB_iff.1 hin.1
  have hv := inB_iff.1 hin.2
  have hz := ibC_zero h0
  obtain ⟨-, -, hC, hW1, hH1, q0, q1, hnn⟩ := hz
  have hc : 1 ≤ c ∧ c ≤ 4 := by omega
  have hcn : c ≤ zs.length := by
    have : (c : Int) ≤ W * H * c := by
      generalize W * H = P at *
      rcases hC with e | e | e <;> rw [e] <;> omega
    omega
  have hlen := fun x y => pixL_len (x := x) (y := y) (cl := [c0, c1, c2, c3]) h0 rfl
  have hbyte := fun x y => pixL_byte (W := W) (H := H) (C := c) (m := m) (x := x) (y := y) hi.ib.all hcol
  have HM := Lib.hid (fun hu hv => cub_here (W := W) (H := H) (m := m) (u := u) (v := v) (c := c) (cl := [c0, c1, c2, c3]) (zs := zs) (fun x y => by have := hlen x y; omega) hbyte hu hv)
  have CF := Lib.hid (fun w => rfew W H c 20000 (some ⟨pb, po, none⟩) zs.length cap w)
  have hfew : decide ((zs.length : Int) ≤ 20000) = true := decide_eq_true (by omega)
  have CA := Lib.hid (fun w hi => zat_ok W H m c0 c1 c2 c3 u v c (some ⟨pb, po, none⟩) zs cap h hm hcol w hi)
  have CK := Lib.hid (fun w => rcheck28 W H c m c0 c1 c2 c3 u v (some ⟨pb, po, none⟩) zs.length cap w)
  rw [h] at CK
  have CR := Lib.hid (fun w hi => r30at W H m c0 c1 c2 c3 u v c (.slice (some ⟨pb, po, none⟩) zs.length cap) zs w hi hm h0 hu hv hcol)
  have CR2 := Lib.hid (fun w hi => r28at W H c m c0 c1 c2 c3 u v (.slice (some ⟨pb, po, none⟩) zs.length cap) zs w hi hm h hcol)
  have CS := Lib.hid (fun u v zs w hu hv => rsame u v zs w hu hv)
  have CO := Lib.hid (fun w hlt hp => law_one W H m c0 c1 c2 c3 c pb po cap zs.length zs rfl hn hc hcn hcap hcap' w hlt hp)
  have CL := Lib.hid (fun w => cubic_alive w)
  have HE := Lib.hid (fun ho => cub_one (u := u) (v := v) (cl := [c0, c1, c2, c3]) h0 rfl hi.ib.all hcn ho)
  have hi := Lib.hid hi
  have HP := Lib.hid (And.intro hlt hp)
  have hcc : c ≤ cap := by omega
  have c0' : (0 : Int) ≤ (c : Int) := by omega
  have c1' : (c : Int) ≤ (cap : Int) := by omega
  have HT : Hid (∀ w9, Below w.heap.size w w9 → BS w9 (.slice (some ⟨pb, po, none⟩) c cap) (zs.take c)) := fun w9 hb => by
    have hl : (zs.take c).length = c := by rw [List.length_take]; omega
    refine ⟨some ⟨pb, po, none⟩, cap, by rw [hl], by rw [hl]; omega, hcap', fun z hz => hi.out.ib.all z (List.mem_of_mem_take hz), fun _ => ⟨pb, po, rfl, Nat.lt_of_lt_of_le hlt hb.size, fun i hi2 => ?_⟩⟩
    rw [hl] at hi2
    rw [hb.cell (p := ⟨pb, po + i, none⟩) hlt, hp i (by omega)]
    simp [List.getD, List.getElem?_take, hi2]
  have hL := cubL_len W H c m u v [c0, c1, c2, c3] zs c
  have HB : Hid (∀ z ∈ cubL W H c m u v [c0, c1, c2, c3] zs c, 0 ≤ z ∧ z ≤ 255) := fun z hz => by
    unfold cubL at hz
    exact cubRow_byte _ _ _ _ _ _ _ _ _ _ z hz
  generalize pixL W H c m (X28 u) (X28 v) [c0, c1, c2, c3] zs = L2 at *
  generalize cubL W H c m u v [c0, c1, c2, c3] zs c = L at *
  have hlc := Lib.hid hL
  have tu : u.tmod 65536 = 0 ↔ u % 65536 = 0 := tmod_zero_iff
  have tv : v.tmod 65536 = 0 ↔ v % 65536 = 0 := tmod_zero_iff
  have iu : I64 (u.tmod 65536) := by have := (tmod_bounds (a := u) (b := 65536) (by omega)).2.2.1 (by omega); exact ⟨by omega, by omega⟩
  have iv : I64 (v.tmod 65536) := by have := (tmod_bounds (a := v) (b := 65536) (by omega)).2.2.1 (by omega); exact ⟨by omega, by omega⟩
  generalize eu : u.tmod 65536 = ru at *
  generalize ev : v.tmod 65536 = rv at *
  have wu : IntKind.i64.wrap ru = ru := iw iu
  have wv' : IntKind.i64.wrap rv = rv := iw iv
  clear h h0 hm hcol hC hW1 hH1 q0 q1 hnn hlen hbyte hcap hcap' hlt hp hn hL h' hin hu hv iu iv
  go_enter Try.func9, Try.ntmps9
  go_wp2_with fail
  have BB := start3 w #[.int .i64 W, .int .i64 H, .int .i64 c, .slice (some ⟨pb, po, none⟩) zs.length cap] IT #[.int .i64 m, .int .u8 c0, .int .u8 c1, .int .u8 c2, .int .u8 c3] RT #[.int .i64 u, .int .i64 v] A2T
  obtain ⟨BB, hsz, r_i, r_b, r_p⟩ := BB
  generalize (((w.alloc (.cells #[.int .i64 W, .int .i64 H, .int .i64 c, .slice (some ⟨pb, po, none⟩) zs.length cap] IT)).alloc (.cells #[.int .i64 m, .int .u8 c0, .int .u8 c1, .int .u8 c2, .int .u8 c3] RT)).alloc (.cells #[.int .i64 u, .int .i64 v] A2T)) = w0 at *
  replace BB := Lib.hid BB
  replace r_i := Lib.hid r_i
  replace r_b := Lib.hid r_b
  replace r_p := Lib.hid r_p
  clear hsz
  refine (CF.out _).mono ?_
  rintro e w1 ⟨rfl, hb⟩
  replace r_i := Lib.hid (r_i.out.keep hb)
  replace r_b := Lib.hid (r_b.out.keep hb)
  replace r_p := Lib.hid (r_p.out.keep hb)
  replace BB := Lib.hid (below_next BB.out hb)
  clear hb
  rw [hfew]
  have h_m := Lib.hid (hi.out.below BB.out)
  obtain ⟨c_p0, c_p1, f_p0, f_p1⟩ := reads2 r_p.out
  have l_p := r_p.out.lt
  obtain ⟨c_i0, c_i1, c_i2, c_i3, f_i0, f_i1, f_i2, f_i3⟩ := reads4 r_i.out
  have l_i := r_i.out.lt
  obtain ⟨c_b0, c_b1, c_b2, c_b3, c_b4, f_b0, f_b1, f_b2, f_b3, f_b4⟩ := reads5 r_b.out
  have l_b := r_b.out.lt
  go_wp2_with fail
  refine (CA.out _ h_m.out).mono ?_
  rintro e w2 ⟨g, rfl, hb, hr⟩
  clear c_p0 c_p1 f_p0 f_p1 l_p c_i0 c_i1 c_i2 c_i3 f_i0 f_i1 f_i2 f_i3 l_i c_b0 c_b1 c_b2 c_b3 c_b4 f_b0 f_b1 f_b2 f_b3 f_b4 l_b
  replace r_i := Lib.hid (r_i.out.keep hb)
  replace r_b := Lib.hid (r_b.out.keep hb)
  replace r_p := Lib.hid (r_p.out.keep hb)
  replace h_m := Lib.hid (IMG.below h_m.out hb)
  replace BB := Lib.hid (below_next BB.out hb)
  clear hb
  have h_r := Lib.hid (show BS w2 (.slice (some ⟨g, 0, none⟩) c c) L from by have := hr.bs HB.out (by have := hlc.out; omega); rw [hlc.out] at this; exact this)
  obtain ⟨c_p0, c_p1, f_p0, f_p1⟩ := reads2 r_p.out
  have l_p := r_p.out.lt
  obtain ⟨c_i0, c_i1, c_i2, c_i3, f_i0, f_i1, f_i2, f_i3⟩ := reads4 r_i.out
  have l_i := r_i.out.lt
  obtain ⟨c_b0, c_b1, c_b2, c_b3, c_b4, f_b0, f_b1, f_b2, f_b3, f_b4⟩ := reads5 r_b.out
  have l_b := r_b.out.lt
  go_wp2_with fail
  refine (CK.out _).mono ?_
  rintro e w3 ⟨rfl, hb⟩
  clear c_p0 c_p1 f_p0 f_p1 l_p c_i0 c_i1 c_i2 c_i3 f_i0 f_i1 f_i2 f_i3 l_i c_b0 c_b1 c_b2 c_b3 c_b4 f_b0 f_b1 f_b2 f_b3 f_b4 l_b
  replace r_i := Lib.hid (r_i.out.keep hb)
  replace r_b := Lib.hid (r_b.out.keep hb)
  replace r_p := Lib.hid (r_p.out.keep hb)
  replace h_m := Lib.hid (IMG.below h_m.out hb)
  replace h_r := Lib.hid (BS.below h_r.out hb)
  replace BB := Lib.hid (below_next BB.out hb)
  clear hb
  obtain ⟨c_p0, c_p1, f_p0, f_p1⟩ := reads2 r_p.out
  have l_p := r_p.out.lt
  obtain ⟨c_i0, c_i1, c_i2, c_i3, f_i0, f_i1, f_i2, f_i3⟩ := reads4 r_i.out
  have l_i := r_i.out.lt
  obtain ⟨c_b0, c_b1, c_b2, c_b3, c_b4, f_b0, f_b1, f_b2, f_b3, f_b4⟩ := reads5 r_b.out
  have l_b := r_b.out.lt
  go_wp2_with fail
  refine (CR.out _ h_m.out).mono ?_
  rintro e w4 ⟨r, rfl, hb, hs⟩
  clear c_p0 c_p1 f_p0 f_p1 l_p c_i0 c_i1 c_i2 c_i3 f_i0 f_i1 f_i2 f_i3 l_i c_b0 c_b1 c_b2 c_b3 c_b4 f_b0 f_b1 f_b2 f_b3 f_b4 l_b
  replace r_i := Lib.hid (r_i.out.keep hb)
  replace r_b := Lib.hid (r_b.out.keep hb)
  replace r_p := Lib.hid (r_p.out.keep hb)
  replace h_m := Lib.hid (IMG.below h_m.out hb)
  replace h_r := Lib.hid (BS.below h_r.out hb)
  replace BB := Lib.hid (below_next BB.out hb)
  clear hb
  have h_s := Lib.hid hs
  clear hs
  obtain ⟨A', cap', er⟩ := h_s.out.form
  rw [hlc.out] at er
  subst er
  go_wp2_with fail
  refine (CS.out _ _ _ _ h_r.out h_s.out).mono ?_
  rintro e w9 ⟨rfl, rfl⟩
  obtain ⟨c_p0, c_p1, f_p0, f_p1⟩ := reads2 r_p.out
  have l_p := r_p.out.lt
  obtain ⟨c_i0, c_i1, c_i2, c_i3, f_i0, f_i1, f_i2, f_i3⟩ := reads4 r_i.out
  have l_i := r_i.out.lt
  obtain ⟨c_b0, c_b1, c_b2, c_b3, c_b4, f_b0, f_b1, f_b2, f_b3, f_b4⟩ := reads5 r_b.out
  have l_b := r_b.out.lt
  by_cases h1 : ru = 0
  · by_cases h2 : rv = 0
    · have eL := HM.out (tu.1 h1) (tv.1 h2)
      subst h1 h2
      clear tu tv HM
      go_wp2_with fail
      refine (CR2.out _ h_m.out).mono ?_
      rintro e w5 ⟨r2, rfl, hb, hs⟩
      clear c_p0 c_p1 f_p0 f_p1 l_p c_i0 c_i1 c_i2 c_i3 f_i0 f_i1 f_i2 f_i3 l_i c_b0 c_b1 c_b2 c_b3 c_b4 f_b0 f_b1 f_b2 f_b3 f_b4 l_b
      replace r_i := Lib.hid (r_i.out.keep hb)
      replace r_b := Lib.hid (r_b.out.keep hb)
      replace r_p := Lib.hid (r_p.out.keep hb)
      replace h_m := Lib.hid (IMG.below h_m.out hb)
      replace h_r := Lib.hid (BS.below h_r.out hb)
      replace h_s := Lib.hid (BS.below h_s.out hb)
      replace BB := Lib.hid (below_next BB.out hb)
      clear hb
      have h_s2 := Lib.hid hs
      clear hs
      rw [← eL] at h_s2
      obtain ⟨A2, cap2, er⟩ := h_s2.out.form
      rw [hlc.out] at er
      subst er
      go_wp2_with fail
      refine (CS.out _ _ _ _ h_r.out h_s2.out).mono ?_
      rintro e w9 ⟨rfl, rfl⟩
      obtain ⟨c_i0, c_i1, c_i2, c_i3, f_i0, f_i1, f_i2, f_i3⟩ := reads4 r_i.out
      have l_i := r_i.out.lt
      obtain ⟨c_b0, c_b1, c_b2, c_b3, c_b4, f_b0, f_b1, f_b2, f_b3, f_b4⟩ := reads5 r_b.out
      have l_b := r_b.out.lt
      go_wp2_with fail
      refine (CO.out _ (Nat.lt_of_lt_of_le HP.out.1 BB.out.size) (fun i hi2 => (BB.out.cell (p := ⟨pb, po + i, none⟩) HP.out.1).trans (HP.out.2 i hi2))).mono ?_
      rintro e w6 ⟨o, rfl, ho, hb⟩
      clear c_i0 c_i1 c_i2 c_i3 f_i0 f_i1 f_i2 f_i3 l_i c_b0 c_b1 c_b2 c_b3 c_b4 f_b0 f_b1 f_b2 f_b3 f_b4 l_b
      replace r_i := Lib.hid (r_i.out.keep hb)
      replace r_b := Lib.hid (r_b.out.keep hb)
      replace r_p := Lib.hid (r_p.out.keep hb)
      replace h_m := Lib.hid (IMG.below h_m.out hb)
      replace h_r := Lib.hid (BS.below h_r.out hb)
      replace h_s := Lib.hid (BS.below h_s.out hb)
      replace BB := Lib.hid (below_next BB.out hb)
      clear hb
      cases o with
      | false =>
        go_wp2_with fail
        refine (CL.out _).mono ?_
        rintro e w9 ⟨rfl, rfl⟩
        go_wp2_with fail
        go_ret
        exact ⟨rfl, BB.out⟩
      | true =>
        have e := HE.out (ho rfl)
        rw [e] at h_r
        obtain ⟨c_i0, c_i1, c_i2, c_i3, f_i0, f_i1, f_i2, f_i3⟩ := reads4 r_i.out
        have l_i := r_i.out.lt
        go_wp2_with fail
        refine (CS.out _ _ _ _ h_r.out (HT.out _ BB.out)).mono ?_
        rintro e w9 ⟨rfl, rfl⟩
        go_wp2_with fail
        refine (CL.out _).mono ?_
        rintro e w9 ⟨rfl, rfl⟩
        go_wp2_with fail
        go_ret
        exact ⟨rfl, BB.out⟩
    · have d2 : ¬ (rv = 0) := h2
      subst h1
      clear tu tv HM
      go_wp2_with fail
      refine (CO.out _ (Nat.lt_of_lt_of_le HP.out.1 BB.out.size) (fun i hi2 => (BB.out.cell (p := ⟨pb, po + i, none⟩) HP.out.1).trans (HP.out.2 i hi2))).mono ?_
      rintro e w5 ⟨o, rfl, ho, hb⟩
      clear c_p0 c_p1 f_p0 f_p1 l_p c_i0 c_i1 c_i2 c_i3 f_i0 f_i1 f_i2 f_i3 l_i c_b0 c_b1 c_b2 c_b3 c_b4 f_b0 f_b1 f_b2 f_b3 f_b4 l_b
      replace r_i := Lib.hid (r_i.out.keep hb)
      replace r_b := Lib.hid (r_b.out.keep hb)
      replace r_p := Lib.hid (r_p.out.keep hb)
      replace h_m := Lib.hid (IMG.below h_m.out hb)
      replace h_r := Lib.hid (BS.below h_r.out hb)
      replace h_s := Lib.hid (BS.below h_s.out hb)
      replace BB := Lib.hid (below_next BB.out hb)
      clear hb
      cases o with
      | false =>
        go_wp2_with fail
        refine (CL.out _).mono ?_
        rintro e w9 ⟨rfl, rfl⟩
        go_wp2_with fail
        go_ret
        exact ⟨rfl, BB.out⟩
      | true =>
        have e := HE.out (ho rfl)
        rw [e] at h_r
        obtain ⟨c_i0, c_i1, c_i2, c_i3, f_i0, f_i1, f_i2, f_i3⟩ := reads4 r_i.out
        have l_i := r_i.out.lt
        go_wp2_with fail
        refine (CS.out _ _ _ _ h_r.out (HT.out _ BB.out)).mono ?_
        rintro e w9 ⟨rfl, rfl⟩
        go_wp2_with fail
        refine (CL.out _).mono ?_
        rintro e w9 ⟨rfl, rfl⟩
        go_wp2_with fail
        go_ret
        exact ⟨rfl, BB.out⟩
  · have d1 : ¬ (ru = 0) := h1
    clear tu tv HM
    go_wp2_with fail
    refine (CO.out _ (Nat.lt_of_lt_of_le HP.out.1 BB.out.size) (fun i hi2 => (BB.out.cell (p := ⟨pb, po + i, none⟩) HP.out.1).trans (HP.out.2 i hi2))).mono ?_
    rintro e w5 ⟨o, rfl, ho, hb⟩
    clear c_p0 c_p1 f_p0 f_p1 l_p c_i0 c_i1 c_i2 c_i3 f_i0 f_i1 f_i2 f_i3 l_i c_b0 c_b1 c_b2 c_b3 c_b4 f_b0 f_b1 f_b2 f_b3 f_b4 l_b
    replace r_i := Lib.hid (r_i.out.keep hb)
    replace r_b := Lib.hid (r_b.out.keep hb)
    replace r_p := Lib.hid (r_p.out.keep hb)
    replace h_m := Lib.hid (IMG.below h_m.out hb)
    replace h_r := Lib.hid (BS.below h_r.out hb)
    replace h_s := Lib.hid (BS.below h_s.out hb)
    replace BB := Lib.hid (below_next BB.out hb)
    clear hb
    cases o with
    | false =>
      go_wp2_with fail
      refine (CL.out _).mono ?_
      rintro e w9 ⟨rfl, rfl⟩
      go_wp2_with fail
      go_ret
      exact ⟨rfl, BB.out⟩
    | true =>
      have e := HE.out (ho rfl)
      rw [e] at h_r
      obtain ⟨c_i0, c_i1, c_i2, c_i3, f_i0, f_i1, f_i2, f_i3⟩ := reads4 r_i.out
      have l_i := r_i.out.lt
      go_wp2_with fail
      refine (CS.out _ _ _ _ h_r.out (HT.out _ BB.out)).mono ?_
      rintro e w9 ⟨rfl, rfl⟩
      go_wp2_with fail
      refine (CL.out _).mono ?_
      rintro e w9 ⟨rfl, rfl⟩
      go_wp2_with fail
      go_ret
      exact ⟨rfl, BB.out⟩
theorem cubicAt_any (W H C m c0 c1 c2 c3 u v : Int) (s : Value) (zs : List Int) (hm : I64 m) (hcol : ∀ z ∈ [c0, c1, c2, c3], 0 ≤ z ∧ z ≤ 255) (w : World) (hi : IMG w s W H C zs) :
    Calls Try.prog 9 #[imv W H C s, brv m c0 c1 c2 c3, .agg #[.int .i64 u, .int .i64 v]] w fun e w' => e = .returned (.bool true) ∧ Below w.heap.size w w' := by
  obtain ⟨A, cap, e⟩ := hi.ib.form
  subst e
  by_cases hn : zs.length ≤ 20000
  · by_cases h : nrC W H C m u v zs.length = 0
    · have h0 : ibC W H C m zs.length = 0 := by
        unfold nrC at h
        split at h
        · assumption
        · exact absurd h ‹_›
      obtain ⟨-, -, hC', hW1, hH1, q0, q1, hnn⟩ := ibC_zero h0
      obtain ⟨c, rfl⟩ : ∃ c : Nat, C = (c : Int) := ⟨C.toNat, by omega⟩
      have hne : zs ≠ [] := by
        rintro rfl
        simp at hnn
        generalize W * H = p at *
        rcases hC' with e | e | e <;> rw [e] at hnn <;> omega
      obtain ⟨b, off, cap2, e, k1, k2, k3, k4⟩ := hi.ib.some hne
      simp only [Value.slice.injEq] at e
      obtain ⟨rfl, -, rfl⟩ := e
      exact cubAt_ok W H m c0 c1 c2 c3 u v c b off cap zs hn hm h hcol k1 k2 w hi k3 k4
    · exact cubAt_wrong W H C m c0 c1 c2 c3 u v A _ cap hn h w
  · exact cubAt_many W H C m c0 c1 c2 c3 u v A _ cap (by omega) w

end Go.Proofs.Ytnklbnphiokpiaa
