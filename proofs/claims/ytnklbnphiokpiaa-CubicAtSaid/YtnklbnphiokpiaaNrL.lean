/- The walk of NearAt. -/
import Derived.Test.YtnklbnphiokpiaaNrW
set_option linter.unusedVariables false
set_option linter.unusedSimpArgs false
namespace Go.Proofs.Ytnklbnphiokpiaa
open Go.RowKit
abbrev A2T : TypeId := 22

theorem col_all {a b c d : Int} (h1 : 0 ≤ a ∧ a ≤ 255) (h2 : 0 ≤ b ∧ b ≤ 255) (h3 : 0 ≤ c ∧ c ≤ 255) (h4 : 0 ≤ d ∧ d ≤ 255) : ∀ z ∈ [a, b, c, d], 0 ≤ z ∧ z ≤ 255 := by
  intro z hz
  simp only [List.mem_cons, List.not_mem_nil, or_false] at hz
  rcases hz with rfl | rfl | rfl | rfl
  · exact h1
  · exact h2
  · exact h3
  · exact h4
theorem one_pix {W H m x y : Int} {c : Nat} {cl zs : List Int} (h : ibC W H c m zs.length = 0) (hcl : cl.length = 4) (ho : oneP m c cl zs zs.length) : pixL W H c m x y cl zs = zs.take c := by
  obtain ⟨-, hm, hC, hW1, hH1, q0, q1, hn⟩ := ibC_zero h
  have hc : 1 ≤ c ∧ c ≤ 4 := by omega
  unfold pixL
  rw [Int.toNat_natCast]
  have bX := bI_bounds (mode := m) (i := x) (n := W) (by omega)
  have bY := bI_bounds (mode := m) (i := y) (n := H) (by omega)
  obtain ⟨r1, r2, r3, r4, r5⟩ := place_in hC bX bY (by omega) (by omega)
  split
  · obtain ⟨q, hq⟩ : ∃ q : Nat, (q : Int) = bI m y H * W + bI m x W := ⟨_, Int.toNat_of_nonneg r2.1⟩
    rw [← hq] at r3 r4 ⊢
    have e : ((q : Int) * (c : Int)).toNat = q * c := by rw [← Int.natCast_mul, Int.toNat_natCast]
    have hle : q * c + c ≤ zs.length := by
      have : ((q * c : Nat) : Int) + c ≤ zs.length := by rw [Int.natCast_mul]; omega
      omega
    rw [e]
    apply List.ext_getElem
    · simp; omega
    · intro j h1 h2
      have hj : j < c := by simp at h2; omega
      simp only [List.getElem_take, List.getElem_drop]
      have k1 := (ho (q * c + j) (by omega)).1
      have k2 : (q * c + j) % c = j := by rw [Nat.mul_comm, Nat.mul_add_mod]; exact Nat.mod_eq_of_lt hj
      rw [k2] at k1
      have g1 : q * c + j < zs.length := by omega
      have g2 : j < zs.length := by omega
      simpa [List.getD, g1, g2] using k1
  · rename_i hb
    have hm0 : m = 0 := by
      by_cases h0 : m = 0
      · exact h0
      · exact absurd ⟨bOk_t ⟨by omega, hm.1, hm.2, .inr h0⟩, bOk_t ⟨by omega, hm.1, hm.2, .inr h0⟩⟩ hb
    have hle : c ≤ zs.length := by
      have := r4
      have h0 : 0 ≤ (bI m y H * W + bI m x W) * (c : Int) := r3
      omega
    apply List.ext_getElem
    · simp; omega
    · intro j h1 h2
      have hj : j < c := by simp at h2; omega
      simp only [List.getElem_take]
      have k1 := (ho j (by omega)).2 hm0
      rw [Nat.mod_eq_of_lt hj] at k1
      have g1 : j < cl.length := by omega
      have g2 : j < zs.length := by omega
      have := k1.symm
      simpa [List.getD, g1, g2] using this

set_option maxRecDepth 100000 in
theorem nearAt_many (W H C m c0 c1 c2 c3 u v : Int) (A : Option Addr) (n cap : Nat) (h : 20000 < n) (w : World) :
    Calls Try.prog 6 #[imv W H C (.slice A n cap), brv m c0 c1 c2 c3, .agg #[.int .i64 u, .int .i64 v]] w fun e w' => e = .returned (.bool true) ∧ Below w.heap.size w w' := by
  have CF := Lib.hid (fun w => rfew W H C 20000 A n cap w)
  have hfew : decide ((n : Int) ≤ 20000) = false := decide_eq_false (by omega)
  clear h
  go_enter Try.func6, Try.ntmps6
  go_wp2_with fail
  have BB := start3 w #[.int .i64 W, .int .i64 H, .int .i64 C, .slice A n cap] IT #[.int .i64 m, .int .u8 c0, .int .u8 c1, .int .u8 c2, .int .u8 c3] RT #[.int .i64 u, .int .i64 v] A2T
  obtain ⟨BB, hsz, r_i, r_b, r_p⟩ := BB
  generalize (((w.alloc (.cells #[.int .i64 W, .int .i64 H, .int .i64 C, .slice A n cap] IT)).alloc (.cells #[.int .i64 m, .int .u8 c0, .int .u8 c1, .int .u8 c2, .int .u8 c3] RT)).alloc (.cells #[.int .i64 u, .int .i64 v] A2T)) = w0 at *
  replace BB := Lib.hid BB
  replace r_i := Lib.hid r_i
  replace r_b := Lib.hid r_b
  replace r_p := Lib.hid r_p
  clear hsz
  refine (CF.out _).mono ?_
  rintro e w1 ⟨rfl, hb⟩
  replace r_i := Lib.hid (r_i.out.keep hb)
  replace r_b := Lib.hid (r_b.out.keep hb)
  replace r_p := Lib.hid (r_p.out.keep hb)
  replace BB := Lib.hid (below_next BB.out hb)
  clear hb
  rw [hfew]
  go_wp2_with fail
  go_ret
  exact ⟨rfl, BB.out⟩
set_option maxRecDepth 100000 in
set_option maxHeartbeats 4000000 in
theorem nearAt_wrong (W H C m c0 c1 c2 c3 u v : Int) (A : Option Addr) (n cap : Nat) (hn : n ≤ 20000) (h : nrC W H C m u v n ≠ 0) (w : World) :
    Calls Try.prog 6 #[imv W H C (.slice A n cap), brv m c0 c1 c2 c3, .agg #[.int .i64 u, .int .i64 v]] w fun e w' => e = .returned (.bool true) ∧ Below w.heap.size w w' := by
  have CF := Lib.hid (fun w => rfew W H C 20000 A n cap w)
  have hfew : decide ((n : Int) ≤ 20000) = true := decide_eq_true (by omega)
  have CA := Lib.hid (fun w => nat_no W H C m c0 c1 c2 c3 u v A n cap h w)
  have CK := Lib.hid (fun w => rcheck28 W H C m c0 c1 c2 c3 u v A n cap w)
  have CL := Lib.hid (fun w => near_alive w)
  have hq : (nrC W H C m u v n == 0) = false := by simpa using h
  have hq2 : (nrC W H C m u v n != 0) = true := by simpa using h
  generalize nrC W H C m u v n = d at *
  clear h hn
  go_enter Try.func6, Try.ntmps6
  go_wp2_with fail
  have BB := start3 w #[.int .i64 W, .int .i64 H, .int .i64 C, .slice A n cap] IT #[.int .i64 m, .int .u8 c0, .int .u8 c1, .int .u8 c2, .int .u8 c3] RT #[.int .i64 u, .int .i64 v] A2T
  obtain ⟨BB, hsz, r_i, r_b, r_p⟩ := BB
  generalize (((w.alloc (.cells #[.int .i64 W, .int .i64 H, .int .i64 C, .slice A n cap] IT)).alloc (.cells #[.int .i64 m, .int .u8 c0, .int .u8 c1, .int .u8 c2, .int .u8 c3] RT)).alloc (.cells #[.int .i64 u, .int .i64 v] A2T)) = w0 at *
  replace BB := Lib.hid BB
  replace r_i := Lib.hid r_i
  replace r_b := Lib.hid r_b
  replace r_p := Lib.hid r_p
  clear hsz
  refine (CF.out _).mono ?_
  rintro e w1 ⟨rfl, hb⟩
  replace r_i := Lib.hid (r_i.out.keep hb)
  replace r_b := Lib.hid (r_b.out.keep hb)
  replace r_p := Lib.hid (r_p.out.keep hb)
  replace BB := Lib.hid (below_next BB.out hb)
  clear hb
  rw [hfew]
  obtain ⟨c_p0, c_p1, f_p0, f_p1⟩ := reads2 r_p.out
  have l_p := r_p.out.lt
  obtain ⟨c_i0, c_i1, c_i2, c_i3, f_i0, f_i1, f_i2, f_i3⟩ := reads4 r_i.out
  have l_i := r_i.out.lt
  obtain ⟨c_b0, c_b1, c_b2, c_b3, c_b4, f_b0, f_b1, f_b2, f_b3, f_b4⟩ := reads5 r_b.out
  have l_b := r_b.out.lt
  go_wp2_with fail
  refine (CA.out _).mono ?_
  rintro e w2 ⟨rfl, hb⟩
  clear c_p0 c_p1 f_p0 f_p1 l_p c_i0 c_i1 c_i2 c_i3 f_i0 f_i1 f_i2 f_i3 l_i c_b0 c_b1 c_b2 c_b3 c_b4 f_b0 f_b1 f_b2 f_b3 f_b4 l_b
  replace r_i := Lib.hid (r_i.out.keep hb)
  replace r_b := Lib.hid (r_b.out.keep hb)
  replace r_p := Lib.hid (r_p.out.keep hb)
  replace BB := Lib.hid (below_next BB.out hb)
  clear hb
  obtain ⟨c_p0, c_p1, f_p0, f_p1⟩ := reads2 r_p.out
  have l_p := r_p.out.lt
  obtain ⟨c_i0, c_i1, c_i2, c_i3, f_i0, f_i1, f_i2, f_i3⟩ := reads4 r_i.out
  have l_i := r_i.out.lt
  obtain ⟨c_b0, c_b1, c_b2, c_b3, c_b4, f_b0, f_b1, f_b2, f_b3, f_b4⟩ := reads5 r_b.out
  have l_b := r_b.out.lt
  go_wp2_with fail
  refine (CK.out _).mono ?_
  rintro e w3 ⟨rfl, hb⟩
  clear c_p0 c_p1 f_p0 f_p1 l_p c_i0 c_i1 c_i2 c_i3 f_i0 f_i1 f_i2 f_i3 l_i c_b0 c_b1 c_b2 c_b3 c_b4 f_b0 f_b1 f_b2 f_b3 f_b4 l_b
  replace r_i := Lib.hid (r_i.out.keep hb)
  replace r_b := Lib.hid (r_b.out.keep hb)
  replace r_p := Lib.hid (r_p.out.keep hb)
  replace BB := Lib.hid (below_next BB.out hb)
  clear hb
  go_wp2_with fail
  refine (CL.out _).mono ?_
  rintro e w9 ⟨rfl, rfl⟩
  go_wp2_with fail
  go_ret
  exact ⟨rfl, BB.out⟩

set_option maxRecDepth 100000 in
set_option maxHeartbeats 8000000 in
theorem nearAt_ok (W H m c0 c1 c2 c3 u v : Int) (c pb po cap : Nat) (zs : List Int) (hn : zs.length ≤ 20000) (hm : I64 m) (h : nrC W H c m u v zs.length = 0) (hcol : ∀ z ∈ [c0, c1, c2, c3], 0 ≤ z ∧ z ≤ 255) (hcap : zs.length ≤ cap) (hcap' : (cap : Int) ≤ 9223372036854775807) (w : World) (hi : IMG w (.slice (some ⟨pb, po, none⟩) zs.length cap) W H c zs)
    (hlt : pb < w.heap.size) (hp : ∀ i, i < zs.length → w.cell? ⟨pb, po + i, none⟩ = some (.int .u8 (zs.getD i 0))) :
    Calls Try.prog 6 #[imv W H c (.slice (some ⟨pb, po, none⟩) zs.length cap), brv m c0 c1 c2 c3, .agg #[.int .i64 u, .int .i64 v]] w fun e w' => e = .returned (.bool true) ∧ Below w.heap.size w w' := by
  have h0 : ibC W H c m zs.length = 0 := by
    unfold nrC at h
    split at h
    · assumption
    · exact absurd h ‹_›
  have hz := ibC_zero h0
  obtain ⟨-, -, hC, hW1, hH1, q0, q1, hnn⟩ := hz
  have hc : 1 ≤ c ∧ c ≤ 4 := by omega
  have hcn : c ≤ zs.length := by
    have : (c : Int) ≤ W * H * c := by
      generalize W * H = P at *
      rcases hC with e | e | e <;> rw [e] <;> omega
    omega
  have hlen := pixL_len (x := X28 u) (y := X28 v) (cl := [c0, c1, c2, c3]) h0 rfl
  have hbyte := pixL_byte (W := W) (H := H) (C := c) (m := m) (x := X28 u) (y := X28 v) hi.ib.all hcol
  have CF := Lib.hid (fun w => rfew W H c 20000 (some ⟨pb, po, none⟩) zs.length cap w)
  have hfew : decide ((zs.length : Int) ≤ 20000) = true := decide_eq_true (by omega)
  have CA := Lib.hid (fun w hi => nat_ok W H m c0 c1 c2 c3 u v c (some ⟨pb, po, none⟩) zs cap h hm hcol w hi)
  have CK := Lib.hid (fun w => rcheck28 W H c m c0 c1 c2 c3 u v (some ⟨pb, po, none⟩) zs.length cap w)
  rw [h] at CK
  have CR := Lib.hid (fun w hi => r28at W H c m c0 c1 c2 c3 u v (.slice (some ⟨pb, po, none⟩) zs.length cap) zs w hi hm h hcol)
  have CS := Lib.hid (fun u v zs w hu hv => rsame u v zs w hu hv)
  have CO := Lib.hid (fun w hlt hp => law_one W H m c0 c1 c2 c3 c pb po cap zs.length zs rfl hn hc hcn hcap hcap' w hlt hp)
  have CL := Lib.hid (fun w => near_alive w)
  have HE := Lib.hid (fun ho => one_pix (x := X28 u) (y := X28 v) (cl := [c0, c1, c2, c3]) h0 rfl ho)
  have hi := Lib.hid hi
  have HP := Lib.hid (And.intro hlt hp)
  have hcc : c ≤ cap := by omega
  have c0' : (0 : Int) ≤ (c : Int) := by omega
  have c1' : (c : Int) ≤ (cap : Int) := by omega
  have HT : Hid (∀ w9, Below w.heap.size w w9 → BS w9 (.slice (some ⟨pb, po, none⟩) c cap) (zs.take c)) := fun w9 hb => by
    have hl : (zs.take c).length = c := by rw [List.length_take]; omega
    refine ⟨some ⟨pb, po, none⟩, cap, by rw [hl], by rw [hl]; omega, hcap', fun z hz => hi.out.ib.all z (List.mem_of_mem_take hz), fun _ => ⟨pb, po, rfl, Nat.lt_of_lt_of_le hlt hb.size, fun i hi2 => ?_⟩⟩
    rw [hl] at hi2
    rw [hb.cell (p := ⟨pb, po + i, none⟩) hlt, hp i (by omega)]
    simp [List.getD, List.getElem?_take, hi2]
  generalize hL : pixL W H c m (X28 u) (X28 v) [c0, c1, c2, c3] zs = L at *
  have hlc := Lib.hid (show L.length = c by omega)
  have HB := Lib.hid hbyte
  clear h h0 hm hcol hC hW1 hH1 q0 q1 hnn hlen hbyte hcap hcap' hlt hp hn hL
  go_enter Try.func6, Try.ntmps6
  go_wp2_with fail
  have BB := start3 w #[.int .i64 W, .int .i64 H, .int .i64 c, .slice (some ⟨pb, po, none⟩) zs.length cap] IT #[.int .i64 m, .int .u8 c0, .int .u8 c1, .int .u8 c2, .int .u8 c3] RT #[.int .i64 u, .int .i64 v] A2T
  obtain ⟨BB, hsz, r_i, r_b, r_p⟩ := BB
  generalize (((w.alloc (.cells #[.int .i64 W, .int .i64 H, .int .i64 c, .slice (some ⟨pb, po, none⟩) zs.length cap] IT)).alloc (.cells #[.int .i64 m, .int .u8 c0, .int .u8 c1, .int .u8 c2, .int .u8 c3] RT)).alloc (.cells #[.int .i64 u, .int .i64 v] A2T)) = w0 at *
  replace BB := Lib.hid BB
  replace r_i := Lib.hid r_i
  replace r_b := Lib.hid r_b
  replace r_p := Lib.hid r_p
  clear hsz
  refine (CF.out _).mono ?_
  rintro e w1 ⟨rfl, hb⟩
  replace r_i := Lib.hid (r_i.out.keep hb)
  replace r_b := Lib.hid (r_b.out.keep hb)
  replace r_p := Lib.hid (r_p.out.keep hb)
  replace BB := Lib.hid (below_next BB.out hb)
  clear hb
  rw [hfew]
  have h_m := Lib.hid (hi.out.below BB.out)
  obtain ⟨c_p0, c_p1, f_p0, f_p1⟩ := reads2 r_p.out
  have l_p := r_p.out.lt
  obtain ⟨c_i0, c_i1, c_i2, c_i3, f_i0, f_i1, f_i2, f_i3⟩ := reads4 r_i.out
  have l_i := r_i.out.lt
  obtain ⟨c_b0, c_b1, c_b2, c_b3, c_b4, f_b0, f_b1, f_b2, f_b3, f_b4⟩ := reads5 r_b.out
  have l_b := r_b.out.lt
  go_wp2_with fail
  refine (CA.out _ h_m.out).mono ?_
  rintro e w2 ⟨g, rfl, hb, hr⟩
  clear c_p0 c_p1 f_p0 f_p1 l_p c_i0 c_i1 c_i2 c_i3 f_i0 f_i1 f_i2 f_i3 l_i c_b0 c_b1 c_b2 c_b3 c_b4 f_b0 f_b1 f_b2 f_b3 f_b4 l_b
  replace r_i := Lib.hid (r_i.out.keep hb)
  replace r_b := Lib.hid (r_b.out.keep hb)
  replace r_p := Lib.hid (r_p.out.keep hb)
  replace h_m := Lib.hid (IMG.below h_m.out hb)
  replace BB := Lib.hid (below_next BB.out hb)
  clear hb
  have h_r := Lib.hid (show BS w2 (.slice (some ⟨g, 0, none⟩) c c) L from by have := hr.bs HB.out (by have := hlc.out; omega); rw [hlc.out] at this; exact this)
  obtain ⟨c_p0, c_p1, f_p0, f_p1⟩ := reads2 r_p.out
  have l_p := r_p.out.lt
  obtain ⟨c_i0, c_i1, c_i2, c_i3, f_i0, f_i1, f_i2, f_i3⟩ := reads4 r_i.out
  have l_i := r_i.out.lt
  obtain ⟨c_b0, c_b1, c_b2, c_b3, c_b4, f_b0, f_b1, f_b2, f_b3, f_b4⟩ := reads5 r_b.out
  have l_b := r_b.out.lt
  go_wp2_with fail
  refine (CK.out _).mono ?_
  rintro e w3 ⟨rfl, hb⟩
  clear c_p0 c_p1 f_p0 f_p1 l_p c_i0 c_i1 c_i2 c_i3 f_i0 f_i1 f_i2 f_i3 l_i c_b0 c_b1 c_b2 c_b3 c_b4 f_b0 f_b1 f_b2 f_b3 f_b4 l_b
  replace r_i := Lib.hid (r_i.out.keep hb)
  replace r_b := Lib.hid (r_b.out.keep hb)
  replace r_p := Lib.hid (r_p.out.keep hb)
  replace h_m := Lib.hid (IMG.below h_m.out hb)
  replace h_r := Lib.hid (BS.below h_r.out hb)
  replace BB := Lib.hid (below_next BB.out hb)
  clear hb
  obtain ⟨c_p0, c_p1, f_p0, f_p1⟩ := reads2 r_p.out
  have l_p := r_p.out.lt
  obtain ⟨c_i0, c_i1, c_i2, c_i3, f_i0, f_i1, f_i2, f_i3⟩ := reads4 r_i.out
  have l_i := r_i.out.lt
  obtain ⟨c_b0, c_b1, c_b2, c_b3, c_b4, f_b0, f_b1, f_b2, f_b3, f_b4⟩ := reads5 r_b.out
  have l_b := r_b.out.lt
  go_wp2_with fail
  refine (CR.out _ h_m.out).mono ?_
  rintro e w4 ⟨r, rfl, hb, hs⟩
  clear c_p0 c_p1 f_p0 f_p1 l_p c_i0 c_i1 c_i2 c_i3 f_i0 f_i1 f_i2 f_i3 l_i c_b0 c_b1 c_b2 c_b3 c_b4 f_b0 f_b1 f_b2 f_b3 f_b4 l_b
  replace r_i := Lib.hid (r_i.out.keep hb)
  replace r_b := Lib.hid (r_b.out.keep hb)
  replace r_p := Lib.hid (r_p.out.keep hb)
  replace h_m := Lib.hid (IMG.below h_m.out hb)
  replace h_r := Lib.hid (BS.below h_r.out hb)
  replace BB := Lib.hid (below_next BB.out hb)
  clear hb
  have h_s := Lib.hid hs
  clear hs
  obtain ⟨A', cap', er⟩ := h_s.out.form
  rw [hlc.out] at er
  subst er
  go_wp2_with fail
  refine (CS.out _ _ _ _ h_r.out h_s.out).mono ?_
  rintro e w9 ⟨rfl, rfl⟩
  obtain ⟨c_i0, c_i1, c_i2, c_i3, f_i0, f_i1, f_i2, f_i3⟩ := reads4 r_i.out
  have l_i := r_i.out.lt
  obtain ⟨c_b0, c_b1, c_b2, c_b3, c_b4, f_b0, f_b1, f_b2, f_b3, f_b4⟩ := reads5 r_b.out
  have l_b := r_b.out.lt
  go_wp2_with fail
  refine (CO.out _ (Nat.lt_of_lt_of_le HP.out.1 BB.out.size) (fun i hi2 => (BB.out.cell (p := ⟨pb, po + i, none⟩) HP.out.1).trans (HP.out.2 i hi2))).mono ?_
  rintro e w5 ⟨o, rfl, ho, hb⟩
  clear c_i0 c_i1 c_i2 c_i3 f_i0 f_i1 f_i2 f_i3 l_i c_b0 c_b1 c_b2 c_b3 c_b4 f_b0 f_b1 f_b2 f_b3 f_b4 l_b
  replace r_i := Lib.hid (r_i.out.keep hb)
  replace r_b := Lib.hid (r_b.out.keep hb)
  replace r_p := Lib.hid (r_p.out.keep hb)
  replace h_m := Lib.hid (IMG.below h_m.out hb)
  replace h_r := Lib.hid (BS.below h_r.out hb)
  replace h_s := Lib.hid (BS.below h_s.out hb)
  replace BB := Lib.hid (below_next BB.out hb)
  clear hb
  cases o with
  | false =>
    go_wp2_with fail
    refine (CL.out _).mono ?_
    rintro e w9 ⟨rfl, rfl⟩
    go_wp2_with fail
    go_ret
    exact ⟨rfl, BB.out⟩
  | true =>
    have e := HE.out (ho rfl)
    rw [e] at h_r
    obtain ⟨c_i0, c_i1, c_i2, c_i3, f_i0, f_i1, f_i2, f_i3⟩ := reads4 r_i.out
    have l_i := r_i.out.lt
    go_wp2_with fail
    refine (CS.out _ _ _ _ h_r.out (HT.out _ BB.out)).mono ?_
    rintro e w9 ⟨rfl, rfl⟩
    go_wp2_with fail
    refine (CL.out _).mono ?_
    rintro e w9 ⟨rfl, rfl⟩
    go_wp2_with fail
    go_ret
    exact ⟨rfl, BB.out⟩

theorem nearAt_any (W H C m c0 c1 c2 c3 u v : Int) (s : Value) (zs : List Int) (hm : I64 m) (hcol : ∀ z ∈ [c0, c1, c2, c3], 0 ≤ z ∧ z ≤ 255) (w : World) (hi : IMG w s W H C zs) :
    Calls Try.prog 6 #[imv W H C s, brv m c0 c1 c2 c3, .agg #[.int .i64 u, .int .i64 v]] w fun e w' => e = .returned (.bool true) ∧ Below w.heap.size w w' := by
  obtain ⟨A, cap, e⟩ := hi.ib.form
  subst e
  by_cases hn : zs.length ≤ 20000
  · by_cases h : nrC W H C m u v zs.length = 0
    · have h0 : ibC W H C m zs.length = 0 := by
        unfold nrC at h
        split at h
        · assumption
        · exact absurd h ‹_›
      obtain ⟨-, -, hC', hW1, hH1, q0, q1, hnn⟩ := ibC_zero h0
      obtain ⟨c, rfl⟩ : ∃ c : Nat, C = (c : Int) := ⟨C.toNat, by omega⟩
      have hne : zs ≠ [] := by
        rintro rfl
        simp at hnn
        generalize W * H = p at *
        rcases hC' with e | e | e <;> rw [e] at hnn <;> omega
      obtain ⟨b, off, cap2, e, k1, k2, k3, k4⟩ := hi.ib.some hne
      simp only [Value.slice.injEq] at e
      obtain ⟨rfl, -, rfl⟩ := e
      exact nearAt_ok W H m c0 c1 c2 c3 u v c b off cap zs hn hm h hcol k1 k2 w hi k3 k4
    · exact nearAt_wrong W H C m c0 c1 c2 c3 u v A _ cap hn h w
  · exact nearAt_many W H C m c0 c1 c2 c3 u v A _ cap (by omega) w

end Go.Proofs.Ytnklbnphiokpiaa
