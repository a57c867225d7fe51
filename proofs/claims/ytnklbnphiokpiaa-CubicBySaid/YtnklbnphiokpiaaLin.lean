/- Contracts of linear: in, a channel of what stands between four pixels. | Contracts of linear.look, By, At: what stands between the pixels of an image. | Contracts of linear.By and At. | Contracts of linear.At, and of law 29's alive. -/
import Derived.Test.YtnklbnphiokpiaaNr
import Derived.Test.YtnklbnphiokpiaaWeight
import Derived.Test.YtnklbnphiokpiaaRegG
set_option linter.unusedVariables false
set_option linter.unusedSimpArgs false
namespace Go.Proofs.Ytnklbnphiokpiaa
open Go.RowKit
theorem AtB.set_n {w : World} {g : Nat} {cs : Array Value} {T : TypeId} (h : AtB w g cs T) (o : Nat) (u : Value) : AtB (w.setCell ⟨g, o, none⟩ u) g (cs.setIfInBounds o u) T := heap_set h.heap u (o := o)
theorem lin_in (x : Int) (w : World) :
    Calls Try.prog 87 #[.int .i64 x] w fun e w' => e = .returned (.bool (inB x 70368744177664)) ∧ w = w' := by
  by_cases h1 : -70368744177664 ≤ x
  · by_cases h2 : x ≤ 70368744177664
    · go_enter Try.func87, Try.ntmps87
      go_wp2
      go_ret
      exact ⟨ret_bool (inB_t h1 h2).symm, rfl⟩
    · go_enter Try.func87, Try.ntmps87
      go_wp2
      go_ret
      exact ⟨ret_bool (inB_f (by omega)).symm, rfl⟩
  · go_enter Try.func87, Try.ntmps87
    go_wp2
    go_ret
    exact ⟨ret_bool (inB_f (by omega)).symm, rfl⟩
theorem cub_in (x : Int) (w : World) :
    Calls Try.prog 82 #[.int .i64 x] w fun e w' => e = .returned (.bool (inB x 70368744177664)) ∧ w = w' := by
  by_cases h1 : -70368744177664 ≤ x
  · by_cases h2 : x ≤ 70368744177664
    · go_enter Try.func82, Try.ntmps82
      go_wp2
      go_ret
      exact ⟨ret_bool (inB_t h1 h2).symm, rfl⟩
    · go_enter Try.func82, Try.ntmps82
      go_wp2
      go_ret
      exact ⟨ret_bool (inB_f (by omega)).symm, rfl⟩
  · go_enter Try.func82, Try.ntmps82
    go_wp2
    go_ret
    exact ⟨ret_bool (inB_f (by omega)).symm, rfl⟩

theorem rows_at0 (s0 s1 s2 s3 : Value) (w : World) : (Instr.index 106 (.agg #[s0, s1, s2, s3]) (.int .i64 0)).run Try.prog w = .ok s0 w := by kernel_rfl
theorem rows_at1 (s0 s1 s2 s3 : Value) (w : World) : (Instr.index 106 (.agg #[s0, s1, s2, s3]) (.int .i64 1)).run Try.prog w = .ok s1 w := by kernel_rfl
theorem rows_at2 (s0 s1 s2 s3 : Value) (w : World) : (Instr.index 106 (.agg #[s0, s1, s2, s3]) (.int .i64 2)).run Try.prog w = .ok s2 w := by kernel_rfl
theorem rows_at3 (s0 s1 s2 s3 : Value) (w : World) : (Instr.index 106 (.agg #[s0, s1, s2, s3]) (.int .i64 3)).run Try.prog w = .ok s3 w := by kernel_rfl
abbrev V4T : TypeId := 56
abbrev ART : TypeId := 116
/-- Four numbers, the first j of them told. -/
def upto (a : Int) (i j : Nat) : Int := if i < j then a else 0
theorem upto_t {a : Int} {i j : Nat} (h : i < j) : upto a i j = a := if_pos h
theorem upto_f {a : Int} {i j : Nat} (h : ¬ i < j) : upto a i j = 0 := if_neg h
theorem upto_same {a : Int} {i j j' : Nat} (h : i < j ↔ i < j') : upto a i j = upto a i j' := by unfold upto; by_cases h1 : i < j <;> simp [h1, h.1, ← h]
abbrev vBox (a0 a1 a2 a3 : Int) (j : Nat) : Array Value := #[.int .u8 (upto a0 0 j), .int .u8 (upto a1 1 j), .int .u8 (upto a2 2 j), .int .u8 (upto a3 3 j)]
theorem BS.cell_at {w : World} {A : Option Addr} {n cap : Nat} {zs : List Int} (h : BS w (.slice A n cap) zs) (hn : n = zs.length) {k : Nat} (hk : k < n) : ∃ b off, A = Option.some ⟨b, off, Option.none⟩ ∧ b < w.heap.size ∧ w.cell? ⟨b, off + k, Option.none⟩ = Option.some (Value.int .u8 (zs.getD k 0)) := by
  subst hn
  obtain ⟨b, off, cap', e, h1, h2, h3, h4⟩ := h.some (fun e => by rw [e] at hk; simp at hk)
  simp only [Value.slice.injEq] at e
  exact ⟨b, off, e.1, h3, h4 k hk⟩
theorem getD_out {zs : List Int} {k : Nat} (h : ¬ k < zs.length) : zs.getD k 0 = 0 := by
  rw [List.getD_eq_getElem?_getD, List.getElem?_eq_none (by omega)]; rfl

theorem mix_below {u v : Value} {z : Value} {w : World} (h : Calls Try.prog 18 #[u, v] w fun e w' => e = .returned z ∧ ∃ k, w' = w.drewN k) : Calls Try.prog 18 #[u, v] w fun e w' => e = .returned z ∧ Below w.heap.size w w' := by
  refine h.mono ?_
  rintro e w' ⟨rfl, k, rfl⟩
  exact ⟨rfl, below_drawn (Below.refl _ _) k⟩
def f4' (a b c d : Int) (i : Nat) : Int := [a, b, c, d].getD i 0
theorem lmix (ga gv : Nat) (s0 s1 s2 s3 : Value) (x0 x1 x2 x3 a0 a1 a2 a3 : Int) (b0 : 0 ≤ a0 ∧ a0 ≤ 255) (b1 : 0 ≤ a1 ∧ a1 ≤ 255) (b2 : 0 ≤ a2 ∧ a2 ≤ 255) (b3 : 0 ≤ a3 ∧ a3 ≤ 255) (hd : -9223372036854775808 ≤ x0 * a0 + x1 * a1 + x2 * a2 + x3 * a3 ∧ x0 * a0 + x1 * a1 + x2 * a2 + x3 * a3 ≤ 9223372036854775807) (w : World)
    (ha : AtB w ga #[s0, s1, s2, s3, .int .i64 x0, .int .i64 x1, .int .i64 x2, .int .i64 x3] ART) (hv : AtB w gv #[.int .u8 a0, .int .u8 a1, .int .u8 a2, .int .u8 a3] V4T) :
    Calls Try.prog 18 #[.slice (some ⟨ga, 4, none⟩) 4 4, .slice (some ⟨gv, 0, none⟩) 4 4] w fun e w' => e = .returned (.int .i64 (x0 * a0 + x1 * a1 + x2 * a2 + x3 * a3)) ∧ Below w.heap.size w w' := by
  have H := wmix_some ga 4 4 gv 0 4 4 4 (f4' x0 x1 x2 x3) (f4' a0 a1 a2 a3) (by omega) (by omega) (by omega) (by omega) w
    (fun i hi => by
      match i, hi with
      | 0, _ => exact ha.cell 4 rfl
      | 1, _ => exact ha.cell 5 rfl
      | 2, _ => exact ha.cell 6 rfl
      | 3, _ => exact ha.cell 7 rfl)
    (fun i hi => by
      match i, hi with
      | 0, _ => exact hv.cell 0 rfl
      | 1, _ => exact hv.cell 1 rfl
      | 2, _ => exact hv.cell 2 rfl
      | 3, _ => exact hv.cell 3 rfl)
    (fun i => by
      match i with
      | 0 => exact b0
      | 1 => exact b1
      | 2 => exact b2
      | 3 => exact b3
      | n + 4 => simp [f4'])
  have e : wrap64 (dotN (f4' x0 x1 x2 x3) (f4' a0 a1 a2 a3) (min 4 4)) = x0 * a0 + x1 * a1 + x2 * a2 + x3 * a3 := by
    show wrap64 (0 + x0 * a0 + x1 * a1 + x2 * a2 + x3 * a3) = _
    rw [Int.zero_add]; exact wr_in hd.1 hd.2
  rw [e] at H
  exact mix_below H
theorem four_in {x0 x1 x2 x3 a0 a1 a2 a3 : Int} (hw : (0 ≤ x0 ∧ 0 ≤ x1 ∧ 0 ≤ x2 ∧ 0 ≤ x3) ∧ x0 + x1 + x2 + x3 = 4294967296) (b0 : 0 ≤ a0 ∧ a0 ≤ 255) (b1 : 0 ≤ a1 ∧ a1 ≤ 255) (b2 : 0 ≤ a2 ∧ a2 ≤ 255) (b3 : 0 ≤ a3 ∧ a3 ≤ 255) :
    0 ≤ x0 * a0 + x1 * a1 + x2 * a2 + x3 * a3 ∧ x0 * a0 + x1 * a1 + x2 * a2 + x3 * a3 ≤ 1095216660480 := by
  have l0 := Int.mul_nonneg hw.1.1 b0.1
  have l1 := Int.mul_nonneg hw.1.2.1 b1.1
  have l2 := Int.mul_nonneg hw.1.2.2.1 b2.1
  have l3 := Int.mul_nonneg hw.1.2.2.2 b3.1
  have u0 := Int.mul_le_mul_of_nonneg_left b0.2 hw.1.1
  have u1 := Int.mul_le_mul_of_nonneg_left b1.2 hw.1.2.1
  have u2 := Int.mul_le_mul_of_nonneg_left b2.2 hw.1.2.2.1
  have u3 := Int.mul_le_mul_of_nonneg_left b3.2 hw.1.2.2.2
  omega
set_option maxRecDepth 100000 in
set_option maxHeartbeats 8000000 in
theorem lchannel (A0 A1 A2 A3 : Option Addr) (n0 n1 n2 n3 p0 p1 p2 p3 k : Nat) (L0 L1 L2 L3 : List Int) (w0' w1' w2' w3' : Int) (W0 : World)
    (h0 : BS W0 (.slice A0 n0 p0) L0) (h1 : BS W0 (.slice A1 n1 p1) L1) (h2 : BS W0 (.slice A2 n2 p2) L2) (h3 : BS W0 (.slice A3 n3 p3) L3) (e0 : n0 = L0.length) (e1 : n1 = L1.length) (e2 : n2 = L2.length) (e3 : n3 = L3.length)
    (hw : (0 ≤ w0' ∧ 0 ≤ w1' ∧ 0 ≤ w2' ∧ 0 ≤ w3') ∧ w0' + w1' + w2' + w3' = 4294967296) (w : World) (hW : Below W0.heap.size W0 w) (hk1 : k ≤ 1000) :
    Calls Try.prog 89 #[.agg #[.slice A0 n0 p0, .slice A1 n1 p1, .slice A2 n2 p2, .slice A3 n3 p3, .int .i64 w0', .int .i64 w1', .int .i64 w2', .int .i64 w3'], .int .i64 (k : Int)] w fun e w' =>
      e = .returned (.int .u8 (byteI (w0' * L0.getD k 0 + w1' * L1.getD k 0 + w2' * L2.getD k 0 + w3' * L3.getD k 0) 4294967296)) ∧ Below w.heap.size w w' := by
  have b0 := h0.bytes k
  have b1 := h1.bytes k
  have b2 := h2.bytes k
  have b3 := h3.bytes k
  have H0 := Lib.hid (h0.below hW)
  have H1 := Lib.hid (h1.below hW)
  have H2 := Lib.hid (h2.below hW)
  have H3 := Lib.hid (h3.below hW)
  have hN0 := Lib.hid e0
  have hN1 := Lib.hid e1
  have hN2 := Lib.hid e2
  have hN3 := Lib.hid e3
  clear h0 h1 h2 h3 e0 e1 e2 e3 hW
  generalize hA0 : L0.getD k 0 = a0 at *
  generalize hA1 : L1.getD k 0 = a1 at *
  generalize hA2 : L2.getD k 0 = a2 at *
  generalize hA3 : L3.getD k 0 = a3 at *
  replace hA0 := Lib.hid hA0; replace hA1 := Lib.hid hA1; replace hA2 := Lib.hid hA2; replace hA3 := Lib.hid hA3
  have J0 := rows_at0
  have J1 := rows_at1
  have J2 := rows_at2
  have J3 := rows_at3
  have hF := four_in hw b0 b1 b2 b3
  have CM := Lib.hid (fun ga gv w ha hv => lmix ga gv (.slice A0 n0 p0) (.slice A1 n1 p1) (.slice A2 n2 p2) (.slice A3 n3 p3) w0' w1' w2' w3' a0 a1 a2 a3 b0 b1 b2 b3 ⟨by omega, by omega⟩ w ha hv)
  have CB := Lib.hid (fun w => wbyte (w0' * a0 + w1' * a1 + w2' * a2 + w3' * a3) 4294967296 ⟨by omega, by omega⟩ ⟨by omega, by omega⟩ w)
  generalize w0' * a0 + w1' * a1 + w2' * a2 + w3' * a3 = S at *
  clear hF b0 b1 b2 b3 hw
  go_enter Try.func89, Try.ntmps89
  go_wp2_with fail
  have BB := start2 w #[.slice A0 n0 p0, .slice A1 n1 p1, .slice A2 n2 p2, .slice A3 n3 p3, .int .i64 w0', .int .i64 w1', .int .i64 w2', .int .i64 w3'] ART #[.int .u8 0, .int .u8 0, .int .u8 0, .int .u8 0] V4T
  obtain ⟨BB, hsz, r_a, r_v⟩ := BB
  generalize ((w.alloc (.cells #[.slice A0 n0 p0, .slice A1 n1 p1, .slice A2 n2 p2, .slice A3 n3 p3, .int .i64 w0', .int .i64 w1', .int .i64 w2', .int .i64 w3'] ART)).alloc (.cells #[.int .u8 0, .int .u8 0, .int .u8 0, .int .u8 0] V4T)) = w0 at *
  replace BB := Lib.hid BB
  replace r_a := Lib.hid r_a
  replace r_v := Lib.hid r_v
  clear hsz
  obtain ⟨c_a0, c_a1, c_a2, c_a3, c_a4, c_a5, c_a6, c_a7, f_a0, f_a1, f_a2, f_a3, f_a4, f_a5, f_a6, f_a7⟩ := reads8 r_a.out
  have l_a := r_a.out.lt
  go_wp2_with fail
  clear c_a0 c_a1 c_a2 c_a3 c_a4 c_a5 c_a6 c_a7 f_a0 f_a1 f_a2 f_a3 f_a4 f_a5 f_a6 f_a7 l_a
  go_loopw [6, 7, 10] (fun _ _ i wr => ∃ j : Nat, j ≤ 4 ∧ i = .int .i64 j ∧ Hid (AtB wr (w.heap.size + 1) (vBox a0 a1 a2 a3 j) V4T ∧ AtB wr w.heap.size #[.slice A0 n0 p0, .slice A1 n1 p1, .slice A2 n2 p2, .slice A3 n3 p3, .int .i64 w0', .int .i64 w1', .int .i64 w2', .int .i64 w3'] ART ∧ Below w.heap.size w wr)) (fun _ _ i _ => 4 - (intOf i).toNat)
  case atStart => exact ⟨0, by omega, rfl, ⟨by have h := r_v.out; simpa [vBox, upto] using h, r_a.out, BB.out⟩⟩
  case round =>
    clear r_v r_a BB
    obtain ⟨j, hj, rfl, hinv⟩ := hrel
    obtain ⟨r_v, r_a, BB⟩ := hinv.out
    replace r_v := Lib.hid r_v; replace r_a := Lib.hid r_a; replace BB := Lib.hid BB
    clear hinv
    have hj5 : j = 0 ∨ j = 1 ∨ j = 2 ∨ j = 3 ∨ j = 4 := by omega
    rcases hj5 with rfl | rfl | rfl | rfl | rfl
    · skip
      by_cases hk : k < n0
      · obtain ⟨b, off, rfl, hlt, hc⟩ := H0.out.cell_at hN0.out hk
        have cz := (BB.out.cell (p := ⟨b, off + k, none⟩) hlt).trans hc
        have k0 : (0 : Int) ≤ (k : Int) := by omega
        have k1 : (k : Int) < (n0 : Int) := by omega
        have hE := Lib.hid (show L0.getD k 0 = a0 from hA0.out)
        rw [hE.out] at cz
        clear hc
        obtain ⟨c_v0, c_v1, c_v2, c_v3, f_v0, f_v1, f_v2, f_v3⟩ := reads4 r_v.out
        have l_v := r_v.out.lt
        go_wp2_with fail
        clear c_v0 c_v1 c_v2 c_v3 f_v0 f_v1 f_v2 f_v3 l_v
        replace r_a := Lib.hid (r_a.out.far (p := w.heap.size + 1) (by omega) 0 (.int .u8 a0))
        replace r_v := Lib.hid (show AtB (wr.setCell ⟨w.heap.size + 1, 0, none⟩ (.int .u8 a0)) (w.heap.size + 1) #[.int .u8 a0, .int .u8 (upto a1 1 0), .int .u8 (upto a2 2 0), .int .u8 (upto a3 3 0)] V4T from by have k := (r_v.out.set_n 0 (.int .u8 a0)); simpa using k)
        replace BB := Lib.hid (below_set BB.out (b := w.heap.size + 1) (o := 0) (by omega) (.int .u8 a0))
        generalize (wr.setCell ⟨w.heap.size + 1, 0, none⟩ (.int .u8 a0)) = w1 at *
        go_roundw
        case rel => exact ⟨0 + 1, by omega, rfl, ⟨by have h := r_v.out; simpa [vBox, upto] using h, r_a.out, BB.out⟩⟩
        case measure => simp [intOf]
      · have hk2 : ¬ (k : Int) < (n0 : Int) := by omega
        have h0 : a0 = 0 := by rw [← hA0.out]; exact getD_out (by rw [← hN0.out]; exact hk)
        obtain ⟨c_v0, c_v1, c_v2, c_v3, f_v0, f_v1, f_v2, f_v3⟩ := reads4 r_v.out
        have l_v := r_v.out.lt
        go_wp2_with fail
        go_roundw
        case rel => exact ⟨0 + 1, by omega, rfl, ⟨by have h := r_v.out; simpa [vBox, upto, h0] using h, r_a.out, BB.out⟩⟩
        case measure => simp [intOf]
    · skip
      by_cases hk : k < n1
      · obtain ⟨b, off, rfl, hlt, hc⟩ := H1.out.cell_at hN1.out hk
        have cz := (BB.out.cell (p := ⟨b, off + k, none⟩) hlt).trans hc
        have k0 : (0 : Int) ≤ (k : Int) := by omega
        have k1 : (k : Int) < (n1 : Int) := by omega
        have hE := Lib.hid (show L1.getD k 0 = a1 from hA1.out)
        rw [hE.out] at cz
        clear hc
        obtain ⟨c_v0, c_v1, c_v2, c_v3, f_v0, f_v1, f_v2, f_v3⟩ := reads4 r_v.out
        have l_v := r_v.out.lt
        go_wp2_with fail
        clear c_v0 c_v1 c_v2 c_v3 f_v0 f_v1 f_v2 f_v3 l_v
        replace r_a := Lib.hid (r_a.out.far (p := w.heap.size + 1) (by omega) 1 (.int .u8 a1))
        replace r_v := Lib.hid (show AtB (wr.setCell ⟨w.heap.size + 1, 1, none⟩ (.int .u8 a1)) (w.heap.size + 1) #[.int .u8 (upto a0 0 1), .int .u8 a1, .int .u8 (upto a2 2 1), .int .u8 (upto a3 3 1)] V4T from by have k := (r_v.out.set_n 1 (.int .u8 a1)); simpa using k)
        replace BB := Lib.hid (below_set BB.out (b := w.heap.size + 1) (o := 1) (by omega) (.int .u8 a1))
        generalize (wr.setCell ⟨w.heap.size + 1, 1, none⟩ (.int .u8 a1)) = w1 at *
        go_roundw
        case rel => exact ⟨1 + 1, by omega, rfl, ⟨by have h := r_v.out; simpa [vBox, upto] using h, r_a.out, BB.out⟩⟩
        case measure => simp [intOf]
      · have hk2 : ¬ (k : Int) < (n1 : Int) := by omega
        have h0 : a1 = 0 := by rw [← hA1.out]; exact getD_out (by rw [← hN1.out]; exact hk)
        obtain ⟨c_v0, c_v1, c_v2, c_v3, f_v0, f_v1, f_v2, f_v3⟩ := reads4 r_v.out
        have l_v := r_v.out.lt
        go_wp2_with fail
        go_roundw
        case rel => exact ⟨1 + 1, by omega, rfl, ⟨by have h := r_v.out; simpa [vBox, upto, h0] using h, r_a.out, BB.out⟩⟩
        case measure => simp [intOf]
    · skip
      by_cases hk : k < n2
      · obtain ⟨b, off, rfl, hlt, hc⟩ := H2.out.cell_at hN2.out hk
        have cz := (BB.out.cell (p := ⟨b, off + k, none⟩) hlt).trans hc
        have k0 : (0 : Int) ≤ (k : Int) := by omega
        have k1 : (k : Int) < (n2 : Int) := by omega
        have hE := Lib.hid (show L2.getD k 0 = a2 from hA2.out)
        rw [hE.out] at cz
        clear hc
        obtain ⟨c_v0, c_v1, c_v2, c_v3, f_v0, f_v1, f_v2, f_v3⟩ := reads4 r_v.out
        have l_v := r_v.out.lt
        go_wp2_with fail
        clear c_v0 c_v1 c_v2 c_v3 f_v0 f_v1 f_v2 f_v3 l_v
        replace r_a := Lib.hid (r_a.out.far (p := w.heap.size + 1) (by omega) 2 (.int .u8 a2))
        replace r_v := Lib.hid (show AtB (wr.setCell ⟨w.heap.size + 1, 2, none⟩ (.int .u8 a2)) (w.heap.size + 1) #[.int .u8 (upto a0 0 2), .int .u8 (upto a1 1 2), .int .u8 a2, .int .u8 (upto a3 3 2)] V4T from by have k := (r_v.out.set_n 2 (.int .u8 a2)); simpa using k)
        replace BB := Lib.hid (below_set BB.out (b := w.heap.size + 1) (o := 2) (by omega) (.int .u8 a2))
        generalize (wr.setCell ⟨w.heap.size + 1, 2, none⟩ (.int .u8 a2)) = w1 at *
        go_roundw
        case rel => exact ⟨2 + 1, by omega, rfl, ⟨by have h := r_v.out; simpa [vBox, upto] using h, r_a.out, BB.out⟩⟩
        case measure => simp [intOf]
      · have hk2 : ¬ (k : Int) < (n2 : Int) := by omega
        have h0 : a2 = 0 := by rw [← hA2.out]; exact getD_out (by rw [← hN2.out]; exact hk)
        obtain ⟨c_v0, c_v1, c_v2, c_v3, f_v0, f_v1, f_v2, f_v3⟩ := reads4 r_v.out
        have l_v := r_v.out.lt
        go_wp2_with fail
        go_roundw
        case rel => exact ⟨2 + 1, by omega, rfl, ⟨by have h := r_v.out; simpa [vBox, upto, h0] using h, r_a.out, BB.out⟩⟩
        case measure => simp [intOf]
    · skip
      by_cases hk : k < n3
      · obtain ⟨b, off, rfl, hlt, hc⟩ := H3.out.cell_at hN3.out hk
        have cz := (BB.out.cell (p := ⟨b, off + k, none⟩) hlt).trans hc
        have k0 : (0 : Int) ≤ (k : Int) := by omega
        have k1 : (k : Int) < (n3 : Int) := by omega
        have hE := Lib.hid (show L3.getD k 0 = a3 from hA3.out)
        rw [hE.out] at cz
        clear hc
        obtain ⟨c_v0, c_v1, c_v2, c_v3, f_v0, f_v1, f_v2, f_v3⟩ := reads4 r_v.out
        have l_v := r_v.out.lt
        go_wp2_with fail
        clear c_v0 c_v1 c_v2 c_v3 f_v0 f_v1 f_v2 f_v3 l_v
        replace r_a := Lib.hid (r_a.out.far (p := w.heap.size + 1) (by omega) 3 (.int .u8 a3))
        replace r_v := Lib.hid (show AtB (wr.setCell ⟨w.heap.size + 1, 3, none⟩ (.int .u8 a3)) (w.heap.size + 1) #[.int .u8 (upto a0 0 3), .int .u8 (upto a1 1 3), .int .u8 (upto a2 2 3), .int .u8 a3] V4T from by have k := (r_v.out.set_n 3 (.int .u8 a3)); simpa using k)
        replace BB := Lib.hid (below_set BB.out (b := w.heap.size + 1) (o := 3) (by omega) (.int .u8 a3))
        generalize (wr.setCell ⟨w.heap.size + 1, 3, none⟩ (.int .u8 a3)) = w1 at *
        go_roundw
        case rel => exact ⟨3 + 1, by omega, rfl, ⟨by have h := r_v.out; simpa [vBox, upto] using h, r_a.out, BB.out⟩⟩
        case measure => simp [intOf]
      · have hk2 : ¬ (k : Int) < (n3 : Int) := by omega
        have h0 : a3 = 0 := by rw [← hA3.out]; exact getD_out (by rw [← hN3.out]; exact hk)
        obtain ⟨c_v0, c_v1, c_v2, c_v3, f_v0, f_v1, f_v2, f_v3⟩ := reads4 r_v.out
        have l_v := r_v.out.lt
        go_wp2_with fail
        go_roundw
        case rel => exact ⟨3 + 1, by omega, rfl, ⟨by have h := r_v.out; simpa [vBox, upto, h0] using h, r_a.out, BB.out⟩⟩
        case measure => simp [intOf]
    · replace r_v := Lib.hid (show AtB wr (w.heap.size + 1) #[.int .u8 a0, .int .u8 a1, .int .u8 a2, .int .u8 a3] V4T by have h := r_v.out; simpa [vBox, upto] using h)
      have CM2 := Lib.hid (fun w9 (h : Below wr.heap.size wr w9) => CM.out _ _ w9 (r_a.out.keep h) (r_v.out.keep h))
      go_wp2_with fail
      have KK := Lib.hid (fun (w9 : World) (h : Below wr.heap.size wr w9) => (cells4 (r_v.out.keep h) : (w9.cell? ⟨w.heap.size + 1, 0, none⟩ = some (.int .u8 a0) ∧ w9.cell? ⟨w.heap.size + 1, 1, none⟩ = some (.int .u8 a1) ∧ w9.cell? ⟨w.heap.size + 1, 2, none⟩ = some (.int .u8 a2) ∧ w9.cell? ⟨w.heap.size + 1, 3, none⟩ = some (.int .u8 a3))))
      have K0 := KK.out wr (Below.refl _ _)
      have KD := KK.out wr.drew (below_drew (Below.refl _ _))
      go_region_held3 (fun w9 => (w9.cell? ⟨w.heap.size + 1, 0, none⟩ = some (.int .u8 a0) ∧ w9.cell? ⟨w.heap.size + 1, 1, none⟩ = some (.int .u8 a1) ∧ w9.cell? ⟨w.heap.size + 1, 2, none⟩ = some (.int .u8 a2) ∧ w9.cell? ⟨w.heap.size + 1, 3, none⟩ = some (.int .u8 a3)))
          (first | with_reducible exact KD | with_reducible exact K0 | with_reducible exact K_w1 | with_reducible exact K_w2)
          (first
            | (go_at_call 18
               refine (CM2.out _ ?_).mono ?_
               · repeat (first | with_reducible exact Below.refl _ _ | with_reducible apply below_drew | with_reducible apply below_new)
               rintro e w1 ⟨rfl, hb⟩
               have B_w1 := Lib.hid (reg_next (w0 := wr) (by repeat (first | with_reducible exact Below.refl _ _ | with_reducible apply below_drew | with_reducible apply below_new)) hb)
               have K_w1 := KK.out _ B_w1.out
               clear hb)
            | (go_at_call 17
               refine (CB.out _).mono ?_
               rintro e w2 ⟨rfl, hb⟩
               have B_w2 := Lib.hid (below_next B_w1.out hb)
               have K_w2 := KK.out _ B_w2.out
               clear hb))
      clear KK K0 KD K_w1 K_w2
      replace r_a := Lib.hid (r_a.out.keep B_w2.out)
      replace r_v := Lib.hid (r_v.out.keep B_w2.out)
      replace BB := Lib.hid (below_next BB.out B_w2.out)
      clear B_w1 B_w2
      go_wp2_with fail
      go_ret
      exact ⟨rfl, BB.out⟩

end Go.Proofs.Ytnklbnphiokpiaa

set_option linter.unusedVariables false
set_option linter.unusedSimpArgs false
namespace Go.Proofs.Ytnklbnphiokpiaa
open Go.RowKit
abbrev P2T : TypeId := 22
/-- A slice that reads as bytes, and does not lie in the blocks g and r. -/
def SB (w : World) (s : Value) (L : List Int) (g r : Nat) : Prop := BS w s L ∧ ∀ a n cap, s = .slice (some a) n cap → a.block ≠ g ∧ a.block ≠ r
theorem SB.below {w w1 : World} {s : Value} {L : List Int} {g r : Nat} (h : SB w s L g r) (hb : Below w.heap.size w w1) : SB w1 s L g r := ⟨BS.below h.1 hb, h.2⟩
theorem bs_set_far {w : World} {s : Value} {L : List Int} {g : Nat} (h : BS w s L) (h2 : ∀ a n cap, s = .slice (some a) n cap → a.block ≠ g) (o : Nat) (u : Value) : BS (w.setCell ⟨g, o, none⟩ u) s L := by
  obtain ⟨A, cap, rfl, h1, h3, h5, h4⟩ := h
  refine ⟨A, cap, rfl, h1, h3, h5, fun hz => ?_⟩
  obtain ⟨b, off, rfl, hlt, hc⟩ := h4 hz
  have hne := h2 ⟨b, off, none⟩ L.length cap rfl
  refine ⟨b, off, rfl, by simpa using hlt, fun i hi => ?_⟩
  rw [← hc i hi]
  have hh := Below.heap_setCell w ⟨g, o, none⟩ u b hne
  simp only [World.cell?]
  rw [hh]
theorem SB.set {w : World} {s : Value} {L : List Int} {g r : Nat} (h : SB w s L g r) (o : Nat) (u : Value) : SB (w.setCell ⟨g, o, none⟩ u) s L g r := ⟨bs_set_far h.1 (fun a n c e => (h.2 a n c e).1) o u, h.2⟩
theorem SB.setr {w : World} {s : Value} {L : List Int} {g r : Nat} (h : SB w s L g r) (o : Nat) (u : Value) : SB (w.setCell ⟨r, o, none⟩ u) s L g r := ⟨bs_set_far h.1 (fun a n c e => (h.2 a n c e).2) o u, h.2⟩
/-- What is asked for a pixel answers with bytes, in old memory or in new one. -/
def GiveGet (w0 : World) (L : List Int) (w : World) (e : Ending) (w' : World) : Prop := ∃ A n cap, e = .returned (.slice A n cap) ∧ Below w.heap.size w w' ∧ BS w' (.slice A n cap) L ∧ ∀ a, A = some a → a.block < w0.heap.size ∨ w.heap.size ≤ a.block
theorem GiveGet.sb {w0 w w' : World} {L : List Int} {A : Option Addr} {n cap g : Nat} (h : BS w' (.slice A n cap) L) (ha : ∀ a, A = some a → a.block < w0.heap.size ∨ w.heap.size ≤ a.block) (h0 : w0.heap.size ≤ g) (h1 : g < w.heap.size) : SB w' (.slice A n cap) L g w0.heap.size := by
  refine ⟨h, fun a n' cap' e => ?_⟩
  simp only [Value.slice.injEq] at e
  have := ha a e.1
  omega
def GiveLook (L0 L1 L2 L3 : List Int) (x0 x1 x2 x3 : Int) (w : World) (e : Ending) (w' : World) : Prop :=
  ∃ A0 n0 p0 A1 n1 p1 A2 n2 p2 A3 n3 p3, e = .returned (.agg #[.slice A0 n0 p0, .slice A1 n1 p1, .slice A2 n2 p2, .slice A3 n3 p3, .int .i64 x0, .int .i64 x1, .int .i64 x2, .int .i64 x3]) ∧ Below w.heap.size w w' ∧
    BS w' (.slice A0 n0 p0) L0 ∧ BS w' (.slice A1 n1 p1) L1 ∧ BS w' (.slice A2 n2 p2) L2 ∧ BS w' (.slice A3 n3 p3) L3

set_option maxRecDepth 100000 in
set_option maxHeartbeats 16000000 in
theorem llook (cp : Value) (L0 L1 L2 L3 : List Int) (u v : Int) (hu : inB u 70368744177664 = true) (hv : inB v 70368744177664 = true) (w : World)
    (C0 : ∀ w1, Below w.heap.size w w1 → Calls Try.prog 90 #[cp, .int .i64 (u / 65536), .int .i64 (v / 65536)] w1 (GiveGet w L0 w1))
    (C1 : ∀ w1, Below w.heap.size w w1 → Calls Try.prog 90 #[cp, .int .i64 (u / 65536 + 1), .int .i64 (v / 65536)] w1 (GiveGet w L1 w1))
    (C2 : ∀ w1, Below w.heap.size w w1 → Calls Try.prog 90 #[cp, .int .i64 (u / 65536), .int .i64 (v / 65536 + 1)] w1 (GiveGet w L2 w1))
    (C3 : ∀ w1, Below w.heap.size w w1 → Calls Try.prog 90 #[cp, .int .i64 (u / 65536 + 1), .int .i64 (v / 65536 + 1)] w1 (GiveGet w L3 w1)) :
    Calls Try.prog 88 #[.func (.func 90) #[cp] #[], .int .i64 u, .int .i64 v] w
      (GiveLook L0 L1 L2 L3 ((65536 - u % 65536) * (65536 - v % 65536)) (u % 65536 * (65536 - v % 65536)) ((65536 - u % 65536) * (v % 65536)) (u % 65536 * (v % 65536)) w) := by
  obtain ⟨u0, u1⟩ := inB_iff.1 hu
  obtain ⟨v0, v1⟩ := inB_iff.1 hv
  have SU := Lib.hid (fun w => wsplit u w)
  have SV := Lib.hid (fun w => wsplit v w)
  have LU := Lib.hid (fun w => wlinear_in (u % 65536) (by omega) (by omega) w)
  have LV := Lib.hid (fun w => wlinear_in (v % 65536) (by omega) (by omega) w)
  have bi : -1073741824 ≤ u / 65536 ∧ u / 65536 ≤ 1073741824 := by omega
  have bk : -1073741824 ≤ v / 65536 ∧ v / 65536 ≤ 1073741824 := by omega
  have bf : 0 ≤ u % 65536 ∧ u % 65536 ≤ 65536 := by omega
  have bg : 0 ≤ v % 65536 ∧ v % 65536 ≤ 65536 := by omega
  clear hu hv u0 u1 v0 v1
  generalize u / 65536 = i at *
  generalize v / 65536 = k at *
  generalize u % 65536 = f at *
  generalize v % 65536 = g at *
  obtain ⟨f', hf'⟩ : ∃ f', f' = 65536 - f := ⟨_, rfl⟩
  obtain ⟨g', hg'⟩ : ∃ g', g' = 65536 - g := ⟨_, rfl⟩
  rw [← hf'] at LU ⊢
  rw [← hg'] at LV ⊢
  have m0 := mul_in (show -65536 ≤ f' ∧ f' ≤ 65536 by omega) (show -65536 ≤ g' ∧ g' ≤ 65536 by omega)
  have m1 := mul_in (show -65536 ≤ f ∧ f ≤ 65536 by omega) (show -65536 ≤ g' ∧ g' ≤ 65536 by omega)
  have m2 := mul_in (show -65536 ≤ f' ∧ f' ≤ 65536 by omega) (show -65536 ≤ g ∧ g ≤ 65536 by omega)
  have m3 := mul_in (show -65536 ≤ f ∧ f ≤ 65536 by omega) (show -65536 ≤ g ∧ g ≤ 65536 by omega)
  have e0 : IntKind.i64.wrap (f' * g') = f' * g' := iw (by omega)
  have e1 : IntKind.i64.wrap (f * g') = f * g' := iw (by omega)
  have e2 : IntKind.i64.wrap (f' * g) = f' * g := iw (by omega)
  have e3 : IntKind.i64.wrap (f * g) = f * g := iw (by omega)
  have C0 := Lib.hid C0; have C1 := Lib.hid C1; have C2 := Lib.hid C2; have C3 := Lib.hid C3
  clear hf' hg' m0 m1 m2 m3 bf bg
  have hq0 : IntKind.i64.wrap 0 = 0 := by decide
  have hq1 : IntKind.i64.wrap 1 = 1 := by decide
  go_enter Try.func88, Try.ntmps88
  go_wp2_with fail
  have BB := start1 w #[.slice none 0 0, .slice none 0 0, .slice none 0 0, .slice none 0 0, .int .i64 0, .int .i64 0, .int .i64 0, .int .i64 0] ART
  obtain ⟨BB, hsz, r_res⟩ := BB
  generalize (w.alloc (.cells #[.slice none 0 0, .slice none 0 0, .slice none 0 0, .slice none 0 0, .int .i64 0, .int .i64 0, .int .i64 0, .int .i64 0] ART)) = w0 at *
  replace BB := Lib.hid BB
  replace r_res := Lib.hid r_res
  clear hsz
  refine (SU.out _).mono ?_
  rintro e w9 ⟨rfl, rfl⟩
  go_wp2_with fail
  refine (SV.out _).mono ?_
  rintro e w9 ⟨rfl, rfl⟩
  go_wp2_with fail
  refine (LU.out _).mono ?_
  rintro e w1 ⟨rfl, hb⟩
  replace r_res := Lib.hid (r_res.out.keep hb)
  replace BB := Lib.hid (below_next BB.out hb)
  clear hb
  go_wp2_with fail
  have d_x := Lib.hid (And.intro BB.out.size (And.intro r_res.out.lt (True.intro)))
  obtain ⟨hb, r_x⟩ := laid w1 #[.int .i64 f', .int .i64 f] P2T
  replace r_res := Lib.hid (r_res.out.keep hb)
  replace BB := Lib.hid (below_next BB.out hb)
  replace r_x := Lib.hid r_x
  clear hb
  generalize w1.alloc (.cells #[.int .i64 f', .int .i64 f] P2T) = w2 at *
  generalize w1.heap.size = g_x at *
  refine (LV.out _).mono ?_
  rintro e w3 ⟨rfl, hb⟩
  replace r_res := Lib.hid (r_res.out.keep hb)
  replace r_x := Lib.hid (r_x.out.keep hb)
  replace BB := Lib.hid (below_next BB.out hb)
  clear hb
  go_upto_region 5 with fail
  have d_y := Lib.hid (And.intro BB.out.size (And.intro r_res.out.lt (And.intro r_x.out.lt (True.intro))))
  obtain ⟨hb, r_y⟩ := laid w3 #[.int .i64 g', .int .i64 g] P2T
  replace r_res := Lib.hid (r_res.out.keep hb)
  replace r_x := Lib.hid (r_x.out.keep hb)
  replace BB := Lib.hid (below_next BB.out hb)
  replace r_y := Lib.hid r_y
  clear hb
  generalize w3.alloc (.cells #[.int .i64 g', .int .i64 g] P2T) = w4 at *
  generalize w3.heap.size = g_y at *
  go_wp2_with fail
  have d_a := Lib.hid (And.intro BB.out.size (And.intro r_res.out.lt (And.intro r_x.out.lt (And.intro r_y.out.lt (True.intro)))))
  obtain ⟨hb, r_a⟩ := laid w4 #[.slice none 0 0, .slice none 0 0, .slice none 0 0, .slice none 0 0, .int .i64 0, .int .i64 0, .int .i64 0, .int .i64 0] ART
  replace r_res := Lib.hid (r_res.out.keep hb)
  replace r_x := Lib.hid (r_x.out.keep hb)
  replace r_y := Lib.hid (r_y.out.keep hb)
  replace BB := Lib.hid (below_next BB.out hb)
  replace r_a := Lib.hid r_a
  clear hb
  generalize w4.alloc (.cells #[.slice none 0 0, .slice none 0 0, .slice none 0 0, .slice none 0 0, .int .i64 0, .int .i64 0, .int .i64 0, .int .i64 0] ART) = w5 at *
  generalize w4.heap.size = g_a at *
  have hsz := Lib.hid r_a.out.lt
  refine wp_loop_rounds 5 ?_
  rw [rounds_succ]
  go_wp2_with fail
  refine (C0.out _ BB.out).mono ?_
  rintro e w6 ⟨A0, n0, p0, rfl, hb, hs, ha⟩
  replace r_res := Lib.hid (r_res.out.keep hb)
  replace r_x := Lib.hid (r_x.out.keep hb)
  replace r_y := Lib.hid (r_y.out.keep hb)
  replace r_a := Lib.hid (r_a.out.keep hb)
  replace BB := Lib.hid (below_next BB.out hb)
  clear hb
  have h_s0 := Lib.hid (GiveGet.sb (g := g_a) hs ha d_a.out.1 hsz.out)
  clear hs ha hsz
  obtain ⟨c_a0, c_a1, c_a2, c_a3, c_a4, c_a5, c_a6, c_a7, f_a0, f_a1, f_a2, f_a3, f_a4, f_a5, f_a6, f_a7⟩ := reads8 r_a.out
  have l_a := r_a.out.lt
  go_upto_region 10 with fail
  clear c_a0 c_a1 c_a2 c_a3 c_a4 c_a5 c_a6 c_a7 f_a0 f_a1 f_a2 f_a3 f_a4 f_a5 f_a6 f_a7 l_a
  replace r_res := Lib.hid (r_res.out.far (p := g_a) (by have dd_a := d_a.out; omega) 0 (.slice A0 n0 p0))
  replace r_x := Lib.hid (r_x.out.far (p := g_a) (by have dd_x := d_x.out; have dd_a := d_a.out; omega) 0 (.slice A0 n0 p0))
  replace r_y := Lib.hid (r_y.out.far (p := g_a) (by have dd_y := d_y.out; have dd_a := d_a.out; omega) 0 (.slice A0 n0 p0))
  replace r_a := Lib.hid (show AtB (w6.setCell ⟨g_a, 0, none⟩ (.slice A0 n0 p0)) (g_a) #[.slice A0 n0 p0, .slice none 0 0, .slice none 0 0, .slice none 0 0, .int .i64 0, .int .i64 0, .int .i64 0, .int .i64 0] ART from by have k := (r_a.out.set_n 0 (.slice A0 n0 p0)); simpa using k)
  replace BB := Lib.hid (below_set BB.out (b := g_a) (o := 0) (by have dd := d_a.out; omega) (.slice A0 n0 p0))
  replace h_s0 := Lib.hid (SB.set h_s0.out 0 (.slice A0 n0 p0))
  generalize (w6.setCell ⟨g_a, 0, none⟩ (.slice A0 n0 p0)) = w7 at *
  have KK := Lib.hid (fun (w9 : World) (h : Below w7.heap.size w7 w9) => (⟨cells2 (r_x.out.keep h), cells2 (r_y.out.keep h)⟩ : (w9.cell? ⟨g_x, 0, none⟩ = some (.int .i64 f') ∧ w9.cell? ⟨g_x, 1, none⟩ = some (.int .i64 f)) ∧ (w9.cell? ⟨g_y, 0, none⟩ = some (.int .i64 g') ∧ w9.cell? ⟨g_y, 1, none⟩ = some (.int .i64 g))))
  have K0 := KK.out w7 (Below.refl _ _)
  have KD := KK.out w7.drew (below_drew (Below.refl _ _))
  obtain ⟨rc_a0, rc_a1, rc_a2, rc_a3, rc_a4, rc_a5, rc_a6, rc_a7, rf_a0, rf_a1, rf_a2, rf_a3, rf_a4, rf_a5, rf_a6, rf_a7⟩ := reads8 r_a.out
  have rl_a := r_a.out.lt
  refine AnyG.begin_ (fun w9 => (w9.cell? ⟨g_x, 0, none⟩ = some (.int .i64 f') ∧ w9.cell? ⟨g_x, 1, none⟩ = some (.int .i64 f)) ∧ (w9.cell? ⟨g_y, 0, none⟩ = some (.int .i64 g') ∧ w9.cell? ⟨g_y, 1, none⟩ = some (.int .i64 g))) 12 (by kernel_rfl) ?_
  refine AnyG.take (i := 0) (v := ?_) rfl (by kernel_rfl) (by kernel_rfl) (by kernel_rfl) (fun _ _ _ h => h) (by kernel_rfl) (by kernel_rfl) (Or.inl ⟨by rfl, ?_⟩) (by assumption) ?_
  rotate_left
  · intro w9 hSw; (try dsimp only at hSw); go_simp <;> with_reducible rfl
  try simp only [Act.put, List.getElem_toArray, List.getElem_cons_zero, List.getElem_cons_succ, List.setIfInBounds_toArray, List.set_cons_zero, List.set_cons_succ]
  refine AnyG.take (i := 1) (v := ?_) rfl (by kernel_rfl) (by kernel_rfl) (by kernel_rfl) (fun _ _ _ h => h) (by kernel_rfl) (by kernel_rfl) (Or.inl ⟨by rfl, ?_⟩) (by assumption) ?_
  rotate_left
  · intro w9 hSw; (try dsimp only at hSw); go_simp <;> with_reducible rfl
  try simp only [Act.put, List.getElem_toArray, List.getElem_cons_zero, List.getElem_cons_succ, List.setIfInBounds_toArray, List.set_cons_zero, List.set_cons_succ]
  refine AnyG.take (i := 2) (v := ?_) rfl (by kernel_rfl) (by kernel_rfl) (by kernel_rfl) (fun _ _ _ h => h) (by kernel_rfl) (by kernel_rfl) (Or.inl ⟨by rfl, ?_⟩) (by assumption) ?_
  rotate_left
  · intro w9 hSw; (try dsimp only at hSw); go_simp <;> with_reducible rfl
  try simp only [Act.put, List.getElem_toArray, List.getElem_cons_zero, List.getElem_cons_succ, List.setIfInBounds_toArray, List.set_cons_zero, List.set_cons_succ]
  refine AnyG.take (i := 3) (v := ?_) rfl (by kernel_rfl) (by kernel_rfl) (by kernel_rfl) (fun _ _ _ h => h) (by kernel_rfl) (by kernel_rfl) (Or.inl ⟨by rfl, ?_⟩) (by assumption) ?_
  rotate_left
  · intro w9 hSw; (try dsimp only at hSw); go_simp <;> with_reducible rfl
  try simp only [Act.put, List.getElem_toArray, List.getElem_cons_zero, List.getElem_cons_succ, List.setIfInBounds_toArray, List.set_cons_zero, List.set_cons_succ]
  refine AnyG.take (i := 4) (v := ?_) rfl (by kernel_rfl) (by kernel_rfl) (by kernel_rfl) (fun _ _ _ h => h) (by kernel_rfl) (by kernel_rfl) (Or.inl ⟨by rfl, ?_⟩) (by assumption) ?_
  rotate_left
  · intro w9 hSw; (try dsimp only at hSw); go_simp <;> with_reducible rfl
  try simp only [Act.put, List.getElem_toArray, List.getElem_cons_zero, List.getElem_cons_succ, List.setIfInBounds_toArray, List.set_cons_zero, List.set_cons_succ]
  refine AnyG.take (i := 5) (v := ?_) rfl (by kernel_rfl) (by kernel_rfl) (by kernel_rfl) (fun _ _ _ h => h) (by kernel_rfl) (by kernel_rfl) (Or.inl ⟨by rfl, ?_⟩) (by assumption) ?_
  rotate_left
  · intro w9 hSw; (try dsimp only at hSw); go_simp <;> with_reducible rfl
  try simp only [Act.put, List.getElem_toArray, List.getElem_cons_zero, List.getElem_cons_succ, List.setIfInBounds_toArray, List.set_cons_zero, List.set_cons_succ]
  refine AnyG.take (i := 6) (v := ?_) rfl (by kernel_rfl) (by kernel_rfl) (by kernel_rfl) (fun _ _ _ h => h) (by kernel_rfl) (by kernel_rfl) (Or.inl ⟨by rfl, ?_⟩) (by assumption) ?_
  rotate_left
  · intro w9 hSw; (try dsimp only at hSw); go_simp <;> with_reducible rfl
  try simp only [Act.put, List.getElem_toArray, List.getElem_cons_zero, List.getElem_cons_succ, List.setIfInBounds_toArray, List.set_cons_zero, List.set_cons_succ]
  refine AnyG.take (i := 7) (v := ?_) rfl (by kernel_rfl) (by kernel_rfl) (by kernel_rfl) (fun _ _ _ h => h) (by kernel_rfl) (by kernel_rfl) (Or.inl ⟨by rfl, ?_⟩) (by assumption) ?_
  rotate_left
  · intro w9 hSw; (try dsimp only at hSw); go_simp <;> with_reducible rfl
  try simp only [Act.put, List.getElem_toArray, List.getElem_cons_zero, List.getElem_cons_succ, List.setIfInBounds_toArray, List.set_cons_zero, List.set_cons_succ]
  refine AnyG.take (i := 8) (v := ?_) rfl (by kernel_rfl) (by kernel_rfl) (by kernel_rfl) (fun _ _ _ h => h) (by kernel_rfl) (by kernel_rfl) (Or.inl ⟨by rfl, ?_⟩) (by assumption) ?_
  rotate_left
  · intro w9 hSw; (try dsimp only at hSw); go_simp <;> with_reducible rfl
  try simp only [Act.put, List.getElem_toArray, List.getElem_cons_zero, List.getElem_cons_succ, List.setIfInBounds_toArray, List.set_cons_zero, List.set_cons_succ]
  refine AnyG.take (i := 9) (v := ?_) rfl (by kernel_rfl) (by kernel_rfl) (by kernel_rfl) (fun _ _ _ h => h) (by kernel_rfl) (by kernel_rfl) (Or.inl ⟨by rfl, ?_⟩) (by assumption) ?_
  rotate_left
  · intro w9 hSw; (try dsimp only at hSw); go_simp <;> with_reducible rfl
  try simp only [Act.put, List.getElem_toArray, List.getElem_cons_zero, List.getElem_cons_succ, List.setIfInBounds_toArray, List.set_cons_zero, List.set_cons_succ]
  refine AnyG.take (i := 10) (v := ?_) rfl (by kernel_rfl) (by kernel_rfl) (by kernel_rfl) (fun _ _ _ h => h) (by kernel_rfl) (by kernel_rfl) (Or.inl ⟨by rfl, ?_⟩) (by assumption) ?_
  rotate_left
  · intro w9 hSw; (try dsimp only at hSw); go_simp <;> with_reducible rfl
  try simp only [Act.put, List.getElem_toArray, List.getElem_cons_zero, List.getElem_cons_succ, List.setIfInBounds_toArray, List.set_cons_zero, List.set_cons_succ]
  refine AnyG.take (i := 11) (v := ?_) rfl (by kernel_rfl) (by kernel_rfl) (by kernel_rfl) (fun _ _ _ h => h) (by kernel_rfl) (by kernel_rfl) (Or.inl ⟨by rfl, ?_⟩) (by assumption) ?_
  rotate_left
  · intro w9 hSw; (try dsimp only at hSw); go_simp <;> with_reducible rfl
  try simp only [Act.put, List.getElem_toArray, List.getElem_cons_zero, List.getElem_cons_succ, List.setIfInBounds_toArray, List.set_cons_zero, List.set_cons_succ]
  refine AnyG.step (i := 12) (by kernel_rfl) rfl (fun K hK => ?_)
  go_simp
  refine hK.out _ _ (fun h => absurd h (by decide)) (fun _ => ?_)
  clear hK
  try simp only [Act.put, List.getElem_toArray, List.getElem_cons_zero, List.getElem_cons_succ, List.setIfInBounds_toArray, List.set_cons_zero, List.set_cons_succ]
  refine AnyG.done (by kernel_rfl) ?_ _
  clear KK K0 KD
  clear rc_a0 rc_a1 rc_a2 rc_a3 rc_a4 rc_a5 rc_a6 rc_a7 rf_a0 rf_a1 rf_a2 rf_a3 rf_a4 rf_a5 rf_a6 rf_a7 rl_a
  replace r_res := Lib.hid (r_res.out.far (p := g_a) (by have dd_a := d_a.out; omega) 4 (.int .i64 (f' * g')))
  replace r_x := Lib.hid (r_x.out.far (p := g_a) (by have dd_x := d_x.out; have dd_a := d_a.out; omega) 4 (.int .i64 (f' * g')))
  replace r_y := Lib.hid (r_y.out.far (p := g_a) (by have dd_y := d_y.out; have dd_a := d_a.out; omega) 4 (.int .i64 (f' * g')))
  replace r_a := Lib.hid (show AtB (w7.setCell ⟨g_a, 4, none⟩ (.int .i64 (f' * g'))) (g_a) #[.slice A0 n0 p0, .slice none 0 0, .slice none 0 0, .slice none 0 0, .int .i64 (f' * g'), .int .i64 0, .int .i64 0, .int .i64 0] ART from by have k := (r_a.out.set_n 4 (.int .i64 (f' * g'))); simpa using k)
  replace BB := Lib.hid (below_set BB.out (b := g_a) (o := 4) (by have dd := d_a.out; omega) (.int .i64 (f' * g')))
  replace h_s0 := Lib.hid (SB.set h_s0.out 4 (.int .i64 (f' * g')))
  generalize (w7.setCell ⟨g_a, 4, none⟩ (.int .i64 (f' * g'))) = w8 at *
  have hb := below_drew (Below.refl w8.heap.size w8)
  generalize w8.drew = w10 at *
  replace r_res := Lib.hid (r_res.out.keep hb)
  replace r_x := Lib.hid (r_x.out.keep hb)
  replace r_y := Lib.hid (r_y.out.keep hb)
  replace r_a := Lib.hid (r_a.out.keep hb)
  replace h_s0 := Lib.hid (SB.below h_s0.out hb)
  replace BB := Lib.hid (below_next BB.out hb)
  clear hb
  have hsz := Lib.hid r_a.out.lt
  go_wp2_with fail
  rw [rounds_succ]
  go_wp2_with fail
  refine (C1.out _ BB.out).mono ?_
  rintro e w11 ⟨A1, n1, p1, rfl, hb, hs, ha⟩
  replace r_res := Lib.hid (r_res.out.keep hb)
  replace r_x := Lib.hid (r_x.out.keep hb)
  replace r_y := Lib.hid (r_y.out.keep hb)
  replace r_a := Lib.hid (r_a.out.keep hb)
  replace h_s0 := Lib.hid (SB.below h_s0.out hb)
  replace BB := Lib.hid (below_next BB.out hb)
  clear hb
  have h_s1 := Lib.hid (GiveGet.sb (g := g_a) hs ha d_a.out.1 hsz.out)
  clear hs ha hsz
  obtain ⟨c_a0, c_a1, c_a2, c_a3, c_a4, c_a5, c_a6, c_a7, f_a0, f_a1, f_a2, f_a3, f_a4, f_a5, f_a6, f_a7⟩ := reads8 r_a.out
  have l_a := r_a.out.lt
  go_upto_region 10 with fail
  clear c_a0 c_a1 c_a2 c_a3 c_a4 c_a5 c_a6 c_a7 f_a0 f_a1 f_a2 f_a3 f_a4 f_a5 f_a6 f_a7 l_a
  replace r_res := Lib.hid (r_res.out.far (p := g_a) (by have dd_a := d_a.out; omega) 1 (.slice A1 n1 p1))
  replace r_x := Lib.hid (r_x.out.far (p := g_a) (by have dd_x := d_x.out; have dd_a := d_a.out; omega) 1 (.slice A1 n1 p1))
  replace r_y := Lib.hid (r_y.out.far (p := g_a) (by have dd_y := d_y.out; have dd_a := d_a.out; omega) 1 (.slice A1 n1 p1))
  replace r_a := Lib.hid (show AtB (w11.setCell ⟨g_a, 1, none⟩ (.slice A1 n1 p1)) (g_a) #[.slice A0 n0 p0, .slice A1 n1 p1, .slice none 0 0, .slice none 0 0, .int .i64 (f' * g'), .int .i64 0, .int .i64 0, .int .i64 0] ART from by have k := (r_a.out.set_n 1 (.slice A1 n1 p1)); simpa using k)
  replace BB := Lib.hid (below_set BB.out (b := g_a) (o := 1) (by have dd := d_a.out; omega) (.slice A1 n1 p1))
  replace h_s0 := Lib.hid (SB.set h_s0.out 1 (.slice A1 n1 p1))
  replace h_s1 := Lib.hid (SB.set h_s1.out 1 (.slice A1 n1 p1))
  generalize (w11.setCell ⟨g_a, 1, none⟩ (.slice A1 n1 p1)) = w12 at *
  have KK := Lib.hid (fun (w9 : World) (h : Below w12.heap.size w12 w9) => (⟨cells2 (r_x.out.keep h), cells2 (r_y.out.keep h)⟩ : (w9.cell? ⟨g_x, 0, none⟩ = some (.int .i64 f') ∧ w9.cell? ⟨g_x, 1, none⟩ = some (.int .i64 f)) ∧ (w9.cell? ⟨g_y, 0, none⟩ = some (.int .i64 g') ∧ w9.cell? ⟨g_y, 1, none⟩ = some (.int .i64 g))))
  have K0 := KK.out w12 (Below.refl _ _)
  have KD := KK.out w12.drew (below_drew (Below.refl _ _))
  obtain ⟨rc_a0, rc_a1, rc_a2, rc_a3, rc_a4, rc_a5, rc_a6, rc_a7, rf_a0, rf_a1, rf_a2, rf_a3, rf_a4, rf_a5, rf_a6, rf_a7⟩ := reads8 r_a.out
  have rl_a := r_a.out.lt
  refine AnyG.begin_ (fun w9 => (w9.cell? ⟨g_x, 0, none⟩ = some (.int .i64 f') ∧ w9.cell? ⟨g_x, 1, none⟩ = some (.int .i64 f)) ∧ (w9.cell? ⟨g_y, 0, none⟩ = some (.int .i64 g') ∧ w9.cell? ⟨g_y, 1, none⟩ = some (.int .i64 g))) 12 (by kernel_rfl) ?_
  refine AnyG.take (i := 0) (v := ?_) rfl (by kernel_rfl) (by kernel_rfl) (by kernel_rfl) (fun _ _ _ h => h) (by kernel_rfl) (by kernel_rfl) (Or.inl ⟨by rfl, ?_⟩) (by assumption) ?_
  rotate_left
  · intro w9 hSw; (try dsimp only at hSw); go_simp <;> with_reducible rfl
  try simp only [Act.put, List.getElem_toArray, List.getElem_cons_zero, List.getElem_cons_succ, List.setIfInBounds_toArray, List.set_cons_zero, List.set_cons_succ]
  refine AnyG.take (i := 1) (v := ?_) rfl (by kernel_rfl) (by kernel_rfl) (by kernel_rfl) (fun _ _ _ h => h) (by kernel_rfl) (by kernel_rfl) (Or.inl ⟨by rfl, ?_⟩) (by assumption) ?_
  rotate_left
  · intro w9 hSw; (try dsimp only at hSw); go_simp <;> with_reducible rfl
  try simp only [Act.put, List.getElem_toArray, List.getElem_cons_zero, List.getElem_cons_succ, List.setIfInBounds_toArray, List.set_cons_zero, List.set_cons_succ]
  refine AnyG.take (i := 2) (v := ?_) rfl (by kernel_rfl) (by kernel_rfl) (by kernel_rfl) (fun _ _ _ h => h) (by kernel_rfl) (by kernel_rfl) (Or.inl ⟨by rfl, ?_⟩) (by assumption) ?_
  rotate_left
  · intro w9 hSw; (try dsimp only at hSw); go_simp <;> with_reducible rfl
  try simp only [Act.put, List.getElem_toArray, List.getElem_cons_zero, List.getElem_cons_succ, List.setIfInBounds_toArray, List.set_cons_zero, List.set_cons_succ]
  refine AnyG.take (i := 3) (v := ?_) rfl (by kernel_rfl) (by kernel_rfl) (by kernel_rfl) (fun _ _ _ h => h) (by kernel_rfl) (by kernel_rfl) (Or.inl ⟨by rfl, ?_⟩) (by assumption) ?_
  rotate_left
  · intro w9 hSw; (try dsimp only at hSw); go_simp <;> with_reducible rfl
  try simp only [Act.put, List.getElem_toArray, List.getElem_cons_zero, List.getElem_cons_succ, List.setIfInBounds_toArray, List.set_cons_zero, List.set_cons_succ]
  refine AnyG.take (i := 4) (v := ?_) rfl (by kernel_rfl) (by kernel_rfl) (by kernel_rfl) (fun _ _ _ h => h) (by kernel_rfl) (by kernel_rfl) (Or.inl ⟨by rfl, ?_⟩) (by assumption) ?_
  rotate_left
  · intro w9 hSw; (try dsimp only at hSw); go_simp <;> with_reducible rfl
  try simp only [Act.put, List.getElem_toArray, List.getElem_cons_zero, List.getElem_cons_succ, List.setIfInBounds_toArray, List.set_cons_zero, List.set_cons_succ]
  refine AnyG.take (i := 5) (v := ?_) rfl (by kernel_rfl) (by kernel_rfl) (by kernel_rfl) (fun _ _ _ h => h) (by kernel_rfl) (by kernel_rfl) (Or.inl ⟨by rfl, ?_⟩) (by assumption) ?_
  rotate_left
  · intro w9 hSw; (try dsimp only at hSw); go_simp <;> with_reducible rfl
  try simp only [Act.put, List.getElem_toArray, List.getElem_cons_zero, List.getElem_cons_succ, List.setIfInBounds_toArray, List.set_cons_zero, List.set_cons_succ]
  refine AnyG.take (i := 6) (v := ?_) rfl (by kernel_rfl) (by kernel_rfl) (by kernel_rfl) (fun _ _ _ h => h) (by kernel_rfl) (by kernel_rfl) (Or.inl ⟨by rfl, ?_⟩) (by assumption) ?_
  rotate_left
  · intro w9 hSw; (try dsimp only at hSw); go_simp <;> with_reducible rfl
  try simp only [Act.put, List.getElem_toArray, List.getElem_cons_zero, List.getElem_cons_succ, List.setIfInBounds_toArray, List.set_cons_zero, List.set_cons_succ]
  refine AnyG.take (i := 7) (v := ?_) rfl (by kernel_rfl) (by kernel_rfl) (by kernel_rfl) (fun _ _ _ h => h) (by kernel_rfl) (by kernel_rfl) (Or.inl ⟨by rfl, ?_⟩) (by assumption) ?_
  rotate_left
  · intro w9 hSw; (try dsimp only at hSw); go_simp <;> with_reducible rfl
  try simp only [Act.put, List.getElem_toArray, List.getElem_cons_zero, List.getElem_cons_succ, List.setIfInBounds_toArray, List.set_cons_zero, List.set_cons_succ]
  refine AnyG.take (i := 8) (v := ?_) rfl (by kernel_rfl) (by kernel_rfl) (by kernel_rfl) (fun _ _ _ h => h) (by kernel_rfl) (by kernel_rfl) (Or.inl ⟨by rfl, ?_⟩) (by assumption) ?_
  rotate_left
  · intro w9 hSw; (try dsimp only at hSw); go_simp <;> with_reducible rfl
  try simp only [Act.put, List.getElem_toArray, List.getElem_cons_zero, List.getElem_cons_succ, List.setIfInBounds_toArray, List.set_cons_zero, List.set_cons_succ]
  refine AnyG.take (i := 9) (v := ?_) rfl (by kernel_rfl) (by kernel_rfl) (by kernel_rfl) (fun _ _ _ h => h) (by kernel_rfl) (by kernel_rfl) (Or.inl ⟨by rfl, ?_⟩) (by assumption) ?_
  rotate_left
  · intro w9 hSw; (try dsimp only at hSw); go_simp <;> with_reducible rfl
  try simp only [Act.put, List.getElem_toArray, List.getElem_cons_zero, List.getElem_cons_succ, List.setIfInBounds_toArray, List.set_cons_zero, List.set_cons_succ]
  refine AnyG.take (i := 10) (v := ?_) rfl (by kernel_rfl) (by kernel_rfl) (by kernel_rfl) (fun _ _ _ h => h) (by kernel_rfl) (by kernel_rfl) (Or.inl ⟨by rfl, ?_⟩) (by assumption) ?_
  rotate_left
  · intro w9 hSw; (try dsimp only at hSw); go_simp <;> with_reducible rfl
  try simp only [Act.put, List.getElem_toArray, List.getElem_cons_zero, List.getElem_cons_succ, List.setIfInBounds_toArray, List.set_cons_zero, List.set_cons_succ]
  refine AnyG.take (i := 11) (v := ?_) rfl (by kernel_rfl) (by kernel_rfl) (by kernel_rfl) (fun _ _ _ h => h) (by kernel_rfl) (by kernel_rfl) (Or.inl ⟨by rfl, ?_⟩) (by assumption) ?_
  rotate_left
  · intro w9 hSw; (try dsimp only at hSw); go_simp <;> with_reducible rfl
  try simp only [Act.put, List.getElem_toArray, List.getElem_cons_zero, List.getElem_cons_succ, List.setIfInBounds_toArray, List.set_cons_zero, List.set_cons_succ]
  refine AnyG.step (i := 12) (by kernel_rfl) rfl (fun K hK => ?_)
  go_simp
  refine hK.out _ _ (fun h => absurd h (by decide)) (fun _ => ?_)
  clear hK
  try simp only [Act.put, List.getElem_toArray, List.getElem_cons_zero, List.getElem_cons_succ, List.setIfInBounds_toArray, List.set_cons_zero, List.set_cons_succ]
  refine AnyG.done (by kernel_rfl) ?_ _
  clear KK K0 KD
  clear rc_a0 rc_a1 rc_a2 rc_a3 rc_a4 rc_a5 rc_a6 rc_a7 rf_a0 rf_a1 rf_a2 rf_a3 rf_a4 rf_a5 rf_a6 rf_a7 rl_a
  replace r_res := Lib.hid (r_res.out.far (p := g_a) (by have dd_a := d_a.out; omega) 5 (.int .i64 (f * g')))
  replace r_x := Lib.hid (r_x.out.far (p := g_a) (by have dd_x := d_x.out; have dd_a := d_a.out; omega) 5 (.int .i64 (f * g')))
  replace r_y := Lib.hid (r_y.out.far (p := g_a) (by have dd_y := d_y.out; have dd_a := d_a.out; omega) 5 (.int .i64 (f * g')))
  replace r_a := Lib.hid (show AtB (w12.setCell ⟨g_a, 5, none⟩ (.int .i64 (f * g'))) (g_a) #[.slice A0 n0 p0, .slice A1 n1 p1, .slice none 0 0, .slice none 0 0, .int .i64 (f' * g'), .int .i64 (f * g'), .int .i64 0, .int .i64 0] ART from by have k := (r_a.out.set_n 5 (.int .i64 (f * g'))); simpa using k)
  replace BB := Lib.hid (below_set BB.out (b := g_a) (o := 5) (by have dd := d_a.out; omega) (.int .i64 (f * g')))
  replace h_s0 := Lib.hid (SB.set h_s0.out 5 (.int .i64 (f * g')))
  replace h_s1 := Lib.hid (SB.set h_s1.out 5 (.int .i64 (f * g')))
  generalize (w12.setCell ⟨g_a, 5, none⟩ (.int .i64 (f * g'))) = w13 at *
  have hb := below_drew (Below.refl w13.heap.size w13)
  generalize w13.drew = w14 at *
  replace r_res := Lib.hid (r_res.out.keep hb)
  replace r_x := Lib.hid (r_x.out.keep hb)
  replace r_y := Lib.hid (r_y.out.keep hb)
  replace r_a := Lib.hid (r_a.out.keep hb)
  replace h_s0 := Lib.hid (SB.below h_s0.out hb)
  replace h_s1 := Lib.hid (SB.below h_s1.out hb)
  replace BB := Lib.hid (below_next BB.out hb)
  clear hb
  have hsz := Lib.hid r_a.out.lt
  go_wp2_with fail
  rw [rounds_succ]
  go_wp2_with fail
  refine (C2.out _ BB.out).mono ?_
  rintro e w15 ⟨A2, n2, p2, rfl, hb, hs, ha⟩
  replace r_res := Lib.hid (r_res.out.keep hb)
  replace r_x := Lib.hid (r_x.out.keep hb)
  replace r_y := Lib.hid (r_y.out.keep hb)
  replace r_a := Lib.hid (r_a.out.keep hb)
  replace h_s0 := Lib.hid (SB.below h_s0.out hb)
  replace h_s1 := Lib.hid (SB.below h_s1.out hb)
  replace BB := Lib.hid (below_next BB.out hb)
  clear hb
  have h_s2 := Lib.hid (GiveGet.sb (g := g_a) hs ha d_a.out.1 hsz.out)
  clear hs ha hsz
  obtain ⟨c_a0, c_a1, c_a2, c_a3, c_a4, c_a5, c_a6, c_a7, f_a0, f_a1, f_a2, f_a3, f_a4, f_a5, f_a6, f_a7⟩ := reads8 r_a.out
  have l_a := r_a.out.lt
  go_upto_region 10 with fail
  clear c_a0 c_a1 c_a2 c_a3 c_a4 c_a5 c_a6 c_a7 f_a0 f_a1 f_a2 f_a3 f_a4 f_a5 f_a6 f_a7 l_a
  replace r_res := Lib.hid (r_res.out.far (p := g_a) (by have dd_a := d_a.out; omega) 2 (.slice A2 n2 p2))
  replace r_x := Lib.hid (r_x.out.far (p := g_a) (by have dd_x := d_x.out; have dd_a := d_a.out; omega) 2 (.slice A2 n2 p2))
  replace r_y := Lib.hid (r_y.out.far (p := g_a) (by have dd_y := d_y.out; have dd_a := d_a.out; omega) 2 (.slice A2 n2 p2))
  replace r_a := Lib.hid (show AtB (w15.setCell ⟨g_a, 2, none⟩ (.slice A2 n2 p2)) (g_a) #[.slice A0 n0 p0, .slice A1 n1 p1, .slice A2 n2 p2, .slice none 0 0, .int .i64 (f' * g'), .int .i64 (f * g'), .int .i64 0, .int .i64 0] ART from by have k := (r_a.out.set_n 2 (.slice A2 n2 p2)); simpa using k)
  replace BB := Lib.hid (below_set BB.out (b := g_a) (o := 2) (by have dd := d_a.out; omega) (.slice A2 n2 p2))
  replace h_s0 := Lib.hid (SB.set h_s0.out 2 (.slice A2 n2 p2))
  replace h_s1 := Lib.hid (SB.set h_s1.out 2 (.slice A2 n2 p2))
  replace h_s2 := Lib.hid (SB.set h_s2.out 2 (.slice A2 n2 p2))
  generalize (w15.setCell ⟨g_a, 2, none⟩ (.slice A2 n2 p2)) = w16 at *
  have KK := Lib.hid (fun (w9 : World) (h : Below w16.heap.size w16 w9) => (⟨cells2 (r_x.out.keep h), cells2 (r_y.out.keep h)⟩ : (w9.cell? ⟨g_x, 0, none⟩ = some (.int .i64 f') ∧ w9.cell? ⟨g_x, 1, none⟩ = some (.int .i64 f)) ∧ (w9.cell? ⟨g_y, 0, none⟩ = some (.int .i64 g') ∧ w9.cell? ⟨g_y, 1, none⟩ = some (.int .i64 g))))
  have K0 := KK.out w16 (Below.refl _ _)
  have KD := KK.out w16.drew (below_drew (Below.refl _ _))
  obtain ⟨rc_a0, rc_a1, rc_a2, rc_a3, rc_a4, rc_a5, rc_a6, rc_a7, rf_a0, rf_a1, rf_a2, rf_a3, rf_a4, rf_a5, rf_a6, rf_a7⟩ := reads8 r_a.out
  have rl_a := r_a.out.lt
  refine AnyG.begin_ (fun w9 => (w9.cell? ⟨g_x, 0, none⟩ = some (.int .i64 f') ∧ w9.cell? ⟨g_x, 1, none⟩ = some (.int .i64 f)) ∧ (w9.cell? ⟨g_y, 0, none⟩ = some (.int .i64 g') ∧ w9.cell? ⟨g_y, 1, none⟩ = some (.int .i64 g))) 12 (by kernel_rfl) ?_
  refine AnyG.take (i := 0) (v := ?_) rfl (by kernel_rfl) (by kernel_rfl) (by kernel_rfl) (fun _ _ _ h => h) (by kernel_rfl) (by kernel_rfl) (Or.inl ⟨by rfl, ?_⟩) (by assumption) ?_
  rotate_left
  · intro w9 hSw; (try dsimp only at hSw); go_simp <;> with_reducible rfl
  try simp only [Act.put, List.getElem_toArray, List.getElem_cons_zero, List.getElem_cons_succ, List.setIfInBounds_toArray, List.set_cons_zero, List.set_cons_succ]
  refine AnyG.take (i := 1) (v := ?_) rfl (by kernel_rfl) (by kernel_rfl) (by kernel_rfl) (fun _ _ _ h => h) (by kernel_rfl) (by kernel_rfl) (Or.inl ⟨by rfl, ?_⟩) (by assumption) ?_
  rotate_left
  · intro w9 hSw; (try dsimp only at hSw); go_simp <;> with_reducible rfl
  try simp only [Act.put, List.getElem_toArray, List.getElem_cons_zero, List.getElem_cons_succ, List.setIfInBounds_toArray, List.set_cons_zero, List.set_cons_succ]
  refine AnyG.take (i := 2) (v := ?_) rfl (by kernel_rfl) (by kernel_rfl) (by kernel_rfl) (fun _ _ _ h => h) (by kernel_rfl) (by kernel_rfl) (Or.inl ⟨by rfl, ?_⟩) (by assumption) ?_
  rotate_left
  · intro w9 hSw; (try dsimp only at hSw); go_simp <;> with_reducible rfl
  try simp only [Act.put, List.getElem_toArray, List.getElem_cons_zero, List.getElem_cons_succ, List.setIfInBounds_toArray, List.set_cons_zero, List.set_cons_succ]
  refine AnyG.take (i := 3) (v := ?_) rfl (by kernel_rfl) (by kernel_rfl) (by kernel_rfl) (fun _ _ _ h => h) (by kernel_rfl) (by kernel_rfl) (Or.inl ⟨by rfl, ?_⟩) (by assumption) ?_
  rotate_left
  · intro w9 hSw; (try dsimp only at hSw); go_simp <;> with_reducible rfl
  try simp only [Act.put, List.getElem_toArray, List.getElem_cons_zero, List.getElem_cons_succ, List.setIfInBounds_toArray, List.set_cons_zero, List.set_cons_succ]
  refine AnyG.take (i := 4) (v := ?_) rfl (by kernel_rfl) (by kernel_rfl) (by kernel_rfl) (fun _ _ _ h => h) (by kernel_rfl) (by kernel_rfl) (Or.inl ⟨by rfl, ?_⟩) (by assumption) ?_
  rotate_left
  · intro w9 hSw; (try dsimp only at hSw); go_simp <;> with_reducible rfl
  try simp only [Act.put, List.getElem_toArray, List.getElem_cons_zero, List.getElem_cons_succ, List.setIfInBounds_toArray, List.set_cons_zero, List.set_cons_succ]
  refine AnyG.take (i := 5) (v := ?_) rfl (by kernel_rfl) (by kernel_rfl) (by kernel_rfl) (fun _ _ _ h => h) (by kernel_rfl) (by kernel_rfl) (Or.inl ⟨by rfl, ?_⟩) (by assumption) ?_
  rotate_left
  · intro w9 hSw; (try dsimp only at hSw); go_simp <;> with_reducible rfl
  try simp only [Act.put, List.getElem_toArray, List.getElem_cons_zero, List.getElem_cons_succ, List.setIfInBounds_toArray, List.set_cons_zero, List.set_cons_succ]
  refine AnyG.take (i := 6) (v := ?_) rfl (by kernel_rfl) (by kernel_rfl) (by kernel_rfl) (fun _ _ _ h => h) (by kernel_rfl) (by kernel_rfl) (Or.inl ⟨by rfl, ?_⟩) (by assumption) ?_
  rotate_left
  · intro w9 hSw; (try dsimp only at hSw); go_simp <;> with_reducible rfl
  try simp only [Act.put, List.getElem_toArray, List.getElem_cons_zero, List.getElem_cons_succ, List.setIfInBounds_toArray, List.set_cons_zero, List.set_cons_succ]
  refine AnyG.take (i := 7) (v := ?_) rfl (by kernel_rfl) (by kernel_rfl) (by kernel_rfl) (fun _ _ _ h => h) (by kernel_rfl) (by kernel_rfl) (Or.inl ⟨by rfl, ?_⟩) (by assumption) ?_
  rotate_left
  · intro w9 hSw; (try dsimp only at hSw); go_simp <;> with_reducible rfl
  try simp only [Act.put, List.getElem_toArray, List.getElem_cons_zero, List.getElem_cons_succ, List.setIfInBounds_toArray, List.set_cons_zero, List.set_cons_succ]
  refine AnyG.take (i := 8) (v := ?_) rfl (by kernel_rfl) (by kernel_rfl) (by kernel_rfl) (fun _ _ _ h => h) (by kernel_rfl) (by kernel_rfl) (Or.inl ⟨by rfl, ?_⟩) (by assumption) ?_
  rotate_left
  · intro w9 hSw; (try dsimp only at hSw); go_simp <;> with_reducible rfl
  try simp only [Act.put, List.getElem_toArray, List.getElem_cons_zero, List.getElem_cons_succ, List.setIfInBounds_toArray, List.set_cons_zero, List.set_cons_succ]
  refine AnyG.take (i := 9) (v := ?_) rfl (by kernel_rfl) (by kernel_rfl) (by kernel_rfl) (fun _ _ _ h => h) (by kernel_rfl) (by kernel_rfl) (Or.inl ⟨by rfl, ?_⟩) (by assumption) ?_
  rotate_left
  · intro w9 hSw; (try dsimp only at hSw); go_simp <;> with_reducible rfl
  try simp only [Act.put, List.getElem_toArray, List.getElem_cons_zero, List.getElem_cons_succ, List.setIfInBounds_toArray, List.set_cons_zero, List.set_cons_succ]
  refine AnyG.take (i := 10) (v := ?_) rfl (by kernel_rfl) (by kernel_rfl) (by kernel_rfl) (fun _ _ _ h => h) (by kernel_rfl) (by kernel_rfl) (Or.inl ⟨by rfl, ?_⟩) (by assumption) ?_
  rotate_left
  · intro w9 hSw; (try dsimp only at hSw); go_simp <;> with_reducible rfl
  try simp only [Act.put, List.getElem_toArray, List.getElem_cons_zero, List.getElem_cons_succ, List.setIfInBounds_toArray, List.set_cons_zero, List.set_cons_succ]
  refine AnyG.take (i := 11) (v := ?_) rfl (by kernel_rfl) (by kernel_rfl) (by kernel_rfl) (fun _ _ _ h => h) (by kernel_rfl) (by kernel_rfl) (Or.inl ⟨by rfl, ?_⟩) (by assumption) ?_
  rotate_left
  · intro w9 hSw; (try dsimp only at hSw); go_simp <;> with_reducible rfl
  try simp only [Act.put, List.getElem_toArray, List.getElem_cons_zero, List.getElem_cons_succ, List.setIfInBounds_toArray, List.set_cons_zero, List.set_cons_succ]
  refine AnyG.step (i := 12) (by kernel_rfl) rfl (fun K hK => ?_)
  go_simp
  refine hK.out _ _ (fun h => absurd h (by decide)) (fun _ => ?_)
  clear hK
  try simp only [Act.put, List.getElem_toArray, List.getElem_cons_zero, List.getElem_cons_succ, List.setIfInBounds_toArray, List.set_cons_zero, List.set_cons_succ]
  refine AnyG.done (by kernel_rfl) ?_ _
  clear KK K0 KD
  clear rc_a0 rc_a1 rc_a2 rc_a3 rc_a4 rc_a5 rc_a6 rc_a7 rf_a0 rf_a1 rf_a2 rf_a3 rf_a4 rf_a5 rf_a6 rf_a7 rl_a
  replace r_res := Lib.hid (r_res.out.far (p := g_a) (by have dd_a := d_a.out; omega) 6 (.int .i64 (f' * g)))
  replace r_x := Lib.hid (r_x.out.far (p := g_a) (by have dd_x := d_x.out; have dd_a := d_a.out; omega) 6 (.int .i64 (f' * g)))
  replace r_y := Lib.hid (r_y.out.far (p := g_a) (by have dd_y := d_y.out; have dd_a := d_a.out; omega) 6 (.int .i64 (f' * g)))
  replace r_a := Lib.hid (show AtB (w16.setCell ⟨g_a, 6, none⟩ (.int .i64 (f' * g))) (g_a) #[.slice A0 n0 p0, .slice A1 n1 p1, .slice A2 n2 p2, .slice none 0 0, .int .i64 (f' * g'), .int .i64 (f * g'), .int .i64 (f' * g), .int .i64 0] ART from by have k := (r_a.out.set_n 6 (.int .i64 (f' * g))); simpa using k)
  replace BB := Lib.hid (below_set BB.out (b := g_a) (o := 6) (by have dd := d_a.out; omega) (.int .i64 (f' * g)))
  replace h_s0 := Lib.hid (SB.set h_s0.out 6 (.int .i64 (f' * g)))
  replace h_s1 := Lib.hid (SB.set h_s1.out 6 (.int .i64 (f' * g)))
  replace h_s2 := Lib.hid (SB.set h_s2.out 6 (.int .i64 (f' * g)))
  generalize (w16.setCell ⟨g_a, 6, none⟩ (.int .i64 (f' * g))) = w17 at *
  have hb := below_drew (Below.refl w17.heap.size w17)
  generalize w17.drew = w18 at *
  replace r_res := Lib.hid (r_res.out.keep hb)
  replace r_x := Lib.hid (r_x.out.keep hb)
  replace r_y := Lib.hid (r_y.out.keep hb)
  replace r_a := Lib.hid (r_a.out.keep hb)
  replace h_s0 := Lib.hid (SB.below h_s0.out hb)
  replace h_s1 := Lib.hid (SB.below h_s1.out hb)
  replace h_s2 := Lib.hid (SB.below h_s2.out hb)
  replace BB := Lib.hid (below_next BB.out hb)
  clear hb
  have hsz := Lib.hid r_a.out.lt
  go_wp2_with fail
  rw [rounds_succ]
  go_wp2_with fail
  refine (C3.out _ BB.out).mono ?_
  rintro e w19 ⟨A3, n3, p3, rfl, hb, hs, ha⟩
  replace r_res := Lib.hid (r_res.out.keep hb)
  replace r_x := Lib.hid (r_x.out.keep hb)
  replace r_y := Lib.hid (r_y.out.keep hb)
  replace r_a := Lib.hid (r_a.out.keep hb)
  replace h_s0 := Lib.hid (SB.below h_s0.out hb)
  replace h_s1 := Lib.hid (SB.below h_s1.out hb)
  replace h_s2 := Lib.hid (SB.below h_s2.out hb)
  replace BB := Lib.hid (below_next BB.out hb)
  clear hb
  have h_s3 := Lib.hid (GiveGet.sb (g := g_a) hs ha d_a.out.1 hsz.out)
  clear hs ha hsz
  obtain ⟨c_a0, c_a1, c_a2, c_a3, c_a4, c_a5, c_a6, c_a7, f_a0, f_a1, f_a2, f_a3, f_a4, f_a5, f_a6, f_a7⟩ := reads8 r_a.out
  have l_a := r_a.out.lt
  go_upto_region 10 with fail
  clear c_a0 c_a1 c_a2 c_a3 c_a4 c_a5 c_a6 c_a7 f_a0 f_a1 f_a2 f_a3 f_a4 f_a5 f_a6 f_a7 l_a
  replace r_res := Lib.hid (r_res.out.far (p := g_a) (by have dd_a := d_a.out; omega) 3 (.slice A3 n3 p3))
  replace r_x := Lib.hid (r_x.out.far (p := g_a) (by have dd_x := d_x.out; have dd_a := d_a.out; omega) 3 (.slice A3 n3 p3))
  replace r_y := Lib.hid (r_y.out.far (p := g_a) (by have dd_y := d_y.out; have dd_a := d_a.out; omega) 3 (.slice A3 n3 p3))
  replace r_a := Lib.hid (show AtB (w19.setCell ⟨g_a, 3, none⟩ (.slice A3 n3 p3)) (g_a) #[.slice A0 n0 p0, .slice A1 n1 p1, .slice A2 n2 p2, .slice A3 n3 p3, .int .i64 (f' * g'), .int .i64 (f * g'), .int .i64 (f' * g), .int .i64 0] ART from by have k := (r_a.out.set_n 3 (.slice A3 n3 p3)); simpa using k)
  replace BB := Lib.hid (below_set BB.out (b := g_a) (o := 3) (by have dd := d_a.out; omega) (.slice A3 n3 p3))
  replace h_s0 := Lib.hid (SB.set h_s0.out 3 (.slice A3 n3 p3))
  replace h_s1 := Lib.hid (SB.set h_s1.out 3 (.slice A3 n3 p3))
  replace h_s2 := Lib.hid (SB.set h_s2.out 3 (.slice A3 n3 p3))
  replace h_s3 := Lib.hid (SB.set h_s3.out 3 (.slice A3 n3 p3))
  generalize (w19.setCell ⟨g_a, 3, none⟩ (.slice A3 n3 p3)) = w20 at *
  have KK := Lib.hid (fun (w9 : World) (h : Below w20.heap.size w20 w9) => (⟨cells2 (r_x.out.keep h), cells2 (r_y.out.keep h)⟩ : (w9.cell? ⟨g_x, 0, none⟩ = some (.int .i64 f') ∧ w9.cell? ⟨g_x, 1, none⟩ = some (.int .i64 f)) ∧ (w9.cell? ⟨g_y, 0, none⟩ = some (.int .i64 g') ∧ w9.cell? ⟨g_y, 1, none⟩ = some (.int .i64 g))))
  have K0 := KK.out w20 (Below.refl _ _)
  have KD := KK.out w20.drew (below_drew (Below.refl _ _))
  obtain ⟨rc_a0, rc_a1, rc_a2, rc_a3, rc_a4, rc_a5, rc_a6, rc_a7, rf_a0, rf_a1, rf_a2, rf_a3, rf_a4, rf_a5, rf_a6, rf_a7⟩ := reads8 r_a.out
  have rl_a := r_a.out.lt
  refine AnyG.begin_ (fun w9 => (w9.cell? ⟨g_x, 0, none⟩ = some (.int .i64 f') ∧ w9.cell? ⟨g_x, 1, none⟩ = some (.int .i64 f)) ∧ (w9.cell? ⟨g_y, 0, none⟩ = some (.int .i64 g') ∧ w9.cell? ⟨g_y, 1, none⟩ = some (.int .i64 g))) 12 (by kernel_rfl) ?_
  refine AnyG.take (i := 0) (v := ?_) rfl (by kernel_rfl) (by kernel_rfl) (by kernel_rfl) (fun _ _ _ h => h) (by kernel_rfl) (by kernel_rfl) (Or.inl ⟨by rfl, ?_⟩) (by assumption) ?_
  rotate_left
  · intro w9 hSw; (try dsimp only at hSw); go_simp <;> with_reducible rfl
  try simp only [Act.put, List.getElem_toArray, List.getElem_cons_zero, List.getElem_cons_succ, List.setIfInBounds_toArray, List.set_cons_zero, List.set_cons_succ]
  refine AnyG.take (i := 1) (v := ?_) rfl (by kernel_rfl) (by kernel_rfl) (by kernel_rfl) (fun _ _ _ h => h) (by kernel_rfl) (by kernel_rfl) (Or.inl ⟨by rfl, ?_⟩) (by assumption) ?_
  rotate_left
  · intro w9 hSw; (try dsimp only at hSw); go_simp <;> with_reducible rfl
  try simp only [Act.put, List.getElem_toArray, List.getElem_cons_zero, List.getElem_cons_succ, List.setIfInBounds_toArray, List.set_cons_zero, List.set_cons_succ]
  refine AnyG.take (i := 2) (v := ?_) rfl (by kernel_rfl) (by kernel_rfl) (by kernel_rfl) (fun _ _ _ h => h) (by kernel_rfl) (by kernel_rfl) (Or.inl ⟨by rfl, ?_⟩) (by assumption) ?_
  rotate_left
  · intro w9 hSw; (try dsimp only at hSw); go_simp <;> with_reducible rfl
  try simp only [Act.put, List.getElem_toArray, List.getElem_cons_zero, List.getElem_cons_succ, List.setIfInBounds_toArray, List.set_cons_zero, List.set_cons_succ]
  refine AnyG.take (i := 3) (v := ?_) rfl (by kernel_rfl) (by kernel_rfl) (by kernel_rfl) (fun _ _ _ h => h) (by kernel_rfl) (by kernel_rfl) (Or.inl ⟨by rfl, ?_⟩) (by assumption) ?_
  rotate_left
  · intro w9 hSw; (try dsimp only at hSw); go_simp <;> with_reducible rfl
  try simp only [Act.put, List.getElem_toArray, List.getElem_cons_zero, List.getElem_cons_succ, List.setIfInBounds_toArray, List.set_cons_zero, List.set_cons_succ]
  refine AnyG.take (i := 4) (v := ?_) rfl (by kernel_rfl) (by kernel_rfl) (by kernel_rfl) (fun _ _ _ h => h) (by kernel_rfl) (by kernel_rfl) (Or.inl ⟨by rfl, ?_⟩) (by assumption) ?_
  rotate_left
  · intro w9 hSw; (try dsimp only at hSw); go_simp <;> with_reducible rfl
  try simp only [Act.put, List.getElem_toArray, List.getElem_cons_zero, List.getElem_cons_succ, List.setIfInBounds_toArray, List.set_cons_zero, List.set_cons_succ]
  refine AnyG.take (i := 5) (v := ?_) rfl (by kernel_rfl) (by kernel_rfl) (by kernel_rfl) (fun _ _ _ h => h) (by kernel_rfl) (by kernel_rfl) (Or.inl ⟨by rfl, ?_⟩) (by assumption) ?_
  rotate_left
  · intro w9 hSw; (try dsimp only at hSw); go_simp <;> with_reducible rfl
  try simp only [Act.put, List.getElem_toArray, List.getElem_cons_zero, List.getElem_cons_succ, List.setIfInBounds_toArray, List.set_cons_zero, List.set_cons_succ]
  refine AnyG.take (i := 6) (v := ?_) rfl (by kernel_rfl) (by kernel_rfl) (by kernel_rfl) (fun _ _ _ h => h) (by kernel_rfl) (by kernel_rfl) (Or.inl ⟨by rfl, ?_⟩) (by assumption) ?_
  rotate_left
  · intro w9 hSw; (try dsimp only at hSw); go_simp <;> with_reducible rfl
  try simp only [Act.put, List.getElem_toArray, List.getElem_cons_zero, List.getElem_cons_succ, List.setIfInBounds_toArray, List.set_cons_zero, List.set_cons_succ]
  refine AnyG.take (i := 7) (v := ?_) rfl (by kernel_rfl) (by kernel_rfl) (by kernel_rfl) (fun _ _ _ h => h) (by kernel_rfl) (by kernel_rfl) (Or.inl ⟨by rfl, ?_⟩) (by assumption) ?_
  rotate_left
  · intro w9 hSw; (try dsimp only at hSw); go_simp <;> with_reducible rfl
  try simp only [Act.put, List.getElem_toArray, List.getElem_cons_zero, List.getElem_cons_succ, List.setIfInBounds_toArray, List.set_cons_zero, List.set_cons_succ]
  refine AnyG.take (i := 8) (v := ?_) rfl (by kernel_rfl) (by kernel_rfl) (by kernel_rfl) (fun _ _ _ h => h) (by kernel_rfl) (by kernel_rfl) (Or.inl ⟨by rfl, ?_⟩) (by assumption) ?_
  rotate_left
  · intro w9 hSw; (try dsimp only at hSw); go_simp <;> with_reducible rfl
  try simp only [Act.put, List.getElem_toArray, List.getElem_cons_zero, List.getElem_cons_succ, List.setIfInBounds_toArray, List.set_cons_zero, List.set_cons_succ]
  refine AnyG.take (i := 9) (v := ?_) rfl (by kernel_rfl) (by kernel_rfl) (by kernel_rfl) (fun _ _ _ h => h) (by kernel_rfl) (by kernel_rfl) (Or.inl ⟨by rfl, ?_⟩) (by assumption) ?_
  rotate_left
  · intro w9 hSw; (try dsimp only at hSw); go_simp <;> with_reducible rfl
  try simp only [Act.put, List.getElem_toArray, List.getElem_cons_zero, List.getElem_cons_succ, List.setIfInBounds_toArray, List.set_cons_zero, List.set_cons_succ]
  refine AnyG.take (i := 10) (v := ?_) rfl (by kernel_rfl) (by kernel_rfl) (by kernel_rfl) (fun _ _ _ h => h) (by kernel_rfl) (by kernel_rfl) (Or.inl ⟨by rfl, ?_⟩) (by assumption) ?_
  rotate_left
  · intro w9 hSw; (try dsimp only at hSw); go_simp <;> with_reducible rfl
  try simp only [Act.put, List.getElem_toArray, List.getElem_cons_zero, List.getElem_cons_succ, List.setIfInBounds_toArray, List.set_cons_zero, List.set_cons_succ]
  refine AnyG.take (i := 11) (v := ?_) rfl (by kernel_rfl) (by kernel_rfl) (by kernel_rfl) (fun _ _ _ h => h) (by kernel_rfl) (by kernel_rfl) (Or.inl ⟨by rfl, ?_⟩) (by assumption) ?_
  rotate_left
  · intro w9 hSw; (try dsimp only at hSw); go_simp <;> with_reducible rfl
  try simp only [Act.put, List.getElem_toArray, List.getElem_cons_zero, List.getElem_cons_succ, List.setIfInBounds_toArray, List.set_cons_zero, List.set_cons_succ]
  refine AnyG.step (i := 12) (by kernel_rfl) rfl (fun K hK => ?_)
  go_simp
  refine hK.out _ _ (fun h => absurd h (by decide)) (fun _ => ?_)
  clear hK
  try simp only [Act.put, List.getElem_toArray, List.getElem_cons_zero, List.getElem_cons_succ, List.setIfInBounds_toArray, List.set_cons_zero, List.set_cons_succ]
  refine AnyG.done (by kernel_rfl) ?_ _
  clear KK K0 KD
  clear rc_a0 rc_a1 rc_a2 rc_a3 rc_a4 rc_a5 rc_a6 rc_a7 rf_a0 rf_a1 rf_a2 rf_a3 rf_a4 rf_a5 rf_a6 rf_a7 rl_a
  replace r_res := Lib.hid (r_res.out.far (p := g_a) (by have dd_a := d_a.out; omega) 7 (.int .i64 (f * g)))
  replace r_x := Lib.hid (r_x.out.far (p := g_a) (by have dd_x := d_x.out; have dd_a := d_a.out; omega) 7 (.int .i64 (f * g)))
  replace r_y := Lib.hid (r_y.out.far (p := g_a) (by have dd_y := d_y.out; have dd_a := d_a.out; omega) 7 (.int .i64 (f * g)))
  replace r_a := Lib.hid (show AtB (w20.setCell ⟨g_a, 7, none⟩ (.int .i64 (f * g))) (g_a) #[.slice A0 n0 p0, .slice A1 n1 p1, .slice A2 n2 p2, .slice A3 n3 p3, .int .i64 (f' * g'), .int .i64 (f * g'), .int .i64 (f' * g), .int .i64 (f * g)] ART from by have k := (r_a.out.set_n 7 (.int .i64 (f * g))); simpa using k)
  replace BB := Lib.hid (below_set BB.out (b := g_a) (o := 7) (by have dd := d_a.out; omega) (.int .i64 (f * g)))
  replace h_s0 := Lib.hid (SB.set h_s0.out 7 (.int .i64 (f * g)))
  replace h_s1 := Lib.hid (SB.set h_s1.out 7 (.int .i64 (f * g)))
  replace h_s2 := Lib.hid (SB.set h_s2.out 7 (.int .i64 (f * g)))
  replace h_s3 := Lib.hid (SB.set h_s3.out 7 (.int .i64 (f * g)))
  generalize (w20.setCell ⟨g_a, 7, none⟩ (.int .i64 (f * g))) = w21 at *
  have hb := below_drew (Below.refl w21.heap.size w21)
  generalize w21.drew = w22 at *
  replace r_res := Lib.hid (r_res.out.keep hb)
  replace r_x := Lib.hid (r_x.out.keep hb)
  replace r_y := Lib.hid (r_y.out.keep hb)
  replace r_a := Lib.hid (r_a.out.keep hb)
  replace h_s0 := Lib.hid (SB.below h_s0.out hb)
  replace h_s1 := Lib.hid (SB.below h_s1.out hb)
  replace h_s2 := Lib.hid (SB.below h_s2.out hb)
  replace h_s3 := Lib.hid (SB.below h_s3.out hb)
  replace BB := Lib.hid (below_next BB.out hb)
  clear hb
  have hsz := Lib.hid r_a.out.lt
  go_wp2_with fail
  rw [rounds_succ]
  obtain ⟨c_a0, c_a1, c_a2, c_a3, c_a4, c_a5, c_a6, c_a7, f_a0, f_a1, f_a2, f_a3, f_a4, f_a5, f_a6, f_a7⟩ := reads8 r_a.out
  have l_a := r_a.out.lt
  obtain ⟨c_res0, c_res1, c_res2, c_res3, c_res4, c_res5, c_res6, c_res7, f_res0, f_res1, f_res2, f_res3, f_res4, f_res5, f_res6, f_res7⟩ := reads8 r_res.out
  have l_res := r_res.out.lt
  go_wp2_with fail
  clear c_a0 c_a1 c_a2 c_a3 c_a4 c_a5 c_a6 c_a7 f_a0 f_a1 f_a2 f_a3 f_a4 f_a5 f_a6 f_a7 l_a c_res0 c_res1 c_res2 c_res3 c_res4 c_res5 c_res6 c_res7 f_res0 f_res1 f_res2 f_res3 f_res4 f_res5 f_res6 f_res7 l_res
  replace r_res := Lib.hid (show AtB ((((((((w22.setCell ⟨w.heap.size, 0, none⟩ (.slice A0 n0 p0)).setCell ⟨w.heap.size, 1, none⟩ (.slice A1 n1 p1)).setCell ⟨w.heap.size, 2, none⟩ (.slice A2 n2 p2)).setCell ⟨w.heap.size, 3, none⟩ (.slice A3 n3 p3)).setCell ⟨w.heap.size, 4, none⟩ (.int .i64 (f' * g'))).setCell ⟨w.heap.size, 5, none⟩ (.int .i64 (f * g'))).setCell ⟨w.heap.size, 6, none⟩ (.int .i64 (f' * g))).setCell ⟨w.heap.size, 7, none⟩ (.int .i64 (f * g))) (w.heap.size) #[.slice A0 n0 p0, .slice A1 n1 p1, .slice A2 n2 p2, .slice A3 n3 p3, .int .i64 (f' * g'), .int .i64 (f * g'), .int .i64 (f' * g), .int .i64 (f * g)] ART from by have k := ((((((((r_res.out.set_n 0 (.slice A0 n0 p0)).set_n 1 (.slice A1 n1 p1)).set_n 2 (.slice A2 n2 p2)).set_n 3 (.slice A3 n3 p3)).set_n 4 (.int .i64 (f' * g'))).set_n 5 (.int .i64 (f * g'))).set_n 6 (.int .i64 (f' * g))).set_n 7 (.int .i64 (f * g))); simpa using k)
  replace r_x := Lib.hid ((((((((r_x.out.far (p := w.heap.size) (by have dd_x := d_x.out; omega) 0 (.slice A0 n0 p0)).far (p := w.heap.size) (by have dd_x := d_x.out; omega) 1 (.slice A1 n1 p1)).far (p := w.heap.size) (by have dd_x := d_x.out; omega) 2 (.slice A2 n2 p2)).far (p := w.heap.size) (by have dd_x := d_x.out; omega) 3 (.slice A3 n3 p3)).far (p := w.heap.size) (by have dd_x := d_x.out; omega) 4 (.int .i64 (f' * g'))).far (p := w.heap.size) (by have dd_x := d_x.out; omega) 5 (.int .i64 (f * g'))).far (p := w.heap.size) (by have dd_x := d_x.out; omega) 6 (.int .i64 (f' * g))).far (p := w.heap.size) (by have dd_x := d_x.out; omega) 7 (.int .i64 (f * g)))
  replace r_y := Lib.hid ((((((((r_y.out.far (p := w.heap.size) (by have dd_y := d_y.out; omega) 0 (.slice A0 n0 p0)).far (p := w.heap.size) (by have dd_y := d_y.out; omega) 1 (.slice A1 n1 p1)).far (p := w.heap.size) (by have dd_y := d_y.out; omega) 2 (.slice A2 n2 p2)).far (p := w.heap.size) (by have dd_y := d_y.out; omega) 3 (.slice A3 n3 p3)).far (p := w.heap.size) (by have dd_y := d_y.out; omega) 4 (.int .i64 (f' * g'))).far (p := w.heap.size) (by have dd_y := d_y.out; omega) 5 (.int .i64 (f * g'))).far (p := w.heap.size) (by have dd_y := d_y.out; omega) 6 (.int .i64 (f' * g))).far (p := w.heap.size) (by have dd_y := d_y.out; omega) 7 (.int .i64 (f * g)))
  replace r_a := Lib.hid ((((((((r_a.out.far (p := w.heap.size) (by have dd_a := d_a.out; omega) 0 (.slice A0 n0 p0)).far (p := w.heap.size) (by have dd_a := d_a.out; omega) 1 (.slice A1 n1 p1)).far (p := w.heap.size) (by have dd_a := d_a.out; omega) 2 (.slice A2 n2 p2)).far (p := w.heap.size) (by have dd_a := d_a.out; omega) 3 (.slice A3 n3 p3)).far (p := w.heap.size) (by have dd_a := d_a.out; omega) 4 (.int .i64 (f' * g'))).far (p := w.heap.size) (by have dd_a := d_a.out; omega) 5 (.int .i64 (f * g'))).far (p := w.heap.size) (by have dd_a := d_a.out; omega) 6 (.int .i64 (f' * g))).far (p := w.heap.size) (by have dd_a := d_a.out; omega) 7 (.int .i64 (f * g)))
  replace BB := Lib.hid (below_set (below_set (below_set (below_set (below_set (below_set (below_set (below_set BB.out (b := w.heap.size) (o := 0) (by omega) (.slice A0 n0 p0)) (b := w.heap.size) (o := 1) (by omega) (.slice A1 n1 p1)) (b := w.heap.size) (o := 2) (by omega) (.slice A2 n2 p2)) (b := w.heap.size) (o := 3) (by omega) (.slice A3 n3 p3)) (b := w.heap.size) (o := 4) (by omega) (.int .i64 (f' * g'))) (b := w.heap.size) (o := 5) (by omega) (.int .i64 (f * g'))) (b := w.heap.size) (o := 6) (by omega) (.int .i64 (f' * g))) (b := w.heap.size) (o := 7) (by omega) (.int .i64 (f * g)))
  replace h_s0 := Lib.hid (SB.setr (SB.setr (SB.setr (SB.setr (SB.setr (SB.setr (SB.setr (SB.setr h_s0.out 0 (.slice A0 n0 p0)) 1 (.slice A1 n1 p1)) 2 (.slice A2 n2 p2)) 3 (.slice A3 n3 p3)) 4 (.int .i64 (f' * g'))) 5 (.int .i64 (f * g'))) 6 (.int .i64 (f' * g))) 7 (.int .i64 (f * g)))
  replace h_s1 := Lib.hid (SB.setr (SB.setr (SB.setr (SB.setr (SB.setr (SB.setr (SB.setr (SB.setr h_s1.out 0 (.slice A0 n0 p0)) 1 (.slice A1 n1 p1)) 2 (.slice A2 n2 p2)) 3 (.slice A3 n3 p3)) 4 (.int .i64 (f' * g'))) 5 (.int .i64 (f * g'))) 6 (.int .i64 (f' * g))) 7 (.int .i64 (f * g)))
  replace h_s2 := Lib.hid (SB.setr (SB.setr (SB.setr (SB.setr (SB.setr (SB.setr (SB.setr (SB.setr h_s2.out 0 (.slice A0 n0 p0)) 1 (.slice A1 n1 p1)) 2 (.slice A2 n2 p2)) 3 (.slice A3 n3 p3)) 4 (.int .i64 (f' * g'))) 5 (.int .i64 (f * g'))) 6 (.int .i64 (f' * g))) 7 (.int .i64 (f * g)))
  replace h_s3 := Lib.hid (SB.setr (SB.setr (SB.setr (SB.setr (SB.setr (SB.setr (SB.setr (SB.setr h_s3.out 0 (.slice A0 n0 p0)) 1 (.slice A1 n1 p1)) 2 (.slice A2 n2 p2)) 3 (.slice A3 n3 p3)) 4 (.int .i64 (f' * g'))) 5 (.int .i64 (f * g'))) 6 (.int .i64 (f' * g))) 7 (.int .i64 (f * g)))
  generalize ((((((((w22.setCell ⟨w.heap.size, 0, none⟩ (.slice A0 n0 p0)).setCell ⟨w.heap.size, 1, none⟩ (.slice A1 n1 p1)).setCell ⟨w.heap.size, 2, none⟩ (.slice A2 n2 p2)).setCell ⟨w.heap.size, 3, none⟩ (.slice A3 n3 p3)).setCell ⟨w.heap.size, 4, none⟩ (.int .i64 (f' * g'))).setCell ⟨w.heap.size, 5, none⟩ (.int .i64 (f * g'))).setCell ⟨w.heap.size, 6, none⟩ (.int .i64 (f' * g))).setCell ⟨w.heap.size, 7, none⟩ (.int .i64 (f * g))) = w23 at *
  obtain ⟨c_res0, c_res1, c_res2, c_res3, c_res4, c_res5, c_res6, c_res7, f_res0, f_res1, f_res2, f_res3, f_res4, f_res5, f_res6, f_res7⟩ := reads8 r_res.out
  have l_res := r_res.out.lt
  refine bodyPost_ret (v := .agg #[.slice A0 n0 p0, .slice A1 n1 p1, .slice A2 n2 p2, .slice A3 n3 p3, .int .i64 (f' * g'), .int .i64 (f * g'), .int .i64 (f' * g), .int .i64 (f * g)]) (by unfold results; simp only [Try.results88]; go_simp) rfl ?_
  refine ⟨_, _, _, _, _, _, _, _, _, _, _, _, rfl, BB.out, ?_, ?_, ?_, ?_⟩
  · exact h_s0.out.1
  · exact h_s1.out.1
  · exact h_s2.out.1
  · exact h_s3.out.1

end Go.Proofs.Ytnklbnphiokpiaa

set_option linter.unusedVariables false
set_option linter.unusedSimpArgs false
namespace Go.Proofs.Ytnklbnphiokpiaa
open Go.RowKit
def lrow (f : Nat → Int) (c j : Nat) : List Int := (List.range c).map fun k => if k < j then f k else 0
theorem lrow_len (f : Nat → Int) (c j : Nat) : (lrow f c j).length = c := by simp [lrow]
theorem lrow_get {f : Nat → Int} {c j k : Nat} (hk : k < c) : (lrow f c j).getD k 0 = if k < j then f k else 0 := by
  simp [lrow, List.getD, hk]
theorem lrow_zero (f : Nat → Int) (c : Nat) : lrow f c 0 = List.replicate c 0 := by
  apply List.ext_getElem
  · simp [lrow]
  · intro i h1 h2; simp [lrow]
theorem lrow_set {f : Nat → Int} {c j : Nat} (hj : j < c) : (lrow f c j).set j (f j) = lrow f c (j + 1) := by
  apply List.ext_getElem
  · simp [lrow]
  · intro i h1 h2
    simp only [lrow, List.getElem_set, List.getElem_map, List.getElem_range]
    by_cases e : j = i
    · subst e; simp
    · have : (i < j ↔ i < j + 1) := by omega
      simp [e, this]
theorem lrow_all (f : Nat → Int) (c : Nat) : lrow f c c = (List.range c).map f := by
  apply List.ext_getElem
  · simp [lrow]
  · intro i h1 h2
    simp [lrow] at h1 ⊢
    omega
theorem row_at {w : World} {g j : Nat} {L : List Int} (h : BRow w g L) (hj : j < L.length) : w.cell? ⟨g, j, none⟩ = some (.int .u8 (L.getD j 0)) := by
  refine AtB.cell h j ?_
  simp [List.getD, hj]
theorem BRow.set {w : World} {g : Nat} {L : List Int} (h : BRow w g L) (k : Nat) (z : Int) : BRow (w.setCell ⟨g, k, none⟩ (.int .u8 z)) g (L.set k z) := by
  have e : ((L.map (Value.int .u8)).toArray).setIfInBounds k (.int .u8 z) = ((L.set k z).map (Value.int .u8)).toArray := by
    simp [List.map_set]
  have := AtB.set_n h k (.int .u8 z)
  rw [e] at this
  exact this
/-- Behind a world, and a block not of it. -/
def BW (w0 w : World) (g : Nat) : Prop := Below w0.heap.size w0 w ∧ w0.heap.size ≤ g
theorem Below.less {A B : Nat} {a b : World} (h : Below A a b) (hle : B ≤ A) : Below B a b := Below.mono h hle
theorem BW.below {w0 w w1 : World} {g : Nat} (h : BW w0 w g) (hb : Below w.heap.size w w1) : BW w0 w1 g := ⟨h.1.trans (Below.less hb h.1.size), h.2⟩
theorem BW.set {w0 w : World} {g : Nat} (h : BW w0 w g) (o : Nat) (u : Value) : BW w0 (w.setCell ⟨g, o, none⟩ u) g := ⟨below_set h.1 h.2 u, h.2⟩
theorem Below.fol {w0 w w1 : World} (h : Below w0.heap.size w0 w) (hb : Below w.heap.size w w1) : Below w0.heap.size w0 w1 := h.trans (Below.less hb h.size)
def linAt (L0 L1 L2 L3 : List Int) (f g : Int) (k : Nat) : Int := byteI ((65536 - f) * (65536 - g) * L0.getD k 0 + f * (65536 - g) * L1.getD k 0 + (65536 - f) * g * L2.getD k 0 + f * g * L3.getD k 0) 4294967296
def linRow (L0 L1 L2 L3 : List Int) (f g : Int) (c : Nat) : List Int := (List.range c).map (linAt L0 L1 L2 L3 f g)
theorem lin_weights {f g : Int} (hf : 0 ≤ f ∧ f < 65536) (hg : 0 ≤ g ∧ g < 65536) : (0 ≤ (65536 - f) * (65536 - g) ∧ 0 ≤ f * (65536 - g) ∧ 0 ≤ (65536 - f) * g ∧ 0 ≤ f * g) ∧ (65536 - f) * (65536 - g) + f * (65536 - g) + (65536 - f) * g + f * g = 4294967296 := by
  refine ⟨⟨Int.mul_nonneg (by omega) (by omega), Int.mul_nonneg (by omega) (by omega), Int.mul_nonneg (by omega) (by omega), Int.mul_nonneg (by omega) (by omega)⟩, ?_⟩
  simp only [Int.sub_mul, Int.mul_sub]
  omega
theorem GiveGet.up {w w0 w1 w2 : World} {L : List Int} {e : Ending} (h : GiveGet w L w1 e w2) (hb : Below w.heap.size w w0) : GiveGet w0 L w1 e w2 := by
  obtain ⟨A, n, cap, h1, h2, h3, h4⟩ := h
  refine ⟨A, n, cap, h1, h2, h3, fun a e => ?_⟩
  have := hb.size
  have := h4 a e
  omega
theorem bs_len {w : World} {A : Option Addr} {n cap : Nat} {L : List Int} (h : BS w (.slice A n cap) L) : n = L.length := by
  obtain ⟨A', cap', e, _⟩ := h
  simp only [Value.slice.injEq] at e
  exact e.2.1
set_option maxRecDepth 100000 in
set_option maxHeartbeats 16000000 in
theorem lby (cp : Value) (c : Nat) (hc : 1 ≤ c ∧ c ≤ 1000) (L0 L1 L2 L3 : List Int) (u v : Int) (hu : inB u 70368744177664 = true) (hv : inB v 70368744177664 = true) (w : World)
    (C0 : ∀ w1, Below w.heap.size w w1 → Calls Try.prog 90 #[cp, .int .i64 (u / 65536), .int .i64 (v / 65536)] w1 (GiveGet w L0 w1))
    (C1 : ∀ w1, Below w.heap.size w w1 → Calls Try.prog 90 #[cp, .int .i64 (u / 65536 + 1), .int .i64 (v / 65536)] w1 (GiveGet w L1 w1))
    (C2 : ∀ w1, Below w.heap.size w w1 → Calls Try.prog 90 #[cp, .int .i64 (u / 65536), .int .i64 (v / 65536 + 1)] w1 (GiveGet w L2 w1))
    (C3 : ∀ w1, Below w.heap.size w w1 → Calls Try.prog 90 #[cp, .int .i64 (u / 65536 + 1), .int .i64 (v / 65536 + 1)] w1 (GiveGet w L3 w1)) :
    Calls Try.prog 52 #[.func (.func 90) #[cp] #[], .int .i64 (c : Int), .int .i64 u, .int .i64 v] w (GiveRow (linRow L0 L1 L2 L3 (u % 65536) (v % 65536) c) w) := by
  have CI := Lib.hid (fun x w => lin_in x w)
  have FN := func_some
  have CL := Lib.hid (fun w1 (hb : Below w.heap.size w w1) => llook cp L0 L1 L2 L3 u v hu hv w1 (fun w2 h2 => (C0 w2 (hb.trans (Below.less h2 hb.size))).mono fun e w' h => GiveGet.up h hb) (fun w2 h2 => (C1 w2 (hb.trans (Below.less h2 hb.size))).mono fun e w' h => GiveGet.up h hb) (fun w2 h2 => (C2 w2 (hb.trans (Below.less h2 hb.size))).mono fun e w' h => GiveGet.up h hb) (fun w2 h2 => (C3 w2 (hb.trans (Below.less h2 hb.size))).mono fun e w' h => GiveGet.up h hb))
  have MK := mk_bytes c (by omega)
  have hc1 : decide ((c : Int) < 1) = false := decide_eq_false (by omega)
  have hW := lin_weights (f := u % 65536) (g := v % 65536) (by omega) (by omega)
  obtain ⟨F, hF⟩ : ∃ F, F = linAt L0 L1 L2 L3 (u % 65536) (v % 65536) := ⟨_, rfl⟩
  replace hF := Lib.hid hF
  unfold linRow
  rw [← hF.out]
  have hFk := Lib.hid (fun k => congrFun hF.out k)
  simp only [linAt] at hFk
  generalize (65536 - u % 65536) * (65536 - v % 65536) = x0 at *
  generalize u % 65536 * (65536 - v % 65536) = x1 at *
  generalize (65536 - u % 65536) * (v % 65536) = x2 at *
  generalize u % 65536 * (v % 65536) = x3 at *
  replace hW := Lib.hid hW
  replace hu := Lib.hid hu; replace hv := Lib.hid hv
  clear C0 C1 C2 C3 hF
  go_enter Try.func52, Try.ntmps52
  go_wp2_with fail
  have BB : Hid (Below w.heap.size w w) := Below.refl _ _
  refine (CI.out _ _).mono ?_
  rintro e w9 ⟨rfl, rfl⟩
  rw [hu.out]
  go_wp2_with fail
  refine (CI.out _ _).mono ?_
  rintro e w9 ⟨rfl, rfl⟩
  rw [hv.out]
  go_wp2_with fail
  refine (CL.out _ BB.out).mono ?_
  rintro e w1 ⟨A0, n0, p0, A1, n1, p1, A2, n2, p2, A3, n3, p3, rfl, hb, s0, s1, s2, s3⟩
  replace BB := Lib.hid (below_next BB.out hb)
  clear hb
  have CC := Lib.hid (fun k w9 (hb : Below w1.heap.size w1 w9) (hk : k ≤ 1000) => lchannel A0 A1 A2 A3 n0 n1 n2 n3 p0 p1 p2 p3 k L0 L1 L2 L3 x0 x1 x2 x3 w1 s0 s1 s2 s3 (bs_len s0) (bs_len s1) (bs_len s2) (bs_len s3) hW.out w9 hb hk)
  clear s0 s1 s2 s3 CL CI hu hv
  obtain ⟨W0, hW0⟩ : ∃ W0, W0 = w1 := ⟨_, rfl⟩
  rw [← hW0] at CC
  have h_w := Lib.hid (show Below W0.heap.size W0 w1 by rw [hW0]; exact Below.refl _ _)
  have CC := Lib.hid (show ∀ (k : Nat) w9, Below W0.heap.size W0 w9 → k ≤ 1000 → Calls Try.prog 89 #[.agg #[.slice A0 n0 p0, .slice A1 n1 p1, .slice A2 n2 p2, .slice A3 n3 p3, .int .i64 x0, .int .i64 x1, .int .i64 x2, .int .i64 x3], .int .i64 (k : Int)] w9 (fun e w' => e = .returned (.int .u8 (F k)) ∧ Below w9.heap.size w9 w') from fun k w9 hb hk => by rw [hFk.out k]; exact CC.out k w9 hb hk)
  have hg0 : W0.heap.size = w1.heap.size := by rw [hW0]
  clear hFk hW hW0
  go_wp2_with fail
  have d_out := Lib.hid (And.intro BB.out.size (True.intro))
  obtain ⟨hb, r_out⟩ := laid w1 (Array.replicate c (Value.int .u8 0)) 5
  replace h_w := Lib.hid (Below.fol h_w.out hb)
  replace BB := Lib.hid (below_next BB.out hb)
  replace r_out := Lib.hid r_out
  clear hb
  generalize w1.alloc (.cells (Array.replicate c (Value.int .u8 0)) 5) = w2 at *
  generalize w1.heap.size = g_out at *
  have hg : W0.heap.size ≤ g_out := by omega
  have h_r := Lib.hid (show BRow w2 g_out (lrow F c 0) by unfold BRow; rw [lrow_zero]; simpa using r_out.out)
  have hgw : w.heap.size ≤ g_out := d_out.out.1
  clear hg0 hc1 FN MK r_out
  go_wp2_with fail
  go_loopw [11, 37] (fun _ i wr => ∃ k : Nat, k ≤ c ∧ i = .int .i64 k ∧ Hid (BRow wr g_out (lrow F c k) ∧ Below w.heap.size w wr ∧ Below W0.heap.size W0 wr)) (fun _ i _ => c - (intOf i).toNat)
  case atStart => exact ⟨0, by omega, rfl, ⟨h_r.out, BB.out, h_w.out⟩⟩
  case round =>
    clear h_r BB h_w
    obtain ⟨k, hk, rfl, hinv⟩ := hrel
    obtain ⟨h_r, BB, h_w⟩ := hinv.out
    replace h_r := Lib.hid h_r; replace BB := Lib.hid BB; replace h_w := Lib.hid h_w
    clear hinv
    by_cases hlt : k < c
    · have k0 : (0 : Int) ≤ (k : Int) := by omega
      have k1 : (k : Int) < (c : Int) := by omega
      go_wp2_with fail
      refine (CC.out k _ h_w.out (by omega)).mono ?_
      rintro e w3 ⟨rfl, hb⟩
      replace h_r := Lib.hid (BRow.keep h_r.out hb)
      replace h_w := Lib.hid (Below.fol h_w.out hb)
      replace BB := Lib.hid (below_next BB.out hb)
      clear hb
      have cz := row_at h_r.out (by rw [lrow_len]; exact hlt)
      have fz := AtB.fr h_r.out k
      generalize (lrow F c k).getD k 0 = zz at cz
      go_wp2_with fail
      go_roundw
      case rel =>
        refine ⟨k + 1, by omega, by go_num, ⟨?_, below_set BB.out hgw _, below_set h_w.out hg _⟩⟩
        rw [← lrow_set hlt]
        exact BRow.set h_r.out k (F k)
      case measure => simp [intOf]; omega
    · obtain rfl : k = c := by omega
      go_wp2_with fail
      go_ret
      refine ⟨g_out, ?_, BB.out, hgw, ?_⟩
      · simp
      · rw [← lrow_all]; exact h_r.out

end Go.Proofs.Ytnklbnphiokpiaa

set_option linter.unusedVariables false
set_option linter.unusedSimpArgs false
namespace Go.Proofs.Ytnklbnphiokpiaa
open Go.RowKit
set_option maxRecDepth 100000 in
theorem lpixel (W H C m c0 c1 c2 c3 x y : Int) (s : Value) (zs : List Int) (w : World) (hi : IMG w s W H C zs) (hm : I64 m) (hx : I64 x) (hy : I64 y) (h : ibC W H C m zs.length = 0) :
    Calls Try.prog 90 #[byv W H C s m c0 c1 c2 c3, .int .i64 x, .int .i64 y] w (GiveRow (pixL W H C m x y [c0, c1, c2, c3] zs) w) := by
  have CP := Lib.hid (fun w hi => bpixel W H C m c0 c1 c2 c3 x y s zs w hi hm hx hy h)
  have hl := Lib.hid (pixL_len (x := x) (y := y) (cl := [c0, c1, c2, c3]) h rfl)
  have hi := Lib.hid hi
  clear hm hx hy h
  generalize hL : pixL W H C m x y [c0, c1, c2, c3] zs = L at *
  replace hL := Lib.hid hL
  go_enter Try.func90, Try.ntmps90
  go_wp2_with fail
  have BB := start1 w #[.int .i64 W, .int .i64 H, .int .i64 C, s, .int .i64 m, .int .u8 c0, .int .u8 c1, .int .u8 c2, .int .u8 c3] 119
  obtain ⟨BB, hsz, r_q⟩ := BB
  generalize (w.alloc (.cells #[.int .i64 W, .int .i64 H, .int .i64 C, s, .int .i64 m, .int .u8 c0, .int .u8 c1, .int .u8 c2, .int .u8 c3] 119)) = w0 at *
  replace BB := Lib.hid BB
  replace r_q := Lib.hid r_q
  clear hsz
  have h_m := Lib.hid (hi.out.below BB.out)
  have hs0 := Lib.hid BB.out.size
  refine (CP.out _ h_m.out).mono ?_
  rintro e w1 ⟨g, c, rfl, hc, hb, hg, hr⟩
  replace r_q := Lib.hid (r_q.out.keep hb)
  replace BB := Lib.hid (below_next BB.out hb)
  clear hb
  have hg' := Nat.le_trans hs0.out hg
  obtain rfl : c = L.length := by have := hl.out; omega
  go_wp2_with fail
  go_ret
  exact ⟨g, rfl, BB.out, hg', by rw [← hL.out]; exact hr⟩
theorem give_get {w : World} {L : List Int} {w1 w2 : World} {e : Ending} (hb : ∀ z ∈ L, 0 ≤ z ∧ z ≤ 255) (hl : L.length ≤ 1000) (h : GiveRow L w1 e w2) : GiveGet w L w1 e w2 := by
  obtain ⟨g, h1, h2, h3, h4⟩ := h
  refine ⟨_, _, _, h1, h2, h4.bs hb (by omega), fun a ea => ?_⟩
  simp only [Option.some.injEq] at ea
  subst ea
  exact Or.inr h3
def linL (W H C m u v : Int) (cl zs : List Int) (c : Nat) : List Int := linRow (pixL W H C m (u / 65536) (v / 65536) cl zs) (pixL W H C m (u / 65536 + 1) (v / 65536) cl zs) (pixL W H C m (u / 65536) (v / 65536 + 1) cl zs) (pixL W H C m (u / 65536 + 1) (v / 65536 + 1) cl zs) (u % 65536) (v % 65536) c
theorem linL_len (W H C m u v : Int) (cl zs : List Int) (c : Nat) : (linL W H C m u v cl zs c).length = c := by simp [linL, linRow]
theorem lby_at (W H m c0 c1 c2 c3 u v : Int) (c : Nat) (s : Value) (zs : List Int) (w : World) (hcol : ∀ z ∈ [c0, c1, c2, c3], 0 ≤ z ∧ z ≤ 255) (hi : IMG w s W H c zs) (hm : I64 m) (hu : inB u 70368744177664 = true) (hv : inB v 70368744177664 = true) (h : ibC W H c m zs.length = 0) :
    Calls Try.prog 52 #[.func (.func 90) #[byv W H c s m c0 c1 c2 c3] #[], .int .i64 (c : Int), .int .i64 u, .int .i64 v] w (GiveRow (linL W H c m u v [c0, c1, c2, c3] zs c) w) := by
  obtain ⟨u0, u1⟩ := inB_iff.1 hu
  obtain ⟨v0, v1⟩ := inB_iff.1 hv
  have hz := ibC_zero h
  have hl := fun x y => pixL_len (x := x) (y := y) (cl := [c0, c1, c2, c3]) h rfl
  have hy := fun x y => pixL_byte (W := W) (H := H) (C := c) (m := m) (x := x) (y := y) hi.ib.all hcol
  have P : ∀ x y : Int, I64 x → I64 y → ∀ w1, Below w.heap.size w w1 → Calls Try.prog 90 #[byv W H c s m c0 c1 c2 c3, .int .i64 x, .int .i64 y] w1 (GiveGet w (pixL W H c m x y [c0, c1, c2, c3] zs) w1) := fun x y hx hy' w1 hb =>
    (lpixel W H c m c0 c1 c2 c3 x y s zs w1 (hi.below hb) hm hx hy' h).mono fun e w' hh => give_get (hy x y) (by have := hl x y; omega) hh
  exact lby _ c (by omega) _ _ _ _ u v hu hv w (P _ _ ⟨by omega, by omega⟩ ⟨by omega, by omega⟩) (P _ _ ⟨by omega, by omega⟩ ⟨by omega, by omega⟩) (P _ _ ⟨by omega, by omega⟩ ⟨by omega, by omega⟩) (P _ _ ⟨by omega, by omega⟩ ⟨by omega, by omega⟩)
set_option maxRecDepth 100000 in
set_option maxHeartbeats 4000000 in
theorem lat_no (W H C m c0 c1 c2 c3 u v : Int) (A : Option Addr) (n cap : Nat) (h : nrC W H C m u v n ≠ 0) (w : World) :
    Calls Try.prog 55 #[imv W H C (.slice A n cap), brv m c0 c1 c2 c3, .int .i64 u, .int .i64 v] w fun e w' => e = .returned (.tuple #[.slice none 0 0, .int .i64 (nrC W H C m u v n)]) ∧ Below w.heap.size w w' := by
  have CI := Lib.hid (fun w => icheck W H C A n cap w)
  have CB := Lib.hid (fun w => bcheck_any m c0 c1 c2 c3 w)
  have CN := Lib.hid (fun x w => lin_in x w)
  have J0 := errno_at_0
  have J1 := errno_at_1
  by_cases hi : imC W H C n = 0
  · have e1 : ibC W H C m n = bC m := if_pos hi
    rw [hi] at CI
    by_cases hb : bC m = 0
    · have e2 : nrC W H C m u v n = if inB u 70368744177664 = true ∧ inB v 70368744177664 = true then 0 else 11 := if_pos (e1.trans hb)
      rw [hb] at CB
      rcases hbu : inB u 70368744177664 with _ | _
      · have F : Hid (nrC W H C m u v n = 11) := by show _ = _; rw [e2, hbu]; simp
        replace hbu := Lib.hid hbu
        clear e1 e2 hi hb h
        generalize nrC W H C m u v n = d at *
        go_enter Try.func55, Try.ntmps55
        go_wp2_with fail
        have BB := start2 w #[.int .i64 W, .int .i64 H, .int .i64 C, .slice A n cap] IT #[.int .i64 m, .int .u8 c0, .int .u8 c1, .int .u8 c2, .int .u8 c3] RT
        obtain ⟨BB, hsz, r_i, r_b⟩ := BB
        generalize ((w.alloc (.cells #[.int .i64 W, .int .i64 H, .int .i64 C, .slice A n cap] IT)).alloc (.cells #[.int .i64 m, .int .u8 c0, .int .u8 c1, .int .u8 c2, .int .u8 c3] RT)) = w0 at *
        replace BB := Lib.hid BB
        replace r_i := Lib.hid r_i
        replace r_b := Lib.hid r_b
        clear hsz
        have KK := Lib.hid (fun (w9 : World) (h : Below w0.heap.size w0 w9) => (⟨cells4 (r_i.out.keep h), cells5 (r_b.out.keep h)⟩ : (w9.cell? ⟨w.heap.size, 0, none⟩ = some (.int .i64 W) ∧ w9.cell? ⟨w.heap.size, 1, none⟩ = some (.int .i64 H) ∧ w9.cell? ⟨w.heap.size, 2, none⟩ = some (.int .i64 C) ∧ w9.cell? ⟨w.heap.size, 3, none⟩ = some (.slice A n cap)) ∧ (w9.cell? ⟨w.heap.size + 1, 0, none⟩ = some (.int .i64 m) ∧ w9.cell? ⟨w.heap.size + 1, 1, none⟩ = some (.int .u8 c0) ∧ w9.cell? ⟨w.heap.size + 1, 2, none⟩ = some (.int .u8 c1) ∧ w9.cell? ⟨w.heap.size + 1, 3, none⟩ = some (.int .u8 c2) ∧ w9.cell? ⟨w.heap.size + 1, 4, none⟩ = some (.int .u8 c3))))
        have K0 := KK.out w0 (Below.refl _ _)
        have KD := KK.out w0.drew (below_drew (Below.refl _ _))
        go_region_held3 (fun w9 => (w9.cell? ⟨w.heap.size, 0, none⟩ = some (.int .i64 W) ∧ w9.cell? ⟨w.heap.size, 1, none⟩ = some (.int .i64 H) ∧ w9.cell? ⟨w.heap.size, 2, none⟩ = some (.int .i64 C) ∧ w9.cell? ⟨w.heap.size, 3, none⟩ = some (.slice A n cap)) ∧ (w9.cell? ⟨w.heap.size + 1, 0, none⟩ = some (.int .i64 m) ∧ w9.cell? ⟨w.heap.size + 1, 1, none⟩ = some (.int .u8 c0) ∧ w9.cell? ⟨w.heap.size + 1, 2, none⟩ = some (.int .u8 c1) ∧ w9.cell? ⟨w.heap.size + 1, 3, none⟩ = some (.int .u8 c2) ∧ w9.cell? ⟨w.heap.size + 1, 4, none⟩ = some (.int .u8 c3)))
            (first | with_reducible exact KD | with_reducible exact K0 | with_reducible exact K_w1 | with_reducible exact K_w2)
            (first
              | (go_at_call 73
                 refine (CI.out _).mono ?_
                 rintro e w1 ⟨rfl, hb⟩
                 have B_w1 := Lib.hid (reg_next (w0 := w0) (by repeat (first | with_reducible exact Below.refl _ _ | with_reducible apply below_drew | with_reducible apply below_new)) hb)
                 have K_w1 := KK.out _ B_w1.out
                 clear hb)
              | (go_at_call 74
                 refine (CB.out _).mono ?_
                 rintro e w2 ⟨rfl, hb⟩
                 have B_w2 := Lib.hid (below_next B_w1.out hb)
                 have K_w2 := KK.out _ B_w2.out
                 clear hb))
        clear KK K0 KD K_w1 K_w2
        replace r_i := Lib.hid (r_i.out.keep B_w2.out)
        replace r_b := Lib.hid (r_b.out.keep B_w2.out)
        replace BB := Lib.hid (below_next BB.out B_w2.out)
        clear B_w1 B_w2
        go_wp2_with fail
        refine wp_loop_rounds 3 ?_
        rw [rounds_succ]
        go_wp2_with fail
        rw [rounds_succ]
        go_wp2_with fail
        rw [rounds_succ]
        go_wp2_with fail
        refine (CN.out _ _).mono ?_
        rintro e w9 ⟨rfl, rfl⟩
        rw [hbu.out]
        go_wp2_with fail
        refine bodyPost_ret (v := .tuple #[.slice none 0 0, .int .i64 11]) (by unfold results; simp only [Try.results55]; go_simp) rfl ?_
        exact ⟨by rw [F.out], BB.out⟩
      · rcases hbv : inB v 70368744177664 with _ | _
        · have F : Hid (nrC W H C m u v n = 11) := by show _ = _; rw [e2, hbu, hbv]; simp
          replace hbu := Lib.hid hbu; replace hbv := Lib.hid hbv
          clear e1 e2 hi hb h
          generalize nrC W H C m u v n = d at *
          go_enter Try.func55, Try.ntmps55
          go_wp2_with fail
          have BB := start2 w #[.int .i64 W, .int .i64 H, .int .i64 C, .slice A n cap] IT #[.int .i64 m, .int .u8 c0, .int .u8 c1, .int .u8 c2, .int .u8 c3] RT
          obtain ⟨BB, hsz, r_i, r_b⟩ := BB
          generalize ((w.alloc (.cells #[.int .i64 W, .int .i64 H, .int .i64 C, .slice A n cap] IT)).alloc (.cells #[.int .i64 m, .int .u8 c0, .int .u8 c1, .int .u8 c2, .int .u8 c3] RT)) = w0 at *
          replace BB := Lib.hid BB
          replace r_i := Lib.hid r_i
          replace r_b := Lib.hid r_b
          clear hsz
          have KK := Lib.hid (fun (w9 : World) (h : Below w0.heap.size w0 w9) => (⟨cells4 (r_i.out.keep h), cells5 (r_b.out.keep h)⟩ : (w9.cell? ⟨w.heap.size, 0, none⟩ = some (.int .i64 W) ∧ w9.cell? ⟨w.heap.size, 1, none⟩ = some (.int .i64 H) ∧ w9.cell? ⟨w.heap.size, 2, none⟩ = some (.int .i64 C) ∧ w9.cell? ⟨w.heap.size, 3, none⟩ = some (.slice A n cap)) ∧ (w9.cell? ⟨w.heap.size + 1, 0, none⟩ = some (.int .i64 m) ∧ w9.cell? ⟨w.heap.size + 1, 1, none⟩ = some (.int .u8 c0) ∧ w9.cell? ⟨w.heap.size + 1, 2, none⟩ = some (.int .u8 c1) ∧ w9.cell? ⟨w.heap.size + 1, 3, none⟩ = some (.int .u8 c2) ∧ w9.cell? ⟨w.heap.size + 1, 4, none⟩ = some (.int .u8 c3))))
          have K0 := KK.out w0 (Below.refl _ _)
          have KD := KK.out w0.drew (below_drew (Below.refl _ _))
          go_region_held3 (fun w9 => (w9.cell? ⟨w.heap.size, 0, none⟩ = some (.int .i64 W) ∧ w9.cell? ⟨w.heap.size, 1, none⟩ = some (.int .i64 H) ∧ w9.cell? ⟨w.heap.size, 2, none⟩ = some (.int .i64 C) ∧ w9.cell? ⟨w.heap.size, 3, none⟩ = some (.slice A n cap)) ∧ (w9.cell? ⟨w.heap.size + 1, 0, none⟩ = some (.int .i64 m) ∧ w9.cell? ⟨w.heap.size + 1, 1, none⟩ = some (.int .u8 c0) ∧ w9.cell? ⟨w.heap.size + 1, 2, none⟩ = some (.int .u8 c1) ∧ w9.cell? ⟨w.heap.size + 1, 3, none⟩ = some (.int .u8 c2) ∧ w9.cell? ⟨w.heap.size + 1, 4, none⟩ = some (.int .u8 c3)))
              (first | with_reducible exact KD | with_reducible exact K0 | with_reducible exact K_w1 | with_reducible exact K_w2)
              (first
                | (go_at_call 73
                   refine (CI.out _).mono ?_
                   rintro e w1 ⟨rfl, hb⟩
                   have B_w1 := Lib.hid (reg_next (w0 := w0) (by repeat (first | with_reducible exact Below.refl _ _ | with_reducible apply below_drew | with_reducible apply below_new)) hb)
                   have K_w1 := KK.out _ B_w1.out
                   clear hb)
                | (go_at_call 74
                   refine (CB.out _).mono ?_
                   rintro e w2 ⟨rfl, hb⟩
                   have B_w2 := Lib.hid (below_next B_w1.out hb)
                   have K_w2 := KK.out _ B_w2.out
                   clear hb))
          clear KK K0 KD K_w1 K_w2
          replace r_i := Lib.hid (r_i.out.keep B_w2.out)
          replace r_b := Lib.hid (r_b.out.keep B_w2.out)
          replace BB := Lib.hid (below_next BB.out B_w2.out)
          clear B_w1 B_w2
          go_wp2_with fail
          refine wp_loop_rounds 3 ?_
          rw [rounds_succ]
          go_wp2_with fail
          rw [rounds_succ]
          go_wp2_with fail
          rw [rounds_succ]
          go_wp2_with fail
          refine (CN.out _ _).mono ?_
          rintro e w9 ⟨rfl, rfl⟩
          rw [hbu.out]
          go_wp2_with fail
          refine (CN.out _ _).mono ?_
          rintro e w9 ⟨rfl, rfl⟩
          rw [hbv.out]
          go_wp2_with fail
          refine bodyPost_ret (v := .tuple #[.slice none 0 0, .int .i64 11]) (by unfold results; simp only [Try.results55]; go_simp) rfl ?_
          exact ⟨by rw [F.out], BB.out⟩
        · exact absurd (by rw [e2, hbu, hbv]; simp) h
    · have F : Hid (nrC W H C m u v n = bC m) := by show _ = _; unfold nrC; rw [e1, if_neg hb]
      have hq : (bC m == 0) = false := by simpa using hb
      have hq2 : (bC m != 0) = true := by simpa using hb
      clear e1 hi hb h
      generalize nrC W H C m u v n = d at *
      generalize bC m = q at *
      go_enter Try.func55, Try.ntmps55
      go_wp2_with fail
      have BB := start2 w #[.int .i64 W, .int .i64 H, .int .i64 C, .slice A n cap] IT #[.int .i64 m, .int .u8 c0, .int .u8 c1, .int .u8 c2, .int .u8 c3] RT
      obtain ⟨BB, hsz, r_i, r_b⟩ := BB
      generalize ((w.alloc (.cells #[.int .i64 W, .int .i64 H, .int .i64 C, .slice A n cap] IT)).alloc (.cells #[.int .i64 m, .int .u8 c0, .int .u8 c1, .int .u8 c2, .int .u8 c3] RT)) = w0 at *
      replace BB := Lib.hid BB
      replace r_i := Lib.hid r_i
      replace r_b := Lib.hid r_b
      clear hsz
      have KK := Lib.hid (fun (w9 : World) (h : Below w0.heap.size w0 w9) => (⟨cells4 (r_i.out.keep h), cells5 (r_b.out.keep h)⟩ : (w9.cell? ⟨w.heap.size, 0, none⟩ = some (.int .i64 W) ∧ w9.cell? ⟨w.heap.size, 1, none⟩ = some (.int .i64 H) ∧ w9.cell? ⟨w.heap.size, 2, none⟩ = some (.int .i64 C) ∧ w9.cell? ⟨w.heap.size, 3, none⟩ = some (.slice A n cap)) ∧ (w9.cell? ⟨w.heap.size + 1, 0, none⟩ = some (.int .i64 m) ∧ w9.cell? ⟨w.heap.size + 1, 1, none⟩ = some (.int .u8 c0) ∧ w9.cell? ⟨w.heap.size + 1, 2, none⟩ = some (.int .u8 c1) ∧ w9.cell? ⟨w.heap.size + 1, 3, none⟩ = some (.int .u8 c2) ∧ w9.cell? ⟨w.heap.size + 1, 4, none⟩ = some (.int .u8 c3))))
      have K0 := KK.out w0 (Below.refl _ _)
      have KD := KK.out w0.drew (below_drew (Below.refl _ _))
      go_region_held3 (fun w9 => (w9.cell? ⟨w.heap.size, 0, none⟩ = some (.int .i64 W) ∧ w9.cell? ⟨w.heap.size, 1, none⟩ = some (.int .i64 H) ∧ w9.cell? ⟨w.heap.size, 2, none⟩ = some (.int .i64 C) ∧ w9.cell? ⟨w.heap.size, 3, none⟩ = some (.slice A n cap)) ∧ (w9.cell? ⟨w.heap.size + 1, 0, none⟩ = some (.int .i64 m) ∧ w9.cell? ⟨w.heap.size + 1, 1, none⟩ = some (.int .u8 c0) ∧ w9.cell? ⟨w.heap.size + 1, 2, none⟩ = some (.int .u8 c1) ∧ w9.cell? ⟨w.heap.size + 1, 3, none⟩ = some (.int .u8 c2) ∧ w9.cell? ⟨w.heap.size + 1, 4, none⟩ = some (.int .u8 c3)))
          (first | with_reducible exact KD | with_reducible exact K0 | with_reducible exact K_w1 | with_reducible exact K_w2)
          (first
            | (go_at_call 73
               refine (CI.out _).mono ?_
               rintro e w1 ⟨rfl, hb⟩
               have B_w1 := Lib.hid (reg_next (w0 := w0) (by repeat (first | with_reducible exact Below.refl _ _ | with_reducible apply below_drew | with_reducible apply below_new)) hb)
               have K_w1 := KK.out _ B_w1.out
               clear hb)
            | (go_at_call 74
               refine (CB.out _).mono ?_
               rintro e w2 ⟨rfl, hb⟩
               have B_w2 := Lib.hid (below_next B_w1.out hb)
               have K_w2 := KK.out _ B_w2.out
               clear hb))
      clear KK K0 KD K_w1 K_w2
      replace r_i := Lib.hid (r_i.out.keep B_w2.out)
      replace r_b := Lib.hid (r_b.out.keep B_w2.out)
      replace BB := Lib.hid (below_next BB.out B_w2.out)
      clear B_w1 B_w2
      go_wp2_with fail
      refine wp_loop_rounds 3 ?_
      rw [rounds_succ]
      go_wp2_with fail
      rw [rounds_succ]
      go_wp2_with fail
      refine bodyPost_ret (v := .tuple #[.slice none 0 0, .int .i64 q]) (by unfold results; simp only [Try.results55]; go_simp) rfl ?_
      exact ⟨by rw [F.out], BB.out⟩
  · have e1 : ibC W H C m n = imC W H C n := if_neg hi
    have F : Hid (nrC W H C m u v n = imC W H C n) := by show _ = _; unfold nrC; rw [e1, if_neg hi]
    have hq : (imC W H C n == 0) = false := by simpa using hi
    have hq2 : (imC W H C n != 0) = true := by simpa using hi
    clear e1 hi h
    generalize nrC W H C m u v n = d at *
    generalize imC W H C n = q at *
    generalize bC m = q' at *
    go_enter Try.func55, Try.ntmps55
    go_wp2_with fail
    have BB := start2 w #[.int .i64 W, .int .i64 H, .int .i64 C, .slice A n cap] IT #[.int .i64 m, .int .u8 c0, .int .u8 c1, .int .u8 c2, .int .u8 c3] RT
    obtain ⟨BB, hsz, r_i, r_b⟩ := BB
    generalize ((w.alloc (.cells #[.int .i64 W, .int .i64 H, .int .i64 C, .slice A n cap] IT)).alloc (.cells #[.int .i64 m, .int .u8 c0, .int .u8 c1, .int .u8 c2, .int .u8 c3] RT)) = w0 at *
    replace BB := Lib.hid BB
    replace r_i := Lib.hid r_i
    replace r_b := Lib.hid r_b
    clear hsz
    have KK := Lib.hid (fun (w9 : World) (h : Below w0.heap.size w0 w9) => (⟨cells4 (r_i.out.keep h), cells5 (r_b.out.keep h)⟩ : (w9.cell? ⟨w.heap.size, 0, none⟩ = some (.int .i64 W) ∧ w9.cell? ⟨w.heap.size, 1, none⟩ = some (.int .i64 H) ∧ w9.cell? ⟨w.heap.size, 2, none⟩ = some (.int .i64 C) ∧ w9.cell? ⟨w.heap.size, 3, none⟩ = some (.slice A n cap)) ∧ (w9.cell? ⟨w.heap.size + 1, 0, none⟩ = some (.int .i64 m) ∧ w9.cell? ⟨w.heap.size + 1, 1, none⟩ = some (.int .u8 c0) ∧ w9.cell? ⟨w.heap.size + 1, 2, none⟩ = some (.int .u8 c1) ∧ w9.cell? ⟨w.heap.size + 1, 3, none⟩ = some (.int .u8 c2) ∧ w9.cell? ⟨w.heap.size + 1, 4, none⟩ = some (.int .u8 c3))))
    have K0 := KK.out w0 (Below.refl _ _)
    have KD := KK.out w0.drew (below_drew (Below.refl _ _))
    go_region_held3 (fun w9 => (w9.cell? ⟨w.heap.size, 0, none⟩ = some (.int .i64 W) ∧ w9.cell? ⟨w.heap.size, 1, none⟩ = some (.int .i64 H) ∧ w9.cell? ⟨w.heap.size, 2, none⟩ = some (.int .i64 C) ∧ w9.cell? ⟨w.heap.size, 3, none⟩ = some (.slice A n cap)) ∧ (w9.cell? ⟨w.heap.size + 1, 0, none⟩ = some (.int .i64 m) ∧ w9.cell? ⟨w.heap.size + 1, 1, none⟩ = some (.int .u8 c0) ∧ w9.cell? ⟨w.heap.size + 1, 2, none⟩ = some (.int .u8 c1) ∧ w9.cell? ⟨w.heap.size + 1, 3, none⟩ = some (.int .u8 c2) ∧ w9.cell? ⟨w.heap.size + 1, 4, none⟩ = some (.int .u8 c3)))
        (first | with_reducible exact KD | with_reducible exact K0 | with_reducible exact K_w1 | with_reducible exact K_w2)
        (first
          | (go_at_call 73
             refine (CI.out _).mono ?_
             rintro e w1 ⟨rfl, hb⟩
             have B_w1 := Lib.hid (reg_next (w0 := w0) (by repeat (first | with_reducible exact Below.refl _ _ | with_reducible apply below_drew | with_reducible apply below_new)) hb)
             have K_w1 := KK.out _ B_w1.out
             clear hb)
          | (go_at_call 74
             refine (CB.out _).mono ?_
             rintro e w2 ⟨rfl, hb⟩
             have B_w2 := Lib.hid (below_next B_w1.out hb)
             have K_w2 := KK.out _ B_w2.out
             clear hb))
    clear KK K0 KD K_w1 K_w2
    replace r_i := Lib.hid (r_i.out.keep B_w2.out)
    replace r_b := Lib.hid (r_b.out.keep B_w2.out)
    replace BB := Lib.hid (below_next BB.out B_w2.out)
    clear B_w1 B_w2
    go_wp2_with fail
    refine wp_loop_rounds 3 ?_
    rw [rounds_succ]
    go_wp2_with fail
    refine bodyPost_ret (v := .tuple #[.slice none 0 0, .int .i64 q]) (by unfold results; simp only [Try.results55]; go_simp) rfl ?_
    exact ⟨by rw [F.out], BB.out⟩
set_option maxRecDepth 100000 in
set_option maxHeartbeats 4000000 in
theorem lat_ok (W H m c0 c1 c2 c3 u v : Int) (c : Nat) (A : Option Addr) (zs : List Int) (cap : Nat) (h : nrC W H c m u v zs.length = 0) (hm : I64 m) (hcol : ∀ z ∈ [c0, c1, c2, c3], 0 ≤ z ∧ z ≤ 255) (w : World) (hi : IMG w (.slice A zs.length cap) W H c zs) :
    Calls Try.prog 55 #[imv W H c (.slice A zs.length cap), brv m c0 c1 c2 c3, .int .i64 u, .int .i64 v] w fun e w' => ∃ g, e = .returned (.tuple #[.slice (some ⟨g, 0, none⟩) c c, .int .i64 0]) ∧ Below w.heap.size w w' ∧ BRow w' g (linL W H c m u v [c0, c1, c2, c3] zs c) := by
  have h' := h
  unfold nrC at h'
  split at h'
  · rename_i h0
    split at h'
    · rename_i hin
      have CI := Lib.hid (fun w => icheck W H c A zs.length cap w)
      have CB := Lib.hid (fun w => bcheck_any m c0 c1 c2 c3 w)
      have CN := Lib.hid (fun x w => lin_in x w)
      have J0 := errno_at_0
      have J1 := errno_at_1
      have CY := Lib.hid (fun w hi => lby_at W H m c0 c1 c2 c3 u v c (.slice A zs.length cap) zs w hcol hi hm hin.1 hin.2 h0)
      have hl := linL_len W H c m u v [c0, c1, c2, c3] zs c
      have hz := ibC_zero h0
      rw [hz.1] at CI
      rw [show bC m = 0 from if_neg (by have := hz.2.1; omega)] at CB
      obtain ⟨hbu, hbv⟩ := hin
      replace hbu := Lib.hid hbu; replace hbv := Lib.hid hbv
      have hi := Lib.hid hi
      clear h h' hz h0 hm hcol
      generalize linL W H c m u v [c0, c1, c2, c3] zs c = L at *
      generalize zs.length = n at *
      obtain rfl : c = L.length := by omega
      go_enter Try.func55, Try.ntmps55
      go_wp2_with fail
      have BB := start2 w #[.int .i64 W, .int .i64 H, .int .i64 L.length, .slice A n cap] IT #[.int .i64 m, .int .u8 c0, .int .u8 c1, .int .u8 c2, .int .u8 c3] RT
      obtain ⟨BB, hsz, r_i, r_b⟩ := BB
      generalize ((w.alloc (.cells #[.int .i64 W, .int .i64 H, .int .i64 L.length, .slice A n cap] IT)).alloc (.cells #[.int .i64 m, .int .u8 c0, .int .u8 c1, .int .u8 c2, .int .u8 c3] RT)) = w0 at *
      replace BB := Lib.hid BB
      replace r_i := Lib.hid r_i
      replace r_b := Lib.hid r_b
      clear hsz
      have h_m := Lib.hid (hi.out.below BB.out)
      have KK := Lib.hid (fun (w9 : World) (h : Below w0.heap.size w0 w9) => (⟨cells4 (r_i.out.keep h), cells5 (r_b.out.keep h)⟩ : (w9.cell? ⟨w.heap.size, 0, none⟩ = some (.int .i64 W) ∧ w9.cell? ⟨w.heap.size, 1, none⟩ = some (.int .i64 H) ∧ w9.cell? ⟨w.heap.size, 2, none⟩ = some (.int .i64 L.length) ∧ w9.cell? ⟨w.heap.size, 3, none⟩ = some (.slice A n cap)) ∧ (w9.cell? ⟨w.heap.size + 1, 0, none⟩ = some (.int .i64 m) ∧ w9.cell? ⟨w.heap.size + 1, 1, none⟩ = some (.int .u8 c0) ∧ w9.cell? ⟨w.heap.size + 1, 2, none⟩ = some (.int .u8 c1) ∧ w9.cell? ⟨w.heap.size + 1, 3, none⟩ = some (.int .u8 c2) ∧ w9.cell? ⟨w.heap.size + 1, 4, none⟩ = some (.int .u8 c3))))
      have K0 := KK.out w0 (Below.refl _ _)
      have KD := KK.out w0.drew (below_drew (Below.refl _ _))
      go_region_held3 (fun w9 => (w9.cell? ⟨w.heap.size, 0, none⟩ = some (.int .i64 W) ∧ w9.cell? ⟨w.heap.size, 1, none⟩ = some (.int .i64 H) ∧ w9.cell? ⟨w.heap.size, 2, none⟩ = some (.int .i64 L.length) ∧ w9.cell? ⟨w.heap.size, 3, none⟩ = some (.slice A n cap)) ∧ (w9.cell? ⟨w.heap.size + 1, 0, none⟩ = some (.int .i64 m) ∧ w9.cell? ⟨w.heap.size + 1, 1, none⟩ = some (.int .u8 c0) ∧ w9.cell? ⟨w.heap.size + 1, 2, none⟩ = some (.int .u8 c1) ∧ w9.cell? ⟨w.heap.size + 1, 3, none⟩ = some (.int .u8 c2) ∧ w9.cell? ⟨w.heap.size + 1, 4, none⟩ = some (.int .u8 c3)))
          (first | with_reducible exact KD | with_reducible exact K0 | with_reducible exact K_w1 | with_reducible exact K_w2)
          (first
            | (go_at_call 73
               refine (CI.out _).mono ?_
               rintro e w1 ⟨rfl, hb⟩
               have B_w1 := Lib.hid (reg_next (w0 := w0) (by repeat (first | with_reducible exact Below.refl _ _ | with_reducible apply below_drew | with_reducible apply below_new)) hb)
               have K_w1 := KK.out _ B_w1.out
               clear hb)
            | (go_at_call 74
               refine (CB.out _).mono ?_
               rintro e w2 ⟨rfl, hb⟩
               have B_w2 := Lib.hid (below_next B_w1.out hb)
               have K_w2 := KK.out _ B_w2.out
               clear hb))
      clear KK K0 KD K_w1 K_w2
      replace r_i := Lib.hid (r_i.out.keep B_w2.out)
      replace r_b := Lib.hid (r_b.out.keep B_w2.out)
      replace h_m := Lib.hid (IMG.below h_m.out B_w2.out)
      replace BB := Lib.hid (below_next BB.out B_w2.out)
      clear B_w1 B_w2
      go_wp2_with fail
      refine wp_loop_rounds 3 ?_
      rw [rounds_succ]
      go_wp2_with fail
      rw [rounds_succ]
      go_wp2_with fail
      rw [rounds_succ]
      go_wp2_with fail
      refine (CN.out _ _).mono ?_
      rintro e w9 ⟨rfl, rfl⟩
      rw [hbu.out]
      go_wp2_with fail
      refine (CN.out _ _).mono ?_
      rintro e w9 ⟨rfl, rfl⟩
      rw [hbv.out]
      obtain ⟨c_i0, c_i1, c_i2, c_i3, f_i0, f_i1, f_i2, f_i3⟩ := reads4 r_i.out
      have l_i := r_i.out.lt
      obtain ⟨c_b0, c_b1, c_b2, c_b3, c_b4, f_b0, f_b1, f_b2, f_b3, f_b4⟩ := reads5 r_b.out
      have l_b := r_b.out.lt
      go_wp2_with fail
      refine (CY.out _ h_m.out).mono ?_
      rintro e w3 ⟨g, rfl, hb, hg, hr⟩
      clear c_i0 c_i1 c_i2 c_i3 f_i0 f_i1 f_i2 f_i3 l_i c_b0 c_b1 c_b2 c_b3 c_b4 f_b0 f_b1 f_b2 f_b3 f_b4 l_b
      replace r_i := Lib.hid (r_i.out.keep hb)
      replace r_b := Lib.hid (r_b.out.keep hb)
      replace h_m := Lib.hid (IMG.below h_m.out hb)
      replace BB := Lib.hid (below_next BB.out hb)
      clear hb
      go_wp2_with fail
      refine bodyPost_ret (v := .tuple #[.slice (some ⟨g, 0, none⟩) L.length L.length, .int .i64 0]) (by unfold results; simp only [Try.results55]; go_simp) rfl ?_
      exact ⟨g, rfl, BB.out, hr⟩
    · omega
  · exact absurd h' ‹_›
end Go.Proofs.Ytnklbnphiokpiaa
