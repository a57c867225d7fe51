/- Contracts of cubic.row.mix and of a channel of a curve. -/
import Derived.Test.YtnklbnphiokpiaaLnA
import Derived.Test.YtnklbnphiokpiaaBoxS
set_option linter.unusedVariables false
set_option linter.unusedSimpArgs false
namespace Go.Proofs.Ytnklbnphiokpiaa
open Go.RowKit
abbrev CRT : TypeId := 107
abbrev CAT : TypeId := 110
abbrev I4T : TypeId := 26
theorem crow_at0 (s0 s1 s2 s3 : Value) (w : World) : (Instr.index 107 (.agg #[s0, s1, s2, s3]) (.int .i64 0)).run Try.prog w = .ok s0 w := by kernel_rfl
theorem crow_at1 (s0 s1 s2 s3 : Value) (w : World) : (Instr.index 107 (.agg #[s0, s1, s2, s3]) (.int .i64 1)).run Try.prog w = .ok s1 w := by kernel_rfl
theorem crow_at2 (s0 s1 s2 s3 : Value) (w : World) : (Instr.index 107 (.agg #[s0, s1, s2, s3]) (.int .i64 2)).run Try.prog w = .ok s2 w := by kernel_rfl
theorem crow_at3 (s0 s1 s2 s3 : Value) (w : World) : (Instr.index 107 (.agg #[s0, s1, s2, s3]) (.int .i64 3)).run Try.prog w = .ok s3 w := by kernel_rfl
theorem cmix (gx gv : Nat) (x0 x1 x2 x3 a0 a1 a2 a3 : Int) (b0 : 0 ≤ a0 ∧ a0 ≤ 255) (b1 : 0 ≤ a1 ∧ a1 ≤ 255) (b2 : 0 ≤ a2 ∧ a2 ≤ 255) (b3 : 0 ≤ a3 ∧ a3 ≤ 255) (hd : -9223372036854775808 ≤ x0 * a0 + x1 * a1 + x2 * a2 + x3 * a3 ∧ x0 * a0 + x1 * a1 + x2 * a2 + x3 * a3 ≤ 9223372036854775807) (w : World)
    (ha : AtB w gx #[.int .i64 x0, .int .i64 x1, .int .i64 x2, .int .i64 x3] I4T) (hv : AtB w gv #[.int .u8 a0, .int .u8 a1, .int .u8 a2, .int .u8 a3] V4T) :
    Calls Try.prog 18 #[.slice (some ⟨gx, 0, none⟩) 4 4, .slice (some ⟨gv, 0, none⟩) 4 4] w fun e w' => e = .returned (.int .i64 (x0 * a0 + x1 * a1 + x2 * a2 + x3 * a3)) ∧ Below w.heap.size w w' := by
  have H := wmix_some gx 0 4 gv 0 4 4 4 (f4' x0 x1 x2 x3) (f4' a0 a1 a2 a3) (by omega) (by omega) (by omega) (by omega) w
    (fun i hi => by
      match i, hi with
      | 0, _ => exact ha.cell 0 rfl
      | 1, _ => exact ha.cell 1 rfl
      | 2, _ => exact ha.cell 2 rfl
      | 3, _ => exact ha.cell 3 rfl)
    (fun i hi => by
      match i, hi with
      | 0, _ => exact hv.cell 0 rfl
      | 1, _ => exact hv.cell 1 rfl
      | 2, _ => exact hv.cell 2 rfl
      | 3, _ => exact hv.cell 3 rfl)
    (fun i => by
      match i with
      | 0 => exact b0
      | 1 => exact b1
      | 2 => exact b2
      | 3 => exact b3
      | n + 4 => simp [f4'])
  have e : wrap64 (dotN (f4' x0 x1 x2 x3) (f4' a0 a1 a2 a3) (min 4 4)) = x0 * a0 + x1 * a1 + x2 * a2 + x3 * a3 := by
    show wrap64 (0 + x0 * a0 + x1 * a1 + x2 * a2 + x3 * a3) = _
    rw [Int.zero_add]; exact wr_in hd.1 hd.2
  rw [e] at H
  exact mix_below H
/-- The weights of a curve are not great. -/
def CW (x0 x1 x2 x3 : Int) : Prop := (-16777216 ≤ x0 ∧ x0 ≤ 16777216) ∧ (-33554432 ≤ x1 ∧ x1 ≤ 33554432) ∧ (-33554432 ≤ x2 ∧ x2 ≤ 33554432) ∧ (-16777216 ≤ x3 ∧ x3 ≤ 16777216)
theorem cw_ok0 : ∀ t : Fin 257, (-16777216 ≤ cw0 t.val ∧ cw0 t.val ≤ 16777216) ∧ (-33554432 ≤ cw1 t.val ∧ cw1 t.val ≤ 33554432) ∧ (-33554432 ≤ cw2 t.val ∧ cw2 t.val ≤ 33554432) ∧ (-16777216 ≤ cw3 t.val ∧ cw3 t.val ≤ 16777216) := by decide +kernel
theorem cw_ok {t : Int} (h0 : 0 ≤ t) (h1 : t ≤ 256) : CW (cw0 t) (cw1 t) (cw2 t) (cw3 t) := by
  obtain ⟨n, rfl⟩ : ∃ n : Nat, t = (n : Int) := ⟨t.toNat, by omega⟩
  exact cw_ok0 ⟨n, by omega⟩
theorem mul_byte {x a M : Int} (hx : -M ≤ x ∧ x ≤ M) (hM : 0 ≤ M) (ha : 0 ≤ a ∧ a ≤ 255) : -(255 * M) ≤ x * a ∧ x * a ≤ 255 * M := by
  have h1 := Int.mul_le_mul_of_nonneg_right hx.1 ha.1
  have h2 := Int.mul_le_mul_of_nonneg_right hx.2 ha.1
  have h3 := Int.mul_le_mul_of_nonneg_left ha.2 hM
  rw [Int.neg_mul] at h1
  rw [Int.mul_comm M 255] at h3
  omega
theorem cw_dot {x0 x1 x2 x3 a0 a1 a2 a3 : Int} (h : CW x0 x1 x2 x3) (b0 : 0 ≤ a0 ∧ a0 ≤ 255) (b1 : 0 ≤ a1 ∧ a1 ≤ 255) (b2 : 0 ≤ a2 ∧ a2 ≤ 255) (b3 : 0 ≤ a3 ∧ a3 ≤ 255) : -25669140480 ≤ x0 * a0 + x1 * a1 + x2 * a2 + x3 * a3 ∧ x0 * a0 + x1 * a1 + x2 * a2 + x3 * a3 ≤ 25669140480 := by
  have h0 := mul_byte h.1 (by omega) b0
  have h1 := mul_byte h.2.1 (by omega) b1
  have h2 := mul_byte h.2.2.1 (by omega) b2
  have h3 := mul_byte h.2.2.2 (by omega) b3
  omega
set_option maxRecDepth 100000 in
set_option maxHeartbeats 8000000 in
theorem crmix (A0 A1 A2 A3 : Option Addr) (n0 n1 n2 n3 p0 p1 p2 p3 k : Nat) (L0 L1 L2 L3 : List Int) (x0 x1 x2 x3 : Int) (w : World)
    (h0 : BS w (.slice A0 n0 p0) L0) (h1 : BS w (.slice A1 n1 p1) L1) (h2 : BS w (.slice A2 n2 p2) L2) (h3 : BS w (.slice A3 n3 p3) L3) (e0 : n0 = L0.length) (e1 : n1 = L1.length) (e2 : n2 = L2.length) (e3 : n3 = L3.length)
    (hw : CW x0 x1 x2 x3) (hk1 : k ≤ 1000) :
    Calls Try.prog 104 #[.agg #[.slice A0 n0 p0, .slice A1 n1 p1, .slice A2 n2 p2, .slice A3 n3 p3], .agg #[.int .i64 x0, .int .i64 x1, .int .i64 x2, .int .i64 x3], .int .i64 (k : Int)] w fun e w' =>
      e = .returned (.int .i64 (x0 * L0.getD k 0 + x1 * L1.getD k 0 + x2 * L2.getD k 0 + x3 * L3.getD k 0)) ∧ Below w.heap.size w w' := by
  have b0 := h0.bytes k
  have b1 := h1.bytes k
  have b2 := h2.bytes k
  have b3 := h3.bytes k
  have H0 := Lib.hid h0
  have H1 := Lib.hid h1
  have H2 := Lib.hid h2
  have H3 := Lib.hid h3
  have hN0 := Lib.hid e0
  have hN1 := Lib.hid e1
  have hN2 := Lib.hid e2
  have hN3 := Lib.hid e3
  clear h0 h1 h2 h3 e0 e1 e2 e3
  generalize hA0 : L0.getD k 0 = a0 at *
  generalize hA1 : L1.getD k 0 = a1 at *
  generalize hA2 : L2.getD k 0 = a2 at *
  generalize hA3 : L3.getD k 0 = a3 at *
  replace hA0 := Lib.hid hA0; replace hA1 := Lib.hid hA1; replace hA2 := Lib.hid hA2; replace hA3 := Lib.hid hA3
  have J0 := crow_at0
  have J1 := crow_at1
  have J2 := crow_at2
  have J3 := crow_at3
  have hF := cw_dot hw b0 b1 b2 b3
  have CM := Lib.hid (fun gx gv w ha hv => cmix gx gv x0 x1 x2 x3 a0 a1 a2 a3 b0 b1 b2 b3 ⟨by omega, by omega⟩ w ha hv)
  generalize x0 * a0 + x1 * a1 + x2 * a2 + x3 * a3 = S at *
  clear hF b0 b1 b2 b3 hw
  go_enter Try.func104, Try.ntmps104
  go_wp2_with fail
  have BB := start3 w #[.slice A0 n0 p0, .slice A1 n1 p1, .slice A2 n2 p2, .slice A3 n3 p3] CRT #[.int .i64 x0, .int .i64 x1, .int .i64 x2, .int .i64 x3] I4T #[.int .u8 0, .int .u8 0, .int .u8 0, .int .u8 0] V4T
  obtain ⟨BB, hsz, r_r, r_x, r_v⟩ := BB
  generalize (((w.alloc (.cells #[.slice A0 n0 p0, .slice A1 n1 p1, .slice A2 n2 p2, .slice A3 n3 p3] CRT)).alloc (.cells #[.int .i64 x0, .int .i64 x1, .int .i64 x2, .int .i64 x3] I4T)).alloc (.cells #[.int .u8 0, .int .u8 0, .int .u8 0, .int .u8 0] V4T)) = w0 at *
  replace BB := Lib.hid BB
  replace r_r := Lib.hid r_r
  replace r_x := Lib.hid r_x
  replace r_v := Lib.hid r_v
  clear hsz
  obtain ⟨c_r0, c_r1, c_r2, c_r3, f_r0, f_r1, f_r2, f_r3⟩ := reads4 r_r.out
  have l_r := r_r.out.lt
  go_wp2_with fail
  clear c_r0 c_r1 c_r2 c_r3 f_r0 f_r1 f_r2 f_r3 l_r
  go_loopw [8, 9, 11] (fun _ _ i wr => ∃ j : Nat, j ≤ 4 ∧ i = .int .i64 j ∧ Hid (AtB wr (w.heap.size + 2) (vBox a0 a1 a2 a3 j) V4T ∧ AtB wr w.heap.size #[.slice A0 n0 p0, .slice A1 n1 p1, .slice A2 n2 p2, .slice A3 n3 p3] CRT ∧ AtB wr (w.heap.size + 1) #[.int .i64 x0, .int .i64 x1, .int .i64 x2, .int .i64 x3] I4T ∧ Below w.heap.size w wr)) (fun _ _ i _ => 4 - (intOf i).toNat)
  case atStart => exact ⟨0, by omega, rfl, ⟨by have h := r_v.out; simpa [vBox, upto] using h, r_r.out, r_x.out, BB.out⟩⟩
  case round =>
    clear r_v r_r r_x BB
    obtain ⟨j, hj, rfl, hinv⟩ := hrel
    obtain ⟨r_v, r_r, r_x, BB⟩ := hinv.out
    replace r_v := Lib.hid r_v; replace r_r := Lib.hid r_r; replace r_x := Lib.hid r_x; replace BB := Lib.hid BB
    clear hinv
    have hj5 : j = 0 ∨ j = 1 ∨ j = 2 ∨ j = 3 ∨ j = 4 := by omega
    rcases hj5 with rfl | rfl | rfl | rfl | rfl
    · skip
      by_cases hk : k < n0
      · obtain ⟨b, off, rfl, hlt, hc⟩ := H0.out.cell_at hN0.out hk
        have cz := (BB.out.cell (p := ⟨b, off + k, none⟩) hlt).trans hc
        have k0 : (0 : Int) ≤ (k : Int) := by omega
        have k1 : (k : Int) < (n0 : Int) := by omega
        have hE := Lib.hid (show L0.getD k 0 = a0 from hA0.out)
        rw [hE.out] at cz
        clear hc
        obtain ⟨c_v0, c_v1, c_v2, c_v3, f_v0, f_v1, f_v2, f_v3⟩ := reads4 r_v.out
        have l_v := r_v.out.lt
        go_wp2_with fail
        clear c_v0 c_v1 c_v2 c_v3 f_v0 f_v1 f_v2 f_v3 l_v
        replace r_r := Lib.hid (r_r.out.far (p := w.heap.size + 2) (by omega) 0 (.int .u8 a0))
        replace r_x := Lib.hid (r_x.out.far (p := w.heap.size + 2) (by omega) 0 (.int .u8 a0))
        replace r_v := Lib.hid (show AtB (wr.setCell ⟨w.heap.size + 2, 0, none⟩ (.int .u8 a0)) (w.heap.size + 2) #[.int .u8 a0, .int .u8 (upto a1 1 0), .int .u8 (upto a2 2 0), .int .u8 (upto a3 3 0)] V4T from by have k := (r_v.out.set_n 0 (.int .u8 a0)); simpa using k)
        replace BB := Lib.hid (below_set BB.out (b := w.heap.size + 2) (o := 0) (by omega) (.int .u8 a0))
        generalize (wr.setCell ⟨w.heap.size + 2, 0, none⟩ (.int .u8 a0)) = w1 at *
        go_roundw
        case rel => exact ⟨0 + 1, by omega, rfl, ⟨by have h := r_v.out; simpa [vBox, upto] using h, r_r.out, r_x.out, BB.out⟩⟩
        case measure => simp [intOf]
      · have hk2 : ¬ (k : Int) < (n0 : Int) := by omega
        have h0 : a0 = 0 := by rw [← hA0.out]; exact getD_out (by rw [← hN0.out]; exact hk)
        obtain ⟨c_v0, c_v1, c_v2, c_v3, f_v0, f_v1, f_v2, f_v3⟩ := reads4 r_v.out
        have l_v := r_v.out.lt
        go_wp2_with fail
        go_roundw
        case rel => exact ⟨0 + 1, by omega, rfl, ⟨by have h := r_v.out; simpa [vBox, upto, h0] using h, r_r.out, r_x.out, BB.out⟩⟩
        case measure => simp [intOf]
    · skip
      by_cases hk : k < n1
      · obtain ⟨b, off, rfl, hlt, hc⟩ := H1.out.cell_at hN1.out hk
        have cz := (BB.out.cell (p := ⟨b, off + k, none⟩) hlt).trans hc
        have k0 : (0 : Int) ≤ (k : Int) := by omega
        have k1 : (k : Int) < (n1 : Int) := by omega
        have hE := Lib.hid (show L1.getD k 0 = a1 from hA1.out)
        rw [hE.out] at cz
        clear hc
        obtain ⟨c_v0, c_v1, c_v2, c_v3, f_v0, f_v1, f_v2, f_v3⟩ := reads4 r_v.out
        have l_v := r_v.out.lt
        go_wp2_with fail
        clear c_v0 c_v1 c_v2 c_v3 f_v0 f_v1 f_v2 f_v3 l_v
        replace r_r := Lib.hid (r_r.out.far (p := w.heap.size + 2) (by omega) 1 (.int .u8 a1))
        replace r_x := Lib.hid (r_x.out.far (p := w.heap.size + 2) (by omega) 1 (.int .u8 a1))
        replace r_v := Lib.hid (show AtB (wr.setCell ⟨w.heap.size + 2, 1, none⟩ (.int .u8 a1)) (w.heap.size + 2) #[.int .u8 (upto a0 0 1), .int .u8 a1, .int .u8 (upto a2 2 1), .int .u8 (upto a3 3 1)] V4T from by have k := (r_v.out.set_n 1 (.int .u8 a1)); simpa using k)
        replace BB := Lib.hid (below_set BB.out (b := w.heap.size + 2) (o := 1) (by omega) (.int .u8 a1))
        generalize (wr.setCell ⟨w.heap.size + 2, 1, none⟩ (.int .u8 a1)) = w1 at *
        go_roundw
        case rel => exact ⟨1 + 1, by omega, rfl, ⟨by have h := r_v.out; simpa [vBox, upto] using h, r_r.out, r_x.out, BB.out⟩⟩
        case measure => simp [intOf]
      · have hk2 : ¬ (k : Int) < (n1 : Int) := by omega
        have h0 : a1 = 0 := by rw [← hA1.out]; exact getD_out (by rw [← hN1.out]; exact hk)
        obtain ⟨c_v0, c_v1, c_v2, c_v3, f_v0, f_v1, f_v2, f_v3⟩ := reads4 r_v.out
        have l_v := r_v.out.lt
        go_wp2_with fail
        go_roundw
        case rel => exact ⟨1 + 1, by omega, rfl, ⟨by have h := r_v.out; simpa [vBox, upto, h0] using h, r_r.out, r_x.out, BB.out⟩⟩
        case measure => simp [intOf]
    · skip
      by_cases hk : k < n2
      · obtain ⟨b, off, rfl, hlt, hc⟩ := H2.out.cell_at hN2.out hk
        have cz := (BB.out.cell (p := ⟨b, off + k, none⟩) hlt).trans hc
        have k0 : (0 : Int) ≤ (k : Int) := by omega
        have k1 : (k : Int) < (n2 : Int) := by omega
        have hE := Lib.hid (show L2.getD k 0 = a2 from hA2.out)
        rw [hE.out] at cz
        clear hc
        obtain ⟨c_v0, c_v1, c_v2, c_v3, f_v0, f_v1, f_v2, f_v3⟩ := reads4 r_v.out
        have l_v := r_v.out.lt
        go_wp2_with fail
        clear c_v0 c_v1 c_v2 c_v3 f_v0 f_v1 f_v2 f_v3 l_v
        replace r_r := Lib.hid (r_r.out.far (p := w.heap.size + 2) (by omega) 2 (.int .u8 a2))
        replace r_x := Lib.hid (r_x.out.far (p := w.heap.size + 2) (by omega) 2 (.int .u8 a2))
        replace r_v := Lib.hid (show AtB (wr.setCell ⟨w.heap.size + 2, 2, none⟩ (.int .u8 a2)) (w.heap.size + 2) #[.int .u8 (upto a0 0 2), .int .u8 (upto a1 1 2), .int .u8 a2, .int .u8 (upto a3 3 2)] V4T from by have k := (r_v.out.set_n 2 (.int .u8 a2)); simpa using k)
        replace BB := Lib.hid (below_set BB.out (b := w.heap.size + 2) (o := 2) (by omega) (.int .u8 a2))
        generalize (wr.setCell ⟨w.heap.size + 2, 2, none⟩ (.int .u8 a2)) = w1 at *
        go_roundw
        case rel => exact ⟨2 + 1, by omega, rfl, ⟨by have h := r_v.out; simpa [vBox, upto] using h, r_r.out, r_x.out, BB.out⟩⟩
        case measure => simp [intOf]
      · have hk2 : ¬ (k : Int) < (n2 : Int) := by omega
        have h0 : a2 = 0 := by rw [← hA2.out]; exact getD_out (by rw [← hN2.out]; exact hk)
        obtain ⟨c_v0, c_v1, c_v2, c_v3, f_v0, f_v1, f_v2, f_v3⟩ := reads4 r_v.out
        have l_v := r_v.out.lt
        go_wp2_with fail
        go_roundw
        case rel => exact ⟨2 + 1, by omega, rfl, ⟨by have h := r_v.out; simpa [vBox, upto, h0] using h, r_r.out, r_x.out, BB.out⟩⟩
        case measure => simp [intOf]
    · skip
      by_cases hk : k < n3
      · obtain ⟨b, off, rfl, hlt, hc⟩ := H3.out.cell_at hN3.out hk
        have cz := (BB.out.cell (p := ⟨b, off + k, none⟩) hlt).trans hc
        have k0 : (0 : Int) ≤ (k : Int) := by omega
        have k1 : (k : Int) < (n3 : Int) := by omega
        have hE := Lib.hid (show L3.getD k 0 = a3 from hA3.out)
        rw [hE.out] at cz
        clear hc
        obtain ⟨c_v0, c_v1, c_v2, c_v3, f_v0, f_v1, f_v2, f_v3⟩ := reads4 r_v.out
        have l_v := r_v.out.lt
        go_wp2_with fail
        clear c_v0 c_v1 c_v2 c_v3 f_v0 f_v1 f_v2 f_v3 l_v
        replace r_r := Lib.hid (r_r.out.far (p := w.heap.size + 2) (by omega) 3 (.int .u8 a3))
        replace r_x := Lib.hid (r_x.out.far (p := w.heap.size + 2) (by omega) 3 (.int .u8 a3))
        replace r_v := Lib.hid (show AtB (wr.setCell ⟨w.heap.size + 2, 3, none⟩ (.int .u8 a3)) (w.heap.size + 2) #[.int .u8 (upto a0 0 3), .int .u8 (upto a1 1 3), .int .u8 (upto a2 2 3), .int .u8 a3] V4T from by have k := (r_v.out.set_n 3 (.int .u8 a3)); simpa using k)
        replace BB := Lib.hid (below_set BB.out (b := w.heap.size + 2) (o := 3) (by omega) (.int .u8 a3))
        generalize (wr.setCell ⟨w.heap.size + 2, 3, none⟩ (.int .u8 a3)) = w1 at *
        go_roundw
        case rel => exact ⟨3 + 1, by omega, rfl, ⟨by have h := r_v.out; simpa [vBox, upto] using h, r_r.out, r_x.out, BB.out⟩⟩
        case measure => simp [intOf]
      · have hk2 : ¬ (k : Int) < (n3 : Int) := by omega
        have h0 : a3 = 0 := by rw [← hA3.out]; exact getD_out (by rw [← hN3.out]; exact hk)
        obtain ⟨c_v0, c_v1, c_v2, c_v3, f_v0, f_v1, f_v2, f_v3⟩ := reads4 r_v.out
        have l_v := r_v.out.lt
        go_wp2_with fail
        go_roundw
        case rel => exact ⟨3 + 1, by omega, rfl, ⟨by have h := r_v.out; simpa [vBox, upto, h0] using h, r_r.out, r_x.out, BB.out⟩⟩
        case measure => simp [intOf]
    · replace r_v := Lib.hid (show AtB wr (w.heap.size + 2) #[.int .u8 a0, .int .u8 a1, .int .u8 a2, .int .u8 a3] V4T by have h := r_v.out; simpa [vBox, upto] using h)
      have CM2 := Lib.hid (fun w9 (h : Below wr.heap.size wr w9) => CM.out _ _ w9 (r_x.out.keep h) (r_v.out.keep h))
      go_wp2_with fail
      have KK := Lib.hid (fun (w9 : World) (h : Below wr.heap.size wr w9) => (cells4 (r_v.out.keep h) : (w9.cell? ⟨w.heap.size + 2, 0, none⟩ = some (.int .u8 a0) ∧ w9.cell? ⟨w.heap.size + 2, 1, none⟩ = some (.int .u8 a1) ∧ w9.cell? ⟨w.heap.size + 2, 2, none⟩ = some (.int .u8 a2) ∧ w9.cell? ⟨w.heap.size + 2, 3, none⟩ = some (.int .u8 a3))))
      have K0 := KK.out wr (Below.refl _ _)
      have KD := KK.out wr.drew (below_drew (Below.refl _ _))
      go_region_held3 (fun w9 => (w9.cell? ⟨w.heap.size + 2, 0, none⟩ = some (.int .u8 a0) ∧ w9.cell? ⟨w.heap.size + 2, 1, none⟩ = some (.int .u8 a1) ∧ w9.cell? ⟨w.heap.size + 2, 2, none⟩ = some (.int .u8 a2) ∧ w9.cell? ⟨w.heap.size + 2, 3, none⟩ = some (.int .u8 a3)))
          (first | with_reducible exact KD | with_reducible exact K0 | with_reducible exact K_w1)
          (first
            | (go_at_call 18
               refine (CM2.out _ ?_).mono ?_
               · repeat (first | with_reducible exact Below.refl _ _ | with_reducible apply below_drew | with_reducible apply below_new)
               rintro e w1 ⟨rfl, hb⟩
               have B_w1 := Lib.hid (reg_next (w0 := wr) (by repeat (first | with_reducible exact Below.refl _ _ | with_reducible apply below_drew | with_reducible apply below_new)) hb)
               have K_w1 := KK.out _ B_w1.out
               clear hb))
      clear KK K0 KD K_w1
      replace r_r := Lib.hid (r_r.out.keep B_w1.out)
      replace r_x := Lib.hid (r_x.out.keep B_w1.out)
      replace r_v := Lib.hid (r_v.out.keep B_w1.out)
      replace BB := Lib.hid (below_next BB.out B_w1.out)
      clear B_w1
      go_wp2_with fail
      go_ret
      exact ⟨rfl, BB.out⟩
end Go.Proofs.Ytnklbnphiokpiaa
