/- Contract of ref30.At: the document's mix of the sixteen pixels around a place. -/
import Derived.Test.YtnklbnphiokpiaaCu1
set_option linter.unusedVariables false
set_option linter.unusedSimpArgs false
namespace Go.Proofs.Ytnklbnphiokpiaa
open Go.RowKit
def cubRow (Lf : Nat → List Int) (x0 x1 x2 x3 y0 y1 y2 y3 : Int) (c : Nat) : List Int := (List.range c).map (cubAt Lf x0 x1 x2 x3 y0 y1 y2 y3)
def cubL (W H C m u v : Int) (cl zs : List Int) (c : Nat) : List Int := cubRow (pix4 W H C m (u / 65536) (v / 65536) cl zs 4 (-1)) (cw0 (u % 65536 / 256)) (cw1 (u % 65536 / 256)) (cw2 (u % 65536 / 256)) (cw3 (u % 65536 / 256)) (cw0 (v % 65536 / 256)) (cw1 (v % 65536 / 256)) (cw2 (v % 65536 / 256)) (cw3 (v % 65536 / 256)) c
theorem cubRow_len (Lf : Nat → List Int) (x0 x1 x2 x3 y0 y1 y2 y3 : Int) (c : Nat) : (cubRow Lf x0 x1 x2 x3 y0 y1 y2 y3 c).length = c := by simp [cubRow]
theorem cubRow_byte (Lf : Nat → List Int) (x0 x1 x2 x3 y0 y1 y2 y3 : Int) (c : Nat) : ∀ z ∈ cubRow Lf x0 x1 x2 x3 y0 y1 y2 y3 c, 0 ≤ z ∧ z ≤ 255 := fun z hz => by
  unfold cubRow at hz
  obtain ⟨k, -, rfl⟩ := List.mem_map.1 hz
  unfold cubAt byteI
  split <;> omega
theorem mix_sum16 (Lf : Nat → List Int) (x0 x1 x2 x3 y0 y1 y2 y3 : Int) (k : Nat) : mixS (fun i => f4' x0 x1 x2 x3 (i % 4) * f4' y0 y1 y2 y3 (i / 4)) Lf k 16 = y0 * (x0 * (Lf 0).getD k 0 + x1 * (Lf 1).getD k 0 + x2 * (Lf 2).getD k 0 + x3 * (Lf 3).getD k 0) + y1 * (x0 * (Lf 4).getD k 0 + x1 * (Lf 5).getD k 0 + x2 * (Lf 6).getD k 0 + x3 * (Lf 7).getD k 0) + y2 * (x0 * (Lf 8).getD k 0 + x1 * (Lf 9).getD k 0 + x2 * (Lf 10).getD k 0 + x3 * (Lf 11).getD k 0) + y3 * (x0 * (Lf 12).getD k 0 + x1 * (Lf 13).getD k 0 + x2 * (Lf 14).getD k 0 + x3 * (Lf 15).getD k 0) := by
  simp only [mixS, f4', Int.zero_add]
  simp only [List.getD_cons_zero, List.getD_cons_succ, Nat.reduceMod, Nat.reduceDiv]
  grind
theorem mix_row16 (Lf : Nat → List Int) (x0 x1 x2 x3 y0 y1 y2 y3 : Int) (c : Nat) : (List.range c).map (fun k => byteI (mixS (fun i => f4' x0 x1 x2 x3 (i % 4) * f4' y0 y1 y2 y3 (i / 4)) Lf k 16) 1125899906842624) = cubRow Lf x0 x1 x2 x3 y0 y1 y2 y3 c := by
  unfold cubRow
  apply List.map_congr_left
  intro k _
  rw [mix_sum16]; rfl
theorem f4_in {x0 x1 x2 x3 : Int} (h0 : I64 x0) (h1 : I64 x1) (h2 : I64 x2) (h3 : I64 x3) : ∀ i, I64 (f4' x0 x1 x2 x3 i) := fun i => by
  match i with
  | 0 => exact h0
  | 1 => exact h1
  | 2 => exact h2
  | 3 => exact h3
  | n + 4 => exact ⟨by simp [f4'], by simp [f4']⟩
def FourAt (w : World) (g : Nat) (x0 x1 x2 x3 : Int) : Prop := AtB w g #[.int .i64 x0, .int .i64 x1, .int .i64 x2, .int .i64 x3] 2
theorem FourAt.below {w w1 : World} {g : Nat} {x0 x1 x2 x3 : Int} (h : FourAt w g x0 x1 x2 x3) (hb : Below w.heap.size w w1) : FourAt w1 g x0 x1 x2 x3 := AtB.keep h hb
theorem FourAt.at {w : World} {g : Nat} {x0 x1 x2 x3 : Int} (h : FourAt w g x0 x1 x2 x3) : ∀ i, i < 4 → w.cell? ⟨g, 0 + i, none⟩ = some (.int .i64 (f4' x0 x1 x2 x3 i)) := fun i hi => by
  match i, hi with
  | 0, _ => exact AtB.cell h 0 rfl
  | 1, _ => exact AtB.cell h 1 rfl
  | 2, _ => exact AtB.cell h 2 rfl
  | 3, _ => exact AtB.cell h 3 rfl
theorem CW.in {x0 x1 x2 x3 : Int} (h : CW x0 x1 x2 x3) : ∀ i, I64 (f4' x0 x1 x2 x3 i) := by
  obtain ⟨h0, h1, h2, h3⟩ := h
  exact f4_in ⟨by omega, by omega⟩ ⟨by omega, by omega⟩ ⟨by omega, by omega⟩ ⟨by omega, by omega⟩
theorem mixg16 (rb rcap wb hb c : Nat) (S : Nat → Value) (Lf : Nat → List Int) (x0 x1 x2 x3 y0 y1 y2 y3 : Int) (hx : CW x0 x1 x2 x3) (hy : CW y0 y1 y2 y3) (hc : c ≤ 1000) (hby : ∀ i k, 0 ≤ (Lf i).getD k 0 ∧ (Lf i).getD k 0 ≤ 255) (o : Value) (w : World) (hR : RowsAt w rb 16 S Lf) (ha : FourAt w wb x0 x1 x2 x3) (hbb : FourAt w hb y0 y1 y2 y3) (ho : BR w o 1125899906842624) :
    Calls Try.prog 45 #[.slice (some ⟨rb, 0, none⟩) 16 rcap, .int .i64 (c : Int), .slice (some ⟨wb, 0, none⟩) 4 4, .slice (some ⟨hb, 0, none⟩) 4 4, o] w fun e w' => ∃ r, e = .returned r ∧ Below w.heap.size w w' ∧ BS w' r (cubRow Lf x0 x1 x2 x3 y0 y1 y2 y3 c) := by
  have ba := hx.in
  have bb := hy.in
  have bz : ∀ i k, Wd 63 ((Lf i).getD k 0) := fun i k => by have := hby i k; exact i64_wd ⟨by omega, by omega⟩
  rw [← mix_row16]
  exact r29mix rb 0 rcap 16 c wb 0 4 4 hb 0 4 4 S Lf (f4' x0 x1 x2 x3) (f4' y0 y1 y2 y3) o 1125899906842624 w hc (by omega) (by omega) (by omega) (by omega) (by omega) ba bb (fun k i hi => (mix_wd (fun i => ((i64_wd (ba _)).mul (i64_wd (bb _))).up (by omega)) (fun i => bz i k) i).up (by omega)) (by omega) ((i64_wd ⟨by omega, by omega⟩).up (by omega)) ho hR.1 hR.2.1 hR.2.2 (AtB.lt ha) ha.at (AtB.lt hbb) hbb.at
theorem rcub (t : Int) (h0 : 0 ≤ t) (h1 : t ≤ 256) (w : World) : Calls Try.prog 46 #[.int .i64 t] w fun e w' => ∃ g, e = .returned (.slice (some ⟨g, 0, none⟩) 4 4) ∧ Below w.heap.size w w' ∧ FourAt w' g (cw0 t) (cw1 t) (cw2 t) (cw3 t) :=
  (rcubic_any t h0 h1 w).mono fun e w' ⟨h1, h2⟩ => ⟨_, h1, by rw [h2]; exact below_new (Below.refl _ _) _, by rw [h2]; exact new_at w _ _⟩
set_option maxRecDepth 100000 in
set_option maxHeartbeats 8000000 in
theorem r30at (W H m c0 c1 c2 c3 u v : Int) (c : Nat) (s : Value) (zs : List Int) (w : World) (hi : IMG w s W H c zs) (hm : I64 m) (h0 : ibC W H c m zs.length = 0) (hu : -70368744177664 ≤ u ∧ u ≤ 70368744177664) (hv : -70368744177664 ≤ v ∧ v ≤ 70368744177664) (hcol : ∀ z ∈ [c0, c1, c2, c3], 0 ≤ z ∧ z ≤ 255) :
    Calls Try.prog 49 #[imv W H c s, brv m c0 c1 c2 c3, .int .i64 u, .int .i64 v] w fun e w' => ∃ r, e = .returned r ∧ Below w.heap.size w w' ∧ BS w' r (cubL W H c m u v [c0, c1, c2, c3] zs c) := by
  have SU := Lib.hid (fun w => rsplit u ⟨by omega, by omega⟩ w)
  have SV := Lib.hid (fun w => rsplit v ⟨by omega, by omega⟩ w)
  have CF := Lib.hid (fun w => rcub (u % 65536 / 256) (by omega) (by omega) w)
  have CG := Lib.hid (fun w => rcub (v % 65536 / 256) (by omega) (by omega) w)
  have hcx := cw_ok (t := u % 65536 / 256) (by omega) (by omega)
  have hcy := cw_ok (t := v % 65536 / 256) (by omega) (by omega)
  have CP := Lib.hid (fun w => pow_any 50 (by omega) w)
  rw [show ((2 : Int) ^ 50) = 1125899906842624 from by decide] at CP
  have hc4 : c ≤ 4 := by have := (ibC_zero h0).2.2.1; omega
  have CPx := Lib.hid (fun (i : Nat) (h4 : i < 16) w hi => r28pixelO W H c m c0 c1 c2 c3 (u / 65536 + -1 + ((i % 4 : Nat) : Int)) (v / 65536 + -1 + ((i / 4 : Nat) : Int)) s zs w hi hm ⟨by omega, by omega⟩ ⟨by omega, by omega⟩ h0 hcol)
  have HY : Hid (∀ i, ∀ z ∈ pix4 W H c m (u / 65536) (v / 65536) [c0, c1, c2, c3] zs 4 (-1) i, 0 ≤ z ∧ z ≤ 255) := fun i => pixL_byte hi.ib.all hcol
  have CM := Lib.hid (fun rb rcap wb hb S o w hR ha hbb ho => mixg16 rb rcap wb hb c S (pix4 W H c m (u / 65536) (v / 65536) [c0, c1, c2, c3] zs 4 (-1)) _ _ _ _ _ _ _ _ hcx hcy (by omega) (fun i k => bytes_at (HY.out i) k) o w hR ha hbb ho)
  have bi : -1073741824 ≤ u / 65536 ∧ u / 65536 ≤ 1073741824 := by omega
  have bk : -1073741824 ≤ v / 65536 ∧ v / 65536 ≤ 1073741824 := by omega
  unfold cubL
  have CPx := Lib.hid (show ∀ (i : Nat) (h4 : i < 16) w (hi : IMG w s W H c zs), Calls Try.prog 76 #[imv W H c s, brv m c0 c1 c2 c3, .int .i64 (u / 65536 + -1 + ((i % 4 : Nat) : Int)), .int .i64 (v / 65536 + -1 + ((i / 4 : Nat) : Int))] w fun e w' => ∃ v', e = .returned v' ∧ Below w.heap.size w w' ∧ PixO w' (w.heap.size + 2) v' (pix4 W H c m (u / 65536) (v / 65536) [c0, c1, c2, c3] zs 4 (-1) i) from fun i h4 w hi => CPx.out i h4 w hi)
  generalize pix4 W H c m (u / 65536) (v / 65536) [c0, c1, c2, c3] zs 4 (-1) = Lf at *
  have bfu : 0 ≤ u % 65536 ∧ u % 65536 < 65536 := by omega
  have bfv : 0 ≤ v % 65536 ∧ v % 65536 < 65536 := by omega
  generalize u / 65536 = fx at *
  generalize v / 65536 = fy at *
  generalize u % 65536 = fu at *
  generalize v % 65536 = fv at *
  have qu : fu.tdiv 256 = fu / 256 := Int.tdiv_eq_ediv_of_nonneg (by omega)
  have qv : fv.tdiv 256 = fv / 256 := Int.tdiv_eq_ediv_of_nonneg (by omega)
  have wqu : IntKind.i64.wrap (fu / 256) = fu / 256 := iw ⟨by omega, by omega⟩
  have wqv : IntKind.i64.wrap (fv / 256) = fv / 256 := iw ⟨by omega, by omega⟩
  clear bfu bfv hcx hcy
  generalize fu / 256 = tu at *
  generalize fv / 256 = tv at *
  generalize cw0 tu = x0 at *
  generalize cw1 tu = x1 at *
  generalize cw2 tu = x2 at *
  generalize cw3 tu = x3 at *
  generalize cw0 tv = y0 at *
  generalize cw1 tv = y1 at *
  generalize cw2 tv = y2 at *
  generalize cw3 tv = y3 at *
  obtain ⟨fx', hfx⟩ : ∃ f', f' = fx + -1 := ⟨_, rfl⟩
  obtain ⟨fy', hfy⟩ : ∃ f', f' = fy + -1 := ⟨_, rfl⟩
  rw [← hfx, ← hfy] at CPx
  have efx : IntKind.i64.wrap (fx - 1) = fx' := by rw [show fx - 1 = fx' by omega]; exact iw ⟨by omega, by omega⟩
  have efy : IntKind.i64.wrap (fy - 1) = fy' := by rw [show fy - 1 = fy' by omega]; exact iw ⟨by omega, by omega⟩
  have bi' : -1073741825 ≤ fx' ∧ fx' ≤ 1073741824 := by omega
  have bk' : -1073741825 ≤ fy' ∧ fy' ≤ 1073741824 := by omega
  clear bi bk hfx hfy
  have hi := Lib.hid hi
  obtain ⟨i0, hi0, hz0, hz1, hz2⟩ := info_parts info_sl
  clear h0 hm hcol hu hv
  go_enter Try.func49, Try.ntmps49
  go_wp2_with fail
  have BB := start2 w #[.int .i64 W, .int .i64 H, .int .i64 c, s] IT #[.int .i64 m, .int .u8 c0, .int .u8 c1, .int .u8 c2, .int .u8 c3] RT
  obtain ⟨BB, hsz, r_i, r_b⟩ := BB
  generalize ((w.alloc (.cells #[.int .i64 W, .int .i64 H, .int .i64 c, s] IT)).alloc (.cells #[.int .i64 m, .int .u8 c0, .int .u8 c1, .int .u8 c2, .int .u8 c3] RT)) = w0 at *
  replace BB := Lib.hid BB
  replace r_i := Lib.hid r_i
  replace r_b := Lib.hid r_b
  clear hsz
  refine (SU.out _).mono ?_
  rintro e w9 ⟨rfl, rfl⟩
  go_wp2_with fail
  refine (SV.out _).mono ?_
  rintro e w9 ⟨rfl, rfl⟩
  go_wp2_with fail
  have h_m := Lib.hid (hi.out.below BB.out)
  go_loopw [13, 14] (fun v i wr => ∃ (S : List Value), S.length ≤ 16 ∧ i = .int .i64 S.length ∧ Hid (PixRows wr (w.heap.size + 2) v S Lf ∧ AtB wr w.heap.size #[.int .i64 W, .int .i64 H, .int .i64 c, s] IT ∧ AtB wr (w.heap.size + 1) #[.int .i64 m, .int .u8 c0, .int .u8 c1, .int .u8 c2, .int .u8 c3] RT ∧ IMG wr s W H c zs ∧ Below w.heap.size w wr)) (fun _ i _ => 16 - (intOf i).toNat)
  case atStart => exact ⟨[], by simp, rfl, ⟨PixRows.nil _ _ _, r_i.out, r_b.out, h_m.out, BB.out⟩⟩
  case round =>
    clear r_i r_b h_m BB
    obtain ⟨S, hj, rfl, hinv⟩ := hrel
    obtain ⟨HO, r_i, r_b, h_m, BB⟩ := hinv.out
    replace HO := Lib.hid HO; replace r_i := Lib.hid r_i; replace r_b := Lib.hid r_b; replace h_m := Lib.hid h_m; replace BB := Lib.hid BB
    clear hinv
    obtain ⟨j, hSj⟩ : ∃ j, S.length = j := ⟨_, rfl⟩
    have hw0 := BB.out.size
    by_cases hlt : j < 16
    · have hjl : S.length < 16 := by omega
      have j1 : (j : Int) < 16 := by omega
      have CJ := CPx.out j hlt
      have er : (j : Int).tmod 4 = ((j % 4 : Nat) : Int) := rem_nat j 4
      have eq : (j : Int).tdiv 4 = ((j / 4 : Nat) : Int) := tdiv_nat j 4
      have ey : IntKind.i64.wrap ((j / 4 : Nat) : Int) = ((j / 4 : Nat) : Int) := iw ⟨by omega, by omega⟩
      have ex : IntKind.i64.wrap ((j % 4 : Nat) : Int) = ((j % 4 : Nat) : Int) := iw ⟨by omega, by omega⟩
      have x0 : 0 ≤ ((j % 4 : Nat) : Int) ∧ ((j % 4 : Nat) : Int) ≤ 3 := by omega
      have y0 : 0 ≤ ((j / 4 : Nat) : Int) ∧ ((j / 4 : Nat) : Int) ≤ 3 := by omega
      generalize ((j % 4 : Nat) : Int) = x at *
      generalize ((j / 4 : Nat) : Int) = y at *
      obtain ⟨X, hX⟩ : ∃ X, X = fx' + x := ⟨_, rfl⟩
      obtain ⟨Y, hY⟩ : ∃ Y, Y = fy' + y := ⟨_, rfl⟩
      rw [← hX, ← hY] at CJ
      have eX : IntKind.i64.wrap (fx' + x) = X := by rw [hX]; exact iw ⟨by omega, by omega⟩
      have eY : IntKind.i64.wrap (fy' + y) = Y := by rw [hY]; exact iw ⟨by omega, by omega⟩
      have CJ := Lib.hid CJ
      replace hSj := Lib.hid hSj
      clear hX hY x0 y0 CPx CF CG CP CM HY
      rw [hSj.out]
      obtain ⟨c_i0, c_i1, c_i2, c_i3, f_i0, f_i1, f_i2, f_i3⟩ := reads4 r_i.out
      have l_i := r_i.out.lt
      obtain ⟨c_b0, c_b1, c_b2, c_b3, c_b4, f_b0, f_b1, f_b2, f_b3, f_b4⟩ := reads5 r_b.out
      have l_b := r_b.out.lt
      go_wp2_with fail
      refine (CJ.out _ h_m.out).mono ?_
      rintro e w1 ⟨pv, rfl, hb, hpx⟩
      clear c_i0 c_i1 c_i2 c_i3 f_i0 f_i1 f_i2 f_i3 l_i c_b0 c_b1 c_b2 c_b3 c_b4 f_b0 f_b1 f_b2 f_b3 f_b4 l_b
      replace r_i := Lib.hid (r_i.out.keep hb)
      replace r_b := Lib.hid (r_b.out.keep hb)
      replace h_m := Lib.hid (IMG.below h_m.out hb)
      replace HO := Lib.hid (PixRows.below HO.out hb)
      replace BB := Lib.hid (below_next BB.out hb)
      clear hb
      have h_x := Lib.hid (own_mono hpx (show w.heap.size + 2 ≤ wr.heap.size + 2 by omega))
      clear hpx
      change Hid (PixO _ _ _ _) at h_x
      obtain ⟨pA, pn, pcap, rfl⟩ := h_x.out.form
      have hns : w.heap.size + 2 ≤ w1.heap.size := r_b.out.lt
      have hle : S.length ≤ 16 := hj
      go_wp2_with (first | (at_builtin; refine wpList_append_own _ rfl (.tmp 29) (.tmp 43) 75 rfl (w.heap.size + 2) 33 i0 (.slice none 0 0) 1 24 Try.underlying75 hi0 hz0 hz1 hz2 rfl (by decide) _ _ _ rfl (HO.out.1.alloc _) ⟨w1.heap.size, 0, none⟩ 1 1 [.slice pA pn pcap] rfl rfl (one_new _ _ _) (one_cell_sl _ _ _) (by unfold maxLen; omega) (by omega) (by simp; omega) ?_))
      intro v' w8 hown' hgrow _
      have HB1 := Lib.hid (below_app BB.out (own_mono HO.out.1 (by omega)) hgrow)
      have HO1 := Lib.hid (PixRows.app HO.out (by rw [hSj.out]; exact h_x.out) hown' hgrow)
      have hrow := fun k hk => own_block_ge HO.out.1 k hk
      have r_i' := Lib.hid (at_app r_i.out hgrow (fun e => by have := hrow _ e.symm; omega))
      have r_b' := Lib.hid (at_app r_b.out hgrow (fun e => by have := hrow _ e.symm; omega))
      have h_m' := Lib.hid (hi.out.below HB1.out)
      clear hown' hgrow hrow
      go_wp2_with fail
      go_roundw
      case rel => exact ⟨S ++ [.slice pA pn pcap], by simp; omega, by simp only [List.length_append, List.length_singleton, hSj.out]; go_num, ⟨HO1.out, r_i'.out, r_b'.out, h_m'.out, HB1.out⟩⟩
      case measure => simp [intOf]; omega
    · obtain rfl : j = 16 := by omega
      obtain ⟨g, cap, rfl, hl⟩ := HO.out.rows (by omega) HY.out
      rw [hSj] at hl
      have h_l := Lib.hid hl
      clear hl HY CPx
      rw [hSj]
      obtain ⟨c_i0, c_i1, c_i2, c_i3, f_i0, f_i1, f_i2, f_i3⟩ := reads4 r_i.out
      have l_i := r_i.out.lt
      go_wp2_with fail
      skip
      clear c_i0 c_i1 c_i2 c_i3 f_i0 f_i1 f_i2 f_i3 l_i
      have KK := Lib.hid (fun (w9 : World) (h : Below wr.heap.size wr w9) => (cells4 (r_i.out.keep h) : (w9.cell? ⟨w.heap.size, 0, none⟩ = some (.int .i64 W) ∧ w9.cell? ⟨w.heap.size, 1, none⟩ = some (.int .i64 H) ∧ w9.cell? ⟨w.heap.size, 2, none⟩ = some (.int .i64 c) ∧ w9.cell? ⟨w.heap.size, 3, none⟩ = some (s))))
      have K0 := KK.out wr (Below.refl _ _)
      have KD := KK.out wr.drew (below_drew (Below.refl _ _))
      have tok0 : Hid True := trivial
      have tok1 : Hid True := trivial
      go_region_held3 (fun w9 => (w9.cell? ⟨w.heap.size, 0, none⟩ = some (.int .i64 W) ∧ w9.cell? ⟨w.heap.size, 1, none⟩ = some (.int .i64 H) ∧ w9.cell? ⟨w.heap.size, 2, none⟩ = some (.int .i64 c) ∧ w9.cell? ⟨w.heap.size, 3, none⟩ = some (s)))
          (first | with_reducible exact KD | with_reducible exact K0 | with_reducible exact K_w1 | with_reducible exact K_w2 | with_reducible exact K_w3 | with_reducible exact K_w4)
          (first
            | (go_at_call 46
               have t_k := tok0
               refine (CF.out _).mono ?_
               rintro e w1 ⟨gf, rfl, hb, h_f⟩
               replace h_f := Lib.hid h_f
               have B_w1 := Lib.hid (reg_next (w0 := wr) (by repeat (first | with_reducible exact Below.refl _ _ | with_reducible apply below_drew | with_reducible apply below_new)) hb)
               have K_w1 := KK.out _ B_w1.out
               clear hb
               clear t_k tok0)
            | (go_at_call 46
               have t_k := tok1
               refine (CG.out _).mono ?_
               rintro e w2 ⟨gg, rfl, hb, h_g⟩
               replace h_g := Lib.hid h_g
               replace h_f := Lib.hid (h_f.out.below hb)
               have B_w2 := Lib.hid (below_next B_w1.out hb)
               have K_w2 := KK.out _ B_w2.out
               clear hb
               clear t_k tok1)
            | (go_at_call 47
               refine (CP.out _).mono ?_
               rintro e w3 ⟨v_o, rfl, hb, h_o⟩
               obtain ⟨A_o, n_o, cap_o, rfl, -⟩ := id h_o.form
               replace h_o := Lib.hid h_o
               replace h_f := Lib.hid (h_f.out.below hb)
               replace h_g := Lib.hid (h_g.out.below hb)
               have B_w3 := Lib.hid (below_next B_w2.out hb)
               have K_w3 := KK.out _ B_w3.out
               clear hb)
            | (go_at_call 45
               refine (CM.out _ _ _ _ _ _ _ (h_l.out.below B_w3.out) h_f.out h_g.out h_o.out).mono ?_
               rintro e w4 ⟨r, rfl, hb, hr⟩
               replace h_f := Lib.hid (h_f.out.below hb)
               replace h_g := Lib.hid (h_g.out.below hb)
               replace h_o := Lib.hid (h_o.out.below hb)
               have B_w4 := Lib.hid (below_next B_w3.out hb)
               have K_w4 := KK.out _ B_w4.out
               clear hb))
      clear KK K0 KD K_w1 K_w2 K_w3 K_w4
      replace r_i := Lib.hid (r_i.out.keep B_w4.out)
      replace r_b := Lib.hid (r_b.out.keep B_w4.out)
      replace h_m := Lib.hid (IMG.below h_m.out B_w4.out)
      replace HO := Lib.hid (PixRows.below HO.out B_w4.out)
      replace BB := Lib.hid (below_next BB.out B_w4.out)
      clear B_w1 B_w2 B_w3 B_w4
      go_wp2_with fail
      go_ret
      exact ⟨_, rfl, BB.out, hr⟩
end Go.Proofs.Ytnklbnphiokpiaa
