/- Contract of ref29.At: the document's mix of the four pixels around a place. -/
import Derived.Test.YtnklbnphiokpiaaLinB
set_option linter.unusedVariables false
set_option linter.unusedSimpArgs false
namespace Go.Proofs.Ytnklbnphiokpiaa
open Go.RowKit
theorem bytes_at {L : List Int} (h : ∀ z ∈ L, 0 ≤ z ∧ z ≤ 255) (k : Nat) : 0 ≤ L.getD k 0 ∧ L.getD k 0 ≤ 255 := by
  by_cases hk : k < L.length
  · have e : L.getD k 0 = L[k] := by simp [List.getD, hk]
    rw [e]; exact h _ (List.getElem_mem hk)
  · rw [getD_out hk]; omega
theorem own_app {w1 w8 : World} {o : Obj} {base base' n n' sz : Nat} {e e' : TypeId} {v v' : Value} {xs xs' : List Value} (h : w1.ownsRow base e sz v n xs) (hl : w1.ownsRow base' e' 1 v' n' xs') (hne : e ≠ e') (hg : (w1.alloc o).grownBy w8 v'.ownBlock) : w8.ownsRow base e sz v n xs := by
  obtain ⟨h1, h2⟩ := h
  rcases h2 with h0 | ⟨g, cap, cur, hv, hg1, hh, hn, hcap, hsz, htake⟩
  · exact ⟨h1, .inl h0⟩
  · refine ⟨h1, .inr ⟨g, cap, cur, hv, hg1, at_app (show AtB w1 g cur e from hh) hg (fun e1 => ?_), hn, hcap, hsz, htake⟩⟩
    rcases hl.2 with ⟨rfl, -⟩ | ⟨g', cap', cur', rfl, -, hh', -⟩
    · simp [Value.ownBlock] at e1
    · simp only [Value.ownBlock, Option.some.injEq] at e1
      subst e1
      have := hh.symm.trans hh'
      simp only [Option.some.injEq, Obj.cells.injEq] at this
      exact hne this.2.1
theorem own_one_sl {w1 : World} {base : Nat} {T : TypeId} {v1 x : Value} {S : List Value} (h : w1.ownsRow base T 1 v1 (S.length + 1) (S ++ [x])) : w1.ownsRow base T 1 v1 (S ++ [x]).length (S ++ [x]) := by simpa using h
theorem own_cells {w : World} {base n : Nat} {e : TypeId} {v : Value} {xs : List Value} (h : w.ownsRow base e 1 v n xs) (hn : n ≠ 0) : ∃ g cap, v = .slice (some ⟨g, 0, none⟩) n cap ∧ g < w.heap.size ∧ ∀ i, i < n → w.cell? ⟨g, 0 + i, none⟩ = xs[i]? := by
  obtain ⟨h1, h2⟩ := h
  rcases h2 with h0 | ⟨g, cap, cur, hv, hg1, hh, hn2, hcap, hsz, htake⟩
  · exact absurd h0.2 hn
  · refine ⟨g, cap, hv, (Array.getElem?_eq_some_iff.1 hh).1, fun i hi => ?_⟩
    have h1' : (cur.toList.take (n * 1))[i]? = xs[i]? := by rw [htake]
    rw [List.getElem?_take, if_pos (by omega)] at h1'
    have h2' : cur[i]? = xs[i]? := by simpa using h1'
    rw [Nat.zero_add]
    simp [World.cell?, hh, h2']
theorem info_sl : (Try.prog.info? 33).map (fun i => (i.zero, i.size, i.bytes)) = some (some (.slice none 0 0), 1, 24) := by kernel_rfl
/-- A pixel's row, told by the document. -/
def PixO (w : World) (base : Nat) (v : Value) (L : List Int) : Prop := w.ownsRow base 5 1 v L.length (L.map (Value.int .u8))
def pix4 (W H C m fx fy : Int) (cl zs : List Int) (p : Nat) (d : Int) (i : Nat) : List Int := pixL W H C m (fx + d + ((i % p : Nat) : Int)) (fy + d + ((i / p : Nat) : Int)) cl zs
theorem mix_row4 (Lf : Nat → List Int) (f g : Int) (c : Nat) : (List.range c).map (fun k => byteI (mixS (fun i => two (65536 - f) f (i % 2) * two (65536 - g) g (i / 2)) Lf k 4) 4294967296) = linRow (Lf 0) (Lf 1) (Lf 2) (Lf 3) f g c := by
  unfold linRow
  apply List.map_congr_left
  intro k _
  simp only [mixS, linAt, two, Int.zero_add]
  rfl
theorem two_in {x y : Int} (hx : I64 x) (hy : I64 y) : ∀ i, I64 (two x y i) := fun i => by
  match i with
  | 0 => exact hx
  | 1 => exact hy
  | n + 2 => exact ⟨by simp [two], by simp [two]⟩
theorem mixg4 (rb rcap wb hb c : Nat) (S : Nat → Value) (Lf : Nat → List Int) (f g : Int) (hf : 0 ≤ f ∧ f < 65536) (hg : 0 ≤ g ∧ g < 65536) (hc : c ≤ 1000) (o : Value) (w : World) (hby : ∀ i k, 0 ≤ (Lf i).getD k 0 ∧ (Lf i).getD k 0 ≤ 255) (hR : rb < w.heap.size) (cR : ∀ i, i < 4 → w.cell? ⟨rb, 0 + i, none⟩ = some (S i)) (hS : ∀ i, i < 4 → BS w (S i) (Lf i)) (ha : AtB w wb #[.int .i64 (65536 - f), .int .i64 f] 2) (hbb : AtB w hb #[.int .i64 (65536 - g), .int .i64 g] 2) (ho : BR w o 4294967296) :
    Calls Try.prog 45 #[.slice (some ⟨rb, 0, none⟩) 4 rcap, .int .i64 (c : Int), .slice (some ⟨wb, 0, none⟩) 2 2, .slice (some ⟨hb, 0, none⟩) 2 2, o] w fun e w' => ∃ r, e = .returned r ∧ Below w.heap.size w w' ∧ BS w' r (linRow (Lf 0) (Lf 1) (Lf 2) (Lf 3) f g c) := by
  have ba : ∀ i, I64 (two (65536 - f) f i) := two_in ⟨by omega, by omega⟩ ⟨by omega, by omega⟩
  have bb : ∀ i, I64 (two (65536 - g) g i) := two_in ⟨by omega, by omega⟩ ⟨by omega, by omega⟩
  have bz : ∀ i k, Wd 63 ((Lf i).getD k 0) := fun i k => by have := hby i k; exact i64_wd ⟨by omega, by omega⟩
  rw [← mix_row4]
  refine r29mix rb 0 rcap 4 c wb 0 2 2 hb 0 2 2 S Lf (two (65536 - f) f) (two (65536 - g) g) o 4294967296 w hc (by omega) (by omega) (by omega) (by omega) (by omega) ba bb (fun k i hi => (mix_wd (fun i => ((i64_wd (ba _)).mul (i64_wd (bb _))).up (by omega)) (fun i => bz i k) i).up (by omega)) (by omega) ((i64_wd ⟨by omega, by omega⟩).up (by omega)) ho hR cR hS ha.lt ?_ hbb.lt ?_
  · intro i hi
    match i, hi with
    | 0, _ => exact ha.cell 0 rfl
    | 1, _ => exact ha.cell 1 rfl
  · intro i hi
    match i, hi with
    | 0, _ => exact hbb.cell 0 rfl
    | 1, _ => exact hbb.cell 1 rfl
/-- Two weights in a row; the rows of pixels. -/
def TwoAt (w : World) (g : Nat) (f : Int) : Prop := AtB w g #[.int .i64 (65536 - f), .int .i64 f] 2
theorem TwoAt.below {w w1 : World} {g : Nat} {f : Int} (h : TwoAt w g f) (hb : Below w.heap.size w w1) : TwoAt w1 g f := AtB.keep h hb
def RowsAt (w : World) (g n : Nat) (S : Nat → Value) (Lf : Nat → List Int) : Prop := g < w.heap.size ∧ (∀ i, i < n → w.cell? ⟨g, 0 + i, none⟩ = some (S i)) ∧ ∀ i, i < n → BS w (S i) (Lf i)
theorem RowsAt.below {w w1 : World} {g n : Nat} {S : Nat → Value} {Lf : Nat → List Int} (h : RowsAt w g n S Lf) (hb : Below w.heap.size w w1) : RowsAt w1 g n S Lf :=
  ⟨Nat.lt_of_lt_of_le h.1 hb.size, fun i hi => (hb.cell (p := ⟨g, 0 + i, none⟩) h.1).trans (h.2.1 i hi), fun i hi => (h.2.2 i hi).below hb⟩
theorem PixO.form {w : World} {base : Nat} {v : Value} {L : List Int} (h : PixO w base v L) : ∃ A n cap, v = .slice A n cap := by
  rcases h.2 with ⟨rfl, -⟩ | ⟨g, cap, cur, rfl, -⟩
  · exact ⟨_, _, _, rfl⟩
  · exact ⟨_, _, _, rfl⟩
theorem one_cell_sl (A : Option Addr) (n cap : Nat) : ∀ u ∈ [Value.slice A n cap], u.oneCell' = true := by
  intro u hu
  rw [List.mem_singleton] at hu
  subst hu; rfl
/-- Rows of pixels, owned. -/
def PixRows (w : World) (base : Nat) (v : Value) (S : List Value) (Lf : Nat → List Int) : Prop := w.ownsRow base 33 1 v S.length S ∧ ∀ i, i < S.length → PixO w base (S.getD i (.slice none 0 0)) (Lf i)
theorem PixRows.below {w w1 : World} {base : Nat} {v : Value} {S : List Value} {Lf : Nat → List Int} (h : PixRows w base v S Lf) (hb : Below w.heap.size w w1) : PixRows w1 base v S Lf := ⟨own_keep h.1 hb, fun i hi => own_keep (h.2 i hi) hb⟩
theorem PixRows.nil (w : World) (base : Nat) (Lf : Nat → List Int) : PixRows w base (.slice none 0 0) [] Lf := ⟨World.ownsRow_nil _ _ _ _, fun i hi => absurd hi (by simp)⟩
theorem PixRows.rows {w : World} {base : Nat} {v : Value} {S : List Value} {Lf : Nat → List Int} (h : PixRows w base v S Lf) (hn : S.length ≠ 0) (hb : ∀ i, ∀ z ∈ Lf i, 0 ≤ z ∧ z ≤ 255) : ∃ g cap, v = .slice (some ⟨g, 0, none⟩) S.length cap ∧ RowsAt w g S.length (fun i => S.getD i (.slice none 0 0)) Lf := by
  obtain ⟨g, cap, hv, hg, hc⟩ := own_cells h.1 hn
  refine ⟨g, cap, hv, hg, fun i hi => ?_, fun i hi => BS.of_own (h.2 i hi) (hb i)⟩
  rw [hc i hi]; simp [List.getD, hi]
theorem PixRows.app {w w8 : World} {base : Nat} {v v' x : Value} {S : List Value} {Lf : Nat → List Int} {o : Obj} (h : PixRows w base v S Lf) (hx : PixO w base x (Lf S.length)) (hown : w8.ownsRow base 33 1 v' (S.length + 1) (S ++ [x])) (hg : (w.alloc o).grownBy w8 v.ownBlock) : PixRows w8 base v' (S ++ [x]) Lf := by
  refine ⟨own_one_sl hown, fun i hi => ?_⟩
  rw [List.length_append, List.length_singleton] at hi
  by_cases h1 : i < S.length
  · have e : (S ++ [x]).getD i (.slice none 0 0) = S.getD i (.slice none 0 0) := by simp [List.getD, List.getElem?_append_left h1]
    rw [e]; exact own_app (h.2 i h1) h.1 (by decide) hg
  · obtain rfl : i = S.length := by omega
    have e : (S ++ [x]).getD S.length (.slice none 0 0) = x := by simp [List.getD]
    rw [e]; exact own_app hx h.1 (by decide) hg
theorem div_nat_le (i p : Nat) : ((i / p : Nat) : Int) ≤ (i : Int) := by exact_mod_cast Nat.div_le_self i p
set_option maxRecDepth 100000 in
set_option maxHeartbeats 8000000 in
theorem r29at (W H m c0 c1 c2 c3 u v : Int) (c : Nat) (s : Value) (zs : List Int) (w : World) (hi : IMG w s W H c zs) (hm : I64 m) (h0 : ibC W H c m zs.length = 0) (hu : -70368744177664 ≤ u ∧ u ≤ 70368744177664) (hv : -70368744177664 ≤ v ∧ v ≤ 70368744177664) (hcol : ∀ z ∈ [c0, c1, c2, c3], 0 ≤ z ∧ z ≤ 255) :
    Calls Try.prog 56 #[imv W H c s, brv m c0 c1 c2 c3, .int .i64 u, .int .i64 v] w fun e w' => ∃ r, e = .returned r ∧ Below w.heap.size w w' ∧ BS w' r (linL W H c m u v [c0, c1, c2, c3] zs c) := by
  have SU := Lib.hid (fun w => rsplit u ⟨by omega, by omega⟩ w)
  have SV := Lib.hid (fun w => rsplit v ⟨by omega, by omega⟩ w)
  have CF := Lib.hid (fun w => rlin (u % 65536) ⟨by omega, by omega⟩ w)
  have CG := Lib.hid (fun w => rlin (v % 65536) ⟨by omega, by omega⟩ w)
  have CP := Lib.hid (fun w => pow_any 32 (by omega) w)
  rw [show ((2 : Int) ^ 32) = 4294967296 from by decide] at CP
  have hc4 : c ≤ 4 := by have := (ibC_zero h0).2.2.1; omega
  have CPx := Lib.hid (fun (i : Nat) (h4 : i < 4) w hi => r28pixelO W H c m c0 c1 c2 c3 (u / 65536 + ((i % 2 : Nat) : Int)) (v / 65536 + ((i / 2 : Nat) : Int)) s zs w hi hm ⟨by omega, by omega⟩ ⟨by omega, by omega⟩ h0 hcol)
  have HY : Hid (∀ i, ∀ z ∈ pix4 W H c m (u / 65536) (v / 65536) [c0, c1, c2, c3] zs 2 0 i, 0 ≤ z ∧ z ≤ 255) := fun i => pixL_byte hi.ib.all hcol
  have CM := Lib.hid (fun rb rcap wb hb S o w hR cR hS ha hbb ho => mixg4 rb rcap wb hb c S (pix4 W H c m (u / 65536) (v / 65536) [c0, c1, c2, c3] zs 2 0) (u % 65536) (v % 65536) ⟨by omega, by omega⟩ ⟨by omega, by omega⟩ (by omega) o w (fun i k => bytes_at (HY.out i) k) hR cR hS ha hbb ho)
  have HL : Hid (linRow (pix4 W H c m (u / 65536) (v / 65536) [c0, c1, c2, c3] zs 2 0 0) (pix4 W H c m (u / 65536) (v / 65536) [c0, c1, c2, c3] zs 2 0 1) (pix4 W H c m (u / 65536) (v / 65536) [c0, c1, c2, c3] zs 2 0 2) (pix4 W H c m (u / 65536) (v / 65536) [c0, c1, c2, c3] zs 2 0 3) (u % 65536) (v % 65536) c = linL W H c m u v [c0, c1, c2, c3] zs c) := by
    show _ = _
    unfold linL pix4
    simp
  have bi : -1073741824 ≤ u / 65536 ∧ u / 65536 ≤ 1073741824 := by omega
  have bk : -1073741824 ≤ v / 65536 ∧ v / 65536 ≤ 1073741824 := by omega
  rw [← HL.out]
  have CPx := Lib.hid (show ∀ (i : Nat) (h4 : i < 4) w (hi : IMG w s W H c zs), Calls Try.prog 76 #[imv W H c s, brv m c0 c1 c2 c3, .int .i64 (u / 65536 + ((i % 2 : Nat) : Int)), .int .i64 (v / 65536 + ((i / 2 : Nat) : Int))] w fun e w' => ∃ v', e = .returned v' ∧ Below w.heap.size w w' ∧ PixO w' (w.heap.size + 2) v' (pix4 W H c m (u / 65536) (v / 65536) [c0, c1, c2, c3] zs 2 0 i) from fun i h4 w hi => by
    have := CPx.out i h4 w hi
    simpa only [PixO, pix4, Int.add_zero] using this)
  generalize pix4 W H c m (u / 65536) (v / 65536) [c0, c1, c2, c3] zs 2 0 = Lf at *
  clear HL
  generalize u / 65536 = fx at *
  generalize v / 65536 = fy at *
  generalize u % 65536 = fu at *
  generalize v % 65536 = fv at *
  have hi := Lib.hid hi
  obtain ⟨i0, hi0, hz0, hz1, hz2⟩ := info_parts info_sl
  clear h0 hm hcol hu hv
  go_enter Try.func56, Try.ntmps56
  go_wp2_with fail
  have BB := start2 w #[.int .i64 W, .int .i64 H, .int .i64 c, s] IT #[.int .i64 m, .int .u8 c0, .int .u8 c1, .int .u8 c2, .int .u8 c3] RT
  obtain ⟨BB, hsz, r_i, r_b⟩ := BB
  generalize ((w.alloc (.cells #[.int .i64 W, .int .i64 H, .int .i64 c, s] IT)).alloc (.cells #[.int .i64 m, .int .u8 c0, .int .u8 c1, .int .u8 c2, .int .u8 c3] RT)) = w0 at *
  replace BB := Lib.hid BB
  replace r_i := Lib.hid r_i
  replace r_b := Lib.hid r_b
  clear hsz
  refine (SU.out _).mono ?_
  rintro e w9 ⟨rfl, rfl⟩
  go_wp2_with fail
  refine (SV.out _).mono ?_
  rintro e w9 ⟨rfl, rfl⟩
  go_wp2_with fail
  have h_m := Lib.hid (hi.out.below BB.out)
  go_loopw [13, 14] (fun v i wr => ∃ (S : List Value), S.length ≤ 4 ∧ i = .int .i64 S.length ∧ Hid (PixRows wr (w.heap.size + 2) v S Lf ∧ AtB wr w.heap.size #[.int .i64 W, .int .i64 H, .int .i64 c, s] IT ∧ AtB wr (w.heap.size + 1) #[.int .i64 m, .int .u8 c0, .int .u8 c1, .int .u8 c2, .int .u8 c3] RT ∧ IMG wr s W H c zs ∧ Below w.heap.size w wr)) (fun _ i _ => 4 - (intOf i).toNat)
  case atStart => exact ⟨[], by simp, rfl, ⟨PixRows.nil _ _ _, r_i.out, r_b.out, h_m.out, BB.out⟩⟩
  case round =>
    clear r_i r_b h_m BB
    obtain ⟨S, hj, rfl, hinv⟩ := hrel
    obtain ⟨HO, r_i, r_b, h_m, BB⟩ := hinv.out
    replace HO := Lib.hid HO; replace r_i := Lib.hid r_i; replace r_b := Lib.hid r_b; replace h_m := Lib.hid h_m; replace BB := Lib.hid BB
    clear hinv
    obtain ⟨j, hSj⟩ : ∃ j, S.length = j := ⟨_, rfl⟩
    have hw0 := BB.out.size
    by_cases hlt : j < 4
    · have hjl : S.length < 4 := by omega
      have j1 : (j : Int) < 4 := by omega
      have CJ := CPx.out j hlt
      have er : (j : Int).tmod 2 = ((j % 2 : Nat) : Int) := rem_nat j 2
      have eq : (j : Int).tdiv 2 = ((j / 2 : Nat) : Int) := tdiv_nat j 2
      have ey : IntKind.i64.wrap ((j / 2 : Nat) : Int) = ((j / 2 : Nat) : Int) := iw ⟨by omega, by omega⟩
      have ex : IntKind.i64.wrap ((j % 2 : Nat) : Int) = ((j % 2 : Nat) : Int) := iw ⟨by omega, by omega⟩
      have x0 : 0 ≤ ((j % 2 : Nat) : Int) ∧ ((j % 2 : Nat) : Int) ≤ 1 := by omega
      have y0 : 0 ≤ ((j / 2 : Nat) : Int) ∧ ((j / 2 : Nat) : Int) ≤ 1 := by omega
      generalize ((j % 2 : Nat) : Int) = x at *
      generalize ((j / 2 : Nat) : Int) = y at *
      obtain ⟨X, hX⟩ : ∃ X, X = fx + x := ⟨_, rfl⟩
      obtain ⟨Y, hY⟩ : ∃ Y, Y = fy + y := ⟨_, rfl⟩
      rw [← hX, ← hY] at CJ
      have eX : IntKind.i64.wrap (fx + x) = X := by rw [hX]; exact iw ⟨by omega, by omega⟩
      have eY : IntKind.i64.wrap (fy + y) = Y := by rw [hY]; exact iw ⟨by omega, by omega⟩
      have CJ := Lib.hid CJ
      replace hSj := Lib.hid hSj
      clear hX hY x0 y0 CPx CF CG CP CM HY
      rw [hSj.out]
      obtain ⟨c_i0, c_i1, c_i2, c_i3, f_i0, f_i1, f_i2, f_i3⟩ := reads4 r_i.out
      have l_i := r_i.out.lt
      obtain ⟨c_b0, c_b1, c_b2, c_b3, c_b4, f_b0, f_b1, f_b2, f_b3, f_b4⟩ := reads5 r_b.out
      have l_b := r_b.out.lt
      go_wp2_with fail
      refine (CJ.out _ h_m.out).mono ?_
      rintro e w1 ⟨pv, rfl, hb, hpx⟩
      clear c_i0 c_i1 c_i2 c_i3 f_i0 f_i1 f_i2 f_i3 l_i c_b0 c_b1 c_b2 c_b3 c_b4 f_b0 f_b1 f_b2 f_b3 f_b4 l_b
      replace r_i := Lib.hid (r_i.out.keep hb)
      replace r_b := Lib.hid (r_b.out.keep hb)
      replace h_m := Lib.hid (IMG.below h_m.out hb)
      replace HO := Lib.hid (PixRows.below HO.out hb)
      replace BB := Lib.hid (below_next BB.out hb)
      clear hb
      have h_x := Lib.hid (own_mono hpx (show w.heap.size + 2 ≤ wr.heap.size + 2 by omega))
      clear hpx
      change Hid (PixO _ _ _ _) at h_x
      obtain ⟨pA, pn, pcap, rfl⟩ := h_x.out.form
      have hns : w.heap.size + 2 ≤ w1.heap.size := r_b.out.lt
      have hle : S.length ≤ 4 := hj
      go_wp2_with (first | (at_builtin; refine wpList_append_own _ rfl (.tmp 29) (.tmp 41) 75 rfl (w.heap.size + 2) 33 i0 (.slice none 0 0) 1 24 Try.underlying75 hi0 hz0 hz1 hz2 rfl (by decide) _ _ _ rfl (HO.out.1.alloc _) ⟨w1.heap.size, 0, none⟩ 1 1 [.slice pA pn pcap] rfl rfl (one_new _ _ _) (one_cell_sl _ _ _) (by unfold maxLen; omega) (by omega) (by simp; omega) ?_))
      intro v' w8 hown' hgrow _
      have HB1 := Lib.hid (below_app BB.out (own_mono HO.out.1 (by omega)) hgrow)
      have HO1 := Lib.hid (PixRows.app HO.out (by rw [hSj.out]; exact h_x.out) hown' hgrow)
      have hrow := fun k hk => own_block_ge HO.out.1 k hk
      have r_i' := Lib.hid (at_app r_i.out hgrow (fun e => by have := hrow _ e.symm; omega))
      have r_b' := Lib.hid (at_app r_b.out hgrow (fun e => by have := hrow _ e.symm; omega))
      have h_m' := Lib.hid (hi.out.below HB1.out)
      clear hown' hgrow hrow
      go_wp2_with fail
      go_roundw
      case rel => exact ⟨S ++ [.slice pA pn pcap], by simp; omega, by simp only [List.length_append, List.length_singleton, hSj.out]; go_num, ⟨HO1.out, r_i'.out, r_b'.out, h_m'.out, HB1.out⟩⟩
      case measure => simp [intOf]; omega
    · obtain rfl : j = 4 := by omega
      obtain ⟨g, cap, rfl, hl⟩ := HO.out.rows (by omega) HY.out
      have CM := Lib.hid (fun rb rcap wb hb S o w (h : RowsAt w rb 4 S Lf) hF hG ho => CM.out rb rcap wb hb S o w h.1 h.2.1 h.2.2 hF hG ho)
      change Hid (∀ rb rcap wb hb S o w, _ → TwoAt _ _ fu → TwoAt _ _ fv → _ → _) at CM
      rw [hSj] at hl
      have h_l := Lib.hid hl
      clear hl HY CPx
      rw [hSj]
      obtain ⟨c_i0, c_i1, c_i2, c_i3, f_i0, f_i1, f_i2, f_i3⟩ := reads4 r_i.out
      have l_i := r_i.out.lt
      go_wp2_with fail
      change Hid (∀ w : World, Calls _ _ _ w (fun e w' => ∃ g, e = .returned (.slice (some ⟨g, 0, none⟩) 2 2) ∧ Below w.heap.size w w' ∧ TwoAt w' g fu)) at CF
      change Hid (∀ w : World, Calls _ _ _ w (fun e w' => ∃ g, e = .returned (.slice (some ⟨g, 0, none⟩) 2 2) ∧ Below w.heap.size w w' ∧ TwoAt w' g fv)) at CG
      clear c_i0 c_i1 c_i2 c_i3 f_i0 f_i1 f_i2 f_i3 l_i
      have KK := Lib.hid (fun (w9 : World) (h : Below wr.heap.size wr w9) => (cells4 (r_i.out.keep h) : (w9.cell? ⟨w.heap.size, 0, none⟩ = some (.int .i64 W) ∧ w9.cell? ⟨w.heap.size, 1, none⟩ = some (.int .i64 H) ∧ w9.cell? ⟨w.heap.size, 2, none⟩ = some (.int .i64 c) ∧ w9.cell? ⟨w.heap.size, 3, none⟩ = some (s))))
      have K0 := KK.out wr (Below.refl _ _)
      have KD := KK.out wr.drew (below_drew (Below.refl _ _))
      have tok0 : Hid True := trivial
      have tok1 : Hid True := trivial
      go_region_held3 (fun w9 => (w9.cell? ⟨w.heap.size, 0, none⟩ = some (.int .i64 W) ∧ w9.cell? ⟨w.heap.size, 1, none⟩ = some (.int .i64 H) ∧ w9.cell? ⟨w.heap.size, 2, none⟩ = some (.int .i64 c) ∧ w9.cell? ⟨w.heap.size, 3, none⟩ = some (s)))
          (first | with_reducible exact KD | with_reducible exact K0 | with_reducible exact K_w1 | with_reducible exact K_w2 | with_reducible exact K_w3 | with_reducible exact K_w4)
          (first
            | (go_at_call 54
               have t_k := tok0
               refine (CF.out _).mono ?_
               rintro e w1 ⟨gf, rfl, hb, h_f⟩
               replace h_f := Lib.hid h_f
               have B_w1 := Lib.hid (reg_next (w0 := wr) (by repeat (first | with_reducible exact Below.refl _ _ | with_reducible apply below_drew | with_reducible apply below_new)) hb)
               have K_w1 := KK.out _ B_w1.out
               clear hb
               clear t_k tok0)
            | (go_at_call 54
               have t_k := tok1
               refine (CG.out _).mono ?_
               rintro e w2 ⟨gg, rfl, hb, h_g⟩
               replace h_g := Lib.hid h_g
               replace h_f := Lib.hid (h_f.out.below hb)
               have B_w2 := Lib.hid (below_next B_w1.out hb)
               have K_w2 := KK.out _ B_w2.out
               clear hb
               clear t_k tok1)
            | (go_at_call 47
               refine (CP.out _).mono ?_
               rintro e w3 ⟨v_o, rfl, hb, h_o⟩
               obtain ⟨A_o, n_o, cap_o, rfl, -⟩ := id h_o.form
               replace h_o := Lib.hid h_o
               replace h_f := Lib.hid (h_f.out.below hb)
               replace h_g := Lib.hid (h_g.out.below hb)
               have B_w3 := Lib.hid (below_next B_w2.out hb)
               have K_w3 := KK.out _ B_w3.out
               clear hb)
            | (go_at_call 45
               refine (CM.out _ _ _ _ _ _ _ (h_l.out.below B_w3.out) h_f.out h_g.out h_o.out).mono ?_
               rintro e w4 ⟨r, rfl, hb, hr⟩
               replace h_f := Lib.hid (h_f.out.below hb)
               replace h_g := Lib.hid (h_g.out.below hb)
               replace h_o := Lib.hid (h_o.out.below hb)
               have B_w4 := Lib.hid (below_next B_w3.out hb)
               have K_w4 := KK.out _ B_w4.out
               clear hb))
      clear KK K0 KD K_w1 K_w2 K_w3 K_w4
      replace r_i := Lib.hid (r_i.out.keep B_w4.out)
      replace r_b := Lib.hid (r_b.out.keep B_w4.out)
      replace h_m := Lib.hid (IMG.below h_m.out B_w4.out)
      replace HO := Lib.hid (PixRows.below HO.out B_w4.out)
      replace BB := Lib.hid (below_next BB.out B_w4.out)
      clear B_w1 B_w2 B_w3 B_w4
      go_wp2_with fail
      go_ret
      exact ⟨_, rfl, BB.out, hr⟩
end Go.Proofs.Ytnklbnphiokpiaa
