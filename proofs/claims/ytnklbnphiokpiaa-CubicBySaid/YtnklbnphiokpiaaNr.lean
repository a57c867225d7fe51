/- Contracts of the document's pixel (28), of what tells whether bytes are alike (14), of its checks; copying into a row of noughts. | Contracts of near.At and what it calls, of the document's checks and its nearest pixel. -/
import Derived.Test.YtnklbnphiokpiaaImg
import Derived.Test.YtnklbnphiokpiaaNear0
import Derived.Test.YtnklbnphiokpiaaCubic0
set_option linter.unusedVariables false
set_option linter.unusedSimpArgs false
namespace Go.Proofs.Ytnklbnphiokpiaa
open Go.RowKit
theorem own_keep {w w1 : World} {base n : Nat} {e : TypeId} {size : Nat} {v : Value} {xs : List Value} (h : w.ownsRow base e size v n xs) (hb : Below w.heap.size w w1) : w1.ownsRow base e size v n xs := by
  obtain ⟨h1, h2⟩ := h
  rcases h2 with h0 | ⟨g, cap, cur, hv, hg, hh, hn, hcap, hsz, htake⟩
  · exact ⟨h1, .inl h0⟩
  · exact ⟨h1, .inr ⟨g, cap, cur, hv, hg, (hb.block g (Array.getElem?_eq_some_iff.1 hh).1).trans hh, hn, hcap, hsz, htake⟩⟩
theorem own_one_u8 {w1 : World} {base : Nat} {v1 : Value} {os : List Int} {x : Int} (h : w1.ownsRow base 5 1 v1 (os.length + 1) (os.map (Value.int .u8) ++ [.int .u8 x])) :
    w1.ownsRow base 5 1 v1 (os ++ [x]).length ((os ++ [x]).map (Value.int .u8)) := by simpa using h
theorem BS.of_own {w : World} {base : Nat} {v : Value} {os : List Int} (h : w.ownsRow base 5 1 v os.length (os.map (Value.int .u8))) (hz : ∀ z ∈ os, 0 ≤ z ∧ z ≤ 255) : BS w v os := by
  rcases h.2 with ⟨rfl, hn⟩ | ⟨g, cap, cur, rfl, hg, hh, hn, hcap, hsz, htake⟩
  · have : os = [] := List.eq_nil_of_length_eq_zero hn
    subst this
    exact ⟨Option.none, 0, rfl, by simp, by simp, by simp, fun h => absurd rfl h⟩
  · refine ⟨Option.some ⟨g, 0, Option.none⟩, cap, rfl, hn, by unfold maxLen at hcap; omega, hz, fun _ => ⟨g, 0, rfl, (Array.getElem?_eq_some_iff.1 hh).1, fun i hi => ?_⟩⟩
    have h1 : (cur.toList.take (os.length * 1))[i]? = Option.some (Value.int .u8 os[i]) := by
      rw [htake]; simp [hi]
    rw [List.getElem?_take, if_pos (by omega)] at h1
    have h2 : cur[i]? = Option.some (Value.int .u8 os[i]) := by simpa using h1
    rw [Nat.zero_add]
    simp [World.cell?, hh, h2, List.getD, hi]

theorem own_mono {w : World} {base base' n : Nat} {e : TypeId} {size : Nat} {v : Value} {xs : List Value} (h : w.ownsRow base e size v n xs) (hb : base' ≤ base) : w.ownsRow base' e size v n xs := by
  obtain ⟨h1, h2⟩ := h
  rcases h2 with h0 | ⟨g, cap, cur, hv, hg, r⟩
  · exact ⟨h1, .inl h0⟩
  · exact ⟨h1, .inr ⟨g, cap, cur, hv, by omega, r⟩⟩
theorem at_app {w1 w8 : World} {o : Obj} {row : Option Nat} {p : Nat} {cs : Array Value} {T : TypeId} (h : AtB w1 p cs T) (hg : (w1.alloc o).grownBy w8 row) (hne : some p ≠ row) : AtB w8 p cs T :=
  (hg.block p (h.alloc o).lt hne).trans (h.alloc o)
set_option maxRecDepth 100000 in
set_option maxHeartbeats 8000000 in
theorem r28pixelO (W H C m c0 c1 c2 c3 x y : Int) (s : Value) (zs : List Int) (w : World) (hi : IMG w s W H C zs) (hm : I64 m) (hx : I64 x) (hy : I64 y) (h : ibC W H C m zs.length = 0) (hcol : ∀ z ∈ [c0, c1, c2, c3], 0 ≤ z ∧ z ≤ 255) :
    Calls Try.prog 76 #[imv W H C s, brv m c0 c1 c2 c3, .int .i64 x, .int .i64 y] w fun e w' => ∃ v, e = .returned v ∧ Below w.heap.size w w' ∧ w'.ownsRow (w.heap.size + 2) 5 1 v (pixL W H C m x y [c0, c1, c2, c3] zs).length ((pixL W H C m x y [c0, c1, c2, c3] zs).map (Value.int .u8)) := by
  have hl := pixL_len (x := x) (y := y) (cl := [c0, c1, c2, c3]) h rfl
  have hby := pixL_byte (W := W) (H := H) (C := C) (m := m) (x := x) (y := y) hi.ib.all hcol
  have hC4 : C ≤ 4 := by have := (ibC_zero h).2.2.1; omega
  have CR := Lib.hid (fun j w hi hj => r8at W H C m c0 c1 c2 c3 x y j s zs w hi hm hx hy h hj)
  generalize pixL W H C m x y [c0, c1, c2, c3] zs = L at *
  obtain rfl : C = (L.length : Int) := hl.symm
  have hi := Lib.hid hi
  have HB := Lib.hid hby
  obtain ⟨i0, hi0, hz0, hz1, hz2⟩ := info_parts info_u8s
  clear hm hx hy h hcol hl hby
  go_enter Try.func76, Try.ntmps76
  go_wp2_with fail
  have BB := start2 w #[.int .i64 W, .int .i64 H, .int .i64 L.length, s] IT #[.int .i64 m, .int .u8 c0, .int .u8 c1, .int .u8 c2, .int .u8 c3] RT
  obtain ⟨BB, hsz, r_i, r_b⟩ := BB
  generalize ((w.alloc (.cells #[.int .i64 W, .int .i64 H, .int .i64 L.length, s] IT)).alloc (.cells #[.int .i64 m, .int .u8 c0, .int .u8 c1, .int .u8 c2, .int .u8 c3] RT)) = w0 at *
  replace BB := Lib.hid BB
  replace r_i := Lib.hid r_i
  replace r_b := Lib.hid r_b
  clear hsz
  have h_m := Lib.hid (hi.out.below BB.out)
  go_loopw [9, 10] (fun v i wr => ∃ (j : Nat) (os : List Int), j ≤ L.length ∧ i = .int .i64 j ∧ Hid (os = L.take j ∧ wr.ownsRow (w.heap.size + 2) 5 1 v os.length (os.map (Value.int .u8)) ∧ AtB wr w.heap.size #[.int .i64 W, .int .i64 H, .int .i64 L.length, s] IT ∧ AtB wr (w.heap.size + 1) #[.int .i64 m, .int .u8 c0, .int .u8 c1, .int .u8 c2, .int .u8 c3] RT ∧ IMG wr s W H L.length zs ∧ Below w.heap.size w wr)) (fun _ i _ => L.length - (intOf i).toNat)
  case atStart => exact ⟨0, [], by omega, rfl, ⟨rfl, World.ownsRow_nil _ _ _ _, r_i.out, r_b.out, h_m.out, BB.out⟩⟩
  case round =>
    clear r_i r_b h_m BB
    obtain ⟨j, os, hj, rfl, hinv⟩ := hrel
    obtain ⟨hos, HO, r_i, r_b, h_m, BB⟩ := hinv.out
    replace hos := Lib.hid hos
    replace HO := Lib.hid HO; replace r_i := Lib.hid r_i; replace r_b := Lib.hid r_b; replace h_m := Lib.hid h_m; replace BB := Lib.hid BB
    clear hinv
    by_cases hlt : j < L.length
    · have j1 : (j : Int) < (L.length : Int) := by omega
      have HT : Hid (os ++ [L.getD j 0] = L.take (j + 1)) := by
        show _ = _
        rw [List.take_add_one, hos.out]; simp [List.getD, hlt]
      have hlen : os.length ≤ 4 := by rw [hos.out, List.length_take]; omega
      have CJ := Lib.hid (fun w9 h => CR.out j w9 h j1)
      generalize L.getD j 0 = z at *
      obtain ⟨c_i0, c_i1, c_i2, c_i3, f_i0, f_i1, f_i2, f_i3⟩ := reads4 r_i.out
      have l_i := r_i.out.lt
      obtain ⟨c_b0, c_b1, c_b2, c_b3, c_b4, f_b0, f_b1, f_b2, f_b3, f_b4⟩ := reads5 r_b.out
      have l_b := r_b.out.lt
      go_wp2_with fail
      refine (CJ.out _ h_m.out).mono ?_
      rintro e w1 ⟨rfl, hb⟩
      clear c_i0 c_i1 c_i2 c_i3 f_i0 f_i1 f_i2 f_i3 l_i c_b0 c_b1 c_b2 c_b3 c_b4 f_b0 f_b1 f_b2 f_b3 f_b4 l_b
      replace r_i := Lib.hid (r_i.out.keep hb)
      replace r_b := Lib.hid (r_b.out.keep hb)
      replace h_m := Lib.hid (IMG.below h_m.out hb)
      replace HO := Lib.hid (own_keep HO.out hb)
      replace BB := Lib.hid (below_next BB.out hb)
      clear hb
      have hns : w.heap.size + 2 ≤ w1.heap.size := r_b.out.lt
      go_wp2_with (first | (at_builtin; refine wpList_append_own _ rfl (.tmp 17) (.tmp 24) 33 rfl (w.heap.size + 2) 5 i0 (.int .u8 0) 1 1 Try.underlying33 hi0 hz0 hz1 hz2 rfl (by decide) _ _ _ rfl (HO.out.alloc _) ⟨w1.heap.size, 0, none⟩ 1 1 [.int .u8 z] rfl rfl (one_new _ _ _) (one_cell _ _) (by unfold maxLen; omega) (by omega) (by simp; omega) ?_))
      intro v' w8 hown' hgrow _
      have HB1 := Lib.hid (below_app BB.out (own_mono HO.out (by omega)) hgrow)
      have HO1 := Lib.hid (own_one_u8 hown')
      have hrow := fun k hk => own_block_ge HO.out k hk
      have r_i' := Lib.hid (at_app r_i.out hgrow (fun e => by have := hrow _ e.symm; omega))
      have r_b' := Lib.hid (at_app r_b.out hgrow (fun e => by have := hrow _ e.symm; omega))
      have h_m' := Lib.hid (hi.out.below HB1.out)
      clear hown' hgrow hrow
      go_wp2_with fail
      go_roundw
      case rel => exact ⟨j + 1, os ++ [z], by omega, by go_num, ⟨HT.out, HO1.out, r_i'.out, r_b'.out, h_m'.out, HB1.out⟩⟩
      case measure => simp [intOf]; omega
    · obtain rfl : j = L.length := by omega
      obtain ⟨c_i0, c_i1, c_i2, c_i3, f_i0, f_i1, f_i2, f_i3⟩ := reads4 r_i.out
      have l_i := r_i.out.lt
      go_wp2_with fail
      go_ret
      refine ⟨_, rfl, BB.out, ?_⟩
      have h := HO.out
      rw [show os = L by rw [hos.out]; exact List.take_of_length_le (Nat.le_refl _)] at h
      exact h
theorem r28pixel (W H C m c0 c1 c2 c3 x y : Int) (s : Value) (zs : List Int) (w : World) (hi : IMG w s W H C zs) (hm : I64 m) (hx : I64 x) (hy : I64 y) (h : ibC W H C m zs.length = 0) (hcol : ∀ z ∈ [c0, c1, c2, c3], 0 ≤ z ∧ z ≤ 255) :
    Calls Try.prog 76 #[imv W H C s, brv m c0 c1 c2 c3, .int .i64 x, .int .i64 y] w fun e w' => ∃ v, e = .returned v ∧ Below w.heap.size w w' ∧ BS w' v (pixL W H C m x y [c0, c1, c2, c3] zs) := by
  have hby := pixL_byte (W := W) (H := H) (C := C) (m := m) (x := x) (y := y) hi.ib.all hcol
  refine (r28pixelO W H C m c0 c1 c2 c3 x y s zs w hi hm hx hy h hcol).mono ?_
  rintro e w' ⟨v, rfl, hb, ho⟩
  exact ⟨v, rfl, hb, BS.of_own ho hby⟩

/-- Bytes with noughts behind them, as many as are asked for. -/
def padL (zs : List Int) (c : Nat) : List Int := zs.take c ++ List.replicate (c - zs.length) 0
theorem padL_len (zs : List Int) (c : Nat) : (padL zs c).length = c := by unfold padL; rw [List.length_append, List.length_take, List.length_replicate]; omega
theorem padL_all {zs : List Int} {c : Nat} (h : zs.length = c) : padL zs c = zs := by unfold padL; subst h; simp
theorem copy_pad (w0 w : World) (g c : Nat) (s : Value) (zs : List Int) (hs : BS w s zs) (hg : AtB w g (Array.replicate c (.int .u8 0)) 5) (hgo : w0.heap.size ≤ g) (hb : Below w0.heap.size w0 w) :
    ∃ k w', (Builtin.copy_ #[33, 33] 3 #[.slice (some ⟨g, 0, none⟩) c c, s]).run Try.prog w = .ok (goInt k) w' ∧ BRow w' g (padL zs c) ∧ Below w0.heap.size w0 w' := by
  by_cases h0 : min zs.length c = 0
  · obtain ⟨A, cap, rfl⟩ := hs.form
    refine ⟨0, w, run_copy_none (P := Try.prog) w 33 33 3 5 _ _ c c zs.length cap Try.underlying33 size_u8s (by simpa [Nat.min_def] using h0), ?_, hb⟩
    have e : padL zs c = List.replicate c 0 := by
      unfold padL
      by_cases h1 : c = 0
      · subst h1; simp
      · have : zs = [] := List.eq_nil_of_length_eq_zero (by omega)
        subst this; simp
    unfold BRow
    rw [e, List.map_replicate, List.toArray_replicate]
    exact hg
  · obtain ⟨b, off, cap, rfl, h1, h2, h3, h4⟩ := hs.some (fun e => h0 (by rw [e]; simp))
    have h := run_copy_row (P := Try.prog) w 33 33 3 5 g 0 c c ⟨b, off, none⟩ zs.length cap (Array.replicate c (.int .u8 0)) 5 ((zs.take c).map (Value.int .u8)) Try.underlying33 size_u8s hg (by simp [Nat.min_def]; split <;> split <;> omega)
      (by have := pix_cells (w := w) (b := b) (o := off) (k := 0) (c := c) h4; simpa using this) (by simp; omega) one_u8
    refine ⟨_, _, h, ?_, below_setRow hb hgo _⟩
    have e : (Array.replicate c (Value.int .u8 0)).toList.take 0 ++ (zs.take c).map (Value.int .u8) ++ (Array.replicate c (Value.int .u8 0)).toList.drop (0 + ((zs.take c).map (Value.int .u8)).length) = (padL zs c).map (Value.int .u8) := by
      unfold padL
      rw [List.take_zero, List.nil_append, Nat.zero_add, List.length_map, List.length_take, Array.toList_replicate, List.drop_replicate, List.map_append, List.map_replicate, show c - min c zs.length = c - zs.length by omega]
    rw [e]
    exact setRow_heap w g _ _ _ _ hg

end Go.Proofs.Ytnklbnphiokpiaa

set_option linter.unusedVariables false
set_option linter.unusedSimpArgs false
namespace Go.Proofs.Ytnklbnphiokpiaa
open Go.RowKit
abbrev byv (W H C : Int) (s : Value) (m c0 c1 c2 c3 : Int) : Value := .agg #[.int .i64 W, .int .i64 H, .int .i64 C, s, .int .i64 m, .int .u8 c0, .int .u8 c1, .int .u8 c2, .int .u8 c3]
def GiveRow (L : List Int) (w : World) (e : Ending) (w' : World) : Prop := ∃ g, e = .returned (.slice (some ⟨g, 0, none⟩) L.length L.length) ∧ Below w.heap.size w w' ∧ w.heap.size ≤ g ∧ BRow w' g L
set_option maxRecDepth 100000 in
theorem npixel (W H C m c0 c1 c2 c3 x y : Int) (s : Value) (zs : List Int) (w : World) (hi : IMG w s W H C zs) (hm : I64 m) (hx : I64 x) (hy : I64 y) (h : ibC W H C m zs.length = 0) :
    Calls Try.prog 75 #[byv W H C s m c0 c1 c2 c3, .int .i64 x, .int .i64 y] w (GiveRow (pixL W H C m x y [c0, c1, c2, c3] zs) w) := by
  have CP := Lib.hid (fun w hi => bpixel W H C m c0 c1 c2 c3 x y s zs w hi hm hx hy h)
  have hl := Lib.hid (pixL_len (x := x) (y := y) (cl := [c0, c1, c2, c3]) h rfl)
  have hi := Lib.hid hi
  clear hm hx hy h
  generalize hL : pixL W H C m x y [c0, c1, c2, c3] zs = L at *
  replace hL := Lib.hid hL
  go_enter Try.func75, Try.ntmps75
  go_wp2_with fail
  have BB := start1 w #[.int .i64 W, .int .i64 H, .int .i64 C, s, .int .i64 m, .int .u8 c0, .int .u8 c1, .int .u8 c2, .int .u8 c3] 99
  obtain ⟨BB, hsz, r_q⟩ := BB
  generalize (w.alloc (.cells #[.int .i64 W, .int .i64 H, .int .i64 C, s, .int .i64 m, .int .u8 c0, .int .u8 c1, .int .u8 c2, .int .u8 c3] 99)) = w0 at *
  replace BB := Lib.hid BB
  replace r_q := Lib.hid r_q
  clear hsz
  have h_m := Lib.hid (hi.out.below BB.out)
  have hs0 := Lib.hid BB.out.size
  refine (CP.out _ h_m.out).mono ?_
  rintro e w1 ⟨g, c, rfl, hc, hb, hg, hr⟩
  replace r_q := Lib.hid (r_q.out.keep hb)
  replace BB := Lib.hid (below_next BB.out hb)
  clear hb
  have hg' := Nat.le_trans hs0.out hg
  obtain rfl : c = L.length := by have := hl.out; omega
  go_wp2_with fail
  go_ret
  exact ⟨g, rfl, BB.out, hg', by rw [← hL.out]; exact hr⟩

def X28 (u : Int) : Int := (u + 32768) / 65536
theorem func_some (K : Nat) (a : Value) (w : World) : (Go.binOp BinOp.eql 50 (.func (.func K) #[a] #[]) .nilFunc).run Try.prog w = .ok (.bool false) w := by kernel_rfl
set_option maxRecDepth 100000 in
set_option maxHeartbeats 4000000 in
theorem nby (W H m c0 c1 c2 c3 u v : Int) (c : Nat) (s : Value) (zs : List Int) (w : World) (hcol : ∀ z ∈ [c0, c1, c2, c3], 0 ≤ z ∧ z ≤ 255) (hi : IMG w s W H c zs) (hm : I64 m) (hu : inB u 70368744177664 = true) (hv : inB v 70368744177664 = true) (h : ibC W H c m zs.length = 0) :
    Calls Try.prog 26 #[.func (.func 75) #[byv W H c s m c0 c1 c2 c3] #[], .int .i64 (c : Int), .int .i64 u, .int .i64 v] w (GiveRow (pixL W H c m (X28 u) (X28 v) [c0, c1, c2, c3] zs) w) := by
  obtain ⟨u0, u1⟩ := inB_iff.1 hu
  obtain ⟨v0, v1⟩ := inB_iff.1 hv
  have hl := pixL_len (x := X28 u) (y := X28 v) (cl := [c0, c1, c2, c3]) h rfl
  have CP := Lib.hid (fun w hi => npixel W H c m c0 c1 c2 c3 (X28 u) (X28 v) s zs w hi hm (by unfold X28; exact ⟨by omega, by omega⟩) (by unfold X28; exact ⟨by omega, by omega⟩) h)
  have CI := Lib.hid (fun x w => near_in_any x w)
  have FN := func_some
  have CU := Lib.hid (fun w => near_index_any u u0 u1 w)
  have CV := Lib.hid (fun w => near_index_any v v0 v1 w)
  change Hid (∀ w, Calls _ _ _ _ (fun e w' => e = .returned (.int .i64 (X28 u)) ∧ _)) at CU
  change Hid (∀ w, Calls _ _ _ _ (fun e w' => e = .returned (.int .i64 (X28 v)) ∧ _)) at CV
  have MK := mk_bytes c (by have := (ibC_zero h).2.2.1; omega)
  have hc1 : decide ((c : Int) < 1) = false := decide_eq_false (by have := (ibC_zero h).2.2.1; omega)
  have hi := Lib.hid hi
  replace hu := Lib.hid hu; replace hv := Lib.hid hv
  have HBY := Lib.hid (pixL_byte (W := W) (H := H) (C := c) (m := m) (x := X28 u) (y := X28 v) hi.out.ib.all hcol)
  clear hcol
  have hc4 : c ≤ 4 := by have := (ibC_zero h).2.2.1; omega
  generalize pixL W H c m (X28 u) (X28 v) [c0, c1, c2, c3] zs = L at *
  obtain rfl : c = L.length := by omega
  clear hm h u0 u1 v0 v1 hl
  generalize X28 u = X at *
  generalize X28 v = Y at *
  go_enter Try.func26, Try.ntmps26
  go_wp2_with fail
  have BB : Hid (Below w.heap.size w w) := Below.refl _ _
  have h_m := Lib.hid (hi.out.below BB.out)
  refine (CI.out _ _).mono ?_
  rintro e w9 ⟨rfl, rfl⟩
  rw [hu.out]
  go_wp2_with fail
  refine (CI.out _ _).mono ?_
  rintro e w9 ⟨rfl, rfl⟩
  rw [hv.out]
  go_wp2_with fail
  obtain ⟨hb, r_out⟩ := laid w (Array.replicate L.length (Value.int .u8 0)) 5
  replace h_m := Lib.hid (IMG.below h_m.out hb)
  replace BB := Lib.hid (below_next BB.out hb)
  replace r_out := Lib.hid r_out
  clear hb
  generalize w.alloc (.cells (Array.replicate L.length (Value.int .u8 0)) 5) = w1 at *
  refine (CU.out _).mono ?_
  rintro e w9 ⟨rfl, rfl⟩
  go_wp2_with fail
  refine (CV.out _).mono ?_
  rintro e w9 ⟨rfl, rfl⟩
  go_wp2_with fail
  refine (CP.out _ h_m.out).mono ?_
  rintro e w2 ⟨g, rfl, hb, hg, hr⟩
  replace r_out := Lib.hid (r_out.out.keep hb)
  replace h_m := Lib.hid (IMG.below h_m.out hb)
  replace BB := Lib.hid (below_next BB.out hb)
  clear hb
  have hgo := Nat.le_refl w.heap.size
  obtain ⟨kk, w8, RC, hr8, hb8⟩ := copy_pad w w2 w.heap.size L.length _ L (hr.bs HBY.out (by omega)) r_out.out hgo BB.out
  rw [padL_all rfl] at hr8
  go_wp2_with fail
  go_ret
  exact ⟨_, rfl, hb8, hgo, hr8⟩


/-- The code of an image, a border and a place. -/
def nrC (W H C m u v : Int) (n : Nat) : Int := if ibC W H C m n = 0 then (if inB u 70368744177664 = true ∧ inB v 70368744177664 = true then 0 else 11) else ibC W H C m n
theorem errno_at_0 (a b : Int) (w : World) : (Instr.index 97 (.agg #[.int .i64 a, .int .i64 b]) (.int .i64 0)).run Try.prog w = .ok (.int .i64 a) w := by kernel_rfl
theorem errno_at_1 (a b : Int) (w : World) : (Instr.index 97 (.agg #[.int .i64 a, .int .i64 b]) (.int .i64 1)).run Try.prog w = .ok (.int .i64 b) w := by kernel_rfl
set_option maxRecDepth 100000 in
set_option maxHeartbeats 4000000 in
theorem nat_no (W H C m c0 c1 c2 c3 u v : Int) (A : Option Addr) (n cap : Nat) (h : nrC W H C m u v n ≠ 0) (w : World) :
    Calls Try.prog 32 #[imv W H C (.slice A n cap), brv m c0 c1 c2 c3, .int .i64 u, .int .i64 v] w fun e w' => e = .returned (.tuple #[.slice none 0 0, .int .i64 (nrC W H C m u v n)]) ∧ Below w.heap.size w w' := by
  have CI := Lib.hid (fun w => icheck W H C A n cap w)
  have CB := Lib.hid (fun w => bcheck_any m c0 c1 c2 c3 w)
  have CN := Lib.hid (fun x w => near_in_any x w)
  have J0 := errno_at_0
  have J1 := errno_at_1
  by_cases hi : imC W H C n = 0
  · have e1 : ibC W H C m n = bC m := if_pos hi
    rw [hi] at CI
    by_cases hb : bC m = 0
    · have e2 : nrC W H C m u v n = if inB u 70368744177664 = true ∧ inB v 70368744177664 = true then 0 else 11 := if_pos (e1.trans hb)
      rw [hb] at CB
      rcases hbu : inB u 70368744177664 with _ | _
      · have F : Hid (nrC W H C m u v n = 11) := by show _ = _; rw [e2, hbu]; simp
        replace hbu := Lib.hid hbu
        clear e1 e2 hi hb h
        generalize nrC W H C m u v n = d at *
        go_enter Try.func32, Try.ntmps32
        go_wp2_with fail
        have BB := start2 w #[.int .i64 W, .int .i64 H, .int .i64 C, .slice A n cap] IT #[.int .i64 m, .int .u8 c0, .int .u8 c1, .int .u8 c2, .int .u8 c3] RT
        obtain ⟨BB, hsz, r_i, r_b⟩ := BB
        generalize ((w.alloc (.cells #[.int .i64 W, .int .i64 H, .int .i64 C, .slice A n cap] IT)).alloc (.cells #[.int .i64 m, .int .u8 c0, .int .u8 c1, .int .u8 c2, .int .u8 c3] RT)) = w0 at *
        replace BB := Lib.hid BB
        replace r_i := Lib.hid r_i
        replace r_b := Lib.hid r_b
        clear hsz
        have KK := Lib.hid (fun (w9 : World) (h : Below w0.heap.size w0 w9) => (⟨cells4 (r_i.out.keep h), cells5 (r_b.out.keep h)⟩ : (w9.cell? ⟨w.heap.size, 0, none⟩ = some (.int .i64 W) ∧ w9.cell? ⟨w.heap.size, 1, none⟩ = some (.int .i64 H) ∧ w9.cell? ⟨w.heap.size, 2, none⟩ = some (.int .i64 C) ∧ w9.cell? ⟨w.heap.size, 3, none⟩ = some (.slice A n cap)) ∧ (w9.cell? ⟨w.heap.size + 1, 0, none⟩ = some (.int .i64 m) ∧ w9.cell? ⟨w.heap.size + 1, 1, none⟩ = some (.int .u8 c0) ∧ w9.cell? ⟨w.heap.size + 1, 2, none⟩ = some (.int .u8 c1) ∧ w9.cell? ⟨w.heap.size + 1, 3, none⟩ = some (.int .u8 c2) ∧ w9.cell? ⟨w.heap.size + 1, 4, none⟩ = some (.int .u8 c3))))
        have K0 := KK.out w0 (Below.refl _ _)
        have KD := KK.out w0.drew (below_drew (Below.refl _ _))
        go_region_held3 (fun w9 => (w9.cell? ⟨w.heap.size, 0, none⟩ = some (.int .i64 W) ∧ w9.cell? ⟨w.heap.size, 1, none⟩ = some (.int .i64 H) ∧ w9.cell? ⟨w.heap.size, 2, none⟩ = some (.int .i64 C) ∧ w9.cell? ⟨w.heap.size, 3, none⟩ = some (.slice A n cap)) ∧ (w9.cell? ⟨w.heap.size + 1, 0, none⟩ = some (.int .i64 m) ∧ w9.cell? ⟨w.heap.size + 1, 1, none⟩ = some (.int .u8 c0) ∧ w9.cell? ⟨w.heap.size + 1, 2, none⟩ = some (.int .u8 c1) ∧ w9.cell? ⟨w.heap.size + 1, 3, none⟩ = some (.int .u8 c2) ∧ w9.cell? ⟨w.heap.size + 1, 4, none⟩ = some (.int .u8 c3)))
            (first | with_reducible exact KD | with_reducible exact K0 | with_reducible exact K_w1 | with_reducible exact K_w2)
            (first
              | (go_at_call 73
                 refine (CI.out _).mono ?_
                 rintro e w1 ⟨rfl, hb⟩
                 have B_w1 := Lib.hid (reg_next (w0 := w0) (by repeat (first | with_reducible exact Below.refl _ _ | with_reducible apply below_drew | with_reducible apply below_new)) hb)
                 have K_w1 := KK.out _ B_w1.out
                 clear hb)
              | (go_at_call 74
                 refine (CB.out _).mono ?_
                 rintro e w2 ⟨rfl, hb⟩
                 have B_w2 := Lib.hid (below_next B_w1.out hb)
                 have K_w2 := KK.out _ B_w2.out
                 clear hb))
        clear KK K0 KD K_w1 K_w2
        replace r_i := Lib.hid (r_i.out.keep B_w2.out)
        replace r_b := Lib.hid (r_b.out.keep B_w2.out)
        replace BB := Lib.hid (below_next BB.out B_w2.out)
        clear B_w1 B_w2
        go_wp2_with fail
        refine wp_loop_rounds 3 ?_
        rw [rounds_succ]
        go_wp2_with fail
        rw [rounds_succ]
        go_wp2_with fail
        rw [rounds_succ]
        go_wp2_with fail
        refine (CN.out _ _).mono ?_
        rintro e w9 ⟨rfl, rfl⟩
        rw [hbu.out]
        go_wp2_with fail
        refine bodyPost_ret (v := .tuple #[.slice none 0 0, .int .i64 11]) (by unfold results; simp only [Try.results32]; go_simp) rfl ?_
        exact ⟨by rw [F.out], BB.out⟩
      · rcases hbv : inB v 70368744177664 with _ | _
        · have F : Hid (nrC W H C m u v n = 11) := by show _ = _; rw [e2, hbu, hbv]; simp
          replace hbu := Lib.hid hbu; replace hbv := Lib.hid hbv
          clear e1 e2 hi hb h
          generalize nrC W H C m u v n = d at *
          go_enter Try.func32, Try.ntmps32
          go_wp2_with fail
          have BB := start2 w #[.int .i64 W, .int .i64 H, .int .i64 C, .slice A n cap] IT #[.int .i64 m, .int .u8 c0, .int .u8 c1, .int .u8 c2, .int .u8 c3] RT
          obtain ⟨BB, hsz, r_i, r_b⟩ := BB
          generalize ((w.alloc (.cells #[.int .i64 W, .int .i64 H, .int .i64 C, .slice A n cap] IT)).alloc (.cells #[.int .i64 m, .int .u8 c0, .int .u8 c1, .int .u8 c2, .int .u8 c3] RT)) = w0 at *
          replace BB := Lib.hid BB
          replace r_i := Lib.hid r_i
          replace r_b := Lib.hid r_b
          clear hsz
          have KK := Lib.hid (fun (w9 : World) (h : Below w0.heap.size w0 w9) => (⟨cells4 (r_i.out.keep h), cells5 (r_b.out.keep h)⟩ : (w9.cell? ⟨w.heap.size, 0, none⟩ = some (.int .i64 W) ∧ w9.cell? ⟨w.heap.size, 1, none⟩ = some (.int .i64 H) ∧ w9.cell? ⟨w.heap.size, 2, none⟩ = some (.int .i64 C) ∧ w9.cell? ⟨w.heap.size, 3, none⟩ = some (.slice A n cap)) ∧ (w9.cell? ⟨w.heap.size + 1, 0, none⟩ = some (.int .i64 m) ∧ w9.cell? ⟨w.heap.size + 1, 1, none⟩ = some (.int .u8 c0) ∧ w9.cell? ⟨w.heap.size + 1, 2, none⟩ = some (.int .u8 c1) ∧ w9.cell? ⟨w.heap.size + 1, 3, none⟩ = some (.int .u8 c2) ∧ w9.cell? ⟨w.heap.size + 1, 4, none⟩ = some (.int .u8 c3))))
          have K0 := KK.out w0 (Below.refl _ _)
          have KD := KK.out w0.drew (below_drew (Below.refl _ _))
          go_region_held3 (fun w9 => (w9.cell? ⟨w.heap.size, 0, none⟩ = some (.int .i64 W) ∧ w9.cell? ⟨w.heap.size, 1, none⟩ = some (.int .i64 H) ∧ w9.cell? ⟨w.heap.size, 2, none⟩ = some (.int .i64 C) ∧ w9.cell? ⟨w.heap.size, 3, none⟩ = some (.slice A n cap)) ∧ (w9.cell? ⟨w.heap.size + 1, 0, none⟩ = some (.int .i64 m) ∧ w9.cell? ⟨w.heap.size + 1, 1, none⟩ = some (.int .u8 c0) ∧ w9.cell? ⟨w.heap.size + 1, 2, none⟩ = some (.int .u8 c1) ∧ w9.cell? ⟨w.heap.size + 1, 3, none⟩ = some (.int .u8 c2) ∧ w9.cell? ⟨w.heap.size + 1, 4, none⟩ = some (.int .u8 c3)))
              (first | with_reducible exact KD | with_reducible exact K0 | with_reducible exact K_w1 | with_reducible exact K_w2)
              (first
                | (go_at_call 73
                   refine (CI.out _).mono ?_
                   rintro e w1 ⟨rfl, hb⟩
                   have B_w1 := Lib.hid (reg_next (w0 := w0) (by repeat (first | with_reducible exact Below.refl _ _ | with_reducible apply below_drew | with_reducible apply below_new)) hb)
                   have K_w1 := KK.out _ B_w1.out
                   clear hb)
                | (go_at_call 74
                   refine (CB.out _).mono ?_
                   rintro e w2 ⟨rfl, hb⟩
                   have B_w2 := Lib.hid (below_next B_w1.out hb)
                   have K_w2 := KK.out _ B_w2.out
                   clear hb))
          clear KK K0 KD K_w1 K_w2
          replace r_i := Lib.hid (r_i.out.keep B_w2.out)
          replace r_b := Lib.hid (r_b.out.keep B_w2.out)
          replace BB := Lib.hid (below_next BB.out B_w2.out)
          clear B_w1 B_w2
          go_wp2_with fail
          refine wp_loop_rounds 3 ?_
          rw [rounds_succ]
          go_wp2_with fail
          rw [rounds_succ]
          go_wp2_with fail
          rw [rounds_succ]
          go_wp2_with fail
          refine (CN.out _ _).mono ?_
          rintro e w9 ⟨rfl, rfl⟩
          rw [hbu.out]
          go_wp2_with fail
          refine (CN.out _ _).mono ?_
          rintro e w9 ⟨rfl, rfl⟩
          rw [hbv.out]
          go_wp2_with fail
          refine bodyPost_ret (v := .tuple #[.slice none 0 0, .int .i64 11]) (by unfold results; simp only [Try.results32]; go_simp) rfl ?_
          exact ⟨by rw [F.out], BB.out⟩
        · exact absurd (by rw [e2, hbu, hbv]; simp) h
    · have F : Hid (nrC W H C m u v n = bC m) := by show _ = _; unfold nrC; rw [e1, if_neg hb]
      have hq : (bC m == 0) = false := by simpa using hb
      have hq2 : (bC m != 0) = true := by simpa using hb
      clear e1 hi hb h
      generalize nrC W H C m u v n = d at *
      generalize bC m = q at *
      go_enter Try.func32, Try.ntmps32
      go_wp2_with fail
      have BB := start2 w #[.int .i64 W, .int .i64 H, .int .i64 C, .slice A n cap] IT #[.int .i64 m, .int .u8 c0, .int .u8 c1, .int .u8 c2, .int .u8 c3] RT
      obtain ⟨BB, hsz, r_i, r_b⟩ := BB
      generalize ((w.alloc (.cells #[.int .i64 W, .int .i64 H, .int .i64 C, .slice A n cap] IT)).alloc (.cells #[.int .i64 m, .int .u8 c0, .int .u8 c1, .int .u8 c2, .int .u8 c3] RT)) = w0 at *
      replace BB := Lib.hid BB
      replace r_i := Lib.hid r_i
      replace r_b := Lib.hid r_b
      clear hsz
      have KK := Lib.hid (fun (w9 : World) (h : Below w0.heap.size w0 w9) => (⟨cells4 (r_i.out.keep h), cells5 (r_b.out.keep h)⟩ : (w9.cell? ⟨w.heap.size, 0, none⟩ = some (.int .i64 W) ∧ w9.cell? ⟨w.heap.size, 1, none⟩ = some (.int .i64 H) ∧ w9.cell? ⟨w.heap.size, 2, none⟩ = some (.int .i64 C) ∧ w9.cell? ⟨w.heap.size, 3, none⟩ = some (.slice A n cap)) ∧ (w9.cell? ⟨w.heap.size + 1, 0, none⟩ = some (.int .i64 m) ∧ w9.cell? ⟨w.heap.size + 1, 1, none⟩ = some (.int .u8 c0) ∧ w9.cell? ⟨w.heap.size + 1, 2, none⟩ = some (.int .u8 c1) ∧ w9.cell? ⟨w.heap.size + 1, 3, none⟩ = some (.int .u8 c2) ∧ w9.cell? ⟨w.heap.size + 1, 4, none⟩ = some (.int .u8 c3))))
      have K0 := KK.out w0 (Below.refl _ _)
      have KD := KK.out w0.drew (below_drew (Below.refl _ _))
      go_region_held3 (fun w9 => (w9.cell? ⟨w.heap.size, 0, none⟩ = some (.int .i64 W) ∧ w9.cell? ⟨w.heap.size, 1, none⟩ = some (.int .i64 H) ∧ w9.cell? ⟨w.heap.size, 2, none⟩ = some (.int .i64 C) ∧ w9.cell? ⟨w.heap.size, 3, none⟩ = some (.slice A n cap)) ∧ (w9.cell? ⟨w.heap.size + 1, 0, none⟩ = some (.int .i64 m) ∧ w9.cell? ⟨w.heap.size + 1, 1, none⟩ = some (.int .u8 c0) ∧ w9.cell? ⟨w.heap.size + 1, 2, none⟩ = some (.int .u8 c1) ∧ w9.cell? ⟨w.heap.size + 1, 3, none⟩ = some (.int .u8 c2) ∧ w9.cell? ⟨w.heap.size + 1, 4, none⟩ = some (.int .u8 c3)))
          (first | with_reducible exact KD | with_reducible exact K0 | with_reducible exact K_w1 | with_reducible exact K_w2)
          (first
            | (go_at_call 73
               refine (CI.out _).mono ?_
               rintro e w1 ⟨rfl, hb⟩
               have B_w1 := Lib.hid (reg_next (w0 := w0) (by repeat (first | with_reducible exact Below.refl _ _ | with_reducible apply below_drew | with_reducible apply below_new)) hb)
               have K_w1 := KK.out _ B_w1.out
               clear hb)
            | (go_at_call 74
               refine (CB.out _).mono ?_
               rintro e w2 ⟨rfl, hb⟩
               have B_w2 := Lib.hid (below_next B_w1.out hb)
               have K_w2 := KK.out _ B_w2.out
               clear hb))
      clear KK K0 KD K_w1 K_w2
      replace r_i := Lib.hid (r_i.out.keep B_w2.out)
      replace r_b := Lib.hid (r_b.out.keep B_w2.out)
      replace BB := Lib.hid (below_next BB.out B_w2.out)
      clear B_w1 B_w2
      go_wp2_with fail
      refine wp_loop_rounds 3 ?_
      rw [rounds_succ]
      go_wp2_with fail
      rw [rounds_succ]
      go_wp2_with fail
      refine bodyPost_ret (v := .tuple #[.slice none 0 0, .int .i64 q]) (by unfold results; simp only [Try.results32]; go_simp) rfl ?_
      exact ⟨by rw [F.out], BB.out⟩
  · have e1 : ibC W H C m n = imC W H C n := if_neg hi
    have F : Hid (nrC W H C m u v n = imC W H C n) := by show _ = _; unfold nrC; rw [e1, if_neg hi]
    have hq : (imC W H C n == 0) = false := by simpa using hi
    have hq2 : (imC W H C n != 0) = true := by simpa using hi
    clear e1 hi h
    generalize nrC W H C m u v n = d at *
    generalize imC W H C n = q at *
    generalize bC m = q' at *
    go_enter Try.func32, Try.ntmps32
    go_wp2_with fail
    have BB := start2 w #[.int .i64 W, .int .i64 H, .int .i64 C, .slice A n cap] IT #[.int .i64 m, .int .u8 c0, .int .u8 c1, .int .u8 c2, .int .u8 c3] RT
    obtain ⟨BB, hsz, r_i, r_b⟩ := BB
    generalize ((w.alloc (.cells #[.int .i64 W, .int .i64 H, .int .i64 C, .slice A n cap] IT)).alloc (.cells #[.int .i64 m, .int .u8 c0, .int .u8 c1, .int .u8 c2, .int .u8 c3] RT)) = w0 at *
    replace BB := Lib.hid BB
    replace r_i := Lib.hid r_i
    replace r_b := Lib.hid r_b
    clear hsz
    have KK := Lib.hid (fun (w9 : World) (h : Below w0.heap.size w0 w9) => (⟨cells4 (r_i.out.keep h), cells5 (r_b.out.keep h)⟩ : (w9.cell? ⟨w.heap.size, 0, none⟩ = some (.int .i64 W) ∧ w9.cell? ⟨w.heap.size, 1, none⟩ = some (.int .i64 H) ∧ w9.cell? ⟨w.heap.size, 2, none⟩ = some (.int .i64 C) ∧ w9.cell? ⟨w.heap.size, 3, none⟩ = some (.slice A n cap)) ∧ (w9.cell? ⟨w.heap.size + 1, 0, none⟩ = some (.int .i64 m) ∧ w9.cell? ⟨w.heap.size + 1, 1, none⟩ = some (.int .u8 c0) ∧ w9.cell? ⟨w.heap.size + 1, 2, none⟩ = some (.int .u8 c1) ∧ w9.cell? ⟨w.heap.size + 1, 3, none⟩ = some (.int .u8 c2) ∧ w9.cell? ⟨w.heap.size + 1, 4, none⟩ = some (.int .u8 c3))))
    have K0 := KK.out w0 (Below.refl _ _)
    have KD := KK.out w0.drew (below_drew (Below.refl _ _))
    go_region_held3 (fun w9 => (w9.cell? ⟨w.heap.size, 0, none⟩ = some (.int .i64 W) ∧ w9.cell? ⟨w.heap.size, 1, none⟩ = some (.int .i64 H) ∧ w9.cell? ⟨w.heap.size, 2, none⟩ = some (.int .i64 C) ∧ w9.cell? ⟨w.heap.size, 3, none⟩ = some (.slice A n cap)) ∧ (w9.cell? ⟨w.heap.size + 1, 0, none⟩ = some (.int .i64 m) ∧ w9.cell? ⟨w.heap.size + 1, 1, none⟩ = some (.int .u8 c0) ∧ w9.cell? ⟨w.heap.size + 1, 2, none⟩ = some (.int .u8 c1) ∧ w9.cell? ⟨w.heap.size + 1, 3, none⟩ = some (.int .u8 c2) ∧ w9.cell? ⟨w.heap.size + 1, 4, none⟩ = some (.int .u8 c3)))
        (first | with_reducible exact KD | with_reducible exact K0 | with_reducible exact K_w1 | with_reducible exact K_w2)
        (first
          | (go_at_call 73
             refine (CI.out _).mono ?_
             rintro e w1 ⟨rfl, hb⟩
             have B_w1 := Lib.hid (reg_next (w0 := w0) (by repeat (first | with_reducible exact Below.refl _ _ | with_reducible apply below_drew | with_reducible apply below_new)) hb)
             have K_w1 := KK.out _ B_w1.out
             clear hb)
          | (go_at_call 74
             refine (CB.out _).mono ?_
             rintro e w2 ⟨rfl, hb⟩
             have B_w2 := Lib.hid (below_next B_w1.out hb)
             have K_w2 := KK.out _ B_w2.out
             clear hb))
    clear KK K0 KD K_w1 K_w2
    replace r_i := Lib.hid (r_i.out.keep B_w2.out)
    replace r_b := Lib.hid (r_b.out.keep B_w2.out)
    replace BB := Lib.hid (below_next BB.out B_w2.out)
    clear B_w1 B_w2
    go_wp2_with fail
    refine wp_loop_rounds 3 ?_
    rw [rounds_succ]
    go_wp2_with fail
    refine bodyPost_ret (v := .tuple #[.slice none 0 0, .int .i64 q]) (by unfold results; simp only [Try.results32]; go_simp) rfl ?_
    exact ⟨by rw [F.out], BB.out⟩


set_option maxRecDepth 100000 in
set_option maxHeartbeats 4000000 in
theorem nat_ok (W H m c0 c1 c2 c3 u v : Int) (c : Nat) (A : Option Addr) (zs : List Int) (cap : Nat) (h : nrC W H c m u v zs.length = 0) (hm : I64 m) (hcol : ∀ z ∈ [c0, c1, c2, c3], 0 ≤ z ∧ z ≤ 255) (w : World) (hi : IMG w (.slice A zs.length cap) W H c zs) :
    Calls Try.prog 32 #[imv W H c (.slice A zs.length cap), brv m c0 c1 c2 c3, .int .i64 u, .int .i64 v] w fun e w' => ∃ g, e = .returned (.tuple #[.slice (some ⟨g, 0, none⟩) c c, .int .i64 0]) ∧ Below w.heap.size w w' ∧ BRow w' g (pixL W H c m (X28 u) (X28 v) [c0, c1, c2, c3] zs) := by
  have h' := h
  unfold nrC at h'
  split at h'
  · rename_i h0
    split at h'
    · rename_i hin
      have CI := Lib.hid (fun w => icheck W H c A zs.length cap w)
      have CB := Lib.hid (fun w => bcheck_any m c0 c1 c2 c3 w)
      have CN := Lib.hid (fun x w => near_in_any x w)
      have J0 := errno_at_0
      have J1 := errno_at_1
      have CY := Lib.hid (fun w hi => nby W H m c0 c1 c2 c3 u v c (.slice A zs.length cap) zs w hcol hi hm hin.1 hin.2 h0)
      have hl := pixL_len (x := X28 u) (y := X28 v) (cl := [c0, c1, c2, c3]) h0 rfl
      have hz := ibC_zero h0
      rw [hz.1] at CI
      rw [show bC m = 0 from if_neg (by have := hz.2.1; omega)] at CB
      obtain ⟨hbu, hbv⟩ := hin
      replace hbu := Lib.hid hbu; replace hbv := Lib.hid hbv
      have hi := Lib.hid hi
      clear h h' hz h0 hm hcol
      generalize pixL W H c m (X28 u) (X28 v) [c0, c1, c2, c3] zs = L at *
      generalize zs.length = n at *
      obtain rfl : c = L.length := by omega
      go_enter Try.func32, Try.ntmps32
      go_wp2_with fail
      have BB := start2 w #[.int .i64 W, .int .i64 H, .int .i64 L.length, .slice A n cap] IT #[.int .i64 m, .int .u8 c0, .int .u8 c1, .int .u8 c2, .int .u8 c3] RT
      obtain ⟨BB, hsz, r_i, r_b⟩ := BB
      generalize ((w.alloc (.cells #[.int .i64 W, .int .i64 H, .int .i64 L.length, .slice A n cap] IT)).alloc (.cells #[.int .i64 m, .int .u8 c0, .int .u8 c1, .int .u8 c2, .int .u8 c3] RT)) = w0 at *
      replace BB := Lib.hid BB
      replace r_i := Lib.hid r_i
      replace r_b := Lib.hid r_b
      clear hsz
      have h_m := Lib.hid (hi.out.below BB.out)
      have KK := Lib.hid (fun (w9 : World) (h : Below w0.heap.size w0 w9) => (⟨cells4 (r_i.out.keep h), cells5 (r_b.out.keep h)⟩ : (w9.cell? ⟨w.heap.size, 0, none⟩ = some (.int .i64 W) ∧ w9.cell? ⟨w.heap.size, 1, none⟩ = some (.int .i64 H) ∧ w9.cell? ⟨w.heap.size, 2, none⟩ = some (.int .i64 L.length) ∧ w9.cell? ⟨w.heap.size, 3, none⟩ = some (.slice A n cap)) ∧ (w9.cell? ⟨w.heap.size + 1, 0, none⟩ = some (.int .i64 m) ∧ w9.cell? ⟨w.heap.size + 1, 1, none⟩ = some (.int .u8 c0) ∧ w9.cell? ⟨w.heap.size + 1, 2, none⟩ = some (.int .u8 c1) ∧ w9.cell? ⟨w.heap.size + 1, 3, none⟩ = some (.int .u8 c2) ∧ w9.cell? ⟨w.heap.size + 1, 4, none⟩ = some (.int .u8 c3))))
      have K0 := KK.out w0 (Below.refl _ _)
      have KD := KK.out w0.drew (below_drew (Below.refl _ _))
      go_region_held3 (fun w9 => (w9.cell? ⟨w.heap.size, 0, none⟩ = some (.int .i64 W) ∧ w9.cell? ⟨w.heap.size, 1, none⟩ = some (.int .i64 H) ∧ w9.cell? ⟨w.heap.size, 2, none⟩ = some (.int .i64 L.length) ∧ w9.cell? ⟨w.heap.size, 3, none⟩ = some (.slice A n cap)) ∧ (w9.cell? ⟨w.heap.size + 1, 0, none⟩ = some (.int .i64 m) ∧ w9.cell? ⟨w.heap.size + 1, 1, none⟩ = some (.int .u8 c0) ∧ w9.cell? ⟨w.heap.size + 1, 2, none⟩ = some (.int .u8 c1) ∧ w9.cell? ⟨w.heap.size + 1, 3, none⟩ = some (.int .u8 c2) ∧ w9.cell? ⟨w.heap.size + 1, 4, none⟩ = some (.int .u8 c3)))
          (first | with_reducible exact KD | with_reducible exact K0 | with_reducible exact K_w1 | with_reducible exact K_w2)
          (first
            | (go_at_call 73
               refine (CI.out _).mono ?_
               rintro e w1 ⟨rfl, hb⟩
               have B_w1 := Lib.hid (reg_next (w0 := w0) (by repeat (first | with_reducible exact Below.refl _ _ | with_reducible apply below_drew | with_reducible apply below_new)) hb)
               have K_w1 := KK.out _ B_w1.out
               clear hb)
            | (go_at_call 74
               refine (CB.out _).mono ?_
               rintro e w2 ⟨rfl, hb⟩
               have B_w2 := Lib.hid (below_next B_w1.out hb)
               have K_w2 := KK.out _ B_w2.out
               clear hb))
      clear KK K0 KD K_w1 K_w2
      replace r_i := Lib.hid (r_i.out.keep B_w2.out)
      replace r_b := Lib.hid (r_b.out.keep B_w2.out)
      replace h_m := Lib.hid (IMG.below h_m.out B_w2.out)
      replace BB := Lib.hid (below_next BB.out B_w2.out)
      clear B_w1 B_w2
      go_wp2_with fail
      refine wp_loop_rounds 3 ?_
      rw [rounds_succ]
      go_wp2_with fail
      rw [rounds_succ]
      go_wp2_with fail
      rw [rounds_succ]
      go_wp2_with fail
      refine (CN.out _ _).mono ?_
      rintro e w9 ⟨rfl, rfl⟩
      rw [hbu.out]
      go_wp2_with fail
      refine (CN.out _ _).mono ?_
      rintro e w9 ⟨rfl, rfl⟩
      rw [hbv.out]
      obtain ⟨c_i0, c_i1, c_i2, c_i3, f_i0, f_i1, f_i2, f_i3⟩ := reads4 r_i.out
      have l_i := r_i.out.lt
      obtain ⟨c_b0, c_b1, c_b2, c_b3, c_b4, f_b0, f_b1, f_b2, f_b3, f_b4⟩ := reads5 r_b.out
      have l_b := r_b.out.lt
      go_wp2_with fail
      refine (CY.out _ h_m.out).mono ?_
      rintro e w3 ⟨g, rfl, hb, hg, hr⟩
      clear c_i0 c_i1 c_i2 c_i3 f_i0 f_i1 f_i2 f_i3 l_i c_b0 c_b1 c_b2 c_b3 c_b4 f_b0 f_b1 f_b2 f_b3 f_b4 l_b
      replace r_i := Lib.hid (r_i.out.keep hb)
      replace r_b := Lib.hid (r_b.out.keep hb)
      replace h_m := Lib.hid (IMG.below h_m.out hb)
      replace BB := Lib.hid (below_next BB.out hb)
      clear hb
      go_wp2_with fail
      refine bodyPost_ret (v := .tuple #[.slice (some ⟨g, 0, none⟩) L.length L.length, .int .i64 0]) (by unfold results; simp only [Try.results32]; go_simp) rfl ?_
      exact ⟨g, rfl, BB.out, hr⟩
    · omega
  · exact absurd h' ‹_›

set_option maxRecDepth 100000 in
set_option maxHeartbeats 4000000 in
theorem rcheck28 (W H C m c0 c1 c2 c3 u v : Int) (A : Option Addr) (n cap : Nat) (w : World) :
    Calls Try.prog 33 #[imv W H C (.slice A n cap), brv m c0 c1 c2 c3, .int .i64 u, .int .i64 v] w fun e w' => e = .returned (.int .i64 (nrC W H C m u v n)) ∧ Below w.heap.size w w' := by
  have CI := Lib.hid (fun w => rcheck07 W H C A n cap w)
  have CR := Lib.hid (fun w => right_any u v w)
  by_cases hi : imC W H C n = 0
  · have e1 : ibC W H C m n = bC m := if_pos hi
    rw [hi] at CI
    by_cases hb : bC m = 0
    · have e2 : nrC W H C m u v n = if inB u 70368744177664 = true ∧ inB v 70368744177664 = true then 0 else 11 := if_pos (e1.trans hb)
      have hm : 0 ≤ m ∧ m ≤ 3 := by
        unfold bC at hb
        split at hb <;> omega
      have d1 : decide (m < 0) = false := decide_eq_false (by omega)
      have d2 : decide (m > 3) = false := decide_eq_false (by omega)
      clear e1 hi hb hm
      rcases hbr : (inB u 70368744177664 && inB v 70368744177664) with _ | _
      · have F : Hid (nrC W H C m u v n = 11) := by
          show _ = _; rw [e2, if_neg]
          rintro ⟨k1, k2⟩; rw [k1, k2] at hbr; simp at hbr
        rw [hbr] at CR
        clear e2 hbr
        generalize nrC W H C m u v n = d at *
        go_enter Try.func33, Try.ntmps33
        go_wp2_with fail
        have BB := start2 w #[.int .i64 W, .int .i64 H, .int .i64 C, .slice A n cap] IT #[.int .i64 m, .int .u8 c0, .int .u8 c1, .int .u8 c2, .int .u8 c3] RT
        obtain ⟨BB, hsz, r_i, r_b⟩ := BB
        generalize ((w.alloc (.cells #[.int .i64 W, .int .i64 H, .int .i64 C, .slice A n cap] IT)).alloc (.cells #[.int .i64 m, .int .u8 c0, .int .u8 c1, .int .u8 c2, .int .u8 c3] RT)) = w0 at *
        replace BB := Lib.hid BB
        replace r_i := Lib.hid r_i
        replace r_b := Lib.hid r_b
        clear hsz
        refine (CI.out _).mono ?_
        rintro e w1 ⟨rfl, hb⟩
        replace r_i := Lib.hid (r_i.out.keep hb)
        replace r_b := Lib.hid (r_b.out.keep hb)
        replace BB := Lib.hid (below_next BB.out hb)
        clear hb
        obtain ⟨c_b0, c_b1, c_b2, c_b3, c_b4, f_b0, f_b1, f_b2, f_b3, f_b4⟩ := reads5 r_b.out
        have l_b := r_b.out.lt
        go_wp2_with fail
        refine (CR.out _).mono ?_
        rintro e w9 ⟨rfl, rfl⟩
        go_wp2_with fail
        go_ret
        exact ⟨ret_int F.out.symm, BB.out⟩
      · have F : Hid (nrC W H C m u v n = 0) := by
          show _ = _; rw [e2, if_pos]
          simpa using hbr
        rw [hbr] at CR
        clear e2 hbr
        generalize nrC W H C m u v n = d at *
        go_enter Try.func33, Try.ntmps33
        go_wp2_with fail
        have BB := start2 w #[.int .i64 W, .int .i64 H, .int .i64 C, .slice A n cap] IT #[.int .i64 m, .int .u8 c0, .int .u8 c1, .int .u8 c2, .int .u8 c3] RT
        obtain ⟨BB, hsz, r_i, r_b⟩ := BB
        generalize ((w.alloc (.cells #[.int .i64 W, .int .i64 H, .int .i64 C, .slice A n cap] IT)).alloc (.cells #[.int .i64 m, .int .u8 c0, .int .u8 c1, .int .u8 c2, .int .u8 c3] RT)) = w0 at *
        replace BB := Lib.hid BB
        replace r_i := Lib.hid r_i
        replace r_b := Lib.hid r_b
        clear hsz
        refine (CI.out _).mono ?_
        rintro e w1 ⟨rfl, hb⟩
        replace r_i := Lib.hid (r_i.out.keep hb)
        replace r_b := Lib.hid (r_b.out.keep hb)
        replace BB := Lib.hid (below_next BB.out hb)
        clear hb
        obtain ⟨c_b0, c_b1, c_b2, c_b3, c_b4, f_b0, f_b1, f_b2, f_b3, f_b4⟩ := reads5 r_b.out
        have l_b := r_b.out.lt
        go_wp2_with fail
        refine (CR.out _).mono ?_
        rintro e w9 ⟨rfl, rfl⟩
        go_wp2_with fail
        go_ret
        exact ⟨ret_int F.out.symm, BB.out⟩
    · have hm : m < 0 ∨ 3 < m := by
        unfold bC at hb
        split at hb
        · assumption
        · omega
      have F : Hid (nrC W H C m u v n = 10) := by show _ = _; unfold nrC; rw [e1, if_neg hb]; unfold bC; rw [if_pos hm]
      clear e1 hi hb
      by_cases h0 : m < 0
      · have d1 : decide (m < 0) = true := decide_eq_true h0
        generalize nrC W H C m u v n = d at *
        go_enter Try.func33, Try.ntmps33
        go_wp2_with fail
        have BB := start2 w #[.int .i64 W, .int .i64 H, .int .i64 C, .slice A n cap] IT #[.int .i64 m, .int .u8 c0, .int .u8 c1, .int .u8 c2, .int .u8 c3] RT
        obtain ⟨BB, hsz, r_i, r_b⟩ := BB
        generalize ((w.alloc (.cells #[.int .i64 W, .int .i64 H, .int .i64 C, .slice A n cap] IT)).alloc (.cells #[.int .i64 m, .int .u8 c0, .int .u8 c1, .int .u8 c2, .int .u8 c3] RT)) = w0 at *
        replace BB := Lib.hid BB
        replace r_i := Lib.hid r_i
        replace r_b := Lib.hid r_b
        clear hsz
        refine (CI.out _).mono ?_
        rintro e w1 ⟨rfl, hb⟩
        replace r_i := Lib.hid (r_i.out.keep hb)
        replace r_b := Lib.hid (r_b.out.keep hb)
        replace BB := Lib.hid (below_next BB.out hb)
        clear hb
        obtain ⟨c_b0, c_b1, c_b2, c_b3, c_b4, f_b0, f_b1, f_b2, f_b3, f_b4⟩ := reads5 r_b.out
        have l_b := r_b.out.lt
        go_wp2_with fail
        go_ret
        exact ⟨ret_int F.out.symm, BB.out⟩
      · have d1 : decide (m < 0) = false := decide_eq_false h0
        have d2 : decide (m > 3) = true := decide_eq_true (by omega)
        generalize nrC W H C m u v n = d at *
        go_enter Try.func33, Try.ntmps33
        go_wp2_with fail
        have BB := start2 w #[.int .i64 W, .int .i64 H, .int .i64 C, .slice A n cap] IT #[.int .i64 m, .int .u8 c0, .int .u8 c1, .int .u8 c2, .int .u8 c3] RT
        obtain ⟨BB, hsz, r_i, r_b⟩ := BB
        generalize ((w.alloc (.cells #[.int .i64 W, .int .i64 H, .int .i64 C, .slice A n cap] IT)).alloc (.cells #[.int .i64 m, .int .u8 c0, .int .u8 c1, .int .u8 c2, .int .u8 c3] RT)) = w0 at *
        replace BB := Lib.hid BB
        replace r_i := Lib.hid r_i
        replace r_b := Lib.hid r_b
        clear hsz
        refine (CI.out _).mono ?_
        rintro e w1 ⟨rfl, hb⟩
        replace r_i := Lib.hid (r_i.out.keep hb)
        replace r_b := Lib.hid (r_b.out.keep hb)
        replace BB := Lib.hid (below_next BB.out hb)
        clear hb
        obtain ⟨c_b0, c_b1, c_b2, c_b3, c_b4, f_b0, f_b1, f_b2, f_b3, f_b4⟩ := reads5 r_b.out
        have l_b := r_b.out.lt
        go_wp2_with fail
        go_ret
        exact ⟨ret_int F.out.symm, BB.out⟩
  · have e1 : ibC W H C m n = imC W H C n := if_neg hi
    have F : Hid (nrC W H C m u v n = imC W H C n) := by show _ = _; unfold nrC; rw [e1, if_neg hi]
    have hq : (imC W H C n == 0) = false := by simpa using hi
    have hq2 : (imC W H C n != 0) = true := by simpa using hi
    clear e1 hi
    generalize imC W H C n = q at *
    generalize nrC W H C m u v n = d at *
    go_enter Try.func33, Try.ntmps33
    go_wp2_with fail
    have BB := start2 w #[.int .i64 W, .int .i64 H, .int .i64 C, .slice A n cap] IT #[.int .i64 m, .int .u8 c0, .int .u8 c1, .int .u8 c2, .int .u8 c3] RT
    obtain ⟨BB, hsz, r_i, r_b⟩ := BB
    generalize ((w.alloc (.cells #[.int .i64 W, .int .i64 H, .int .i64 C, .slice A n cap] IT)).alloc (.cells #[.int .i64 m, .int .u8 c0, .int .u8 c1, .int .u8 c2, .int .u8 c3] RT)) = w0 at *
    replace BB := Lib.hid BB
    replace r_i := Lib.hid r_i
    replace r_b := Lib.hid r_b
    clear hsz
    refine (CI.out _).mono ?_
    rintro e w1 ⟨rfl, hb⟩
    replace r_i := Lib.hid (r_i.out.keep hb)
    replace r_b := Lib.hid (r_b.out.keep hb)
    replace BB := Lib.hid (below_next BB.out hb)
    clear hb
    obtain ⟨c_b0, c_b1, c_b2, c_b3, c_b4, f_b0, f_b1, f_b2, f_b3, f_b4⟩ := reads5 r_b.out
    have l_b := r_b.out.lt
    go_wp2_with fail
    go_ret
    exact ⟨ret_int F.out.symm, BB.out⟩

set_option maxRecDepth 100000 in
set_option maxHeartbeats 4000000 in
theorem r28at (W H C m c0 c1 c2 c3 u v : Int) (s : Value) (zs : List Int) (w : World) (hi : IMG w s W H C zs) (hm : I64 m) (h : nrC W H C m u v zs.length = 0) (hcol : ∀ z ∈ [c0, c1, c2, c3], 0 ≤ z ∧ z ≤ 255) :
    Calls Try.prog 35 #[imv W H C s, brv m c0 c1 c2 c3, .int .i64 u, .int .i64 v] w fun e w' => ∃ r, e = .returned r ∧ Below w.heap.size w w' ∧ BS w' r (pixL W H C m (X28 u) (X28 v) [c0, c1, c2, c3] zs) := by
  have h' := h
  unfold nrC at h'
  split at h'
  · rename_i h0
    split at h'
    · rename_i hin
      obtain ⟨u0, u1⟩ := inB_iff.1 hin.1
      obtain ⟨v0, v1⟩ := inB_iff.1 hin.2
      have CU := Lib.hid (fun w => nearest_any u u0 u1 w)
      have CV := Lib.hid (fun w => nearest_any v v0 v1 w)
      change Hid (∀ w, Calls _ _ _ _ (fun e w' => e = .returned (.int .i64 (X28 u)) ∧ _)) at CU
      change Hid (∀ w, Calls _ _ _ _ (fun e w' => e = .returned (.int .i64 (X28 v)) ∧ _)) at CV
      have CP := Lib.hid (fun w hi => r28pixel W H C m c0 c1 c2 c3 (X28 u) (X28 v) s zs w hi hm (by unfold X28; exact ⟨by omega, by omega⟩) (by unfold X28; exact ⟨by omega, by omega⟩) h0 hcol)
      generalize pixL W H C m (X28 u) (X28 v) [c0, c1, c2, c3] zs = L at *
      generalize X28 u = X at *
      generalize X28 v = Y at *
      have hi := Lib.hid hi
      clear h h' h0 hm hcol hin u0 u1 v0 v1
      go_enter Try.func35, Try.ntmps35
      go_wp2_with fail
      have BB := start2 w #[.int .i64 W, .int .i64 H, .int .i64 C, s] IT #[.int .i64 m, .int .u8 c0, .int .u8 c1, .int .u8 c2, .int .u8 c3] RT
      obtain ⟨BB, hsz, r_i, r_b⟩ := BB
      generalize ((w.alloc (.cells #[.int .i64 W, .int .i64 H, .int .i64 C, s] IT)).alloc (.cells #[.int .i64 m, .int .u8 c0, .int .u8 c1, .int .u8 c2, .int .u8 c3] RT)) = w0 at *
      replace BB := Lib.hid BB
      replace r_i := Lib.hid r_i
      replace r_b := Lib.hid r_b
      clear hsz
      have CP2 := Lib.hid (fun w9 (h : Below w0.heap.size w0 w9) => CP.out w9 (hi.out.below (below_next BB.out h)))
      have KK := Lib.hid (fun (w9 : World) (h : Below w0.heap.size w0 w9) => (⟨cells4 (r_i.out.keep h), cells5 (r_b.out.keep h)⟩ : (w9.cell? ⟨w.heap.size, 0, none⟩ = some (.int .i64 W) ∧ w9.cell? ⟨w.heap.size, 1, none⟩ = some (.int .i64 H) ∧ w9.cell? ⟨w.heap.size, 2, none⟩ = some (.int .i64 C) ∧ w9.cell? ⟨w.heap.size, 3, none⟩ = some (s)) ∧ (w9.cell? ⟨w.heap.size + 1, 0, none⟩ = some (.int .i64 m) ∧ w9.cell? ⟨w.heap.size + 1, 1, none⟩ = some (.int .u8 c0) ∧ w9.cell? ⟨w.heap.size + 1, 2, none⟩ = some (.int .u8 c1) ∧ w9.cell? ⟨w.heap.size + 1, 3, none⟩ = some (.int .u8 c2) ∧ w9.cell? ⟨w.heap.size + 1, 4, none⟩ = some (.int .u8 c3))))
      have K0 := KK.out w0 (Below.refl _ _)
      have KD := KK.out w0.drew (below_drew (Below.refl _ _))
      have tok0 : Hid True := trivial
      have tok1 : Hid True := trivial
      go_region_held3 (fun w9 => (w9.cell? ⟨w.heap.size, 0, none⟩ = some (.int .i64 W) ∧ w9.cell? ⟨w.heap.size, 1, none⟩ = some (.int .i64 H) ∧ w9.cell? ⟨w.heap.size, 2, none⟩ = some (.int .i64 C) ∧ w9.cell? ⟨w.heap.size, 3, none⟩ = some (s)) ∧ (w9.cell? ⟨w.heap.size + 1, 0, none⟩ = some (.int .i64 m) ∧ w9.cell? ⟨w.heap.size + 1, 1, none⟩ = some (.int .u8 c0) ∧ w9.cell? ⟨w.heap.size + 1, 2, none⟩ = some (.int .u8 c1) ∧ w9.cell? ⟨w.heap.size + 1, 3, none⟩ = some (.int .u8 c2) ∧ w9.cell? ⟨w.heap.size + 1, 4, none⟩ = some (.int .u8 c3)))
          (first | with_reducible exact KD | with_reducible exact K0 | with_reducible exact K_w1)
          (first
            | (go_at_call 30
               have t_k := tok0
               refine (CU.out _).mono ?_
               rintro e w9 ⟨rfl, rfl⟩
               clear t_k tok0)
            | (go_at_call 30
               have t_k := tok1
               refine (CV.out _).mono ?_
               rintro e w9 ⟨rfl, rfl⟩
               clear t_k tok1)
            | (go_at_call 76
               refine (CP2.out _ ?_).mono ?_
               · repeat (first | with_reducible exact Below.refl _ _ | with_reducible apply below_drew | with_reducible apply below_new)
               rintro e w1 ⟨r, rfl, hb, hr⟩
               have B_w1 := Lib.hid (reg_next (w0 := w0) (by repeat (first | with_reducible exact Below.refl _ _ | with_reducible apply below_drew | with_reducible apply below_new)) hb)
               have K_w1 := KK.out _ B_w1.out
               clear hb))
      clear KK K0 KD K_w1
      replace r_i := Lib.hid (r_i.out.keep B_w1.out)
      replace r_b := Lib.hid (r_b.out.keep B_w1.out)
      replace BB := Lib.hid (below_next BB.out B_w1.out)
      clear B_w1
      go_wp2_with fail
      go_ret
      exact ⟨r, rfl, BB.out, hr⟩
    · omega
  · exact absurd h' ‹_›

end Go.Proofs.Ytnklbnphiokpiaa
