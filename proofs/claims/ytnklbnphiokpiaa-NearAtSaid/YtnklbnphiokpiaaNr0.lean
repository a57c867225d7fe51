/- Contracts of the document's pixel (28), of what tells whether bytes are alike (14), of its checks; copying into a row of noughts. -/
import Derived.Test.YtnklbnphiokpiaaIm2
import Derived.Test.YtnklbnphiokpiaaNear0
set_option linter.unusedVariables false
set_option linter.unusedSimpArgs false
namespace Go.Proofs.Ytnklbnphiokpiaa
open Go.RowKit
theorem own_keep {w w1 : World} {base n : Nat} {e : TypeId} {size : Nat} {v : Value} {xs : List Value} (h : w.ownsRow base e size v n xs) (hb : Below w.heap.size w w1) : w1.ownsRow base e size v n xs := by
  obtain ⟨h1, h2⟩ := h
  rcases h2 with h0 | ⟨g, cap, cur, hv, hg, hh, hn, hcap, hsz, htake⟩
  · exact ⟨h1, .inl h0⟩
  · exact ⟨h1, .inr ⟨g, cap, cur, hv, hg, (hb.block g (Array.getElem?_eq_some_iff.1 hh).1).trans hh, hn, hcap, hsz, htake⟩⟩
theorem own_one_u8 {w1 : World} {base : Nat} {v1 : Value} {os : List Int} {x : Int} (h : w1.ownsRow base 5 1 v1 (os.length + 1) (os.map (Value.int .u8) ++ [.int .u8 x])) :
    w1.ownsRow base 5 1 v1 (os ++ [x]).length ((os ++ [x]).map (Value.int .u8)) := by simpa using h
theorem BS.of_own {w : World} {base : Nat} {v : Value} {os : List Int} (h : w.ownsRow base 5 1 v os.length (os.map (Value.int .u8))) (hz : ∀ z ∈ os, 0 ≤ z ∧ z ≤ 255) : BS w v os := by
  rcases h.2 with ⟨rfl, hn⟩ | ⟨g, cap, cur, rfl, hg, hh, hn, hcap, hsz, htake⟩
  · have : os = [] := List.eq_nil_of_length_eq_zero hn
    subst this
    exact ⟨Option.none, 0, rfl, by simp, by simp, by simp, fun h => absurd rfl h⟩
  · refine ⟨Option.some ⟨g, 0, Option.none⟩, cap, rfl, hn, by unfold maxLen at hcap; omega, hz, fun _ => ⟨g, 0, rfl, (Array.getElem?_eq_some_iff.1 hh).1, fun i hi => ?_⟩⟩
    have h1 : (cur.toList.take (os.length * 1))[i]? = Option.some (Value.int .u8 os[i]) := by
      rw [htake]; simp [hi]
    rw [List.getElem?_take, if_pos (by omega)] at h1
    have h2 : cur[i]? = Option.some (Value.int .u8 os[i]) := by simpa using h1
    rw [Nat.zero_add]
    simp [World.cell?, hh, h2, List.getD, hi]

theorem own_mono {w : World} {base base' n : Nat} {e : TypeId} {size : Nat} {v : Value} {xs : List Value} (h : w.ownsRow base e size v n xs) (hb : base' ≤ base) : w.ownsRow base' e size v n xs := by
  obtain ⟨h1, h2⟩ := h
  rcases h2 with h0 | ⟨g, cap, cur, hv, hg, r⟩
  · exact ⟨h1, .inl h0⟩
  · exact ⟨h1, .inr ⟨g, cap, cur, hv, by omega, r⟩⟩
theorem at_app {w1 w8 : World} {o : Obj} {row : Option Nat} {p : Nat} {cs : Array Value} {T : TypeId} (h : AtB w1 p cs T) (hg : (w1.alloc o).grownBy w8 row) (hne : some p ≠ row) : AtB w8 p cs T :=
  (hg.block p (h.alloc o).lt hne).trans (h.alloc o)
set_option maxRecDepth 100000 in
set_option maxHeartbeats 8000000 in
theorem r28pixel (W H C m c0 c1 c2 c3 x y : Int) (s : Value) (zs : List Int) (w : World) (hi : IMG w s W H C zs) (hm : I64 m) (hx : I64 x) (hy : I64 y) (h : ibC W H C m zs.length = 0) (hcol : ∀ z ∈ [c0, c1, c2, c3], 0 ≤ z ∧ z ≤ 255) :
    Calls Try.prog 76 #[imv W H C s, brv m c0 c1 c2 c3, .int .i64 x, .int .i64 y] w fun e w' => ∃ v, e = .returned v ∧ Below w.heap.size w w' ∧ BS w' v (pixL W H C m x y [c0, c1, c2, c3] zs) := by
  have hl := pixL_len (x := x) (y := y) (cl := [c0, c1, c2, c3]) h rfl
  have hby := pixL_byte (W := W) (H := H) (C := C) (m := m) (x := x) (y := y) hi.ib.all hcol
  have hC4 : C ≤ 4 := by have := (ibC_zero h).2.2.1; omega
  have CR := Lib.hid (fun j w hi hj => r8at W H C m c0 c1 c2 c3 x y j s zs w hi hm hx hy h hj)
  generalize pixL W H C m x y [c0, c1, c2, c3] zs = L at *
  obtain rfl : C = (L.length : Int) := hl.symm
  have hi := Lib.hid hi
  have HB := Lib.hid hby
  obtain ⟨i0, hi0, hz0, hz1, hz2⟩ := info_parts info_u8s
  clear hm hx hy h hcol hl hby
  go_enter Try.func76, Try.ntmps76
  go_wp2_with fail
  have BB := start2 w #[.int .i64 W, .int .i64 H, .int .i64 L.length, s] IT #[.int .i64 m, .int .u8 c0, .int .u8 c1, .int .u8 c2, .int .u8 c3] RT
  obtain ⟨BB, hsz, r_i, r_b⟩ := BB
  generalize ((w.alloc (.cells #[.int .i64 W, .int .i64 H, .int .i64 L.length, s] IT)).alloc (.cells #[.int .i64 m, .int .u8 c0, .int .u8 c1, .int .u8 c2, .int .u8 c3] RT)) = w0 at *
  replace BB := Lib.hid BB
  replace r_i := Lib.hid r_i
  replace r_b := Lib.hid r_b
  clear hsz
  have h_m := Lib.hid (hi.out.below BB.out)
  go_loopw [9, 10] (fun v i wr => ∃ (j : Nat) (os : List Int), j ≤ L.length ∧ i = .int .i64 j ∧ Hid (os = L.take j ∧ wr.ownsRow (w.heap.size + 2) 5 1 v os.length (os.map (Value.int .u8)) ∧ AtB wr w.heap.size #[.int .i64 W, .int .i64 H, .int .i64 L.length, s] IT ∧ AtB wr (w.heap.size + 1) #[.int .i64 m, .int .u8 c0, .int .u8 c1, .int .u8 c2, .int .u8 c3] RT ∧ IMG wr s W H L.length zs ∧ Below w.heap.size w wr)) (fun _ i _ => L.length - (intOf i).toNat)
  case atStart => exact ⟨0, [], by omega, rfl, ⟨rfl, World.ownsRow_nil _ _ _ _, r_i.out, r_b.out, h_m.out, BB.out⟩⟩
  case round =>
    clear r_i r_b h_m BB
    obtain ⟨j, os, hj, rfl, hinv⟩ := hrel
    obtain ⟨hos, HO, r_i, r_b, h_m, BB⟩ := hinv.out
    replace hos := Lib.hid hos
    replace HO := Lib.hid HO; replace r_i := Lib.hid r_i; replace r_b := Lib.hid r_b; replace h_m := Lib.hid h_m; replace BB := Lib.hid BB
    clear hinv
    by_cases hlt : j < L.length
    · have j1 : (j : Int) < (L.length : Int) := by omega
      have HT : Hid (os ++ [L.getD j 0] = L.take (j + 1)) := by
        show _ = _
        rw [List.take_add_one, hos.out]; simp [List.getD, hlt]
      have hlen : os.length ≤ 4 := by rw [hos.out, List.length_take]; omega
      have CJ := Lib.hid (fun w9 h => CR.out j w9 h j1)
      generalize L.getD j 0 = z at *
      obtain ⟨c_i0, c_i1, c_i2, c_i3, f_i0, f_i1, f_i2, f_i3⟩ := reads4 r_i.out
      have l_i := r_i.out.lt
      obtain ⟨c_b0, c_b1, c_b2, c_b3, c_b4, f_b0, f_b1, f_b2, f_b3, f_b4⟩ := reads5 r_b.out
      have l_b := r_b.out.lt
      go_wp2_with fail
      refine (CJ.out _ h_m.out).mono ?_
      rintro e w1 ⟨rfl, hb⟩
      clear c_i0 c_i1 c_i2 c_i3 f_i0 f_i1 f_i2 f_i3 l_i c_b0 c_b1 c_b2 c_b3 c_b4 f_b0 f_b1 f_b2 f_b3 f_b4 l_b
      replace r_i := Lib.hid (r_i.out.keep hb)
      replace r_b := Lib.hid (r_b.out.keep hb)
      replace h_m := Lib.hid (IMG.below h_m.out hb)
      replace HO := Lib.hid (own_keep HO.out hb)
      replace BB := Lib.hid (below_next BB.out hb)
      clear hb
      have hns : w.heap.size + 2 ≤ w1.heap.size := r_b.out.lt
      go_wp2_with (first | (at_builtin; refine wpList_append_own _ rfl (.tmp 17) (.tmp 24) 33 rfl (w.heap.size + 2) 5 i0 (.int .u8 0) 1 1 Try.underlying33 hi0 hz0 hz1 hz2 rfl (by decide) _ _ _ rfl (HO.out.alloc _) ⟨w1.heap.size, 0, none⟩ 1 1 [.int .u8 z] rfl rfl (one_new _ _ _) (one_cell _ _) (by unfold maxLen; omega) (by omega) (by simp; omega) ?_))
      intro v' w8 hown' hgrow _
      have HB1 := Lib.hid (below_app BB.out (own_mono HO.out (by omega)) hgrow)
      have HO1 := Lib.hid (own_one_u8 hown')
      have hrow := fun k hk => own_block_ge HO.out k hk
      have r_i' := Lib.hid (at_app r_i.out hgrow (fun e => by have := hrow _ e.symm; omega))
      have r_b' := Lib.hid (at_app r_b.out hgrow (fun e => by have := hrow _ e.symm; omega))
      have h_m' := Lib.hid (hi.out.below HB1.out)
      clear hown' hgrow hrow
      go_wp2_with fail
      go_roundw
      case rel => exact ⟨j + 1, os ++ [z], by omega, by go_num, ⟨HT.out, HO1.out, r_i'.out, r_b'.out, h_m'.out, HB1.out⟩⟩
      case measure => simp [intOf]; omega
    · obtain rfl : j = L.length := by omega
      obtain ⟨c_i0, c_i1, c_i2, c_i3, f_i0, f_i1, f_i2, f_i3⟩ := reads4 r_i.out
      have l_i := r_i.out.lt
      go_wp2_with fail
      go_ret
      refine ⟨_, rfl, BB.out, ?_⟩
      have h := HO.out
      rw [show os = L by rw [hos.out]; exact List.take_of_length_le (Nat.le_refl _)] at h
      exact BS.of_own h HB.out

/-- Bytes with noughts behind them, as many as are asked for. -/
def padL (zs : List Int) (c : Nat) : List Int := zs.take c ++ List.replicate (c - zs.length) 0
theorem padL_len (zs : List Int) (c : Nat) : (padL zs c).length = c := by unfold padL; rw [List.length_append, List.length_take, List.length_replicate]; omega
theorem padL_all {zs : List Int} {c : Nat} (h : zs.length = c) : padL zs c = zs := by unfold padL; subst h; simp
theorem copy_pad (w0 w : World) (g c : Nat) (s : Value) (zs : List Int) (hs : BS w s zs) (hg : AtB w g (Array.replicate c (.int .u8 0)) 5) (hgo : w0.heap.size ≤ g) (hb : Below w0.heap.size w0 w) :
    ∃ k w', (Builtin.copy_ #[33, 33] 3 #[.slice (some ⟨g, 0, none⟩) c c, s]).run Try.prog w = .ok (goInt k) w' ∧ BRow w' g (padL zs c) ∧ Below w0.heap.size w0 w' := by
  by_cases h0 : min zs.length c = 0
  · obtain ⟨A, cap, rfl⟩ := hs.form
    refine ⟨0, w, run_copy_none (P := Try.prog) w 33 33 3 5 _ _ c c zs.length cap Try.underlying33 size_u8s (by simpa [Nat.min_def] using h0), ?_, hb⟩
    have e : padL zs c = List.replicate c 0 := by
      unfold padL
      by_cases h1 : c = 0
      · subst h1; simp
      · have : zs = [] := List.eq_nil_of_length_eq_zero (by omega)
        subst this; simp
    unfold BRow
    rw [e, List.map_replicate, List.toArray_replicate]
    exact hg
  · obtain ⟨b, off, cap, rfl, h1, h2, h3, h4⟩ := hs.some (fun e => h0 (by rw [e]; simp))
    have h := run_copy_row (P := Try.prog) w 33 33 3 5 g 0 c c ⟨b, off, none⟩ zs.length cap (Array.replicate c (.int .u8 0)) 5 ((zs.take c).map (Value.int .u8)) Try.underlying33 size_u8s hg (by simp [Nat.min_def]; split <;> split <;> omega)
      (by have := pix_cells (w := w) (b := b) (o := off) (k := 0) (c := c) h4; simpa using this) (by simp; omega) one_u8
    refine ⟨_, _, h, ?_, below_setRow hb hgo _⟩
    have e : (Array.replicate c (Value.int .u8 0)).toList.take 0 ++ (zs.take c).map (Value.int .u8) ++ (Array.replicate c (Value.int .u8 0)).toList.drop (0 + ((zs.take c).map (Value.int .u8)).length) = (padL zs c).map (Value.int .u8) := by
      unfold padL
      rw [List.take_zero, List.nil_append, Nat.zero_add, List.length_map, List.length_take, Array.toList_replicate, List.drop_replicate, List.map_append, List.map_replicate, show c - min c zs.length = c - zs.length by omega]
    rw [e]
    exact setRow_heap w g _ _ _ _ hg

end Go.Proofs.Ytnklbnphiokpiaa
