/- Contract of mesh.Plain. -/
import Derived.Test.YthoakbjnofhpbaaMeN
set_option linter.unusedVariables false
set_option linter.unusedSimpArgs false
namespace Go.Proofs.Ythoakbjnofhpbaa
open Go.RowKit
theorem info_l64 : (Try.prog.info? 2).map (fun i => (i.zero, i.size, i.bytes)) = some (some (.int .i64 0), 1, 8) := by kernel_rfl
/-- The numbers of k rows of knots, and of i knots of the next one, of a mesh that changes nothing. -/
def plRow (gx gy : Int) (k : Nat) (i : Nat) : List Int := (List.range i).flatMap (fun (i : Nat) => [65536 * gx * (i : Int), 65536 * gy * (k : Int)])
def plRows (gx gy : Int) (m : Nat) (k : Nat) : List Int := (List.range k).flatMap (fun (k : Nat) => plRow gx gy k m)
def plL (gx gy nx ny : Int) : List Int := [gx, gy, nx, ny] ++ plRows gx gy (nx + 1).toNat (ny + 1).toNat
theorem plRow_succ (gx gy : Int) (k i : Nat) : plRow gx gy k (i + 1) = plRow gx gy k i ++ [65536 * gx * (i : Int), 65536 * gy * (k : Int)] := by
  unfold plRow; rw [List.range_succ, List.flatMap_append]; simp
theorem plRows_succ (gx gy : Int) (m k : Nat) : plRows gx gy m (k + 1) = plRows gx gy m k ++ plRow gx gy k m := by
  unfold plRows; rw [List.range_succ, List.flatMap_append]; simp
theorem plRow_len (gx gy : Int) (k : Nat) : ∀ i, (plRow gx gy k i).length = i * 2
  | 0 => rfl
  | i + 1 => by rw [plRow_succ, List.length_append, plRow_len gx gy k i]; simp; omega
theorem plRows_len (gx gy : Int) (m : Nat) : ∀ k, (plRows gx gy m k).length = k * (m * 2)
  | 0 => by simp [plRows]
  | k + 1 => by rw [plRows_succ, List.length_append, plRows_len gx gy m k, plRow_len, Nat.add_mul, Nat.one_mul]
def icells (zs : List Int) : List Value := zs.map (fun z => .int .i64 z)
/-- A row of one's own that holds numbers. -/
def OI (w : World) (base : Nat) (v : Value) (zs : List Int) : Prop := w.ownsRow base 2 1 v zs.length (icells zs)
theorem OI.below {w w1 : World} {base : Nat} {v : Value} {zs : List Int} (h : OI w base v zs) (hb : Below w.heap.size w w1) : OI w1 base v zs := own_keep2 h hb
theorem OI.is {w : World} {base : Nat} {v : Value} {zs : List Int} (h : OI w base v zs) (hz : ∀ z ∈ zs, I64 z) (hl : zs.length ≤ 1000000) : IS w v zs := by
  rcases h.2 with ⟨rfl, h0⟩ | ⟨g, cap, cur, rfl, -, hh, hc, hm, -, ht⟩
  · rw [List.length_eq_zero_iff] at h0
    subst h0
    exact ⟨none, 0, rfl, by simp, by omega, hz, fun k => absurd rfl k⟩
  · have hcap : (cap : Int) ≤ 9223372036854775807 := by unfold maxLen at hm; omega
    refine ⟨_, cap, rfl, hc, hcap, hz, fun _ => ⟨g, 0, rfl, heap_lt hh, fun i hi => ?_⟩⟩
    have hA : AtB w g cur 2 := hh
    refine hA.cell _ ?_
    have k : (icells zs)[i]? = some (.int .i64 (zs.getD i 0)) := by unfold icells; simp [List.getD, hi]
    rw [← ht, List.getElem?_take_of_lt (by omega)] at k
    simpa using k
theorem four_row {w : World} {g base : Nat} {a b c d : Int} (h : AtB w g #[.int .i64 a, .int .i64 b, .int .i64 c, .int .i64 d] 2) (hb : base ≤ g) : OI w base (.slice (some ⟨g, 0, none⟩) 4 4) [a, b, c, d] :=
  ⟨rfl, .inr ⟨g, 4, _, rfl, hb, h, by simp, by unfold maxLen; omega, rfl, rfl⟩⟩
theorem own_le {w : World} {base : Nat} {v : Value} {zs : List Int} (h : OI w base v zs) (h0 : zs ≠ []) : base ≤ w.heap.size := by
  rcases h.2 with ⟨-, e⟩ | ⟨g, cap, cur, -, hb, hh, -⟩
  · rw [List.length_eq_zero_iff] at e; exact absurd e h0
  · have := heap_lt hh; omega
theorem OI.app {w : World} {base : Nat} {v : Value} {zs : List Int} {a b : Int} (h : w.ownsRow base 2 1 v (zs.length + 2) (icells zs ++ [.int .i64 a, .int .i64 b])) : OI w base v (zs ++ [a, b]) := by
  unfold OI icells at *
  rw [List.map_append, List.length_append]
  exact h
theorem plL_in {gx gy nx ny : Int} {m l : Nat} (h : (1 ≤ gx ∧ gx ≤ 1024) ∧ (1 ≤ gy ∧ gy ≤ 1024) ∧ (1 ≤ nx ∧ nx ≤ 64) ∧ (1 ≤ ny ∧ ny ≤ 64)) (hm : m ≤ 65 ∧ l ≤ 65 ∧ (m : Int) = nx + 1 ∧ (l : Int) = ny + 1) : ∀ z ∈ [gx, gy, nx, ny] ++ plRows gx gy m l, I64 z := by
  intro z hz
  rw [List.mem_append] at hz
  rcases hz with hz | hz
  · simp only [List.mem_cons, List.not_mem_nil, or_false] at hz
    rcases hz with rfl | rfl | rfl | rfl <;> exact ⟨by omega, by omega⟩
  · unfold plRows plRow at hz
    simp only [List.mem_flatMap, List.mem_range, List.mem_cons, List.not_mem_nil, or_false] at hz
    obtain ⟨k, hk, i, hi, rfl | rfl⟩ := hz
    · have q1 : 65536 * gx * (i : Int) ≤ 67108864 * 65 := Int.mul_le_mul (by omega) (by omega) (by omega) (by omega)
      have q3 : 0 ≤ 65536 * gx * (i : Int) := Int.mul_nonneg (by omega) (by omega)
      exact ⟨by omega, by omega⟩
    · have q2 : 65536 * gy * (k : Int) ≤ 67108864 * 65 := Int.mul_le_mul (by omega) (by omega) (by omega) (by omega)
      have q4 : 0 ≤ 65536 * gy * (k : Int) := Int.mul_nonneg (by omega) (by omega)
      exact ⟨by omega, by omega⟩
set_option maxRecDepth 100000 in
set_option maxHeartbeats 8000000 in
theorem mplain_no (gx gy nx ny : Int) (hf : fitsM gx gy nx ny = false) (w : World) : Calls Try.prog 15 #[.int .i64 gx, .int .i64 gy, .int .i64 nx, .int .i64 ny] w fun e w' => e = .returned (.slice none 0 0) ∧ Below w.heap.size w w' := by
  have CF := Lib.hid (fun w => mfits gx nx gy ny w)
  rw [hf] at CF
  clear hf
  go_enter Try.func15, Try.ntmps15
  go_upto_region 2 with fail
  have BB := start2 w #[.int .i64 gx, .int .i64 nx] AXT #[.int .i64 gy, .int .i64 ny] AXT
  obtain ⟨BB, hsz, r_x, r_y⟩ := BB
  generalize ((w.alloc (.cells #[.int .i64 gx, .int .i64 nx] AXT)).alloc (.cells #[.int .i64 gy, .int .i64 ny] AXT)) = w0 at *
  replace BB := Lib.hid BB
  replace r_x := Lib.hid r_x
  replace r_y := Lib.hid r_y
  clear hsz
  obtain ⟨c_x0, c_x1, f_x0, f_x1⟩ := reads2 r_x.out
  have l_x := r_x.out.lt
  obtain ⟨c_y0, c_y1, f_y0, f_y1⟩ := reads2 r_y.out
  have l_y := r_y.out.lt
  go_wp2_with fail
  refine (CF.out _).mono ?_
  rintro e w1 ⟨rfl, hb⟩
  clear c_x0 c_x1 f_x0 f_x1 l_x c_y0 c_y1 f_y0 f_y1 l_y
  replace r_x := Lib.hid (r_x.out.keep hb)
  replace r_y := Lib.hid (r_y.out.keep hb)
  replace BB := Lib.hid (below_next BB.out hb)
  clear hb
  go_wp2_with fail
  go_ret
  exact ⟨rfl, BB.out⟩
set_option maxRecDepth 100000 in
set_option maxHeartbeats 8000000 in
theorem mplain_ok (gx gy nx ny : Int) (hf : fitsM gx gy nx ny = true) (w : World) : Calls Try.prog 15 #[.int .i64 gx, .int .i64 gy, .int .i64 nx, .int .i64 ny] w fun e w' => ∃ r, e = .returned r ∧ Below w.heap.size w w' ∧ IS w' r (plL gx gy nx ny) := by
  obtain ⟨i0, hi0, hz0, hz1, hz2⟩ := info_parts info_l64
  obtain ⟨g1, g2, g3, g4⟩ := fitsM_iff.1 hf
  have CF := Lib.hid (fun w => mfits gx nx gy ny w)
  rw [hf] at CF
  obtain ⟨m, hm⟩ : ∃ m, m = (nx + 1).toNat := ⟨_, rfl⟩
  obtain ⟨l, hl⟩ : ∃ m, m = (ny + 1).toNat := ⟨_, rfl⟩
  have hG := Lib.hid (And.intro g1 (And.intro g2 (And.intro g3 g4)))
  have e1 : IntKind.i64.wrap (nx + 1) = (m : Int) := by rw [show nx + 1 = (m : Int) by omega]; exact iw ⟨by omega, by omega⟩
  have e2 : IntKind.i64.wrap (ny + 1) = (l : Int) := by rw [show ny + 1 = (l : Int) by omega]; exact iw ⟨by omega, by omega⟩
  have hml := Lib.hid (show m ≤ 65 ∧ l ≤ 65 ∧ (m : Int) = nx + 1 ∧ (l : Int) = ny + 1 by omega)
  obtain ⟨a, ha⟩ : ∃ v, v = 65536 * gx := ⟨_, rfl⟩
  obtain ⟨b, hb⟩ : ∃ v, v = 65536 * gy := ⟨_, rfl⟩
  have e3 : IntKind.i64.wrap (65536 * gx) = a := by rw [ha]; exact iw ⟨by omega, by omega⟩
  have e4 : IntKind.i64.wrap (65536 * gy) = b := by rw [hb]; exact iw ⟨by omega, by omega⟩
  have HW : Hid (∀ k : Nat, k ≤ 65 → IntKind.i64.wrap (a * (k : Int)) = 65536 * gx * (k : Int) ∧ IntKind.i64.wrap (b * (k : Int)) = 65536 * gy * (k : Int)) := fun k hk => by
    rw [ha, hb]
    have q1 : 65536 * gx * (k : Int) ≤ 67108864 * 65 := Int.mul_le_mul (by omega) (by omega) (by omega) (by omega)
    have q2 : 65536 * gy * (k : Int) ≤ 67108864 * 65 := Int.mul_le_mul (by omega) (by omega) (by omega) (by omega)
    have q3 : 0 ≤ 65536 * gx * (k : Int) := Int.mul_nonneg (by omega) (by omega)
    have q4 : 0 ≤ 65536 * gy * (k : Int) := Int.mul_nonneg (by omega) (by omega)
    exact ⟨iw ⟨by omega, by omega⟩, iw ⟨by omega, by omega⟩⟩
  unfold plL
  rw [← hm, ← hl]
  clear hf ha hb hm hl g1 g2 g3 g4
  go_enter Try.func15, Try.ntmps15
  go_upto_region 2 with fail
  have BB := start2 w #[.int .i64 gx, .int .i64 nx] AXT #[.int .i64 gy, .int .i64 ny] AXT
  obtain ⟨BB, hsz, r_x, r_y⟩ := BB
  generalize ((w.alloc (.cells #[.int .i64 gx, .int .i64 nx] AXT)).alloc (.cells #[.int .i64 gy, .int .i64 ny] AXT)) = w0 at *
  replace BB := Lib.hid BB
  replace r_x := Lib.hid r_x
  replace r_y := Lib.hid r_y
  clear hsz
  obtain ⟨c_x0, c_x1, f_x0, f_x1⟩ := reads2 r_x.out
  have l_x := r_x.out.lt
  obtain ⟨c_y0, c_y1, f_y0, f_y1⟩ := reads2 r_y.out
  have l_y := r_y.out.lt
  go_wp2_with fail
  refine (CF.out _).mono ?_
  rintro e w1 ⟨rfl, hb⟩
  clear c_x0 c_x1 f_x0 f_x1 l_x c_y0 c_y1 f_y0 f_y1 l_y
  replace r_x := Lib.hid (r_x.out.keep hb)
  replace r_y := Lib.hid (r_y.out.keep hb)
  replace BB := Lib.hid (below_next BB.out hb)
  clear hb
  obtain ⟨c_x0, c_x1, f_x0, f_x1⟩ := reads2 r_x.out
  have l_x := r_x.out.lt
  obtain ⟨c_y0, c_y1, f_y0, f_y1⟩ := reads2 r_y.out
  have l_y := r_y.out.lt
  go_upto_region 5 with fail
  clear c_x0 c_x1 f_x0 f_x1 l_x c_y0 c_y1 f_y0 f_y1 l_y
  have d_c := Lib.hid (And.intro BB.out.size (And.intro r_x.out.lt (And.intro r_y.out.lt (True.intro))))
  obtain ⟨hb, r_c⟩ := laid w1 #[.int .i64 gx, .int .i64 gy, .int .i64 nx, .int .i64 ny] 2
  replace r_x := Lib.hid (r_x.out.keep hb)
  replace r_y := Lib.hid (r_y.out.keep hb)
  replace BB := Lib.hid (below_next BB.out hb)
  replace r_c := Lib.hid r_c
  clear hb
  generalize w1.alloc (.cells #[.int .i64 gx, .int .i64 gy, .int .i64 nx, .int .i64 ny] 2) = w2 at *
  generalize w1.heap.size = g_c at *
  have h_o := Lib.hid (four_row (base := g_c) r_c.out (Nat.le_refl _))
  have hgc := Lib.hid (show w.heap.size + 1 < g_c by have := d_c.out; omega)
  clear r_c
  obtain ⟨c_x0, c_x1, f_x0, f_x1⟩ := reads2 r_x.out
  have l_x := r_x.out.lt
  obtain ⟨c_y0, c_y1, f_y0, f_y1⟩ := reads2 r_y.out
  have l_y := r_y.out.lt
  go_wp2_with fail
  clear c_x0 c_x1 f_x0 f_x1 l_x c_y0 c_y1 f_y0 f_y1 l_y
  go_loopw [11, 12, 13, 36] (fun v _ _ c wr => ∃ k : Nat, k ≤ l ∧ c = .int .i64 (k : Int) ∧ Hid (OI wr g_c v ([gx, gy, nx, ny] ++ plRows gx gy m k) ∧ AtB wr w.heap.size #[.int .i64 gx, .int .i64 nx] AXT ∧ AtB wr (w.heap.size + 1) #[.int .i64 gy, .int .i64 ny] AXT ∧ g_c ≤ wr.heap.size ∧ Below w.heap.size w wr)) (fun _ _ _ c _ => l - (intOf c).toNat)
  case atStart => exact ⟨0, by omega, rfl, ⟨h_o.out, r_x.out, r_y.out, by have := h_o.out; exact own_le this (by simp), BB.out⟩⟩
  case round =>
    clear BB h_o r_x r_y
    obtain ⟨k, hk, rfl, hinv⟩ := hrel
    obtain ⟨h_o, r_x, r_y, hsz, BB⟩ := hinv.out
    replace h_o := Lib.hid h_o; replace r_x := Lib.hid r_x; replace r_y := Lib.hid r_y; replace BB := Lib.hid BB; replace hsz := Lib.hid hsz
    clear hinv
    by_cases hlt : k < l
    · have k0 : (k : Int) < (l : Int) := by omega
      have hm6 := hml.out.1
      have hl6 := hml.out.2.1
      obtain ⟨c_x0, c_x1, f_x0, f_x1⟩ := reads2 r_x.out
      have l_x := r_x.out.lt
      obtain ⟨c_y0, c_y1, f_y0, f_y1⟩ := reads2 r_y.out
      have l_y := r_y.out.lt
      go_wp2_with fail
      clear c_x0 c_x1 f_x0 f_x1 l_x c_y0 c_y1 f_y0 f_y1 l_y
      go_loopw [11, 13, 42] (fun v _ c wr => ∃ i : Nat, i ≤ m ∧ c = .int .i64 (i : Int) ∧ Hid (OI wr g_c v (([gx, gy, nx, ny] ++ plRows gx gy m k) ++ plRow gx gy k i) ∧ AtB wr w.heap.size #[.int .i64 gx, .int .i64 nx] AXT ∧ AtB wr (w.heap.size + 1) #[.int .i64 gy, .int .i64 ny] AXT ∧ g_c ≤ wr.heap.size ∧ Below w.heap.size w wr)) (fun _ _ c _ => m - (intOf c).toNat)
      case atStart => exact ⟨0, by omega, rfl, ⟨by simpa [plRow] using h_o.out, r_x.out, r_y.out, hsz.out, BB.out⟩⟩
      case round =>
        clear BB h_o r_x r_y hsz
        obtain ⟨i, hi, rfl, hinv⟩ := hrel
        obtain ⟨h_o, r_x, r_y, hsz, BB⟩ := hinv.out
        replace h_o := Lib.hid h_o; replace r_x := Lib.hid r_x; replace r_y := Lib.hid r_y; replace BB := Lib.hid BB; replace hsz := Lib.hid hsz
        clear hinv
        by_cases hlt2 : i < m
        · have i1 : (i : Int) < (m : Int) := by omega
          have hw1 := (HW.out i (by have := hml.out; omega)).1
          have hw2 := (HW.out k (by have := hml.out; omega)).2
          have hlen : Hid ((([gx, gy, nx, ny] ++ plRows gx gy m k) ++ plRow gx gy k i).length ≤ 100000) := by
            show _ ≤ _
            rw [List.length_append, List.length_append, plRows_len, plRow_len]
            have q := hml.out
            have q1 : k * (m * 2) ≤ 65 * (65 * 2) := Nat.mul_le_mul (by omega) (by omega)
            simp
            omega
          have hstep : Hid ((([gx, gy, nx, ny] ++ plRows gx gy m k) ++ plRow gx gy k (i + 1)) = (([gx, gy, nx, ny] ++ plRows gx gy m k) ++ plRow gx gy k i) ++ [65536 * gx * (i : Int), 65536 * gy * (k : Int)]) := by
            show _ = _
            rw [plRow_succ]; simp only [List.append_assoc]
          generalize 65536 * gx * (i : Int) = z0 at *
          generalize 65536 * gy * (k : Int) = z1 at *
          generalize ([gx, gy, nx, ny] ++ plRows gx gy m k) ++ plRow gx gy k i = zs at *
          have ho' := (show World.ownsRow _ _ _ _ _ _ _ from h_o.out)
          have hlen' := hlen.out
          have hsz' := hsz.out
          obtain ⟨c_x0, c_x1, f_x0, f_x1⟩ := reads2 r_x.out
          have l_x := r_x.out.lt
          obtain ⟨c_y0, c_y1, f_y0, f_y1⟩ := reads2 r_y.out
          have l_y := r_y.out.lt
          go_wp2_with (first | (at_builtin; refine wpList_append_own _ rfl (.tmp 45) (.tmp 56) 25 rfl g_c 2 i0 (.int .i64 0) 1 8 Try.underlying25 hi0 hz0 hz1 hz2 rfl (by decide) _ _ _ rfl (ho'.alloc _) ⟨wr.heap.size, 0, none⟩ 2 2 [.int .i64 z0, .int .i64 z1] rfl rfl (two_new _ _ _ _) (two_ints _ _) (by unfold maxLen; omega) (by omega) (by simp; omega) ?_))
          intro v' w8 hown' hgrow _
          have HB1 := Lib.hid (below_app' BB.out (by have := hgc.out; omega) BB.out.size ho' hgrow)
          have HX := Lib.hid (r_x.out.app (by have := hgc.out; omega) ho' hgrow)
          have HY := Lib.hid (r_y.out.app hgc.out ho' hgrow)
          have HO1 := Lib.hid (OI.app hown')
          have HZ1 := Lib.hid (show g_c ≤ w8.heap.size from by have := hgrow.size; simp at this; omega)
          clear hown' hgrow ho' c_x0 c_x1 f_x0 f_x1 l_x c_y0 c_y1 f_y0 f_y1 l_y
          go_wp2_with fail
          go_roundw
          case rel => exact ⟨i + 1, by omega, by go_num, ⟨by rw [hstep.out]; exact HO1.out, HX.out, HY.out, HZ1.out, HB1.out⟩⟩
          case measure => simp [intOf]; omega
        · obtain rfl : i = m := by omega
          rw [List.append_assoc, ← plRows_succ] at h_o
          go_wp2_with fail
          go_roundw
          case rel => exact ⟨k + 1, by omega, by go_num, ⟨h_o.out, r_x.out, r_y.out, hsz.out, BB.out⟩⟩
          case measure => simp [intOf]; omega
    · obtain rfl : k = l := by omega
      go_wp2_with fail
      go_ret
      refine ⟨_, rfl, BB.out, h_o.out.is (plL_in hG.out hml.out) ?_⟩
      rw [List.length_append, plRows_len]
      have q := hml.out
      have q1 : k * (m * 2) ≤ 65 * (65 * 2) := Nat.mul_le_mul (by omega) (by omega)
      simp
      omega
end Go.Proofs.Ythoakbjnofhpbaa
