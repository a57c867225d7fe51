/- Contract of ref05.Adj. -/
import Derived.Test.YthoakbjnofhpbaaMr1
import Derived.Test.YthoakbjnofhpbaaMtD
set_option linter.unusedVariables false
set_option linter.unusedSimpArgs false
namespace Go.Proofs.Ythoakbjnofhpbaa
open Go.RowKit
theorem BLp.lt {w : World} {base : Nat} {v : Value} {L : List (Int × Value)} (h : BLp w base v L) (k : Nat) (e : v.ownBlock = some k) : k < w.heap.size := by
  rcases h.1.2 with ⟨rfl, -⟩ | ⟨g, cap, cur, rfl, -, hh, -⟩
  · simp [Value.ownBlock] at e
  · simp only [Value.ownBlock, Option.some.injEq] at e
    subst e; exact (Array.getElem?_eq_some_iff.1 hh).1
/-- A store into a box that isn't the row's own block. -/
theorem BLp.far {w : World} {base : Nat} {v : Value} {L : List (Int × Value)} {p : Nat} {cs : Array Value} {T : TypeId} (h : BLp w base v L) (hp : AtB w p cs T) (ht : T ≠ 3) (hn : v.ownBlock ≠ some p) (o : Nat) (u : Value) : BLp (w.setCell ⟨p, o, none⟩ u) base v L := by
  refine ⟨⟨h.1.1, ?_⟩, fun q hq => (h.2 q hq).far hp ht o u⟩
  rcases h.1.2 with h0 | ⟨g, cap, cur, rfl, hg, hh, hr⟩
  · exact .inl h0
  · have hne : g ≠ p := by rintro rfl; exact hn rfl
    have hk : AtB (w.setCell ⟨p, o, none⟩ u) g cur BT := AtB.far (show AtB w g cur BT from hh) hne o u
    exact .inr ⟨g, cap, cur, rfl, hg, hk, hr⟩
theorem BLp.far2 {w : World} {base : Nat} {v : Value} {L : List (Int × Value)} {p : Nat} {a b : Value} {T : TypeId} (h : BLp w base v L) (hp : AtB w p #[a, b] T) (ht : T ≠ 3) (hn : v.ownBlock ≠ some p) (u u' : Value) : BLp ((w.setCell ⟨p, 0, none⟩ u).setCell ⟨p, 1, none⟩ u') base v L :=
  (h.far hp ht hn 0 u).far (cs := #[a, b].setIfInBounds 0 u) (T := T) (AtB.set_n hp 0 u) ht hn 1 u'
def adjF (zs : List Int) (n : Nat) : Int := if (n / 3 + n % 3) % 2 = 1 then -(minI zs (n % 3) (n / 3)) else minI zs (n % 3) (n / 3)
def adjI (zs : List Int) : List Int := (List.range 9).map (adjF zs)
def GiveBL (zs : List Int) (w : World) (e : Ending) (w' : World) : Prop := ∃ r, e = .returned r ∧ Below w.heap.size w w' ∧ BL w' w.heap.size r zs
theorem adjF_at (zs : List Int) {i k : Nat} (hk : k < 3) : adjF zs (3 * i + k) = if (i + k) % 2 = 1 then -(minI zs k i) else minI zs k i := by
  unfold adjF
  rw [show (3 * i + k) / 3 = i by omega, show (3 * i + k) % 3 = k by omega]
set_option maxRecDepth 100000 in
set_option maxHeartbeats 8000000 in
theorem r5adj (v : Value) (zs : List Int) (base : Nat) (w : World) (hv : BL w base v zs) (hl : zs.length = 9) (hz : ∀ z ∈ zs, Wd 200 z) : Calls Try.prog 40 #[v] w (GiveBL (adjI zs) w) := by
  obtain ⟨i0, hi0, hz0, hz1, hz2⟩ := info_parts info_big
  have CM := Lib.hid (fun (i k : Nat) (hi : i < 3) (hk : k < 3) w9 (hb : Below w.heap.size w w9) => r5minor v zs base w9 (hv.below hb) hl hz k i hk hi)
  have CN := Lib.hid (fun (z : Int) (v : Value) w (hu : BR w v z) => neg_any v z w hu)
  have HF := Lib.hid (fun (i k : Nat) (hk : k < 3) => adjF_at zs (i := i) hk)
  unfold adjI
  generalize adjF zs = F at *
  generalize minI zs = M at *
  clear hv hl hz
  go_enter Try.func40, Try.ntmps40
  go_wp2_with fail
  have BB : Hid (Below w.heap.size w w) := Below.refl _ _
  go_loopw [3, 4] (fun v i wr => ∃ (L : List (Int × Value)) (k : Nat), k ≤ 3 ∧ i = .int .i64 k ∧ Hid (L.map Prod.fst = (List.range (3 * k)).map F ∧ BLp wr w.heap.size v L ∧ Below w.heap.size w wr)) (fun _ i _ => 3 - (intOf i).toNat)
  case atStart => exact ⟨[], 0, by omega, rfl, ⟨rfl, ⟨World.ownsRow_nil _ _ _ _, fun p hp => by cases hp⟩, BB.out⟩⟩
  case round =>
    clear BB
    obtain ⟨L, i, hi, rfl, hinv⟩ := hrel
    obtain ⟨hm, HO, BB⟩ := hinv.out
    replace hm := Lib.hid hm; replace HO := Lib.hid HO; replace BB := Lib.hid BB
    clear hinv
    by_cases hlt : i < 3
    · have i0' : (0 : Int) ≤ (i : Int) := by omega
      have i1' : (i : Int) < 3 := by omega
      go_wp2_with fail
      go_loopw [3, 5] (fun v j wr => ∃ (L : List (Int × Value)) (k : Nat), k ≤ 3 ∧ j = .int .i64 k ∧ Hid (L.map Prod.fst = (List.range (3 * i + k)).map F ∧ BLp wr w.heap.size v L ∧ Below w.heap.size w wr)) (fun _ j _ => 3 - (intOf j).toNat)
      case atStart => exact ⟨L, 0, by omega, rfl, ⟨hm.out, HO.out, BB.out⟩⟩
      case round =>
        clear BB HO hm L
        obtain ⟨L, k, hk, rfl, hinv⟩ := hrel
        obtain ⟨hm, HO, BB⟩ := hinv.out
        replace hm := Lib.hid hm; replace HO := Lib.hid HO; replace BB := Lib.hid BB
        clear hinv
        by_cases hlk : k < 3
        · have k0' : (0 : Int) ≤ (k : Int) := by omega
          have k1' : (k : Int) < 3 := by omega
          have CJ := Lib.hid (CM.out i k hlt hlk)
          have HFJ := HF.out i k hlk
          have hll : L.length = 3 * i + k := by have := congrArg List.length hm.out; simpa using this
          have HT : Hid ((List.range (3 * i + k)).map F ++ [F (3 * i + k)] = (List.range (3 * i + (k + 1))).map F) := by
            show _ = _
            rw [← Nat.add_assoc, List.range_succ, List.map_append]; rfl
          generalize F (3 * i + k) = f at *
          replace HFJ := Lib.hid HFJ
          replace hll := Lib.hid hll
          clear CM HF
          by_cases hp : (i + k) % 2 = 1
          · have er : ((i : Int) + (k : Int)).tmod 2 = 1 := by rw [Int.tmod_eq_emod_of_nonneg (by omega)]; omega
            have HE : Hid (f = -(M k i)) := by show _ = _; rw [HFJ.out, if_pos hp]
            clear HFJ hp
            generalize M k i = m at *
            go_wp2_with fail
            refine (CJ.out _ BB.out).mono ?_
            rintro e w1 ⟨v_x, rfl, hb, h_x⟩
            obtain ⟨A_x, n_x, cap_x, rfl, -⟩ := id h_x.form
            replace h_x := Lib.hid h_x
            replace HO := Lib.hid (BLp.below HO.out hb)
            replace BB := Lib.hid (below_next BB.out hb)
            clear hb
            have hlo := Lib.hid (BLp.lt HO.out)
            go_upto_region 9 with fail
            have d_x := Lib.hid (And.intro BB.out.size (True.intro))
            obtain ⟨hb, r_x⟩ := laid w1 #[.bool (sgn m), .slice A_x n_x cap_x] BT
            replace h_x := Lib.hid (h_x.out.below hb)
            replace HO := Lib.hid (BLp.below HO.out hb)
            replace BB := Lib.hid (below_next BB.out hb)
            replace r_x := Lib.hid r_x
            clear hb
            generalize w1.alloc (.cells #[.bool (sgn m), .slice A_x n_x cap_x] BT) = w2 at *
            generalize w1.heap.size = g_x at *
            obtain ⟨c_x0, c_x1, f_x0, f_x1⟩ := reads2 r_x.out
            have l_x := r_x.out.lt
            go_wp2_with fail
            refine (CN.out _ _ _ h_x.out).mono ?_
            rintro e w3 ⟨v_y, rfl, hb, h_y⟩
            obtain ⟨A_y, n_y, cap_y, rfl, -⟩ := id h_y.form
            replace h_y := Lib.hid h_y
            clear c_x0 c_x1 f_x0 f_x1 l_x
            replace r_x := Lib.hid (r_x.out.keep hb)
            replace h_x := Lib.hid (h_x.out.below hb)
            replace HO := Lib.hid (BLp.below HO.out hb)
            replace BB := Lib.hid (below_next BB.out hb)
            clear hb
            replace HO := Lib.hid (HO.out.far2 r_x.out (by decide) (fun e => absurd (hlo.out _ e) (by omega)) (.bool (sgn (-m))) (.slice A_y n_y cap_y))
            replace h_y := Lib.hid (h_y.out.far2 r_x.out (by decide) (.bool (sgn (-m))) (.slice A_y n_y cap_y))
            clear h_x
            obtain ⟨c_x0, c_x1, f_x0, f_x1⟩ := reads2 r_x.out
            have l_x := r_x.out.lt
            go_upto_region 11 with fail
            clear c_x0 c_x1 f_x0 f_x1 l_x
            replace r_x := Lib.hid (r_x.out.set2 (.bool (sgn (-m))) (.slice A_y n_y cap_y))
            replace BB := Lib.hid (below_far2 BB.out (p := g_x) (by have dd := d_x.out; omega) (.bool (sgn (-m))) (.slice A_y n_y cap_y))
            generalize ((w3.setCell ⟨g_x, 0, none⟩ (.bool (sgn (-m)))).setCell ⟨g_x, 1, none⟩ (.slice A_y n_y cap_y)) = w4 at *
            obtain ⟨c_x0, c_x1, f_x0, f_x1⟩ := reads2 r_x.out
            have l_x := r_x.out.lt
            have hws : w.heap.size ≤ w4.heap.size := BB.out.size
            go_wp2_with (first | (at_builtin; refine wpList_append_own _ rfl (.tmp 26) (.tmp 28) LBT rfl w.heap.size BT i0 (.agg #[.bool false, .slice none 0 0]) 2 32 Try.underlying70 hi0 hz0 hz1 hz2 rfl (by decide) _ _ _ rfl (HO.out.1.alloc _) ⟨w4.heap.size, 0, none⟩ 1 1 [.bool (sgn (-m)), .slice A_y n_y cap_y] rfl rfl (two_new _ _ _ _) (two_cell _ _ _ _) (by have := hll.out; unfold maxLen; omega) (by have := hll.out; omega) (by simp; omega) ?_))
            intro v' w8 hown' hgrow _
            have HB1 := Lib.hid (below_app BB.out HO.out.1 hgrow)
            have HO1 := Lib.hid (HO.out.app h_y.out hown' hgrow)
            clear hown' hgrow
            have HM1 : Hid ((L ++ [((-m), Value.slice A_y n_y cap_y)]).map Prod.fst = (List.range (3 * i + (k + 1))).map F) := by
              show _ = _
              rw [List.map_append, hm.out, ← HT.out, HE.out]; rfl
            go_wp2_with fail
            go_roundw
            case rel => exact ⟨L ++ [((-m), .slice A_y n_y cap_y)], k + 1, by omega, by go_num, ⟨HM1.out, HO1.out, HB1.out⟩⟩
            case measure => simp [intOf]; omega
          · have er : ((i : Int) + (k : Int)).tmod 2 = 0 := by rw [Int.tmod_eq_emod_of_nonneg (by omega)]; omega
            have HE : Hid (f = M k i) := by show _ = _; rw [HFJ.out, if_neg hp]
            clear HFJ hp
            generalize M k i = m at *
            go_wp2_with fail
            refine (CJ.out _ BB.out).mono ?_
            rintro e w5 ⟨v_x, rfl, hb, h_x⟩
            obtain ⟨A_x, n_x, cap_x, rfl, -⟩ := id h_x.form
            replace h_x := Lib.hid h_x
            replace HO := Lib.hid (BLp.below HO.out hb)
            replace BB := Lib.hid (below_next BB.out hb)
            clear hb
            go_upto_region 9 with fail
            have d_x := Lib.hid (And.intro BB.out.size (True.intro))
            obtain ⟨hb, r_x⟩ := laid w5 #[.bool (sgn m), .slice A_x n_x cap_x] BT
            replace h_x := Lib.hid (h_x.out.below hb)
            replace HO := Lib.hid (BLp.below HO.out hb)
            replace BB := Lib.hid (below_next BB.out hb)
            replace r_x := Lib.hid r_x
            clear hb
            generalize w5.alloc (.cells #[.bool (sgn m), .slice A_x n_x cap_x] BT) = w6 at *
            generalize w5.heap.size = g_x at *
            obtain ⟨c_x0, c_x1, f_x0, f_x1⟩ := reads2 r_x.out
            have l_x := r_x.out.lt
            have hws : w.heap.size ≤ w6.heap.size := BB.out.size
            go_wp2_with (first | (at_builtin; refine wpList_append_own _ rfl (.tmp 26) (.tmp 28) LBT rfl w.heap.size BT i0 (.agg #[.bool false, .slice none 0 0]) 2 32 Try.underlying70 hi0 hz0 hz1 hz2 rfl (by decide) _ _ _ rfl (HO.out.1.alloc _) ⟨w6.heap.size, 0, none⟩ 1 1 [.bool (sgn m), .slice A_x n_x cap_x] rfl rfl (two_new _ _ _ _) (two_cell _ _ _ _) (by have := hll.out; unfold maxLen; omega) (by have := hll.out; omega) (by simp; omega) ?_))
            intro v' w8 hown' hgrow _
            have HB1 := Lib.hid (below_app BB.out HO.out.1 hgrow)
            have HO1 := Lib.hid (HO.out.app h_x.out hown' hgrow)
            clear hown' hgrow
            have HM1 : Hid ((L ++ [(m, Value.slice A_x n_x cap_x)]).map Prod.fst = (List.range (3 * i + (k + 1))).map F) := by
              show _ = _
              rw [List.map_append, hm.out, ← HT.out, HE.out]; rfl
            go_wp2_with fail
            go_roundw
            case rel => exact ⟨L ++ [(m, .slice A_x n_x cap_x)], k + 1, by omega, by go_num, ⟨HM1.out, HO1.out, HB1.out⟩⟩
            case measure => simp [intOf]; omega
        · obtain rfl : k = 3 := by omega
          go_wp2_with fail
          go_roundw
          case rel => exact ⟨L, i + 1, by omega, by go_num, ⟨hm.out, HO.out, BB.out⟩⟩
          case measure => simp [intOf]; omega
    · obtain rfl : i = 3 := by omega
      go_wp2_with fail
      go_ret
      exact ⟨_, rfl, BB.out, L, hm.out, HO.out⟩
end Go.Proofs.Ythoakbjnofhpbaa
