/- Walk of wide.Text: the decimal digits of a number of 128 bits. -/
import Derived.Test.YtalihekeipbafaaTxt
import Derived.Test.YtalihekeipbafaaWide2
import Derived.Test.YtalihekeipbafaaDiv64
import Derived.Test.YtalihekeipbafaaRev
import Derived.Test.YtalihekeipbafaaOwn
import Derived.Laws.IdiomStrings
set_option linter.unusedVariables false
namespace Go.Proofs.Ytalihekeipbafaa
open Go.RowKit

theorem info_u8 : (Try.prog.info? 5).map (fun i => (i.zero, i.size, i.bytes)) = some (some (.int .u8 0), 1, 1) := by kernel_rfl
def u8v (c : UInt8) : Value := .int .u8 (c.toNat : Int)
theorem own_one8 {w1 : World} {base : Nat} {v1 : Value} {os : List UInt8} {x : UInt8} (h : w1.ownsRow base 5 1 v1 (os.length + 1) (os.map u8v ++ [u8v x])) :
    w1.ownsRow base 5 1 v1 (os ++ [x]).length ((os ++ [x]).map u8v) := by simpa using h
theorem own_rev {w : World} {base : Nat} {v : Value} {bs : List UInt8} (h : w.ownsRow base 5 1 v bs.length (bs.map u8v)) (hb : bs ≠ []) :
    ∃ g cap f, v = .slice (some ⟨g, 0, none⟩) bs.length cap ∧ base ≤ g ∧ bs.length ≤ cap ∧ cap ≤ maxLen ∧ w.rowIs g 5 cap f ∧ ∀ i (hi : i < bs.length), f i = u8v bs[i] := by
  rcases h.2 with ⟨_, h0⟩ | ⟨g, cap, cur, rfl, hg, hh, hnc, hm, hsz, hc⟩
  · exact absurd (List.eq_nil_of_length_eq_zero h0) hb
  · refine ⟨g, cap, fun i => cur.getD i undef, rfl, hg, hnc, hm, ⟨cur, hh, by omega, fun i hi => ?_⟩, fun i hi => ?_⟩
    · simp [Array.getD, show i < cur.size by omega]
    · have h1 : (cur.toList.take (bs.length * 1))[i]? = some (u8v bs[i]) := by
        rw [hc, List.getElem?_map, List.getElem?_eq_getElem hi]; rfl
      rw [List.getElem?_take, if_pos (by omega)] at h1
      simp at h1
      simp [Array.getD_eq_getD_getElem?, h1]
theorem rev_cells {w : World} {g cap : Nat} {f : Nat → Value} {bs : List UInt8} (h : w.rowIs g 5 cap (fun i => if i < bs.length then f (bs.length - 1 - i) else f i)) (hc : bs.length ≤ cap) (hf : ∀ i (hi : i < bs.length), f i = u8v bs[i]) :
    ∀ j (hj : j < bs.reverse.length), w.cell? ((⟨g, 0, none⟩ : Addr).add j) = some (.int .u8 (bs.reverse[j].toNat : Int)) := by
  intro j hj
  have hj' : j < bs.length := by simpa using hj
  have := h.cell (i := j) (by omega)
  rw [show (⟨g, 0, none⟩ : Addr).add j = ⟨g, j, none⟩ by simp [Addr.add]; omega, this, if_pos hj', hf _ (by omega), List.getElem_reverse]
  rfl
theorem ret_str {a b : ByteArray} (h : a = b) : Ending.returned (.string a) = .returned (.string b) := by rw [h]
theorem s128_div {x hi lo : Int} (h : S128 x hi lo) : S128 (x / 10) (hi / 10) ((hi % 10 * 18446744073709551616 + lo) / 10) ∧ (hi % 10 * 18446744073709551616 + lo) % 10 = x % 10 ∧ 0 ≤ hi % 10 ∧ hi % 10 < 10 := by
  unfold S128 U64 at *; omega
theorem s128_lt {x hi lo : Int} (h : S128 x hi lo) : 0 ≤ x ∧ x < (10 : Int) ^ 50 := by
  unfold S128 U64 at *
  have : (340282366920938463463374607431768211456 : Int) < 10 ^ 50 := by decide
  omega

set_option maxHeartbeats 4000000 in
set_option maxRecDepth 100000 in
theorem wtext_any (z ah al : Int) (hz : W128 z ah al) (w : World) : Calls Try.prog 34 #[wv ah al] w fun e w' => e = .returned (.string (txt z)) ∧ Below w.heap.size w w' := by
  obtain ⟨i0, hi0, hz0, hz1, hz2⟩ := info_parts info_u8
  have C1 := Lib.hid (fun w => wapart z ah al hz w)
  clear hz
  go_enter Try.func34, Try.ntmps34
  go_wp2_with fail
  have BB := start1 w #[.int .i64 ah, .int .u64 al] 24
  obtain ⟨BB, hsz, r_a⟩ := BB
  generalize (w.alloc (.cells #[.int .i64 ah, .int .u64 al] 24)) = w0 at *
  replace BB := Lib.hid BB
  replace r_a := Lib.hid r_a
  clear hsz
  refine (C1.out _).mono ?_
  rintro e w1 ⟨sh, sl, rfl, hb, hs⟩
  replace r_a := Lib.hid (r_a.out.keep hb)
  replace BB := Lib.hid (below_next BB.out hb)
  clear hb
  have HS0 := Lib.hid hs
  clear C1 hs
  generalize hsg : sgn z = sz at *
  replace hsg := Lib.hid hsg
  obtain ⟨N, hN⟩ : ∃ N : Int, N = (z.natAbs : Int) := ⟨_, rfl⟩
  rw [← hN] at HS0
  replace hN := Lib.hid hN
  go_wp2_with fail
  have d_s := Lib.hid (And.intro BB.out.size (And.intro r_a.out.lt (True.intro)))
  obtain ⟨hb, r_s⟩ := laid w1 #[.int .u64 sh, .int .u64 sl] 108
  replace r_a := Lib.hid (r_a.out.keep hb)
  replace BB := Lib.hid (below_next BB.out hb)
  replace r_s := Lib.hid r_s
  clear hb
  generalize w1.alloc (.cells #[.int .u64 sh, .int .u64 sl] 108) = w2 at *
  generalize w1.heap.size = g_s at *
  have TS := Lib.hid (TI.start (s128_lt HS0.out).1 (s128_lt HS0.out).2)
  replace BB := BB.out
  have r_s0 := r_s
  have b2 : w.heap.size ≤ w2.heap.size := BB.size
  go_loopw [5, 6, 7, 8] (fun v _ _ _ wr => ∃ (x hi lo : Int) (bs : List UInt8) (f : Nat), Hid (AtB wr g_s #[.int .u64 hi, .int .u64 lo] 108 ∧ S128 x hi lo ∧ TI N x bs f ∧ bs.length + f ≤ 51 ∧ (bs = [] → f = 50) ∧
      wr.ownsRow w2.heap.size 5 1 v bs.length (bs.map u8v) ∧ Below w.heap.size w wr ∧ w2.heap.size ≤ wr.heap.size)) (fun v _ _ _ wr => 60 - sliceLen v)
  case atStart => exact ⟨N, sh, sl, [], 50, ⟨r_s.out, HS0.out, TS.out, by simp, fun _ => rfl, World.ownsRow_nil _ _ _ _, BB, Nat.le_refl _⟩⟩
  case round =>
    obtain ⟨x, hi, lo, bs, f, hI⟩ := hrel
    obtain ⟨r_s, hS, hT, hlen, hbf, hown, BB, hsz⟩ := hI.out
    obtain ⟨A, cap, rfl⟩ := own_form hown
    have HO := Lib.hid hown
    replace BB := Lib.hid BB
    replace r_s := Lib.hid r_s
    have HT := Lib.hid hT
    have HS := Lib.hid hS
    have HBF := Lib.hid hbf
    have hl := hlen
    have hgs2 := Lib.hid (r_s0.out.lt)
    have HSZ : Hid (w2.heap.size ≤ wr.heap.size) := hsz
    clear hown hT hI hbf TS HS0
    by_cases hgo : 0 < x ∨ bs = []
    · obtain ⟨d1, d2, d3, d4⟩ := s128_div hS
      have C2 := Lib.hid (fun w => div64_any 0 hi 10 (by omega) hS.1 (by omega) (by omega) w)
      have C3 := Lib.hid (fun w => div64_any (hi % 10) lo 10 d3 hS.2.1 (by omega) (by omega) w)
      rw [Int.zero_mul, Int.zero_add] at C2
      rw [d2] at C3
      have HT2 := Lib.hid (TI.step HT.out hgo)
      have HD := Lib.hid d1
      have H51 := Lib.hid (TI.len HT.out hgo hlen HBF.out)
      have HV := Lib.hid (dig8_val x)
      have x0 : 0 ≤ x % 10 := by omega
      have x1 : x % 10 < 10 := by omega
      have hts : (hi == 0) = false ∨ ((hi == 0) = true ∧ (lo == 0) = false) ∨ (hi = 0 ∧ lo = 0 ∧ ((bs.length : Int) == 0) = true) := by
        by_cases h1 : hi = 0
        · by_cases h2 : lo = 0
          · right; right
            refine ⟨h1, h2, ?_⟩
            rcases hgo with h | h
            · unfold S128 at hS; subst h1; subst h2; omega
            · simp [h]
          · right; left; simp [h1, h2]
        · left; simp [h1]
      clear d1 d2 hS hgo
      generalize hi / 10 = q1 at *
      generalize hi % 10 = r1 at *
      generalize (r1 * 18446744073709551616 + lo) / 10 = q2 at *
      generalize x % 10 = xm at *
      rcases hts with h1 | ⟨h1, h2⟩ | ⟨rfl, rfl, h1⟩
      all_goals
        skip
        obtain ⟨c_s0, c_s1, f_s0, f_s1⟩ := reads2 r_s.out
        have l_s := r_s.out.lt
        go_wp2_with fail
        refine (C2.out _).mono ?_
        rintro e w3 ⟨rfl, hb⟩
        clear c_s0 c_s1 f_s0 f_s1 l_s
        replace r_s := Lib.hid (r_s.out.keep hb)
        replace HO := Lib.hid (own_below HO.out hb)
        replace HSZ := Lib.hid (le_below HSZ.out hb)
        replace BB := Lib.hid (below_next BB.out hb)
        clear hb
        obtain ⟨c_s0, c_s1, f_s0, f_s1⟩ := reads2 r_s.out
        have l_s := r_s.out.lt
        go_wp2_with fail
        refine (C3.out _).mono ?_
        rintro e w4 ⟨rfl, hb⟩
        clear c_s0 c_s1 f_s0 f_s1 l_s
        replace r_s := Lib.hid (r_s.out.keep hb)
        replace HO := Lib.hid (own_below HO.out hb)
        replace HSZ := Lib.hid (le_below HSZ.out hb)
        replace BB := Lib.hid (below_next BB.out hb)
        clear hb
        obtain ⟨c_s0, c_s1, f_s0, f_s1⟩ := reads2 r_s.out
        have l_s := r_s.out.lt
        have hgs := d_s.out
        have HOs := Lib.hid (ownsRow_setCell_below (a := ⟨g_s, 1, none⟩) (ownsRow_setCell_below (a := ⟨g_s, 0, none⟩) HO.out hgs2.out (.int .u64 q1)) hgs2.out (.int .u64 q2))
        have r_s2 := Lib.hid (r_s.out.set2 (.int .u64 q1) (.int .u64 q2))
        have BB2 := Lib.hid (below_far2 BB.out hgs.1 (.int .u64 q1) (.int .u64 q2))
        have hsz2 := HSZ.out
        go_wp2_with (first | (at_builtin; refine wpList_append_own _ rfl (.tmp 38) (.tmp 42) 116 rfl w2.heap.size 5 i0 (.int .u8 0) 1 1 Try.underlying116 hi0 hz0 hz1 hz2 rfl (by decide) _ _ _ rfl (HOs.out.alloc _) ⟨w4.heap.size, 0, none⟩ 1 1 [.int .u8 (48 + xm)] rfl rfl (one_new_at _ _ _ (by simp)) (one_cell _ _) (by unfold maxLen; omega) (by omega) (by simp; omega) ?_))
        intro v' w5 hown' hgrow _
        have HB5 := Lib.hid (below_app' BB2.out (by omega) (by simp; omega) HOs.out hgrow)
        have HR5 := Lib.hid (AtB.app r_s2.out hgs2.out HOs.out hgrow)
        have hz5 := app_size hgrow
        rw [show Value.int .u8 (48 + xm) = u8v (dig8 x) by unfold u8v; rw [HV.out]] at hown'
        have HO5 := Lib.hid (own_one8 hown')
        obtain ⟨A', cap', rfl⟩ := own_form hown'
        clear hown' hgrow
        go_wp2_with fail
        go_roundw
        case rel => 
          have hs2 : w2.heap.size ≤ w5.heap.size := by simp at hz5; omega
          first
          | exact ⟨x / 10, q1, q2, bs ++ [dig8 x], f - 1, ⟨HR5.out, HD.out, HT2.out.1, H51.out, fun h => by simp at h, by simpa using HO5.out, HB5.out, hs2⟩⟩
          | ((repeat apply Exists.intro); exact ⟨⟨HR5.out, HD.out, HT2.out.1, H51.out, fun h => by simp at h, by simpa using HO5.out, HB5.out, hs2⟩, rfl⟩)
        case measure => simp [sliceLen]; omega
    · obtain rfl : x = 0 := by have := HT.out.1; omega
      have hb : bs ≠ [] := fun h => hgo (.inr h)
      have HL := Lib.hid (HT.out.done hb)
      obtain rfl : hi = 0 := by unfold S128 U64 at hS; omega
      obtain rfl : lo = 0 := by unfold S128 U64 at hS; omega
      have hl0 : ((bs.length : Int) == 0) = false := by
        have : bs.length ≠ 0 := fun h => hb (List.eq_nil_of_length_eq_zero h)
        simp; exact hb
      clear hgo hS HT HBF HS
      cases sz
      · skip
        obtain ⟨c_s0, c_s1, f_s0, f_s1⟩ := reads2 r_s.out
        have l_s := r_s.out.lt
        obtain ⟨g, cp, fr, e, g1, g2, g3, hr, hfr⟩ := own_rev HO.out hb
        injection e with e1 e2 e3
        subst e1 e3
        clear e2
        have CR := Lib.hid (reverse_any g bs.length cap fr g2 (by omega) (fun i hi => ⟨_, hfr i hi⟩) wr hr)
        have HFR := Lib.hid hfr
        clear hr hfr
        go_wp2_with fail
        refine CR.out.mono ?_; rintro e w3 ⟨rfl, hr3, hb3⟩
        have HR3 := Lib.hid hr3
        have HB3 := Lib.hid (hb3.mono (show w.heap.size ≤ g by omega))
        have hcv := run_convert_bytes_back (P := Try.prog) w3 116 9 5 ⟨g, 0, none⟩ cap bs.reverse Try.underlying116 Try.underlying5 Try.underlying9 (rev_cells hr3 (by omega) HFR.out)
        rw [List.length_reverse] at hcv
        clear hr3 hb3
        go_wp2_with fail
        go_ret
        exact ⟨ret_str (by unfold txt txtL; rw [if_neg (by have := hsg.out; rw [← Bool.not_eq_true, sgn_iff] at this; exact this), ← hN.out, ← HL.out]; rfl), BB.out.trans HB3.out⟩
      · skip
        obtain ⟨c_s0, c_s1, f_s0, f_s1⟩ := reads2 r_s.out
        have l_s := r_s.out.lt
        go_wp2_with (first | (at_builtin; refine wpList_append_own _ rfl (.tmp 45) (.tmp 46) 116 rfl w2.heap.size 5 i0 (.int .u8 0) 1 1 Try.underlying116 hi0 hz0 hz1 hz2 rfl (by decide) _ _ _ rfl (HO.out.alloc _) ⟨wr.heap.size, 0, none⟩ 1 1 [.int .u8 45] rfl rfl (one_new_at _ _ _ rfl) (one_cell _ _) (by unfold maxLen; omega) (by omega) (by simp; omega) ?_))
        intro v' w5 hown' hgrow _
        have HB5 := Lib.hid (below_app' BB.out (by omega) (by omega) HO.out hgrow)
        have hown' := own_one8 (x := 45) hown'
        have hz5 := app_size hgrow
        clear hgrow
        obtain ⟨g, cp, fr, e, g1, g2, g3, hr, hfr⟩ := own_rev hown' (by simp)
        clear hown'
        rw [e]
        clear e
        have hln : (bs ++ [(45 : UInt8)]).length = bs.length + 1 := by simp
        have CR := reverse_any g (bs ++ [45]).length cp fr g2 (by simp; omega) (fun i hi => ⟨_, hfr i hi⟩) w5 hr
        rw [hln] at CR
        replace CR := Lib.hid CR
        replace hln := Lib.hid hln
        have HFR := Lib.hid hfr
        clear hr hfr
        go_wp2_with fail
        refine (CR.out.mono ?_); rintro e w3 ⟨rfl, hr3, hb3⟩
        have HB3 := Lib.hid (HB5.out.trans (hb3.mono (show w.heap.size ≤ g by omega)))
        have hcv := run_convert_bytes_back (P := Try.prog) w3 116 9 5 ⟨g, 0, none⟩ cp (bs ++ [45]).reverse Try.underlying116 Try.underlying5 Try.underlying9 (rev_cells (bs := bs ++ [45]) (f := fr) (by rw [hln.out]; exact hr3) g2 HFR.out)
        rw [List.length_reverse, hln.out] at hcv
        clear hr3 hb3
        go_wp2_with fail
        go_ret
        exact ⟨ret_str (by unfold txt txtL; rw [if_pos (sgn_iff.1 hsg.out), ← hN.out, ← HL.out]; simp), HB3.out⟩

end Go.Proofs.Ytalihekeipbafaa
