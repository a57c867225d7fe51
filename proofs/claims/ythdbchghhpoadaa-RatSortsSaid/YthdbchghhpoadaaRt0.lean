/- Contracts of rat.plain, left, gcd. -/
import Derived.Test.YthdbchghhpoadaaJD
import Derived.Test.YthdbchghhpoadaaRegG
set_option linter.unusedVariables false
set_option linter.unusedSimpArgs false
namespace Go.Proofs.Ythdbchghhpoadaa
open Go.RowKit
abbrev WT : TypeId := 113
/-- A number of 128 bits that is not the least one. -/
def IM (z : Int) : Prop := -170141183460469231731687303715884105727 ≤ z ∧ z ≤ 170141183460469231731687303715884105727
theorem cmp0_lt {z : Int} : decide (cmpI z 0 < 0) = decide (z < 0) := cmp0_neg
theorem cmpI_gt0 {x y : Int} : decide (cmpI x y > 0) = decide (y < x) := by
  unfold cmpI
  split
  · rw [decide_eq_false (by omega), decide_eq_false (by omega)]
  · split
    · rw [decide_eq_true (by omega), decide_eq_true (by omega)]
    · rw [decide_eq_false (by omega), decide_eq_false (by omega)]
theorem cmpI_ge0 {x y : Int} : decide (cmpI x y ≥ 0) = decide (y ≤ x) := by
  unfold cmpI
  split
  · rw [decide_eq_false (by omega), decide_eq_false (by omega)]
  · split
    · rw [decide_eq_true (by omega), decide_eq_true (by omega)]
    · rw [decide_eq_true (by omega), decide_eq_true (by omega)]
theorem cmpI_ne0 {z : Int} : (cmpI z 0 != 0) = decide (z ≠ 0) := by
  unfold cmpI
  split
  · rw [decide_eq_true (by omega)]; rfl
  · split
    · rw [decide_eq_true (by omega)]; rfl
    · rw [decide_eq_false (by omega)]; rfl
set_option maxRecDepth 100000 in
theorem rplainW (x ah al : Int) (hx : W128 x ah al) (hm : IM x) (w : World) : Calls Try.prog 126 #[wv ah al] w (GiveW (x.natAbs : Int) w) := by
  have CS := Lib.hid (fun w => wsign x ah al hx w)
  by_cases hn : x < 0
  · have d1 : decide (cmpI x 0 < 0) = true := by rw [cmp0_lt]; exact decide_eq_true hn
    have CN := Lib.hid (fun w => wneg x ah al hx w)
    have hr : I128 (-x) := by unfold IM at hm; unfold I128; omega
    have e : -x = (x.natAbs : Int) := by omega
    rw [← e]
    generalize cmpI x 0 = s at *
    clear hn hm hx e
    go_enter Try.func126, Try.ntmps126
    go_wp2_with fail
    have BB := start2 w #[.int .i64 ah, .int .u64 al] WT #[.int .i64 0, .int .u64 0] WT
    obtain ⟨BB, hsz, r_a, r_res⟩ := BB
    generalize ((w.alloc (.cells #[.int .i64 ah, .int .u64 al] WT)).alloc (.cells #[.int .i64 0, .int .u64 0] WT)) = w0 at *
    replace BB := Lib.hid BB
    replace r_a := Lib.hid r_a
    replace r_res := Lib.hid r_res
    clear hsz
    obtain ⟨c_a0, c_a1, f_a0, f_a1⟩ := reads2 r_a.out
    have l_a := r_a.out.lt
    go_wp2_with fail
    refine (CS.out _).mono ?_
    rintro e w1 ⟨rfl, hb⟩
    clear c_a0 c_a1 f_a0 f_a1 l_a
    replace r_a := Lib.hid (r_a.out.keep hb)
    replace r_res := Lib.hid (r_res.out.keep hb)
    replace BB := Lib.hid (below_next BB.out hb)
    clear hb
    obtain ⟨c_a0, c_a1, f_a0, f_a1⟩ := reads2 r_a.out
    have l_a := r_a.out.lt
    go_wp2_with fail
    refine (CN.out _).mono ?_
    rintro e w2 ⟨hi, lo, ok, rfl, hb, hz⟩
    clear c_a0 c_a1 f_a0 f_a1 l_a
    replace r_a := Lib.hid (r_a.out.keep hb)
    replace r_res := Lib.hid (r_res.out.keep hb)
    replace BB := Lib.hid (below_next BB.out hb)
    clear hb
    obtain ⟨c_a0, c_a1, f_a0, f_a1⟩ := reads2 r_a.out
    have l_a := r_a.out.lt
    obtain ⟨c_res0, c_res1, f_res0, f_res1⟩ := reads2 r_res.out
    have l_res := r_res.out.lt
    go_wp2_with fail
    exact bodyPost_ret (v := wv hi lo) (by unfold results; simp only [Try.results126]; go_simp) rfl (give_w_res rfl (below_set2 (below_set2 BB.out (by omega) _ _) (by omega) _ _) (hz.of_room hr))
  · have d1 : decide (cmpI x 0 < 0) = false := by rw [cmp0_lt]; exact decide_eq_false hn
    have e : x = (x.natAbs : Int) := by omega
    rw [← e]
    generalize cmpI x 0 = s at *
    clear hn hm e
    go_enter Try.func126, Try.ntmps126
    go_wp2_with fail
    have BB := start2 w #[.int .i64 ah, .int .u64 al] WT #[.int .i64 0, .int .u64 0] WT
    obtain ⟨BB, hsz, r_a, r_res⟩ := BB
    generalize ((w.alloc (.cells #[.int .i64 ah, .int .u64 al] WT)).alloc (.cells #[.int .i64 0, .int .u64 0] WT)) = w0 at *
    replace BB := Lib.hid BB
    replace r_a := Lib.hid r_a
    replace r_res := Lib.hid r_res
    clear hsz
    obtain ⟨c_a0, c_a1, f_a0, f_a1⟩ := reads2 r_a.out
    have l_a := r_a.out.lt
    go_wp2_with fail
    refine (CS.out _).mono ?_
    rintro e w1 ⟨rfl, hb⟩
    clear c_a0 c_a1 f_a0 f_a1 l_a
    replace r_a := Lib.hid (r_a.out.keep hb)
    replace r_res := Lib.hid (r_res.out.keep hb)
    replace BB := Lib.hid (below_next BB.out hb)
    clear hb
    obtain ⟨c_a0, c_a1, f_a0, f_a1⟩ := reads2 r_a.out
    have l_a := r_a.out.lt
    obtain ⟨c_res0, c_res1, f_res0, f_res1⟩ := reads2 r_res.out
    have l_res := r_res.out.lt
    go_wp2_with fail
    exact bodyPost_ret (v := wv ah al) (by unfold results; simp only [Try.results126]; go_simp) rfl (give_w_res rfl (below_set2 BB.out (by omega) _ _) hx)
/-- A number of 128 bits in a block. -/
def WAt (w : World) (g : Nat) (z : Int) : Prop := ∃ hi lo, AtB w g #[.int .i64 hi, .int .u64 lo] WT ∧ W128 z hi lo
/-- The numbers that a quotient's steps go through. -/
def Dbl (b y a : Int) : Prop := ∃ k : Nat, y = b * 2 ^ k ∧ (k = 0 ∨ y ≤ a)
theorem two_pow_pos (k : Nat) : (0 : Int) < 2 ^ k := Int.pow_pos (by omega)
theorem Dbl.next {b y a : Int} (h : Dbl b y a) (h2 : y + y ≤ a) : Dbl b (y + y) a := by
  obtain ⟨k, hk, -⟩ := h
  refine ⟨k + 1, ?_, .inr h2⟩
  rw [hk, Int.pow_succ, ← Int.mul_assoc]; omega
/-- What is left, and by how much may still be taken away. -/
def Hlv (b y a a0 : Int) : Prop := 0 ≤ a ∧ a % b = a0 % b ∧ ((∃ k : Nat, y = b * 2 ^ k ∧ a < 2 * y) ∨ (y < b ∧ a < b ∧ 0 ≤ y))
theorem Dbl.start {b y a : Int} (hb : 0 < b) (ha : 0 ≤ a) (h : Dbl b y a) (h2 : a < y + y) : Hlv b y a a := by
  obtain ⟨k, hk, -⟩ := h
  exact ⟨ha, rfl, .inl ⟨k, hk, by omega⟩⟩
theorem pow2_succ (b : Int) (k : Nat) : b * 2 ^ (k + 1) = 2 * (b * 2 ^ k) := by rw [Int.pow_succ, ← Int.mul_assoc, Int.mul_comm]
theorem pow_mod (b : Int) (k : Nat) (a : Int) : (a - b * 2 ^ k) % b = a % b := by
  rw [Int.sub_emod, Int.mul_emod_right, Int.sub_zero, Int.emod_emod]
theorem Hlv.less {b y a a0 : Int} (hb : 0 < b) (h : Hlv b y a a0) (hy : b ≤ y) (h2 : y ≤ a) : Hlv b (y / 2) (a - y) a0 := by
  obtain ⟨h0, hm, ⟨k, rfl, hk⟩ | h3⟩ := h
  · refine ⟨by omega, by rw [pow_mod]; exact hm, ?_⟩
    cases k with
    | zero => right; simp at hk ⊢; omega
    | succ k =>
      left
      rw [pow2_succ] at *
      exact ⟨k, by omega, by omega⟩
  · omega
theorem Hlv.keep {b y a a0 : Int} (hb : 0 < b) (h : Hlv b y a a0) (hy : b ≤ y) (h2 : a < y) : Hlv b (y / 2) a a0 := by
  obtain ⟨h0, hm, ⟨k, rfl, hk⟩ | h3⟩ := h
  · refine ⟨h0, hm, ?_⟩
    cases k with
    | zero => right; simp at h2 ⊢; omega
    | succ k =>
      left
      rw [pow2_succ] at *
      exact ⟨k, by omega, by omega⟩
  · omega
theorem Hlv.done {b y a a0 : Int} (hb : 0 < b) (h : Hlv b y a a0) (hy : y < b) : a = a0 % b := by
  obtain ⟨h0, hm, ⟨k, rfl, hk⟩ | h3⟩ := h
  · exfalso
    have := two_pow_pos k
    have h1 : b * 1 ≤ b * 2 ^ k := Int.mul_le_mul_of_nonneg_left (by omega) (by omega)
    omega
  · rw [← hm, Int.emod_eq_of_lt h0 h3.2.1]
/-- The number that two cells hold. -/
def wVal (w : World) (g : Nat) : Int := match w.cell? ⟨g, 0, none⟩, w.cell? ⟨g, 1, none⟩ with
  | some (.int _ hi), some (.int _ lo) => hi * 18446744073709551616 + lo
  | _, _ => 0
theorem wVal_at {w : World} {g : Nat} {z hi lo : Int} {T : TypeId} (h : AtB w g #[.int .i64 hi, .int .u64 lo] T) (hz : W128 z hi lo) : wVal w g = z := by
  unfold wVal
  rw [h.cell 0 rfl, h.cell 1 rfl]
  exact hz.2.2
theorem one_64 : ((1 : Nat) : Int) = 1 := rfl
set_option maxRecDepth 100000 in
set_option maxHeartbeats 8000000 in
theorem rleftW (a0 b ah al bh bl : Int) (ha : W128 a0 ah al) (hb : W128 b bh bl) (hma : 0 ≤ a0 ∧ IM a0) (hmb : 0 < b ∧ IM b) (w : World) : Calls Try.prog 127 #[wv ah al, wv bh bl] w (GiveW (a0 % b) w) := by
  have CA := Lib.hid (fun x xh xl y yh yl w hx hy => wadd x y xh xl yh yl hx hy w)
  have CC := Lib.hid (fun x xh xl y yh yl w hx hy => wcmp x y xh xl yh yl hx hy w)
  have CS := Lib.hid (fun x xh xl y yh yl w hx hy => wsub x y xh xl yh yl hx hy w)
  have CR := Lib.hid (fun x xh xl w hx => wshr_mid x xh xl 1 (by omega) (by omega) hx w)
  simp only [one_64] at CR
  have HA := Lib.hid ha; have HB := Lib.hid hb
  clear ha hb
  go_enter Try.func127, Try.ntmps127
  go_wp2_with fail
  have BB := start4 w #[.int .i64 ah, .int .u64 al] WT #[.int .i64 bh, .int .u64 bl] WT #[.int .i64 0, .int .u64 0] WT #[.int .i64 bh, .int .u64 bl] WT
  obtain ⟨BB, hsz, r_a, r_b, r_res, r_by⟩ := BB
  generalize ((((w.alloc (.cells #[.int .i64 ah, .int .u64 al] WT)).alloc (.cells #[.int .i64 bh, .int .u64 bl] WT)).alloc (.cells #[.int .i64 0, .int .u64 0] WT)).alloc (.cells #[.int .i64 bh, .int .u64 bl] WT)) = w0 at *
  replace BB := Lib.hid BB
  replace r_a := Lib.hid r_a
  replace r_b := Lib.hid r_b
  replace r_res := Lib.hid r_res
  replace r_by := Lib.hid r_by
  clear hsz
  go_loopw [6, 7] (fun _ _ wr => ∃ y, Hid (WAt wr (w.heap.size + 3) y ∧ Dbl b y a0 ∧ AtB wr w.heap.size #[.int .i64 ah, .int .u64 al] WT ∧ AtB wr (w.heap.size + 1) #[.int .i64 bh, .int .u64 bl] WT ∧ AtB wr (w.heap.size + 2) #[.int .i64 0, .int .u64 0] WT ∧ Below w.heap.size w wr)) (fun _ _ wr => (170141183460469231731687303715884105728 - wVal wr (w.heap.size + 3)).toNat)
  case atStart => exact ⟨b, ⟨⟨_, _, r_by.out, HB.out⟩, ⟨0, by simp, .inl rfl⟩, r_a.out, r_b.out, r_res.out, BB.out⟩⟩
  case round =>
    clear r_a r_b r_res r_by BB
    obtain ⟨y, hinv⟩ := hrel
    obtain ⟨⟨yh, yl, r_by, hy⟩, HD, r_a, r_b, r_res, BB⟩ := hinv.out
    clear hinv
    have hv := Lib.hid (wVal_at r_by hy)
    replace r_by := Lib.hid r_by; replace r_a := Lib.hid r_a; replace r_b := Lib.hid r_b; replace r_res := Lib.hid r_res; replace BB := Lib.hid BB; replace hy := Lib.hid hy; replace HD := Lib.hid HD
    have hy0 : 0 < y := by
      obtain ⟨k, hk, -⟩ := HD.out
      rw [hk]; exact Int.mul_pos hmb.1 (two_pow_pos k)
    obtain ⟨c_by0, c_by1, f_by0, f_by1⟩ := reads2 r_by.out
    have l_by := r_by.out.lt
    go_wp2_with fail
    refine (CA.out _ _ _ _ _ _ _ hy.out hy.out).mono ?_
    rintro e w1 ⟨nh, nl, ok, rfl, hb, hn⟩
    clear c_by0 c_by1 f_by0 f_by1 l_by
    replace r_a := Lib.hid (r_a.out.keep hb)
    replace r_b := Lib.hid (r_b.out.keep hb)
    replace r_res := Lib.hid (r_res.out.keep hb)
    replace r_by := Lib.hid (r_by.out.keep hb)
    replace BB := Lib.hid (below_next BB.out hb)
    clear hb
    go_upto_region 3 with fail
    have d_nx := Lib.hid (And.intro BB.out.size (And.intro r_a.out.lt (And.intro r_b.out.lt (And.intro r_res.out.lt (And.intro r_by.out.lt (True.intro))))))
    obtain ⟨hb, r_nx⟩ := laid w1 #[.int .i64 nh, .int .u64 nl] WT
    replace r_a := Lib.hid (r_a.out.keep hb)
    replace r_b := Lib.hid (r_b.out.keep hb)
    replace r_res := Lib.hid (r_res.out.keep hb)
    replace r_by := Lib.hid (r_by.out.keep hb)
    replace BB := Lib.hid (below_next BB.out hb)
    replace r_nx := Lib.hid r_nx
    clear hb
    generalize w1.alloc (.cells #[.int .i64 nh, .int .u64 nl] WT) = w2 at *
    generalize w1.heap.size = g_nx at *
    rcases hn with ⟨hr, rfl, hn⟩ | ⟨hr, rfl, rfl, rfl⟩
    · have hn := Lib.hid hn
      obtain ⟨c_nx0, c_nx1, f_nx0, f_nx1⟩ := reads2 r_nx.out
      have l_nx := r_nx.out.lt
      obtain ⟨c_a0, c_a1, f_a0, f_a1⟩ := reads2 r_a.out
      have l_a := r_a.out.lt
      go_wp2_with fail
      refine (CC.out _ _ _ _ _ _ _ hn.out HA.out).mono ?_
      rintro e w3 ⟨rfl, hb⟩
      clear c_nx0 c_nx1 f_nx0 f_nx1 l_nx c_a0 c_a1 f_a0 f_a1 l_a
      replace r_a := Lib.hid (r_a.out.keep hb)
      replace r_b := Lib.hid (r_b.out.keep hb)
      replace r_res := Lib.hid (r_res.out.keep hb)
      replace r_by := Lib.hid (r_by.out.keep hb)
      replace r_nx := Lib.hid (r_nx.out.keep hb)
      replace BB := Lib.hid (below_next BB.out hb)
      clear hb
      by_cases hx : a0 < y + y
      · have d1 : decide (cmpI (y + y) a0 > 0) = true := by rw [cmpI_gt0]; exact decide_eq_true hx
        generalize cmpI (y + y) a0 = s1 at *
        have HH := Lib.hid (HD.out.start hmb.1 hma.1 hx)
        clear HD hv hn
        go_wp2_with fail
        go_loopw [] (fun wr => ∃ y a, Hid (WAt wr (w.heap.size + 3) y ∧ WAt wr w.heap.size a ∧ Hlv b y a a0 ∧ AtB wr (w.heap.size + 1) #[.int .i64 bh, .int .u64 bl] WT ∧ AtB wr (w.heap.size + 2) #[.int .i64 0, .int .u64 0] WT ∧ Below w.heap.size w wr)) (fun wr => (wVal wr (w.heap.size + 3)).toNat)
        case atStart => exact ⟨y, a0, ⟨⟨_, _, r_by.out, hy.out⟩, ⟨_, _, r_a.out, HA.out⟩, HH.out, r_b.out, r_res.out, BB.out⟩⟩
        case round =>
          clear r_a r_b r_res r_by BB HH hy
          obtain ⟨y, a, hinv⟩ := hrel
          obtain ⟨⟨yh, yl, r_by, hy⟩, ⟨xh, xl, r_a, hx⟩, HH, r_b, r_res, BB⟩ := hinv.out
          clear hinv
          have hv := Lib.hid (wVal_at r_by hy)
          replace r_by := Lib.hid r_by; replace r_a := Lib.hid r_a; replace r_b := Lib.hid r_b; replace r_res := Lib.hid r_res; replace BB := Lib.hid BB; replace hy := Lib.hid hy; replace hx := Lib.hid hx; replace HH := Lib.hid HH
          obtain ⟨c_b0, c_b1, f_b0, f_b1⟩ := reads2 r_b.out
          have l_b := r_b.out.lt
          obtain ⟨c_by0, c_by1, f_by0, f_by1⟩ := reads2 r_by.out
          have l_by := r_by.out.lt
          go_wp2_with fail
          refine (CC.out _ _ _ _ _ _ _ hy.out HB.out).mono ?_
          rintro e w4 ⟨rfl, hb⟩
          clear c_b0 c_b1 f_b0 f_b1 l_b c_by0 c_by1 f_by0 f_by1 l_by
          replace r_a := Lib.hid (r_a.out.keep hb)
          replace r_b := Lib.hid (r_b.out.keep hb)
          replace r_res := Lib.hid (r_res.out.keep hb)
          replace r_by := Lib.hid (r_by.out.keep hb)
          replace BB := Lib.hid (below_next BB.out hb)
          clear hb
          by_cases hyb : b ≤ y
          · have d1 : decide (cmpI y b ≥ 0) = true := by rw [cmpI_ge0]; exact decide_eq_true hyb
            generalize cmpI y b = s1 at *
            obtain ⟨c_a0, c_a1, f_a0, f_a1⟩ := reads2 r_a.out
            have l_a := r_a.out.lt
            obtain ⟨c_by0, c_by1, f_by0, f_by1⟩ := reads2 r_by.out
            have l_by := r_by.out.lt
            go_wp2_with fail
            refine (CC.out _ _ _ _ _ _ _ hx.out hy.out).mono ?_
            rintro e w5 ⟨rfl, hb⟩
            clear c_a0 c_a1 f_a0 f_a1 l_a c_by0 c_by1 f_by0 f_by1 l_by
            replace r_a := Lib.hid (r_a.out.keep hb)
            replace r_b := Lib.hid (r_b.out.keep hb)
            replace r_res := Lib.hid (r_res.out.keep hb)
            replace r_by := Lib.hid (r_by.out.keep hb)
            replace BB := Lib.hid (below_next BB.out hb)
            clear hb
            by_cases hya : y ≤ a
            · have d2 : decide (cmpI a y ≥ 0) = true := by rw [cmpI_ge0]; exact decide_eq_true hya
              generalize cmpI a y = s2 at *
              obtain ⟨c_a0, c_a1, f_a0, f_a1⟩ := reads2 r_a.out
              have l_a := r_a.out.lt
              obtain ⟨c_by0, c_by1, f_by0, f_by1⟩ := reads2 r_by.out
              have l_by := r_by.out.lt
              go_wp2_with fail
              refine (CS.out _ _ _ _ _ _ _ hx.out hy.out).mono ?_
              rintro e w6 ⟨dh, dl, ok, rfl, hb, hd⟩
              clear c_a0 c_a1 f_a0 f_a1 l_a c_by0 c_by1 f_by0 f_by1 l_by
              replace r_a := Lib.hid (r_a.out.keep hb)
              replace r_b := Lib.hid (r_b.out.keep hb)
              replace r_res := Lib.hid (r_res.out.keep hb)
              replace r_by := Lib.hid (r_by.out.keep hb)
              replace BB := Lib.hid (below_next BB.out hb)
              clear hb
              have hd := Lib.hid (hd.of_room (by have h1 := hx.out.room; have h2 := hy.out.room; unfold I128 at *; have := HH.out.1; omega))
              obtain ⟨c_a0, c_a1, f_a0, f_a1⟩ := reads2 r_a.out
              have l_a := r_a.out.lt
              obtain ⟨c_by0, c_by1, f_by0, f_by1⟩ := reads2 r_by.out
              have l_by := r_by.out.lt
              go_wp2_with fail
              clear c_a0 c_a1 f_a0 f_a1 l_a c_by0 c_by1 f_by0 f_by1 l_by
              replace r_a := Lib.hid (r_a.out.set2 (.int .i64 dh) (.int .u64 dl))
              replace r_b := Lib.hid (r_b.out.far2 (p := w.heap.size) (by omega) (.int .i64 dh) (.int .u64 dl))
              replace r_res := Lib.hid (r_res.out.far2 (p := w.heap.size) (by omega) (.int .i64 dh) (.int .u64 dl))
              replace r_by := Lib.hid (r_by.out.far2 (p := w.heap.size) (by omega) (.int .i64 dh) (.int .u64 dl))
              replace BB := Lib.hid (below_far2 BB.out (p := w.heap.size) (by omega) (.int .i64 dh) (.int .u64 dl))
              generalize ((w6.setCell ⟨w.heap.size, 0, none⟩ (.int .i64 dh)).setCell ⟨w.heap.size, 1, none⟩ (.int .u64 dl)) = w7 at *
              refine (CR.out _ _ _ _ hy.out).mono ?_
              rintro e w8 ⟨eh, el, rfl, hb, he⟩
              replace r_a := Lib.hid (r_a.out.keep hb)
              replace r_b := Lib.hid (r_b.out.keep hb)
              replace r_res := Lib.hid (r_res.out.keep hb)
              replace r_by := Lib.hid (r_by.out.keep hb)
              replace BB := Lib.hid (below_next BB.out hb)
              clear hb
              obtain ⟨c_by0, c_by1, f_by0, f_by1⟩ := reads2 r_by.out
              have l_by := r_by.out.lt
              go_wp2_with fail
              clear c_by0 c_by1 f_by0 f_by1 l_by
              replace r_a := Lib.hid (r_a.out.far2 (p := w.heap.size + 3) (by omega) (.int .i64 eh) (.int .u64 el))
              replace r_b := Lib.hid (r_b.out.far2 (p := w.heap.size + 3) (by omega) (.int .i64 eh) (.int .u64 el))
              replace r_res := Lib.hid (r_res.out.far2 (p := w.heap.size + 3) (by omega) (.int .i64 eh) (.int .u64 el))
              replace r_by := Lib.hid (r_by.out.set2 (.int .i64 eh) (.int .u64 el))
              replace BB := Lib.hid (below_far2 BB.out (p := w.heap.size + 3) (by omega) (.int .i64 eh) (.int .u64 el))
              generalize ((w8.setCell ⟨w.heap.size + 3, 0, none⟩ (.int .i64 eh)).setCell ⟨w.heap.size + 3, 1, none⟩ (.int .u64 el)) = w10 at *
              go_roundw
              case rel => exact ⟨y / 2, a - y, ⟨⟨_, _, r_by.out, he⟩, ⟨_, _, r_a.out, hd.out⟩, HH.out.less hmb.1 hyb hya, r_b.out, r_res.out, BB.out⟩⟩
              case measure => rw [hv.out, wVal_at r_by.out he]; simp only [Int.reducePow]; omega
            · have d2 : decide (cmpI a y ≥ 0) = false := by rw [cmpI_ge0]; exact decide_eq_false hya
              generalize cmpI a y = s2 at *
              obtain ⟨c_by0, c_by1, f_by0, f_by1⟩ := reads2 r_by.out
              have l_by := r_by.out.lt
              go_wp2_with fail
              refine (CR.out _ _ _ _ hy.out).mono ?_
              rintro e w6 ⟨eh, el, rfl, hb, he⟩
              clear c_by0 c_by1 f_by0 f_by1 l_by
              replace r_a := Lib.hid (r_a.out.keep hb)
              replace r_b := Lib.hid (r_b.out.keep hb)
              replace r_res := Lib.hid (r_res.out.keep hb)
              replace r_by := Lib.hid (r_by.out.keep hb)
              replace BB := Lib.hid (below_next BB.out hb)
              clear hb
              obtain ⟨c_by0, c_by1, f_by0, f_by1⟩ := reads2 r_by.out
              have l_by := r_by.out.lt
              go_wp2_with fail
              clear c_by0 c_by1 f_by0 f_by1 l_by
              replace r_a := Lib.hid (r_a.out.far2 (p := w.heap.size + 3) (by omega) (.int .i64 eh) (.int .u64 el))
              replace r_b := Lib.hid (r_b.out.far2 (p := w.heap.size + 3) (by omega) (.int .i64 eh) (.int .u64 el))
              replace r_res := Lib.hid (r_res.out.far2 (p := w.heap.size + 3) (by omega) (.int .i64 eh) (.int .u64 el))
              replace r_by := Lib.hid (r_by.out.set2 (.int .i64 eh) (.int .u64 el))
              replace BB := Lib.hid (below_far2 BB.out (p := w.heap.size + 3) (by omega) (.int .i64 eh) (.int .u64 el))
              generalize ((w6.setCell ⟨w.heap.size + 3, 0, none⟩ (.int .i64 eh)).setCell ⟨w.heap.size + 3, 1, none⟩ (.int .u64 el)) = w7 at *
              go_roundw
              case rel => exact ⟨y / 2, a, ⟨⟨_, _, r_by.out, he⟩, ⟨_, _, r_a.out, hx.out⟩, HH.out.keep hmb.1 hyb (by omega), r_b.out, r_res.out, BB.out⟩⟩
              case measure => rw [hv.out, wVal_at r_by.out he]; simp only [Int.reducePow]; omega
          · have d1 : decide (cmpI y b ≥ 0) = false := by rw [cmpI_ge0]; exact decide_eq_false hyb
            generalize cmpI y b = s1 at *
            have hE := HH.out.done hmb.1 (by omega)
            rw [hE] at hx
            obtain ⟨c_a0, c_a1, f_a0, f_a1⟩ := reads2 r_a.out
            have l_a := r_a.out.lt
            obtain ⟨c_res0, c_res1, f_res0, f_res1⟩ := reads2 r_res.out
            have l_res := r_res.out.lt
            go_wp2_with fail
            exact bodyPost_ret (v := wv xh xl) (by unfold results; simp only [Try.results127]; go_simp) rfl (give_w_res rfl (below_set2 BB.out (by omega) _ _) hx.out)
      · have d1 : decide (cmpI (y + y) a0 > 0) = false := by rw [cmpI_gt0]; exact decide_eq_false hx
        generalize cmpI (y + y) a0 = s1 at *
        obtain ⟨c_nx0, c_nx1, f_nx0, f_nx1⟩ := reads2 r_nx.out
        have l_nx := r_nx.out.lt
        obtain ⟨c_by0, c_by1, f_by0, f_by1⟩ := reads2 r_by.out
        have l_by := r_by.out.lt
        go_wp2_with fail
        clear c_nx0 c_nx1 f_nx0 f_nx1 l_nx c_by0 c_by1 f_by0 f_by1 l_by
        replace r_a := Lib.hid (r_a.out.far2 (p := w.heap.size + 3) (by omega) (.int .i64 nh) (.int .u64 nl))
        replace r_b := Lib.hid (r_b.out.far2 (p := w.heap.size + 3) (by omega) (.int .i64 nh) (.int .u64 nl))
        replace r_res := Lib.hid (r_res.out.far2 (p := w.heap.size + 3) (by omega) (.int .i64 nh) (.int .u64 nl))
        replace r_by := Lib.hid (r_by.out.set2 (.int .i64 nh) (.int .u64 nl))
        replace r_nx := Lib.hid (r_nx.out.far2 (p := w.heap.size + 3) (by have dd_nx := d_nx.out; omega) (.int .i64 nh) (.int .u64 nl))
        replace BB := Lib.hid (below_far2 BB.out (p := w.heap.size + 3) (by omega) (.int .i64 nh) (.int .u64 nl))
        generalize ((w3.setCell ⟨w.heap.size + 3, 0, none⟩ (.int .i64 nh)).setCell ⟨w.heap.size + 3, 1, none⟩ (.int .u64 nl)) = w4 at *
        go_roundw
        case rel => exact ⟨y + y, ⟨⟨_, _, r_by.out, hn.out⟩, HD.out.next (by omega), r_a.out, r_b.out, r_res.out, BB.out⟩⟩
        case measure => rw [hv.out, wVal_at r_by.out hn.out]; have := hr; unfold I128 at this; omega
    · have HH := Lib.hid (HD.out.start hmb.1 hma.1 (by have := hma.2; unfold IM at this; unfold I128 at hr; omega))
      clear HD hv
      go_wp2_with fail
      go_loopw [] (fun wr => ∃ y a, Hid (WAt wr (w.heap.size + 3) y ∧ WAt wr w.heap.size a ∧ Hlv b y a a0 ∧ AtB wr (w.heap.size + 1) #[.int .i64 bh, .int .u64 bl] WT ∧ AtB wr (w.heap.size + 2) #[.int .i64 0, .int .u64 0] WT ∧ Below w.heap.size w wr)) (fun wr => (wVal wr (w.heap.size + 3)).toNat)
      case atStart => exact ⟨y, a0, ⟨⟨_, _, r_by.out, hy.out⟩, ⟨_, _, r_a.out, HA.out⟩, HH.out, r_b.out, r_res.out, BB.out⟩⟩
      case round =>
        clear r_a r_b r_res r_by BB HH hy
        obtain ⟨y, a, hinv⟩ := hrel
        obtain ⟨⟨yh, yl, r_by, hy⟩, ⟨xh, xl, r_a, hx⟩, HH, r_b, r_res, BB⟩ := hinv.out
        clear hinv
        have hv := Lib.hid (wVal_at r_by hy)
        replace r_by := Lib.hid r_by; replace r_a := Lib.hid r_a; replace r_b := Lib.hid r_b; replace r_res := Lib.hid r_res; replace BB := Lib.hid BB; replace hy := Lib.hid hy; replace hx := Lib.hid hx; replace HH := Lib.hid HH
        obtain ⟨c_b0, c_b1, f_b0, f_b1⟩ := reads2 r_b.out
        have l_b := r_b.out.lt
        obtain ⟨c_by0, c_by1, f_by0, f_by1⟩ := reads2 r_by.out
        have l_by := r_by.out.lt
        go_wp2_with fail
        refine (CC.out _ _ _ _ _ _ _ hy.out HB.out).mono ?_
        rintro e w3 ⟨rfl, hb⟩
        clear c_b0 c_b1 f_b0 f_b1 l_b c_by0 c_by1 f_by0 f_by1 l_by
        replace r_a := Lib.hid (r_a.out.keep hb)
        replace r_b := Lib.hid (r_b.out.keep hb)
        replace r_res := Lib.hid (r_res.out.keep hb)
        replace r_by := Lib.hid (r_by.out.keep hb)
        replace BB := Lib.hid (below_next BB.out hb)
        clear hb
        by_cases hyb : b ≤ y
        · have d1 : decide (cmpI y b ≥ 0) = true := by rw [cmpI_ge0]; exact decide_eq_true hyb
          generalize cmpI y b = s1 at *
          obtain ⟨c_a0, c_a1, f_a0, f_a1⟩ := reads2 r_a.out
          have l_a := r_a.out.lt
          obtain ⟨c_by0, c_by1, f_by0, f_by1⟩ := reads2 r_by.out
          have l_by := r_by.out.lt
          go_wp2_with fail
          refine (CC.out _ _ _ _ _ _ _ hx.out hy.out).mono ?_
          rintro e w4 ⟨rfl, hb⟩
          clear c_a0 c_a1 f_a0 f_a1 l_a c_by0 c_by1 f_by0 f_by1 l_by
          replace r_a := Lib.hid (r_a.out.keep hb)
          replace r_b := Lib.hid (r_b.out.keep hb)
          replace r_res := Lib.hid (r_res.out.keep hb)
          replace r_by := Lib.hid (r_by.out.keep hb)
          replace BB := Lib.hid (below_next BB.out hb)
          clear hb
          by_cases hya : y ≤ a
          · have d2 : decide (cmpI a y ≥ 0) = true := by rw [cmpI_ge0]; exact decide_eq_true hya
            generalize cmpI a y = s2 at *
            obtain ⟨c_a0, c_a1, f_a0, f_a1⟩ := reads2 r_a.out
            have l_a := r_a.out.lt
            obtain ⟨c_by0, c_by1, f_by0, f_by1⟩ := reads2 r_by.out
            have l_by := r_by.out.lt
            go_wp2_with fail
            refine (CS.out _ _ _ _ _ _ _ hx.out hy.out).mono ?_
            rintro e w5 ⟨dh, dl, ok, rfl, hb, hd⟩
            clear c_a0 c_a1 f_a0 f_a1 l_a c_by0 c_by1 f_by0 f_by1 l_by
            replace r_a := Lib.hid (r_a.out.keep hb)
            replace r_b := Lib.hid (r_b.out.keep hb)
            replace r_res := Lib.hid (r_res.out.keep hb)
            replace r_by := Lib.hid (r_by.out.keep hb)
            replace BB := Lib.hid (below_next BB.out hb)
            clear hb
            have hd := Lib.hid (hd.of_room (by have h1 := hx.out.room; have h2 := hy.out.room; unfold I128 at *; have := HH.out.1; omega))
            obtain ⟨c_a0, c_a1, f_a0, f_a1⟩ := reads2 r_a.out
            have l_a := r_a.out.lt
            obtain ⟨c_by0, c_by1, f_by0, f_by1⟩ := reads2 r_by.out
            have l_by := r_by.out.lt
            go_wp2_with fail
            clear c_a0 c_a1 f_a0 f_a1 l_a c_by0 c_by1 f_by0 f_by1 l_by
            replace r_a := Lib.hid (r_a.out.set2 (.int .i64 dh) (.int .u64 dl))
            replace r_b := Lib.hid (r_b.out.far2 (p := w.heap.size) (by omega) (.int .i64 dh) (.int .u64 dl))
            replace r_res := Lib.hid (r_res.out.far2 (p := w.heap.size) (by omega) (.int .i64 dh) (.int .u64 dl))
            replace r_by := Lib.hid (r_by.out.far2 (p := w.heap.size) (by omega) (.int .i64 dh) (.int .u64 dl))
            replace BB := Lib.hid (below_far2 BB.out (p := w.heap.size) (by omega) (.int .i64 dh) (.int .u64 dl))
            generalize ((w5.setCell ⟨w.heap.size, 0, none⟩ (.int .i64 dh)).setCell ⟨w.heap.size, 1, none⟩ (.int .u64 dl)) = w6 at *
            refine (CR.out _ _ _ _ hy.out).mono ?_
            rintro e w7 ⟨eh, el, rfl, hb, he⟩
            replace r_a := Lib.hid (r_a.out.keep hb)
            replace r_b := Lib.hid (r_b.out.keep hb)
            replace r_res := Lib.hid (r_res.out.keep hb)
            replace r_by := Lib.hid (r_by.out.keep hb)
            replace BB := Lib.hid (below_next BB.out hb)
            clear hb
            obtain ⟨c_by0, c_by1, f_by0, f_by1⟩ := reads2 r_by.out
            have l_by := r_by.out.lt
            go_wp2_with fail
            clear c_by0 c_by1 f_by0 f_by1 l_by
            replace r_a := Lib.hid (r_a.out.far2 (p := w.heap.size + 3) (by omega) (.int .i64 eh) (.int .u64 el))
            replace r_b := Lib.hid (r_b.out.far2 (p := w.heap.size + 3) (by omega) (.int .i64 eh) (.int .u64 el))
            replace r_res := Lib.hid (r_res.out.far2 (p := w.heap.size + 3) (by omega) (.int .i64 eh) (.int .u64 el))
            replace r_by := Lib.hid (r_by.out.set2 (.int .i64 eh) (.int .u64 el))
            replace BB := Lib.hid (below_far2 BB.out (p := w.heap.size + 3) (by omega) (.int .i64 eh) (.int .u64 el))
            generalize ((w7.setCell ⟨w.heap.size + 3, 0, none⟩ (.int .i64 eh)).setCell ⟨w.heap.size + 3, 1, none⟩ (.int .u64 el)) = w8 at *
            go_roundw
            case rel => exact ⟨y / 2, a - y, ⟨⟨_, _, r_by.out, he⟩, ⟨_, _, r_a.out, hd.out⟩, HH.out.less hmb.1 hyb hya, r_b.out, r_res.out, BB.out⟩⟩
            case measure => rw [hv.out, wVal_at r_by.out he]; simp only [Int.reducePow]; omega
          · have d2 : decide (cmpI a y ≥ 0) = false := by rw [cmpI_ge0]; exact decide_eq_false hya
            generalize cmpI a y = s2 at *
            obtain ⟨c_by0, c_by1, f_by0, f_by1⟩ := reads2 r_by.out
            have l_by := r_by.out.lt
            go_wp2_with fail
            refine (CR.out _ _ _ _ hy.out).mono ?_
            rintro e w5 ⟨eh, el, rfl, hb, he⟩
            clear c_by0 c_by1 f_by0 f_by1 l_by
            replace r_a := Lib.hid (r_a.out.keep hb)
            replace r_b := Lib.hid (r_b.out.keep hb)
            replace r_res := Lib.hid (r_res.out.keep hb)
            replace r_by := Lib.hid (r_by.out.keep hb)
            replace BB := Lib.hid (below_next BB.out hb)
            clear hb
            obtain ⟨c_by0, c_by1, f_by0, f_by1⟩ := reads2 r_by.out
            have l_by := r_by.out.lt
            go_wp2_with fail
            clear c_by0 c_by1 f_by0 f_by1 l_by
            replace r_a := Lib.hid (r_a.out.far2 (p := w.heap.size + 3) (by omega) (.int .i64 eh) (.int .u64 el))
            replace r_b := Lib.hid (r_b.out.far2 (p := w.heap.size + 3) (by omega) (.int .i64 eh) (.int .u64 el))
            replace r_res := Lib.hid (r_res.out.far2 (p := w.heap.size + 3) (by omega) (.int .i64 eh) (.int .u64 el))
            replace r_by := Lib.hid (r_by.out.set2 (.int .i64 eh) (.int .u64 el))
            replace BB := Lib.hid (below_far2 BB.out (p := w.heap.size + 3) (by omega) (.int .i64 eh) (.int .u64 el))
            generalize ((w5.setCell ⟨w.heap.size + 3, 0, none⟩ (.int .i64 eh)).setCell ⟨w.heap.size + 3, 1, none⟩ (.int .u64 el)) = w6 at *
            go_roundw
            case rel => exact ⟨y / 2, a, ⟨⟨_, _, r_by.out, he⟩, ⟨_, _, r_a.out, hx.out⟩, HH.out.keep hmb.1 hyb (by omega), r_b.out, r_res.out, BB.out⟩⟩
            case measure => rw [hv.out, wVal_at r_by.out he]; simp only [Int.reducePow]; omega
        · have d1 : decide (cmpI y b ≥ 0) = false := by rw [cmpI_ge0]; exact decide_eq_false hyb
          generalize cmpI y b = s1 at *
          have hE := HH.out.done hmb.1 (by omega)
          rw [hE] at hx
          obtain ⟨c_a0, c_a1, f_a0, f_a1⟩ := reads2 r_a.out
          have l_a := r_a.out.lt
          obtain ⟨c_res0, c_res1, f_res0, f_res1⟩ := reads2 r_res.out
          have l_res := r_res.out.lt
          go_wp2_with fail
          exact bodyPost_ret (v := wv xh xl) (by unfold results; simp only [Try.results127]; go_simp) rfl (give_w_res rfl (below_set2 BB.out (by omega) _ _) hx.out)
end Go.Proofs.Ythdbchghhpoadaa
