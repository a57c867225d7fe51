/- Parts of the proof: Put Put1 Bw0 Bw1 Bw2 Cod2 Cod3 Rk Sam Rkd Ro. -/
import Derived.Test.YtikpobembcgbfaaGreatDoorQ23
import Derived.Test.YtikpobembcgbfaaGreatDoorQ20
import Derived.Test.YtikpobembcgbfaaGreatDoorQ14
import Derived.Deep.AppendLies
import Derived.Lib.SlBytesConst
set_option linter.unusedVariables false
set_option linter.unusedSimpArgs false
set_option maxRecDepth 100000
set_option maxHeartbeats 40000000
namespace Go.Proofs.YtikpobembcgbfaaGreatDoor
open Go.RowKit Go.Lib
/-- The bytes of a head of which j numbers are there. -/
def putH (v : Nat → Nat) : Nat → List UInt8
 | 0 => [66, 77]
 | j + 1 => putH v j ++ putB (fw j) (v j)
theorem putH_len (v : Nat → Nat) : ∀ j, (putH v j).length ≤ 2 + 4 * j
 | 0 => by simp [putH]
 | j + 1 => by
   have h1 := putH_len v j
   have h2 : fw j ≤ 4 := by
    by_cases hj : j < 14
    · exact (fo_step j hj).2.2.1
    · have : fw j = 0 := by unfold fw; simp [List.getD, List.getElem?_eq_none (show [4, 4, 4, 4, 4, 4, 2, 2, 4, 4, 4, 4, 4, 4].length ≤ j by simp; omega)]
      omega
   simp only [putH, List.length_append, putB_len]
   omega
theorem putB_take : ∀ (n k x : Nat), k < n → (putB n x).take (k + 1) = (putB n x).take k ++ [UInt8.ofNat (x / 256 ^ k % 256)]
 | 0, k, x, h => by omega
 | n + 1, 0, x, h => by simp [putB]
 | n + 1, k + 1, x, h => by
   have ih := putB_take n k (x / 256) (by omega)
   simp only [putB, List.take_succ_cons, List.cons_append]
   rw [ih, Nat.pow_succ, Nat.mul_comm (256 ^ k), Nat.div_div_eq_div_mul]
theorem fw_room (v : Nat → Nat) (j : Nat) (hj : j < 14) : (hdV v 14)[j]? = some (.int .u32 (v j : Int)) := by
 match j, hj with
 | 0, _ => rfl | 1, _ => rfl | 2, _ => rfl | 3, _ => rfl | 4, _ => rfl | 5, _ => rfl | 6, _ => rfl
 | 7, _ => rfl | 8, _ => rfl | 9, _ => rfl | 10, _ => rfl | 11, _ => rfl | 12, _ => rfl | 13, _ => rfl
/-- A row of bytes that the call itself makes: its own, or the marked row of '[]byte("BM")'. -/
def RW (w : World) (base : Nat) (u : Value) (L : List UInt8) : Prop := w.ownsRow base U8T 1 u L.length (uV L) ∨
 ∃ b, base ≤ b ∧ u = .slice (some ⟨b, 0, none⟩) 2 2 ∧ L = [66, 77] ∧ b < w.heap.size ∧ w.cell? ⟨b, 0, none⟩ = some (.int .u8 66) ∧ w.cell? ⟨b, 1, none⟩ = some (.int .u8 77)
theorem RW.below {w w1 : World} {base : Nat} {u : Value} {L : List UInt8} (h : RW w base u L) (hb : Below w.heap.size w w1) : RW w1 base u L := by
 rcases h with h | ⟨b, h1, h2, h3, h4, h5, h6⟩
 · exact .inl (own_below h hb)
 · exact .inr ⟨b, h1, h2, h3, Nat.lt_of_lt_of_le h4 hb.size, by rw [hb.cell (p := ⟨b, 0, none⟩) h4]; exact h5, by rw [hb.cell (p := ⟨b, 1, none⟩) h4]; exact h6⟩
theorem RW.ge {w : World} {base : Nat} {u : Value} {L : List UInt8} (h : RW w base u L) : ∀ k, u.ownBlock = some k → base ≤ k ∧ k < w.heap.size := by
 rcases h with h | ⟨b, h1, rfl, h3, h4, -⟩
 · exact h.lt
 · intro k hk; cases hk; exact ⟨h1, h4⟩
theorem app_one (wr : World) (base : Nat) (u : Value) (L : List UInt8) (c : UInt8) (hR : RW wr base u L) (hl : L.length ≤ 100000000) (hbase : base ≤ wr.heap.size) :
 ∃ g cap w', (∀ ty, (Builtin.append_ #[BLT, BLT] ty #[u, .slice (some ⟨wr.heap.size, 0, none⟩) 1 1]).run Tryz.prog (wr.alloc (.cells #[.int .u8 (c.toNat : Int)] U8T)) = .ok (.slice (some ⟨g, 0, none⟩) (L.length + 1) cap) w') ∧
   RW w' base (.slice (some ⟨g, 0, none⟩) (L.length + 1) cap) (L ++ [c]) ∧ (wr.alloc (.cells #[.int .u8 (c.toNat : Int)] U8T)).grownBy w' u.ownBlock ∧ (u.ownBlock = some g ∨ wr.heap.size ≤ g) := by
 obtain ⟨i0, hi0, hz0, hz1, hz2⟩ := info_parts info_u8
 have hnew : ∀ j v, (uV [c])[j]? = some v → (wr.alloc (.cells #[.int .u8 (c.toNat : Int)] U8T)).cell? ((⟨wr.heap.size, 0, none⟩ : Addr).add j) = some v := one_new_at wr _ _ rfl
 have huv : uV (L ++ [c]) = uV L ++ uV [c] := by simp [uV]
 rcases hR with h | ⟨b, h1, rfl, rfl, h4, h5, h6⟩
 · obtain ⟨g, cap, w', hr, hown, hgr, hat, -⟩ := run_append_lies (P := Tryz.prog) (wr.alloc (.cells #[.int .u8 (c.toNat : Int)] U8T)) BLT BLT base U8T i0 (.int .u8 0) 1 1 Tryz.underlying22 hi0 hz0 hz1 hz2 rfl (by decide) u L.length (uV L) (h.alloc _) ⟨wr.heap.size, 0, none⟩ 1 1 (uV [c]) rfl hnew (uV_one [c]) (by decide) (by unfold maxLen; omega) (by omega) (by simp; omega) _ rfl
   refine ⟨g, cap, w', fun ty => hr, .inl ?_, hgr, hat.elim .inl (fun e => .inr (by rw [e]; simp))⟩
   rw [huv, List.length_append]
   exact hown
 · obtain ⟨v', w', hr, hown, hgr⟩ := run_append_arg_grows (P := Tryz.prog) (wr.alloc (.cells #[.int .u8 (c.toNat : Int)] U8T)) BLT BLT U8T i0 (.int .u8 0) 1 1 Tryz.underlying22 hi0 hz0 hz1 hz2 rfl (by decide) ⟨b, 0, none⟩ 2 2 (uV [66, 77]) rfl (fun j v hj => by
    have hjl : j < 2 := (List.getElem?_eq_some_iff.1 hj).1
    rw [addr_add, Nat.zero_add]
    match j, hjl with
    | 0, _ => cases hj; exact Lib.cell?_alloc_some _ h5
    | 1, _ => cases hj; exact Lib.cell?_alloc_some _ h6) ⟨wr.heap.size, 0, none⟩ 1 1 (uV [c]) rfl hnew (by decide) (by decide) (by decide)
   obtain ⟨g, cap, rfl, hge, hlt⟩ := hown.form (by decide)
   have hge2 : wr.heap.size ≤ g := by simp at hge; omega
   refine ⟨g, cap, w', fun ty => hr, .inl ?_, ⟨hgr.os, hgr.tape, hgr.output, hgr.size, fun k hk _ => hgr.block k hk (by simp)⟩, .inr hge2⟩
   rw [huv, List.length_append]
   exact own_base hown (by simp; omega)
/-- The world behind '[]byte("BM")'. -/
def bmW (w : World) : World := w.alloc (.cells #[.int .u8 66, .int .u8 77] U8T (2, 3))
theorem bm_run (w : World) : (convert BLT BLT (.slice (some ⟨w.heap.size, 0, none⟩) 2 2)).run Tryz.prog (w.alloc (.cells #[.int .u8 66, .int .u8 77] U8T)) = .ok (.slice (some ⟨w.heap.size, 0, none⟩) 2 2) (bmW w) :=
 Lib.run_convert_bytes_const w BLT U8T #[.int .u8 66, .int .u8 77] 2 2 Tryz.underlying22 Tryz.underlying5
theorem bm_facts (w : World) (v : Nat → Nat) : Below w.heap.size w (bmW w) ∧ RW (bmW w) w.heap.size (.slice (some ⟨w.heap.size, 0, none⟩) 2 2) (putH v 0) ∧ w.heap.size < (bmW w).heap.size := by
 have hh : (bmW w).heap[w.heap.size]? = some (.cells #[.int .u8 66, .int .u8 77] U8T (2, 3)) := heap_alloc_new w _
 have hlt : w.heap.size < (bmW w).heap.size := heap_lt hh
 refine ⟨below_new (Below.refl _ w) _, .inr ⟨w.heap.size, Nat.le_refl _, rfl, rfl, hlt, ?_, ?_⟩, hlt⟩
 · simp only [World.cell?, hh]; rfl
 · simp only [World.cell?, hh]; rfl
theorem AtB.grow {wr w1 : World} {x : Nat} {cs : Array Value} {T : TypeId} {o : Obj} {u : Value} (h : AtB wr x cs T) (hne : u.ownBlock ≠ some x) (hg : (wr.alloc o).grownBy w1 u.ownBlock) : AtB w1 x cs T :=
 (hg.block _ (h.alloc o).lt (fun e => hne e.symm)).trans (h.alloc o)
theorem byte_of (x k : Nat) : ((UInt8.ofNat (x / 256 ^ k % 256)).toNat : Int) = (x : Int) / 2 ^ (8 * k) % 256 := by
 rw [byte256]
 have : (2 : Int) ^ (8 * k) = ((256 ^ k : Nat) : Int) := by rw [Int.pow_mul, Int.natCast_pow]; rfl
 rw [this]
 omega
theorem bput (h : Nat) (v : Nat → Nat) (hv : ∀ i, v i < 4294967296) (w : World) (H : AtB w h (hdV v 14) HT) : Calls Tryz.prog 365 #[.pointer (some ⟨h, 0, none⟩)] w (GiveOwn (putH v 14) w) := by
 have hw := Lib.hid H.lt
 replace hv := Lib.hid hv
 have CV := bm_run w
 obtain ⟨BB, hown, hz⟩ := bm_facts w v
 have hh := Lib.hid (H.keep BB)
 clear H
 replace BB := Lib.hid BB
 replace hown := Lib.hid hown
 replace hz := Lib.hid hz
 go_enter Tryz.func365, Tryz.ntmps365
 go_upto_region 2 with fail
 clear CV
 generalize bmW w = w0 at *
 have CF := Lib.hid (bfields h w0)
 go_wp2_with fail
 refine CF.out.mono ?_
 rintro e w1 ⟨fb, rfl, hb, hfb, hF⟩
 have hfb := Lib.hid (show w.heap.size < fb from Nat.lt_of_lt_of_le hz.out hfb)
 replace hown := Lib.hid (hown.out.below hb)
 replace hh := Lib.hid (hh.out.keep hb)
 replace BB := Lib.hid (below_next BB.out hb)
 replace hF := Lib.hid hF
 clear hb CF hz
 go_wp2_with fail
 go_loopw [12, 3] (fun i u wr => ∃ j : Nat, j ≤ 14 ∧ i = .int .i64 (j : Int) ∧ Hid (RW wr w.heap.size u (putH v j) ∧ u.ownBlock ≠ some fb ∧ AtB wr h (hdV v 14) HT ∧ AtB wr fb (fCells h) FT ∧ Below w.heap.size w wr)) (fun i _ _ => 14 - (RowKit.intOf i).toNat)
 case atStart => exact ⟨0, Nat.zero_le _, rfl, hown.out, by intro e; cases e; exact absurd hfb.out (Nat.lt_irrefl _), hh.out, hF.out, BB.out⟩
 case round =>
  clear hown hh hF BB
  obtain ⟨j, hj, rfl, hI⟩ := hrel
  by_cases hlt : j < 14
  · obtain ⟨hown, hne, hh, hF, BB⟩ := hI.out
    obtain ⟨a1, a2⟩ := fCells_at h j hlt
    have cA := hF.cell (j * 2) a1
    have cB := hF.cell (j * 2 + 1) a2
    have lF := hF.lt
    obtain ⟨f1, f2, f3, f4⟩ := fo_step j hlt
    have hxv := hv.out j
    have hlen := putH_len v j
    have q0 : (0 : Int) ≤ (j : Int) := by omega
    have q1 : (j : Int) < 14 := by omega
    have ew : IntKind.i64.wrap ((j : Int) + 1) = ((j + 1 : Nat) : Int) := by rw [show (j : Int) + 1 = ((j + 1 : Nat) : Int) by omega]; exact iw ⟨by omega, by omega⟩
    have hj2 := Lib.hid (show j + 1 ≤ 14 by omega)
    have hlen2 := Lib.hid (show (putH v j).length ≤ 60 by omega)
    have hput : Hid (putH v (j + 1) = putH v j ++ putB (fw j) (v j)) := rfl
    have hcv := fw_room v j hlt
    replace hcv := Lib.hid hcv
    have hnf := Lib.hid (show ∀ k, u3.ownBlock = some k → k ≠ wr.heap.size from fun k e => by have := (hown.ge k e).2; omega)
    have hbz := Lib.hid (show w.heap.size ≤ wr.heap.size from BB.size)
    have hhz := Lib.hid (show h ≠ wr.heap.size ∧ fb ≠ wr.heap.size from ⟨by have := hh.lt; omega, by have := hF.lt; omega⟩)
    obtain ⟨hb, rf⟩ := laid wr #[.pointer (some ⟨h, j, none⟩), .int .i64 (fw j : Int)] FT
    replace hown := Lib.hid (hown.below hb)
    replace hne := Lib.hid hne
    replace hh := Lib.hid (hh.keep hb)
    replace hF := Lib.hid (hF.keep hb)
    replace BB := Lib.hid (below_next BB hb)
    replace rf := Lib.hid rf
    replace f2 := Lib.hid f2
    replace f3 := Lib.hid f3
    clear hI a1 a2 f1 f4 hj hlt hlen hb
    obtain ⟨L, hL⟩ : ∃ L, L = putH v j := ⟨_, rfl⟩
    rw [← hL] at hown hlen2 hput
    replace hL := Lib.hid hL
    generalize fw j = n at *
    generalize v j = x at *
    go_upto_region 5 with fail
    clear cA cB lF
    generalize wr.alloc (.cells #[.pointer (some ⟨h, j, none⟩), .int .i64 (n : Int)] FT) = wf at *
    generalize wr.heap.size = fa at *
    obtain ⟨cf0, cf1⟩ := cells2 rf.out
    have lf := rf.out.lt
    go_wp2_with fail
    clear cf0 cf1 lf
    go_loopw [18, 3] (fun i u wr => ∃ k : Nat, k ≤ n ∧ i = .int .i64 (k : Int) ∧ Hid (RW wr w.heap.size u (L ++ (putB n x).take k) ∧ u.ownBlock ≠ some fb ∧ u.ownBlock ≠ some fa ∧ AtB wr h (hdV v 14) HT ∧ AtB wr fb (fCells h) FT ∧ AtB wr fa #[.pointer (some ⟨h, j, none⟩), .int .i64 (n : Int)] FT ∧ Below w.heap.size w wr)) (fun i _ _ => n - (RowKit.intOf i).toNat)
    case atStart => exact ⟨0, Nat.zero_le _, rfl, by rw [List.take_zero, List.append_nil]; exact hown.out, hne.out, fun e => hnf.out _ e rfl, hh.out, hF.out, rf.out, BB.out⟩
    case round =>
     clear hown hne hh hF rf BB hnf
     obtain ⟨k, hk, rfl, hI⟩ := hrel
     by_cases hlt : k < n
     · obtain ⟨hown, hne, hna, hh, hF, rf, BB⟩ := hI.out
       obtain ⟨cf0, cf1⟩ := cells2 rf
       have lf := rf.lt
       have ch := hh.cell j hcv.out
       have lh := hh.lt
       have hn4 := f3.out
       have hk4 : k < 4 := by omega
       have q2 : (k : Int) < (n : Int) := by omega
       replace hlt := Lib.hid hlt
       clear hn4
       have hL60 := hlen2.out
       have hLk : (L ++ (putB n x).take k).length ≤ 100000000 := by
        rw [List.length_append, List.length_take]; omega
       obtain ⟨g, cap, w', hr, hRW, hgr, hat⟩ := app_one wr w.heap.size _ _ (UInt8.ofNat (x / 256 ^ k % 256)) hown hLk BB.size
       rw [byte_of] at hr hgr
       have hge := fun b e => (hown.ge b e).1
       have hnb : (Value.slice (some ⟨g, 0, none⟩) ((L ++ (putB n x).take k).length + 1) cap).ownBlock ≠ some fb := by
        intro e
        have eg : g = fb := by cases e; rfl
        subst eg
        exact hat.elim (fun e => hne e) (fun e => by have := hF.lt; omega)
       have hna2 : (Value.slice (some ⟨g, 0, none⟩) ((L ++ (putB n x).take k).length + 1) cap).ownBlock ≠ some fa := by
        intro e
        have eg : g = fa := by cases e; rfl
        subst eg
        exact hat.elim (fun e => hna e) (fun e => by have := rf.lt; omega)
       generalize (L ++ (putB n x).take k).length + 1 = N at hr hRW hnb hna2
       have hnh : u3.ownBlock ≠ some h := fun e => absurd (hge h e) (Nat.not_le.2 hw.out)
       have BB2 := Lib.hid ((below_new BB (.cells #[.int .u8 ((x : Int) / 2 ^ (8 * k) % 256)] U8T)).grown hgr (by have := BB.size; simp; omega) hge)
       have hh2 := Lib.hid (hh.grow hnh hgr)
       have hF2 := Lib.hid (hF.grow hne hgr)
       have rf2 := Lib.hid (rf.grow hna hgr)
       rw [List.append_assoc, ← putB_take n k x hlt.out] at hRW
       have hRW := Lib.hid hRW
       have hnb := Lib.hid hnb
       have hna2 := Lib.hid hna2
       have ek : IntKind.i64.wrap ((k : Int) + 1) = ((k + 1 : Nat) : Int) := by rw [show (k : Int) + 1 = ((k + 1 : Nat) : Int) by omega]; exact iw ⟨by omega, by omega⟩
       replace hr := Lib.hid hr
       have q3 : (0 : Int) ≤ (k : Int) := by omega
       clear hI hown hne hna hh hF rf BB hgr hat hge hnh hL60 hLk
       go_wp2_with (first | (at_builtin; refine wpList_app_run rfl (.tmp 21) (.tmp 31) BLT rfl rfl rfl hr.out ?_))
       go_roundw
       case rel => exact ⟨k + 1, hlt.out, by go_num, hRW.out, hnb.out, hna2.out, hh2.out, hF2.out, rf2.out, BB2.out⟩
       case measure => have := hlt.out; simp [RowKit.intOf, ek]; omega
     · obtain rfl : k = n := by omega
       obtain ⟨hown, hne, hna, hh, hF, rf, BB⟩ := hI.out
       obtain ⟨cf0, cf1⟩ := cells2 rf
       have lf := rf.lt
       rw [List.take_of_length_le (by rw [putB_len]; exact Nat.le_refl _), ← hput.out] at hown
       replace hown := Lib.hid hown
       replace hne := Lib.hid hne
       replace hh := Lib.hid hh
       replace hF := Lib.hid hF
       replace BB := Lib.hid BB
       clear hI hna rf hlt
       go_wp2_with fail
       go_roundw
       case rel => exact ⟨j + 1, hj2.out, by go_num, hown.out, hne.out, hh.out, hF.out, BB.out⟩
       case measure => have := hj2.out; simp [RowKit.intOf, ew]; omega
  · obtain rfl : j = 14 := by omega
    obtain ⟨hown, hne, hh, hF, BB⟩ := hI.out
    have hO : wr.ownsRow w.heap.size U8T 1 u3 (putH v 14).length (uV (putH v 14)) := by
     rcases hown with h | ⟨b, -, -, h3, -⟩
     · exact h
     · exact absurd (congrArg List.length h3) (by simp [putH, putB_len, fw])
    replace hO := Lib.hid hO
    replace BB := Lib.hid BB
    clear hI hown hne hh hF hlt hj
    go_wp2_with fail
    go_ret
    exact ⟨_, rfl, BB.out, hO.out⟩
/-- A head's numbers, where an image is written. -/
def hwV (W H C : Nat) : Nat → Nat := fun i => [54 + strideN W C * H, 0, 54, 40, W, H, 1, 8 * C, 0, 0, 0, 0, 0, 0].getD i 0
theorem putH_hd (W H C : Nat) : putH (hwV W H C) 14 = bmpHd W H C := rfl
theorem bturn_own (base N z : Nat) (hz : z = 3 ∨ z = 4) (hN : N ≤ 100000) (v : Value) (l : List UInt8) (hl : l.length = N * z) (w : World) (ho : w.ownsRow base U8T 1 v (N * z) (uV l)) (hb : 0 < N * z) :
 Calls Tryz.prog 259 #[v, .int .i64 (z : Int)] w fun e w' => e = .returned (.tuple #[]) ∧ (∃ b, base ≤ b ∧ Onl b w w') ∧ w'.ownsRow base U8T 1 v (N * z) (uV (turnL z l)) := by
 rcases ho.2 with ⟨-, h0⟩ | ⟨g, cap, cur, rfl, hbg, hh, hc, hm, hs, ht⟩
 · omega
 · rw [Nat.mul_one] at ht
   have hcur : cur = midB [] l (cur.toList.drop (N * z)) := by
    unfold midB
    rw [List.nil_append, ← ht, List.take_append_drop]
   have H : AtB w g (midB [] l (cur.toList.drop (N * z))) U8T := by rw [← hcur]; exact hh
   refine (bturnZ g 0 cap N z hz [] _ rfl l hl hN hc w H).mono ?_
   rintro e w' ⟨rfl, hO, hA⟩
   refine ⟨rfl, ⟨g, hbg, hO⟩, by rw [uV_len, turnL_len, hl, Nat.mul_one], .inr ⟨g, cap, _, rfl, hbg, hA, hc, hm, ?_, ?_⟩⟩
   · rw [← hs, hcur]
     unfold midB
     simp [uV_len, turnL_len]
     omega
   · unfold midB
     rw [List.nil_append, Nat.mul_one, ← hl, ← turnL_len z l, ← uV_len (turnL z l), List.toList_toArray, List.take_left]
/-- Bytes appended onto a row of the call's own: what comes of it, whichever way. -/
theorem app_row (w : World) (base : Nat) (u : Value) (L : List UInt8) (hO : w.ownsRow base U8T 1 u L.length (uV L)) (ad : Addr) (m c : Nat) (p : List UInt8) (hp : p.length = m) (hc : ∀ j x, (uV p)[j]? = some x → w.cell? (ad.add j) = some x) (hl : L.length + m ≤ 100000000) (hbase : base ≤ w.heap.size) :
 ∃ v' w', (∀ ty, (Builtin.append_ #[BLT, BLT] ty #[u, .slice (some ad) m c]).run Tryz.prog w = .ok v' w') ∧ w'.ownsRow base U8T 1 v' (L ++ p).length (uV (L ++ p)) ∧ w.grownBy w' u.ownBlock ∧ (v'.ownBlock = u.ownBlock ∨ v'.ownBlock = some w.heap.size) := by
 obtain ⟨i0, hi0, hz0, hz1, hz2⟩ := info_parts info_u8
 obtain ⟨v', w', hr, h2, h3, -, h5⟩ := run_append_own_at (P := Tryz.prog) w base BLT BLT U8T i0 (.int .u8 0) 1 1 Tryz.underlying22 hi0 hz0 hz1 hz2 rfl (by decide) u L.length (uV L) hO ad m c (uV p) (by rw [uV_len, hp, Nat.mul_one]) hc (uV_one p) (by unfold maxLen; omega) (by omega) hbase
 refine ⟨v', w', fun ty => hr, ?_, h3, h5⟩
 rw [uV_app, List.length_append, hp]
 exact h2
theorem AtB.grow1 {w w1 : World} {x : Nat} {cs : Array Value} {T : TypeId} {u : Value} (h : AtB w x cs T) (hne : u.ownBlock ≠ some x) (hg : w.grownBy w1 u.ownBlock) : AtB w1 x cs T :=
 (hg.block _ h.lt (fun e => hne e.symm)).trans h
theorem bwrite_q (W H C n s d t q st : Nat) (p hd : List UInt8) (A : Option Addr) (cap : Nat) (w : World) (hic : imC W H C n = 0) (hp : BY w (.slice A n cap) p) (hC1 : ((C : Int) == 1) = false)
 (e1 : IntKind.u32.wrap (s : Int) = (s : Int)) (e2 : IntKind.u32.wrap (W : Int) = (W : Int)) (e3 : IntKind.u32.wrap (H : Int) = (H : Int)) (e4 : IntKind.i64.wrap (8 * (C : Int)) = (q : Int)) (e5 : IntKind.u32.wrap (q : Int) = (q : Int))
 (e6 : IntKind.i64.wrap ((W : Int) * (C : Int)) = (t : Int)) (e7 : IntKind.i64.wrap ((st : Int) - (t : Int)) = (d : Int)) (e8 : IntKind.i64.wrap ((H : Int) - 1) = (H : Int) - 1) (hd4 : d ≤ 100) (ht0 : Hid (0 < t)) (hC : Hid (C = 3 ∨ C = 4)) (htW : Hid (t = W * C)) (hWs : Hid (W ≤ 100000)) (hHs : Hid (H ≤ 32768))
 (SZ : Hid (∀ w1, Calls Tryz.prog 364 #[.int .i64 (W : Int), .int .i64 (H : Int), .int .i64 (C : Int)] w1 fun e w' => e = .returned (.int .i64 (s : Int)) ∧ Below w1.heap.size w1 w'))
 (ST : Hid (∀ w1, Calls Tryz.prog 256 #[.int .i64 (W : Int), .int .i64 (C : Int)] w1 fun e w' => e = .returned (.int .i64 (st : Int)) ∧ Below w1.heap.size w1 w'))
 (PUT : Hid (∀ h w1, AtB w1 h #[.int .u32 (s : Int), .int .u32 0, .int .u32 54, .int .u32 40, .int .u32 (W : Int), .int .u32 (H : Int), .int .u32 1, .int .u32 (q : Int), .int .u32 0, .int .u32 0, .int .u32 0, .int .u32 0, .int .u32 0, .int .u32 0] HT → Calls Tryz.prog 365 #[.pointer (some ⟨h, 0, none⟩)] w1 (GiveOwn hd w1)))
 (row : Nat → List UInt8) (hrow : Hid (∀ y, y < H → (row y).length = t))
 (IR : Hid (∀ y w1, y < H → Below w.heap.size w w1 → Calls Tryz.prog 366 #[imv W H C (.slice A n cap), .int .i64 (y : Int)] w1 (GiveOwn (row y) w1)))
 (out : Nat → List UInt8) (ho0 : Hid (out 0 = hd)) (hoS : Hid (∀ k z, z + 1 + k = H → out (k + 1) = (out k ++ turnL C (row z)) ++ List.replicate d 0)) (hol : Hid (∀ k, k ≤ H → (out k).length ≤ 90000000)) (htl : Hid (t ≤ 1000000)) :
 Calls Tryz.prog 281 #[imv W H C (.slice A n cap)] w (GiveWr (out H) w) := by
 have hCK := icheck W H C A n cap
 rw [hic] at hCK
 replace hCK := Hi hCK
 replace hp := Hi hp
 have MK := mk_bytes d (by omega)
 clear hic
 go_enter Tryz.func281, Tryz.ntmps281
 go_upto_region 1 with fail
 obtain ⟨w0, e, BB, q1⟩ := en1 w #[.int .i64 W, .int .i64 H, .int .i64 C, .slice A n cap] IT
 rw [e]; clear e
 obtain ⟨q2, q3, q4, q5, q8, q9, qa, qb⟩ := reads4 q1.out
 have q6 := q1.out.lt
 go_wp2_with fail
 refine (hCK.out _).mono ?_
 rintro e w1 ⟨rfl, hb⟩
 clear q2 q3 q4 q5 q8 q9 qa qb q6
 replace q1 := kp q1 hb
 replace BB := nx BB hb
 clear hb
 obtain ⟨q2, q3, q4, q5, q8, q9, qa, qb⟩ := reads4 q1.out
 have q6 := q1.out.lt
 go_wp2_with fail
 clear q2 q3 q4 q5 q8 q9 qa qb q6
 have KK := Hi fun w9 (h : Below w1.heap.size w1 w9) => cells4 (q1.out.keep h)
 have KD := kd KK
 refine g_bg KK 19 ?_
 refine g_tk 0 ?_
 refine g_tk 1 ?_
 refine g_tk 2 ?_
 refine g_tk 3 ?_
 refine g_tk 4 ?_
 refine g_tk 5 ?_
 refine g_tk 8 ?_
 refine g_tk 9 ?_
 refine g_tk 10 ?_
 refine g_tk 11 ?_
 refine g_tk 12 ?_
 refine g_tk 13 ?_
 refine g_tk 14 ?_
 refine g_tk 15 ?_
 refine g_tk 16 ?_
 refine g_tk 17 ?_
 refine g_sc 6 (fun K hK => ?_)
 go_simp
 go_at_call 364
 refine (SZ.out _).mono ?_
 rintro e w2 ⟨rfl, hb⟩
 have qc := rn (w0 := w1) hb
 have qf := KK.out _ qc.out
 clear hb
 refine hK.out _ _ (fun _ => qf) (fun hHeld => ?_)
 replace hHeld := hHeld (by decide)
 clear hK
 refine g_pt ?_
 refine g_tk 7 ?_
 refine g_tk 18 ?_
 refine g_ts 19 ?_
 refine g_ts 20 ?_
 refine g_dn ?_
 clear KK KD qf
 replace q1 := kp q1 qc.out
 replace BB := nx BB qc.out
 clear qc
 have qh := Hi (And.intro BB.out.size (And.intro q1.out.lt (True.intro)))
 obtain ⟨w3, g_h, e1, e2, hb, qd⟩ := bx w2 #[.int .u32 ↑s, .int .u32 0, .int .u32 54, .int .u32 40, .int .u32 ↑W, .int .u32 ↑H, .int .u32 1, .int .u32 ↑q, .int .u32 0, .int .u32 0, .int .u32 0, .int .u32 0, .int .u32 0, .int .u32 0] HT
 rw [e2] at qh; rw [e1, e2]
 replace q1 := kp q1 hb
 replace BB := nx BB hb
 clear hb e1 e2
 have PU := Hi (PUT.out _ _ qd.out)
 have hB0 := Hi (show w.heap.size < w3.heap.size from q1.out.lt)
 obtain ⟨B0, hBe⟩ : ∃ B, B = w3.heap.size := ⟨_, rfl⟩
 rw [← hBe] at hB0
 have hBc := Hi (show B0 ≤ w3.heap.size from by rw [hBe]; exact Nat.le_refl _)
 replace hBe := Hi hBe
 clear SZ PUT
 go_wp2_with fail
 refine (PU.out).mono ?_
 rintro e w4 ⟨u, rfl, hb, hO⟩
 replace q1 := kp q1 hb
 replace qd := kp qd hb
 replace hBc := Hi (le_below hBc.out hb)
 replace BB := nx BB hb
 clear hb
 clear PU
 rw [← hBe.out] at hO
 clear hBe
 replace hO := Hi hO
 clear qd
 go_wp2_with fail
 have KK := Hi fun w9 (h : Below w4.heap.size w4 w9) => cells4 (q1.out.keep h)
 have KD := kd KK
 refine g_bg KK 11 ?_
 refine g_tk 0 ?_
 refine g_tk 1 ?_
 refine g_tk 2 ?_
 refine g_tk 3 ?_
 refine g_tk 5 ?_
 refine g_tk 6 ?_
 refine g_tk 7 ?_
 refine g_tk 8 ?_
 refine g_tk 9 ?_
 refine g_sc 4 (fun K hK => ?_)
 go_simp
 go_at_call 256
 refine (ST.out _).mono ?_
 rintro e w5 ⟨rfl, hb⟩
 have q7 := rn (w0 := w4) hb
 have qg := KK.out _ q7.out
 clear hb
 refine hK.out _ _ (fun _ => qg) (fun hHeld => ?_)
 replace hHeld := hHeld (by decide)
 clear hK
 refine g_pt ?_
 refine g_tk 10 ?_
 refine g_ts 11 ?_
 refine g_ts 12 ?_
 refine g_dn ?_
 clear KK KD qg
 replace q1 := kp q1 q7.out
 replace hBc := Hi (le_below hBc.out q7.out)
 replace hO := Hi (own_below hO.out q7.out)
 replace BB := nx BB q7.out
 clear q7
 have hgz := Hi (show ∀ k, u.ownBlock = some k → k < w5.heap.size from fun k e => (hO.out.lt k e).2)
 have d_z := Hi (And.intro BB.out.size (And.intro q1.out.lt (True.intro)))
 obtain ⟨hb, qe⟩ := laid w5 (Array.replicate d (Value.int .u8 0)) U8T
 replace q1 := kp q1 hb
 replace hBc := Hi (le_below hBc.out hb)
 replace hO := Hi (own_below hO.out hb)
 replace BB := nx BB hb
 replace qe := Hi qe
 clear hb
 generalize w5.alloc (.cells (Array.replicate d (Value.int .u8 0)) U8T) = w6 at *
 generalize w5.heap.size = g_z at *
 clear MK ST
 obtain ⟨q2, q3, q4, q5, q8, q9, qa, qb⟩ := reads4 q1.out
 have q6 := q1.out.lt
 go_wp2_with fail
 clear q2 q3 q4 q5 q8 q9 qa qb q6
 go_loopw [8, 6] (fun y u wr => ∃ z k : Nat, z + k = H ∧ y = .int .i64 ((z : Int) - 1) ∧ Hid (wr.ownsRow B0 U8T 1 u (out k).length (uV (out k)) ∧ u.ownBlock ≠ some g_z ∧ AtB wr w.heap.size #[.int .i64 W, .int .i64 H, .int .i64 C, .slice A n cap] IT ∧ AtB wr g_z (Array.replicate d (Value.int .u8 0)) U8T ∧ Below w.heap.size w wr ∧ B0 ≤ wr.heap.size)) (fun y _ _ => (RowKit.intOf y + 1).toNat)
 case atStart => exact ⟨H, 0, rfl, rfl, by rw [ho0.out]; exact hO.out, fun e => absurd (hgz.out _ e) (Nat.lt_irrefl _), q1.out, qe.out, BB.out, hBc.out⟩
 case round =>
  clear hO q1 qe BB hgz hBc
  obtain ⟨z, k, hzk, rfl, hI⟩ := hrel
  obtain ⟨hO, hne, hm, hz, BB, hBc⟩ := hI.out
  clear hI
  cases z with
  | zero =>
    have hkH : k = H := by omega
    rw [hkH] at hO
    have hO := Hi (own_by hO)
    replace BB := Hi BB
    clear hne hm hz hBc hzk hkH
    go_wp2_with fail
    go_ret2
    exact ⟨_, rfl, BB.out, hO.out⟩
  | succ z =>
    have ez : ((z + 1 : Nat) : Int) - 1 = (z : Int) := by omega
    rw [ez]
    clear ez
    have hzH : z < H := by omega
    have q0 : (0 : Int) ≤ (z : Int) := by omega
    have ezn : IntKind.i64.wrap ((z : Int) - 1) = (z : Int) - 1 := iw ⟨by omega, by have := hHs.out; omega⟩
    have IR := Hi (IR.out z wr hzH BB)
    have hrl := Hi (hrow.out z hzH)
    have hS := Hi (hoS.out k z (by omega))
    have hl1 := Hi (hol.out k (by omega))
    have hzk' := Hi (show z + (k + 1) = H by omega)
    obtain ⟨rw_, hrw⟩ : ∃ r, r = row z := ⟨_, rfl⟩
    rw [← hrw] at IR hrl hS
    replace hrw := Hi hrw
    obtain ⟨q2, q3, q4, q5⟩ := cells4 hm
    have q6 := hm.lt
    replace hO := Hi hO
    replace hne := Hi hne
    replace hm := Hi hm
    replace hz := Hi hz
    replace BB := Hi BB
    replace hBc := Hi hBc
    replace hzH := Hi hzH
    replace hzk := Hi hzk
    go_wp2_with fail
    refine IR.out.mono ?_
    rintro e w11 ⟨v1, rfl, hb1, hR⟩
    clear IR q2 q3 q4 q5 q6
    rw [hrl.out] at hR
    have hTz := hC.out
    have BT := bturn_own wr.heap.size W C hC.out hWs.out v1 rw_ (by rw [hrl.out, htW.out]) w11 (by rw [← htW.out]; exact hR) (by rw [← htW.out]; exact ht0.out)
    rw [← htW.out] at BT
    replace BT := Hi BT
    obtain ⟨gv, cv, rfl, -, -⟩ := hR.form ht0.out
    obtain ⟨q2, q3, q4, q5⟩ := cells4 (hm.out.keep hb1)
    have q6 := (hm.out.keep hb1).lt
    replace hb1 := Hi hb1
    clear hR hTz
    go_wp2_with fail
    refine BT.out.mono ?_
    rintro e w12 ⟨rfl, ⟨b, hbge, hOn⟩, hR⟩
    have hbt : Below wr.heap.size wr w12 := below_onl hb1.out hbge hOn hb1.out.size
    clear BT q2 q3 q4 q5 q6 hb1 hOn hbge
    have hO2 := own_below hO.out hbt
    have hlr : (turnL C rw_).length = t := by rw [turnL_len, hrl.out]
    obtain ⟨v3, w13, hr1, hO3, hg1, ha1⟩ := app_row w12 B0 u6 (out k) hO2 ⟨gv, 0, none⟩ t cv (turnL C rw_) hlr (hR.cells rfl) (by have := hl1.out; have := htl.out; omega) (Nat.le_trans hBc.out hbt.size)
    have hz3 := (hz.out.keep hbt).grow1 hne.out hg1
    have hm2 := hm.out.keep hbt
    have hn1 : u6.ownBlock ≠ some w.heap.size := fun e => by have := (hO2.lt _ e).1; have := hB0.out; omega
    have hm3 := hm2.grow1 hn1 hg1
    have hn3 : v3.ownBlock ≠ some g_z := by
     rcases ha1 with e | e
     · rw [e]; exact hne.out
     · rw [e]; intro e2; cases e2; have := (hz.out.keep hbt).lt; omega
    have hzc : ∀ j x, (uV (List.replicate d 0))[j]? = some x → w13.cell? ((⟨g_z, 0, none⟩ : Addr).add j) = some x := by
     intro j x hx
     rw [addr_add, Nat.zero_add]
     refine hz3.cell j ?_
     rw [← hx]
     simp [uV, bv, Array.getElem?_replicate, List.getElem?_replicate]
    have hs1 : w12.heap.size ≤ w13.heap.size := hg1.size
    obtain ⟨v4, w14, hr2, hO4, hg2, ha2⟩ := app_row w13 B0 v3 (out k ++ turnL C rw_) hO3 ⟨g_z, 0, none⟩ d d (List.replicate d 0) (by simp) hzc (by rw [List.length_append, hlr]; have := hl1.out; have := htl.out; omega) (Nat.le_trans hBc.out (Nat.le_trans hbt.size hs1))
    have hn3m : v3.ownBlock ≠ some w.heap.size := fun e => by have := (hO3.lt _ e).1; have := hB0.out; omega
    have hm4 := Hi (hm3.grow1 hn3m hg2)
    have hz4 := Hi (hz3.grow1 hn3 hg2)
    have hn4 : v4.ownBlock ≠ some g_z := by
     rcases ha2 with e | e
     · rw [e]; exact hn3
     · rw [e]; intro e2; cases e2; have := hz3.lt; omega
    have hn4 := Hi hn4
    have BB4 := Hi (((below_next BB.out hbt).grown hg1 (Nat.le_trans BB.out.size hbt.size) (fun j e => by have := (hO2.lt _ e).1; have := hB0.out; omega)).grown hg2 (Nat.le_trans BB.out.size (Nat.le_trans hbt.size hs1)) (fun j e => by have := (hO3.lt _ e).1; have := hB0.out; omega))
    have hBc4 := Hi (Nat.le_trans hBc.out (Nat.le_trans hbt.size (Nat.le_trans hs1 hg2.size)))
    rw [← hS.out] at hO4
    replace hO4 := Hi hO4
    replace hr1 := Hi hr1
    replace hr2 := Hi hr2
    clear hO hne hm hz BB hBc hO2 hz3 hm2 hn1 hm3 hn3 hzc hs1 hn3m hO3 hg1 ha1 hg2 ha2 hbt hR
    go_wp2_with (first | (at_builtin; refine wpList_app_run rfl (.tmp 66) (.tmp 67) BLT rfl rfl rfl hr1.out ?_) | (at_builtin; refine wpList_app_run rfl (.tmp 68) (.tmp 69) BLT rfl rfl rfl hr2.out ?_))
    go_roundw
    case rel => exact ⟨z, k + 1, hzk'.out, rfl, hO4.out, hn4.out, hm4.out, hz4.out, BB4.out, hBc4.out⟩
    case measure => simp [RowKit.intOf, ezn] <;> omega
theorem u32w {z : Int} (h : 0 ≤ z ∧ z < 4294967296) : IntKind.u32.wrap z = z := by
 simp only [IntKind.wrap, IntKind.bits, IntKind.signed]
 simp
 omega
theorem bwrite (W H C : Nat) (p : List UInt8) (hi : Img W H C p) (hC : C = 3 ∨ C = 4) (v : Value) (w : World) (hp : BY w v p) : Calls Tryz.prog 281 #[imv W H C v] w (GiveWr (bmpW W H C p) w) := by
 have hi' := hi
 obtain ⟨h1, h2, h3, h4, h5⟩ := hi
 have hpl : p.length = H * (W * C) := by rw [h5, Nat.mul_comm W H, Nat.mul_assoc]
 have hge := stride_ge W C
 have hle := stride_le W C
 have hWC : W * C ≤ 131072 := Nat.le_trans (Nat.mul_le_mul h1.2 (show C ≤ 4 by omega)) (by decide)
 have hWC0 : 0 < W * C := Nat.mul_pos (by omega) (by omega)
 have hSH : strideN W C * H ≤ 16875520 := by
  have h6 : W * C ≤ W * 4 := Nat.mul_le_mul_left _ (by omega)
  have h7 : strideN W C * H ≤ (W * 4 + 3) * H := Nat.mul_le_mul_right _ (by omega)
  have h8 : (W * 4 + 3) * H = W * H * 4 + 3 * H := by rw [Nat.add_mul, Nat.mul_right_comm]
  omega
 have hlen : ∀ k, k ≤ H → (bmpHd W H C ++ rowsW W H C p k).length ≤ 90000000 := by
  intro k hk
  rw [List.length_append, bmpHd_len, rowsW_len hpl k hk]
  have := Nat.mul_le_mul_right (strideN W C) hk
  rw [Nat.mul_comm H] at this
  omega
 have SZ := fun w1 => bsize W H C _ _ h1 h2 h3 hC rfl rfl w1
 have ST := fun w1 => bstride W C h1 hC w1
 have IR := fun y w1 (hy : y < H) (hb : Below w.heap.size w w1) => irow W H C p hi' y hy v w1 (hp.below hb)
 have hic := img_code (W := W) (H := H) (C := C) (n := p.length) ⟨h1, h2, h3, h4, h5⟩
 obtain ⟨A, cap, rfl⟩ := hp.form
 have hrow : ∀ y, y < H → ((p.drop (y * (W * C))).take (W * C)).length = W * C := by
  intro y hy
  have := nat_mul3 (W := W) (C := C) hy
  rw [List.length_take, List.length_drop]
  omega
 have hoS : ∀ k z, z + 1 + k = H → bmpHd W H C ++ rowsW W H C p (k + 1) = ((bmpHd W H C ++ rowsW W H C p k) ++ turnL C ((p.drop (z * (W * C))).take (W * C))) ++ List.replicate (strideN W C - W * C) 0 := by
  intro k z hz
  show bmpHd W H C ++ (rowsW W H C p k ++ (turnL C ((p.drop ((H - 1 - k) * (W * C))).take (W * C)) ++ List.replicate (strideN W C - W * C) 0)) = _
  rw [show H - 1 - k = z by omega]
  simp only [List.append_assoc]
 have PUT : ∀ h w1, AtB w1 h #[.int .u32 ((54 + strideN W C * H : Nat) : Int), .int .u32 0, .int .u32 54, .int .u32 40, .int .u32 (W : Int), .int .u32 (H : Int), .int .u32 1, .int .u32 ((8 * C : Nat) : Int), .int .u32 0, .int .u32 0, .int .u32 0, .int .u32 0, .int .u32 0, .int .u32 0] HT →
  Calls Tryz.prog 365 #[.pointer (some ⟨h, 0, none⟩)] w1 (GiveOwn (bmpHd W H C) w1) := by
  intro h w1 hA
  rw [← putH_hd]
  refine bput h (hwV W H C) (fun i => ?_) w1 hA
  unfold hwV
  match i with
  | 0 => show 54 + strideN W C * H < _; omega
  | 1 => show (0 : Nat) < _; omega
  | 2 => show (54 : Nat) < _; omega
  | 3 => show (40 : Nat) < _; omega
  | 4 => show W < _; omega
  | 5 => show H < _; omega
  | 6 => show (1 : Nat) < _; omega
  | 7 => show 8 * C < _; omega
  | 8 => show (0 : Nat) < _; omega
  | 9 => show (0 : Nat) < _; omega
  | 10 => show (0 : Nat) < _; omega
  | 11 => show (0 : Nat) < _; omega
  | 12 => show (0 : Nat) < _; omega
  | 13 => show (0 : Nat) < _; omega
  | i + 14 => show ([] : List Nat).getD i 0 < _; simp
 have q1 : ((C : Int) == 1) = false := by rw [beq_eq_false_iff_ne]; omega
 have e4 : IntKind.i64.wrap (8 * (C : Int)) = ((8 * C : Nat) : Int) := by rw [show 8 * (C : Int) = ((8 * C : Nat) : Int) by omega]; exact iw ⟨by omega, by omega⟩
 have e6 : IntKind.i64.wrap ((W : Int) * (C : Int)) = ((W * C : Nat) : Int) := by rw [← Int.natCast_mul]; exact iw ⟨by omega, by omega⟩
 have e7 : IntKind.i64.wrap ((strideN W C : Int) - ((W * C : Nat) : Int)) = ((strideN W C - W * C : Nat) : Int) := by rw [show (strideN W C : Int) - ((W * C : Nat) : Int) = ((strideN W C - W * C : Nat) : Int) by omega]; exact iw ⟨by omega, by omega⟩
 have e8 : IntKind.i64.wrap ((H : Int) - 1) = (H : Int) - 1 := iw ⟨by omega, by omega⟩
 have r1 : (0 : Int) ≤ ((54 + strideN W C * H : Nat) : Int) ∧ ((54 + strideN W C * H : Nat) : Int) < 4294967296 := ⟨by omega, by omega⟩
 have r2 : (0 : Int) ≤ (W : Int) ∧ (W : Int) < 4294967296 := ⟨by omega, by omega⟩
 have r3 : (0 : Int) ≤ (H : Int) ∧ (H : Int) < 4294967296 := ⟨by omega, by omega⟩
 have r4 : (0 : Int) ≤ ((8 * C : Nat) : Int) ∧ ((8 * C : Nat) : Int) < 4294967296 := ⟨by omega, by omega⟩
 have hd3 : strideN W C - W * C ≤ 100 := by omega
 have hW1 : W ≤ 100000 := by omega
 have ht6 : W * C ≤ 1000000 := by omega
 exact bwrite_q W H C p.length (54 + strideN W C * H) (strideN W C - W * C) (W * C) (8 * C) (strideN W C) p (bmpHd W H C) A cap w hic hp q1 (u32w r1) (u32w r2) (u32w r3) e4 (u32w r4) e6 e7 e8 hd3 hWC0 hC rfl hW1 h2.2
  (Lib.hid fun w1 => (SZ w1).mono fun e w' ⟨a, b⟩ => ⟨a, b ▸ Below.refl _ _⟩) (Lib.hid fun w1 => (ST w1).mono fun e w' ⟨a, b⟩ => ⟨a, b ▸ Below.refl _ _⟩) (Lib.hid PUT)
  (fun y => (p.drop (y * (W * C))).take (W * C)) (Lib.hid hrow) (Lib.hid IR) (fun k => bmpHd W H C ++ rowsW W H C p k) (Lib.hid (by simp [rowsW])) (Lib.hid hoS) (Lib.hid hlen) ht6
attribute [go_sem] Tryz.results186
abbrev FoT : TypeId := 156
def kCells : Array Value := #[.string ⟨#[]⟩, .int .i64 0, .string ⟨#[112, 103, 109]⟩, .int .i64 1, .string ⟨#[112, 112, 109]⟩, .int .i64 3, .string ⟨#[98, 109, 112, 50, 52]⟩, .int .i64 3, .string ⟨#[98, 109, 112, 51, 50]⟩, .int .i64 4]
def kName : Nat → List UInt8 := fun k => if k = 1 then [112, 103, 109] else if k = 2 then [112, 112, 109] else if k = 3 then [98, 109, 112, 50, 52] else if k = 4 then [98, 109, 112, 51, 50] else []
theorem kforms (w : World) : Calls Tryz.prog 99 #[] w fun e w' => ∃ fb, e = .returned (.slice (some ⟨fb, 0, none⟩) 5 5) ∧ Below w.heap.size w w' ∧ w.heap.size ≤ fb ∧ AtB w' fb kCells FoT := by
 go_enter Tryz.func99, Tryz.ntmps99
 go_wp2_with fail
 go_ret
 exact ⟨_, rfl, by repeat (first | with_reducible exact Below.refl _ _ | with_reducible apply below_new | with_reducible apply below_drew), by simp, new_at w kCells FoT⟩
def GiveFo (k : Nat) (c : Int) (w : World) (e : Ending) (w' : World) : Prop := e = .returned (.agg #[.string ⟨(kName k).toArray⟩, .int .i64 c]) ∧ Below w.heap.size w w'
theorem kof_1 (w : World) : Calls Tryz.prog 186 #[.int .i64 1] w (GiveFo 1 1 w) := by
 have KF := Hi (fun w => kforms w)
 go_enter Tryz.func186, Tryz.ntmps186
 go_upto_region 1 with fail
 obtain ⟨w0, e, BB, q0⟩ := en1 w #[.string ⟨#[]⟩, .int .i64 0] FoT
 rw [e]; clear e
 go_wp2_with fail
 refine (KF.out _).mono ?_
 rintro e w1 ⟨fb, rfl, hb, hge, hF⟩
 replace q0 := kp q0 hb
 replace BB := nx BB hb
 clear hb
 have c0 : w1.cell? ⟨fb, 2, none⟩ = some (.string ⟨#[112, 103, 109]⟩) := hF.cell 2 rfl
 have c1 : w1.cell? ⟨fb, 3, none⟩ = some (.int .i64 1) := hF.cell 3 rfl
 have l0 := hF.lt
 obtain ⟨q1, q2, q3, q4⟩ := reads2 q0.out
 have q6 := q0.out.lt
 go_wp2_with fail
 clear q1 q2 q3 q4 q6
 have F := st2 q0 BB 0 (.string ⟨#[112, 103, 109]⟩) 1 (.int .i64 1)
 clear q0 BB
 obtain ⟨w2, e, q0, BB, F⟩ := F
 rw [e]; clear e
 clear F
 go_wp2_with fail
 obtain ⟨q1, q2, q3, q4⟩ := reads2 q0.out
 have q6 := q0.out.lt
 refine bret (.agg #[.string ⟨#[112, 103, 109]⟩, .int .i64 1]) ?_
 exact ⟨rfl, BB.out⟩
theorem kof_2 (w : World) : Calls Tryz.prog 186 #[.int .i64 2] w (GiveFo 2 3 w) := by
 have KF := Hi (fun w => kforms w)
 go_enter Tryz.func186, Tryz.ntmps186
 go_upto_region 1 with fail
 obtain ⟨w0, e, BB, q0⟩ := en1 w #[.string ⟨#[]⟩, .int .i64 0] FoT
 rw [e]; clear e
 go_wp2_with fail
 refine (KF.out _).mono ?_
 rintro e w1 ⟨fb, rfl, hb, hge, hF⟩
 replace q0 := kp q0 hb
 replace BB := nx BB hb
 clear hb
 have c0 : w1.cell? ⟨fb, 4, none⟩ = some (.string ⟨#[112, 112, 109]⟩) := hF.cell 4 rfl
 have c1 : w1.cell? ⟨fb, 5, none⟩ = some (.int .i64 3) := hF.cell 5 rfl
 have l0 := hF.lt
 obtain ⟨q1, q2, q3, q4⟩ := reads2 q0.out
 have q6 := q0.out.lt
 go_wp2_with fail
 clear q1 q2 q3 q4 q6
 have F := st2 q0 BB 0 (.string ⟨#[112, 112, 109]⟩) 1 (.int .i64 3)
 clear q0 BB
 obtain ⟨w2, e, q0, BB, F⟩ := F
 rw [e]; clear e
 clear F
 go_wp2_with fail
 obtain ⟨q1, q2, q3, q4⟩ := reads2 q0.out
 have q6 := q0.out.lt
 refine bret (.agg #[.string ⟨#[112, 112, 109]⟩, .int .i64 3]) ?_
 exact ⟨rfl, BB.out⟩
theorem kof_3 (w : World) : Calls Tryz.prog 186 #[.int .i64 3] w (GiveFo 3 3 w) := by
 have KF := Hi (fun w => kforms w)
 go_enter Tryz.func186, Tryz.ntmps186
 go_upto_region 1 with fail
 obtain ⟨w0, e, BB, q0⟩ := en1 w #[.string ⟨#[]⟩, .int .i64 0] FoT
 rw [e]; clear e
 go_wp2_with fail
 refine (KF.out _).mono ?_
 rintro e w1 ⟨fb, rfl, hb, hge, hF⟩
 replace q0 := kp q0 hb
 replace BB := nx BB hb
 clear hb
 have c0 : w1.cell? ⟨fb, 6, none⟩ = some (.string ⟨#[98, 109, 112, 50, 52]⟩) := hF.cell 6 rfl
 have c1 : w1.cell? ⟨fb, 7, none⟩ = some (.int .i64 3) := hF.cell 7 rfl
 have l0 := hF.lt
 obtain ⟨q1, q2, q3, q4⟩ := reads2 q0.out
 have q6 := q0.out.lt
 go_wp2_with fail
 clear q1 q2 q3 q4 q6
 have F := st2 q0 BB 0 (.string ⟨#[98, 109, 112, 50, 52]⟩) 1 (.int .i64 3)
 clear q0 BB
 obtain ⟨w2, e, q0, BB, F⟩ := F
 rw [e]; clear e
 clear F
 go_wp2_with fail
 obtain ⟨q1, q2, q3, q4⟩ := reads2 q0.out
 have q6 := q0.out.lt
 refine bret (.agg #[.string ⟨#[98, 109, 112, 50, 52]⟩, .int .i64 3]) ?_
 exact ⟨rfl, BB.out⟩
theorem kof_4 (w : World) : Calls Tryz.prog 186 #[.int .i64 4] w (GiveFo 4 4 w) := by
 have KF := Hi (fun w => kforms w)
 go_enter Tryz.func186, Tryz.ntmps186
 go_upto_region 1 with fail
 obtain ⟨w0, e, BB, q0⟩ := en1 w #[.string ⟨#[]⟩, .int .i64 0] FoT
 rw [e]; clear e
 go_wp2_with fail
 refine (KF.out _).mono ?_
 rintro e w1 ⟨fb, rfl, hb, hge, hF⟩
 replace q0 := kp q0 hb
 replace BB := nx BB hb
 clear hb
 have c0 : w1.cell? ⟨fb, 8, none⟩ = some (.string ⟨#[98, 109, 112, 51, 50]⟩) := hF.cell 8 rfl
 have c1 : w1.cell? ⟨fb, 9, none⟩ = some (.int .i64 4) := hF.cell 9 rfl
 have l0 := hF.lt
 obtain ⟨q1, q2, q3, q4⟩ := reads2 q0.out
 have q6 := q0.out.lt
 go_wp2_with fail
 clear q1 q2 q3 q4 q6
 have F := st2 q0 BB 0 (.string ⟨#[98, 109, 112, 51, 50]⟩) 1 (.int .i64 4)
 clear q0 BB
 obtain ⟨w2, e, q0, BB, F⟩ := F
 rw [e]; clear e
 clear F
 go_wp2_with fail
 obtain ⟨q1, q2, q3, q4⟩ := reads2 q0.out
 have q6 := q0.out.lt
 refine bret (.agg #[.string ⟨#[98, 109, 112, 51, 50]⟩, .int .i64 4]) ?_
 exact ⟨rfl, BB.out⟩
theorem kform_old (x : ByteArray) (c W H C : Int) (n cap : Nat) (A : Option Addr) (l : List UInt8) (w : World) (CW : Hid (∀ w1, Below w.heap.size w w1 → Calls Tryz.prog 280 #[imv W H C (.slice A n cap)] w1 (GiveWr l w1))) :
 Calls Tryz.prog 187 #[.agg #[.string x, .int .i64 c], imv W H C (.slice A n cap)] w (GiveWr l w) := by
 go_enter Tryz.func187, Tryz.ntmps187
 go_upto_region 1 with fail
 have BB := start2 w #[.string x, .int .i64 c] FoT #[.int .i64 W, .int .i64 H, .int .i64 C, .slice A n cap] IT
 obtain ⟨BB, hsz, q7, q5⟩ := BB
 generalize ((w.alloc (.cells #[.string x, .int .i64 c] FoT)).alloc (.cells #[.int .i64 W, .int .i64 H, .int .i64 C, .slice A n cap] IT)) = w0 at *
 replace BB := Hi BB
 replace q7 := Hi q7
 replace q5 := Hi q5
 clear hsz
 obtain ⟨q8, q9, qa, qb, qc, qd, qe, qf⟩ := reads4 q5.out
 have qg := q5.out.lt
 go_wp2_with fail
 refine (CW.out _ BB.out).mono ?_
 rintro e w1 ⟨v, rfl, hb, hv⟩
 clear q8 q9 qa qb qc qd qe qf qg
 replace q7 := kp q7 hb
 replace q5 := kp q5 hb
 replace BB := nx BB hb
 clear hb
 replace hv := Hi hv
 go_wp2_with fail
 go_ret2
 exact ⟨v, rfl, BB.out, hv.out⟩
theorem kform_other (x : ByteArray) (c W H C : Int) (n cap : Nat) (A : Option Addr) (l : List UInt8) (w : World) (CW : Hid (∀ w1, Below w.heap.size w w1 → Calls Tryz.prog 281 #[imv W H C (.slice A n cap)] w1 (GiveWr l w1))) :
 Calls Tryz.prog 188 #[.agg #[.string x, .int .i64 c], imv W H C (.slice A n cap)] w (GiveWr l w) := by
 go_enter Tryz.func188, Tryz.ntmps188
 go_upto_region 1 with fail
 have BB := start2 w #[.string x, .int .i64 c] FoT #[.int .i64 W, .int .i64 H, .int .i64 C, .slice A n cap] IT
 obtain ⟨BB, hsz, q7, q5⟩ := BB
 generalize ((w.alloc (.cells #[.string x, .int .i64 c] FoT)).alloc (.cells #[.int .i64 W, .int .i64 H, .int .i64 C, .slice A n cap] IT)) = w0 at *
 replace BB := Hi BB
 replace q7 := Hi q7
 replace q5 := Hi q5
 clear hsz
 obtain ⟨q8, q9, qa, qb, qc, qd, qe, qf⟩ := reads4 q5.out
 have qg := q5.out.lt
 go_wp2_with fail
 refine (CW.out _ BB.out).mono ?_
 rintro e w1 ⟨v, rfl, hb, hv⟩
 clear q8 q9 qa qb qc qd qe qf qg
 replace q7 := kp q7 hb
 replace q5 := kp q5 hb
 replace BB := nx BB hb
 clear hb
 replace hv := Hi hv
 go_wp2_with fail
 go_ret2
 exact ⟨v, rfl, BB.out, hv.out⟩
def GiveArg (w : World) (e : Ending) (w' : World) : Prop := e = .returned (.tuple #[.slice none 0 0, .int .i64 10]) ∧ Below w.heap.size w w'
theorem kwrite_1 (W H n cap : Nat) (A : Option Addr) (l : List UInt8) (w : World) (hic : imC W H 1 n = 0) (CW : Hid (∀ w1, Below w.heap.size w w1 → Calls Tryz.prog 280 #[imv W H 1 (.slice A n cap)] w1 (GiveWr l w1))) :
 Calls Tryz.prog 123 #[.int .i64 1, imv W H 1 (.slice A n cap)] w (GiveWr l w) := by
 have hCK := icheck W H 1 A n cap
 rw [show imC (W : Int) (H : Int) 1 n = 0 from hic] at hCK
 replace hCK := Hi hCK
 clear hic
 have KO := Hi (fun w => kof_1 w)
 go_enter Tryz.func123, Tryz.ntmps123
 go_upto_region 1 with fail
 obtain ⟨w0, e, BB, q0⟩ := en1 w #[.int .i64 W, .int .i64 H, .int .i64 1, .slice A n cap] IT
 rw [e]; clear e
 go_wp2_with fail
 refine (KO.out _).mono ?_
 rintro e w1 ⟨rfl, hb⟩
 replace q0 := kp q0 hb
 replace BB := nx BB hb
 clear hb
 clear KO
 generalize (⟨(kName 1).toArray⟩ : ByteArray) = nm at *
 go_upto_region 2 with fail
 have qg := Hi (And.intro BB.out.size (And.intro q0.out.lt (True.intro)))
 obtain ⟨w2, qh, e1, e2, hb, q1⟩ := bx w1 #[.string nm, .int .i64 1] FoT
 rw [e2] at qg; rw [e1, e2]
 replace q0 := kp q0 hb
 replace BB := nx BB hb
 clear hb e1 e2
 obtain ⟨q2, q3, q4, q5, q6, q7, q8, q9⟩ := reads4 q0.out
 have qe := q0.out.lt
 obtain ⟨qa, qb, qc, qd⟩ := reads2 q1.out
 have qf := q1.out.lt
 go_wp2_with fail
 refine (hCK.out _).mono ?_
 rintro e w3 ⟨rfl, hb⟩
 clear q2 q3 q4 q5 q6 q7 q8 q9 qe qa qb qc qd qf
 replace q0 := kp q0 hb
 replace q1 := kp q1 hb
 replace BB := nx BB hb
 clear hb
 obtain ⟨q2, q3, q4, q5, q6, q7, q8, q9⟩ := reads4 q0.out
 have qe := q0.out.lt
 obtain ⟨qa, qb, qc, qd⟩ := reads2 q1.out
 have qf := q1.out.lt
 go_wp2_with fail
 refine (kform_old nm 1 W H 1 n cap A l _ (Hi fun w9 h9 => CW.out w9 (below_next BB.out h9))).mono ?_
 rintro e wz ⟨v, rfl, hb, hv⟩
 replace hv := Hi hv
 have BZ := Hi (below_next BB.out hb)
 go_wp2_with fail
 go_ret2
 exact ⟨v, rfl, BZ.out, hv.out⟩
theorem kwrite_no_1 (W H C n cap : Nat) (A : Option Addr) (w : World) (hic : imC W H (C : Int) n = 0) (hne : ((C : Int) != 1) = true) :
 Calls Tryz.prog 123 #[.int .i64 1, imv W H C (.slice A n cap)] w (GiveArg w) := by
 have hCK := icheck W H ↑C A n cap
 rw [show imC (W : Int) (H : Int) ↑C n = 0 from hic] at hCK
 replace hCK := Hi hCK
 clear hic
 have KO := Hi (fun w => kof_1 w)
 go_enter Tryz.func123, Tryz.ntmps123
 go_upto_region 1 with fail
 obtain ⟨w0, e, BB, q0⟩ := en1 w #[.int .i64 W, .int .i64 H, .int .i64 ↑C, .slice A n cap] IT
 rw [e]; clear e
 go_wp2_with fail
 refine (KO.out _).mono ?_
 rintro e w1 ⟨rfl, hb⟩
 replace q0 := kp q0 hb
 replace BB := nx BB hb
 clear hb
 clear KO
 generalize (⟨(kName 1).toArray⟩ : ByteArray) = nm at *
 go_upto_region 2 with fail
 have qg := Hi (And.intro BB.out.size (And.intro q0.out.lt (True.intro)))
 obtain ⟨w2, qh, e1, e2, hb, q1⟩ := bx w1 #[.string nm, .int .i64 1] FoT
 rw [e2] at qg; rw [e1, e2]
 replace q0 := kp q0 hb
 replace BB := nx BB hb
 clear hb e1 e2
 obtain ⟨q2, q3, q4, q5, q6, q7, q8, q9⟩ := reads4 q0.out
 have qe := q0.out.lt
 obtain ⟨qa, qb, qc, qd⟩ := reads2 q1.out
 have qf := q1.out.lt
 go_wp2_with fail
 refine (hCK.out _).mono ?_
 rintro e w3 ⟨rfl, hb⟩
 clear q2 q3 q4 q5 q6 q7 q8 q9 qe qa qb qc qd qf
 replace q0 := kp q0 hb
 replace q1 := kp q1 hb
 replace BB := nx BB hb
 clear hb
 obtain ⟨q2, q3, q4, q5, q6, q7, q8, q9⟩ := reads4 q0.out
 have qe := q0.out.lt
 obtain ⟨qa, qb, qc, qd⟩ := reads2 q1.out
 have qf := q1.out.lt
 go_wp2_with fail
 go_ret2
 exact ⟨rfl, BB.out⟩
theorem kwrite_2 (W H n cap : Nat) (A : Option Addr) (l : List UInt8) (w : World) (hic : imC W H 3 n = 0) (CW : Hid (∀ w1, Below w.heap.size w w1 → Calls Tryz.prog 280 #[imv W H 3 (.slice A n cap)] w1 (GiveWr l w1))) :
 Calls Tryz.prog 123 #[.int .i64 2, imv W H 3 (.slice A n cap)] w (GiveWr l w) := by
 have hCK := icheck W H 3 A n cap
 rw [show imC (W : Int) (H : Int) 3 n = 0 from hic] at hCK
 replace hCK := Hi hCK
 clear hic
 have KO := Hi (fun w => kof_2 w)
 go_enter Tryz.func123, Tryz.ntmps123
 go_upto_region 1 with fail
 obtain ⟨w0, e, BB, q0⟩ := en1 w #[.int .i64 W, .int .i64 H, .int .i64 3, .slice A n cap] IT
 rw [e]; clear e
 go_wp2_with fail
 refine (KO.out _).mono ?_
 rintro e w1 ⟨rfl, hb⟩
 replace q0 := kp q0 hb
 replace BB := nx BB hb
 clear hb
 clear KO
 generalize (⟨(kName 2).toArray⟩ : ByteArray) = nm at *
 go_upto_region 2 with fail
 have qg := Hi (And.intro BB.out.size (And.intro q0.out.lt (True.intro)))
 obtain ⟨w2, qh, e1, e2, hb, q1⟩ := bx w1 #[.string nm, .int .i64 3] FoT
 rw [e2] at qg; rw [e1, e2]
 replace q0 := kp q0 hb
 replace BB := nx BB hb
 clear hb e1 e2
 obtain ⟨q2, q3, q4, q5, q6, q7, q8, q9⟩ := reads4 q0.out
 have qe := q0.out.lt
 obtain ⟨qa, qb, qc, qd⟩ := reads2 q1.out
 have qf := q1.out.lt
 go_wp2_with fail
 refine (hCK.out _).mono ?_
 rintro e w3 ⟨rfl, hb⟩
 clear q2 q3 q4 q5 q6 q7 q8 q9 qe qa qb qc qd qf
 replace q0 := kp q0 hb
 replace q1 := kp q1 hb
 replace BB := nx BB hb
 clear hb
 obtain ⟨q2, q3, q4, q5, q6, q7, q8, q9⟩ := reads4 q0.out
 have qe := q0.out.lt
 obtain ⟨qa, qb, qc, qd⟩ := reads2 q1.out
 have qf := q1.out.lt
 go_wp2_with fail
 refine (kform_old nm 3 W H 3 n cap A l _ (Hi fun w9 h9 => CW.out w9 (below_next BB.out h9))).mono ?_
 rintro e wz ⟨v, rfl, hb, hv⟩
 replace hv := Hi hv
 have BZ := Hi (below_next BB.out hb)
 go_wp2_with fail
 go_ret2
 exact ⟨v, rfl, BZ.out, hv.out⟩
theorem kwrite_no_2 (W H C n cap : Nat) (A : Option Addr) (w : World) (hic : imC W H (C : Int) n = 0) (hne : ((C : Int) != 3) = true) :
 Calls Tryz.prog 123 #[.int .i64 2, imv W H C (.slice A n cap)] w (GiveArg w) := by
 have hCK := icheck W H ↑C A n cap
 rw [show imC (W : Int) (H : Int) ↑C n = 0 from hic] at hCK
 replace hCK := Hi hCK
 clear hic
 have KO := Hi (fun w => kof_2 w)
 go_enter Tryz.func123, Tryz.ntmps123
 go_upto_region 1 with fail
 obtain ⟨w0, e, BB, q0⟩ := en1 w #[.int .i64 W, .int .i64 H, .int .i64 ↑C, .slice A n cap] IT
 rw [e]; clear e
 go_wp2_with fail
 refine (KO.out _).mono ?_
 rintro e w1 ⟨rfl, hb⟩
 replace q0 := kp q0 hb
 replace BB := nx BB hb
 clear hb
 clear KO
 generalize (⟨(kName 2).toArray⟩ : ByteArray) = nm at *
 go_upto_region 2 with fail
 have qg := Hi (And.intro BB.out.size (And.intro q0.out.lt (True.intro)))
 obtain ⟨w2, qh, e1, e2, hb, q1⟩ := bx w1 #[.string nm, .int .i64 3] FoT
 rw [e2] at qg; rw [e1, e2]
 replace q0 := kp q0 hb
 replace BB := nx BB hb
 clear hb e1 e2
 obtain ⟨q2, q3, q4, q5, q6, q7, q8, q9⟩ := reads4 q0.out
 have qe := q0.out.lt
 obtain ⟨qa, qb, qc, qd⟩ := reads2 q1.out
 have qf := q1.out.lt
 go_wp2_with fail
 refine (hCK.out _).mono ?_
 rintro e w3 ⟨rfl, hb⟩
 clear q2 q3 q4 q5 q6 q7 q8 q9 qe qa qb qc qd qf
 replace q0 := kp q0 hb
 replace q1 := kp q1 hb
 replace BB := nx BB hb
 clear hb
 obtain ⟨q2, q3, q4, q5, q6, q7, q8, q9⟩ := reads4 q0.out
 have qe := q0.out.lt
 obtain ⟨qa, qb, qc, qd⟩ := reads2 q1.out
 have qf := q1.out.lt
 go_wp2_with fail
 go_ret2
 exact ⟨rfl, BB.out⟩
theorem kwrite_3 (W H n cap : Nat) (A : Option Addr) (l : List UInt8) (w : World) (hic : imC W H 3 n = 0) (CW : Hid (∀ w1, Below w.heap.size w w1 → Calls Tryz.prog 281 #[imv W H 3 (.slice A n cap)] w1 (GiveWr l w1))) :
 Calls Tryz.prog 123 #[.int .i64 3, imv W H 3 (.slice A n cap)] w (GiveWr l w) := by
 have hCK := icheck W H 3 A n cap
 rw [show imC (W : Int) (H : Int) 3 n = 0 from hic] at hCK
 replace hCK := Hi hCK
 clear hic
 have KO := Hi (fun w => kof_3 w)
 go_enter Tryz.func123, Tryz.ntmps123
 go_upto_region 1 with fail
 obtain ⟨w0, e, BB, q0⟩ := en1 w #[.int .i64 W, .int .i64 H, .int .i64 3, .slice A n cap] IT
 rw [e]; clear e
 go_wp2_with fail
 refine (KO.out _).mono ?_
 rintro e w1 ⟨rfl, hb⟩
 replace q0 := kp q0 hb
 replace BB := nx BB hb
 clear hb
 clear KO
 generalize (⟨(kName 3).toArray⟩ : ByteArray) = nm at *
 go_upto_region 2 with fail
 have qg := Hi (And.intro BB.out.size (And.intro q0.out.lt (True.intro)))
 obtain ⟨w2, qh, e1, e2, hb, q1⟩ := bx w1 #[.string nm, .int .i64 3] FoT
 rw [e2] at qg; rw [e1, e2]
 replace q0 := kp q0 hb
 replace BB := nx BB hb
 clear hb e1 e2
 obtain ⟨q2, q3, q4, q5, q6, q7, q8, q9⟩ := reads4 q0.out
 have qe := q0.out.lt
 obtain ⟨qa, qb, qc, qd⟩ := reads2 q1.out
 have qf := q1.out.lt
 go_wp2_with fail
 refine (hCK.out _).mono ?_
 rintro e w3 ⟨rfl, hb⟩
 clear q2 q3 q4 q5 q6 q7 q8 q9 qe qa qb qc qd qf
 replace q0 := kp q0 hb
 replace q1 := kp q1 hb
 replace BB := nx BB hb
 clear hb
 obtain ⟨q2, q3, q4, q5, q6, q7, q8, q9⟩ := reads4 q0.out
 have qe := q0.out.lt
 obtain ⟨qa, qb, qc, qd⟩ := reads2 q1.out
 have qf := q1.out.lt
 go_wp2_with fail
 refine (kform_other nm 3 W H 3 n cap A l _ (Hi fun w9 h9 => CW.out w9 (below_next BB.out h9))).mono ?_
 rintro e wz ⟨v, rfl, hb, hv⟩
 replace hv := Hi hv
 have BZ := Hi (below_next BB.out hb)
 go_wp2_with fail
 go_ret2
 exact ⟨v, rfl, BZ.out, hv.out⟩
theorem kwrite_no_3 (W H C n cap : Nat) (A : Option Addr) (w : World) (hic : imC W H (C : Int) n = 0) (hne : ((C : Int) != 3) = true) :
 Calls Tryz.prog 123 #[.int .i64 3, imv W H C (.slice A n cap)] w (GiveArg w) := by
 have hCK := icheck W H ↑C A n cap
 rw [show imC (W : Int) (H : Int) ↑C n = 0 from hic] at hCK
 replace hCK := Hi hCK
 clear hic
 have KO := Hi (fun w => kof_3 w)
 go_enter Tryz.func123, Tryz.ntmps123
 go_upto_region 1 with fail
 obtain ⟨w0, e, BB, q0⟩ := en1 w #[.int .i64 W, .int .i64 H, .int .i64 ↑C, .slice A n cap] IT
 rw [e]; clear e
 go_wp2_with fail
 refine (KO.out _).mono ?_
 rintro e w1 ⟨rfl, hb⟩
 replace q0 := kp q0 hb
 replace BB := nx BB hb
 clear hb
 clear KO
 generalize (⟨(kName 3).toArray⟩ : ByteArray) = nm at *
 go_upto_region 2 with fail
 have qg := Hi (And.intro BB.out.size (And.intro q0.out.lt (True.intro)))
 obtain ⟨w2, qh, e1, e2, hb, q1⟩ := bx w1 #[.string nm, .int .i64 3] FoT
 rw [e2] at qg; rw [e1, e2]
 replace q0 := kp q0 hb
 replace BB := nx BB hb
 clear hb e1 e2
 obtain ⟨q2, q3, q4, q5, q6, q7, q8, q9⟩ := reads4 q0.out
 have qe := q0.out.lt
 obtain ⟨qa, qb, qc, qd⟩ := reads2 q1.out
 have qf := q1.out.lt
 go_wp2_with fail
 refine (hCK.out _).mono ?_
 rintro e w3 ⟨rfl, hb⟩
 clear q2 q3 q4 q5 q6 q7 q8 q9 qe qa qb qc qd qf
 replace q0 := kp q0 hb
 replace q1 := kp q1 hb
 replace BB := nx BB hb
 clear hb
 obtain ⟨q2, q3, q4, q5, q6, q7, q8, q9⟩ := reads4 q0.out
 have qe := q0.out.lt
 obtain ⟨qa, qb, qc, qd⟩ := reads2 q1.out
 have qf := q1.out.lt
 go_wp2_with fail
 go_ret2
 exact ⟨rfl, BB.out⟩
theorem kwrite_4 (W H n cap : Nat) (A : Option Addr) (l : List UInt8) (w : World) (hic : imC W H 4 n = 0) (CW : Hid (∀ w1, Below w.heap.size w w1 → Calls Tryz.prog 281 #[imv W H 4 (.slice A n cap)] w1 (GiveWr l w1))) :
 Calls Tryz.prog 123 #[.int .i64 4, imv W H 4 (.slice A n cap)] w (GiveWr l w) := by
 have hCK := icheck W H 4 A n cap
 rw [show imC (W : Int) (H : Int) 4 n = 0 from hic] at hCK
 replace hCK := Hi hCK
 clear hic
 have KO := Hi (fun w => kof_4 w)
 go_enter Tryz.func123, Tryz.ntmps123
 go_upto_region 1 with fail
 obtain ⟨w0, e, BB, q0⟩ := en1 w #[.int .i64 W, .int .i64 H, .int .i64 4, .slice A n cap] IT
 rw [e]; clear e
 go_wp2_with fail
 refine (KO.out _).mono ?_
 rintro e w1 ⟨rfl, hb⟩
 replace q0 := kp q0 hb
 replace BB := nx BB hb
 clear hb
 clear KO
 generalize (⟨(kName 4).toArray⟩ : ByteArray) = nm at *
 go_upto_region 2 with fail
 have qg := Hi (And.intro BB.out.size (And.intro q0.out.lt (True.intro)))
 obtain ⟨w2, qh, e1, e2, hb, q1⟩ := bx w1 #[.string nm, .int .i64 4] FoT
 rw [e2] at qg; rw [e1, e2]
 replace q0 := kp q0 hb
 replace BB := nx BB hb
 clear hb e1 e2
 obtain ⟨q2, q3, q4, q5, q6, q7, q8, q9⟩ := reads4 q0.out
 have qe := q0.out.lt
 obtain ⟨qa, qb, qc, qd⟩ := reads2 q1.out
 have qf := q1.out.lt
 go_wp2_with fail
 refine (hCK.out _).mono ?_
 rintro e w3 ⟨rfl, hb⟩
 clear q2 q3 q4 q5 q6 q7 q8 q9 qe qa qb qc qd qf
 replace q0 := kp q0 hb
 replace q1 := kp q1 hb
 replace BB := nx BB hb
 clear hb
 obtain ⟨q2, q3, q4, q5, q6, q7, q8, q9⟩ := reads4 q0.out
 have qe := q0.out.lt
 obtain ⟨qa, qb, qc, qd⟩ := reads2 q1.out
 have qf := q1.out.lt
 go_wp2_with fail
 refine (kform_other nm 4 W H 4 n cap A l _ (Hi fun w9 h9 => CW.out w9 (below_next BB.out h9))).mono ?_
 rintro e wz ⟨v, rfl, hb, hv⟩
 replace hv := Hi hv
 have BZ := Hi (below_next BB.out hb)
 go_wp2_with fail
 go_ret2
 exact ⟨v, rfl, BZ.out, hv.out⟩
theorem kwrite_no_4 (W H C n cap : Nat) (A : Option Addr) (w : World) (hic : imC W H (C : Int) n = 0) (hne : ((C : Int) != 4) = true) :
 Calls Tryz.prog 123 #[.int .i64 4, imv W H C (.slice A n cap)] w (GiveArg w) := by
 have hCK := icheck W H ↑C A n cap
 rw [show imC (W : Int) (H : Int) ↑C n = 0 from hic] at hCK
 replace hCK := Hi hCK
 clear hic
 have KO := Hi (fun w => kof_4 w)
 go_enter Tryz.func123, Tryz.ntmps123
 go_upto_region 1 with fail
 obtain ⟨w0, e, BB, q0⟩ := en1 w #[.int .i64 W, .int .i64 H, .int .i64 ↑C, .slice A n cap] IT
 rw [e]; clear e
 go_wp2_with fail
 refine (KO.out _).mono ?_
 rintro e w1 ⟨rfl, hb⟩
 replace q0 := kp q0 hb
 replace BB := nx BB hb
 clear hb
 clear KO
 generalize (⟨(kName 4).toArray⟩ : ByteArray) = nm at *
 go_upto_region 2 with fail
 have qg := Hi (And.intro BB.out.size (And.intro q0.out.lt (True.intro)))
 obtain ⟨w2, qh, e1, e2, hb, q1⟩ := bx w1 #[.string nm, .int .i64 4] FoT
 rw [e2] at qg; rw [e1, e2]
 replace q0 := kp q0 hb
 replace BB := nx BB hb
 clear hb e1 e2
 obtain ⟨q2, q3, q4, q5, q6, q7, q8, q9⟩ := reads4 q0.out
 have qe := q0.out.lt
 obtain ⟨qa, qb, qc, qd⟩ := reads2 q1.out
 have qf := q1.out.lt
 go_wp2_with fail
 refine (hCK.out _).mono ?_
 rintro e w3 ⟨rfl, hb⟩
 clear q2 q3 q4 q5 q6 q7 q8 q9 qe qa qb qc qd qf
 replace q0 := kp q0 hb
 replace q1 := kp q1 hb
 replace BB := nx BB hb
 clear hb
 obtain ⟨q2, q3, q4, q5, q6, q7, q8, q9⟩ := reads4 q0.out
 have qe := q0.out.lt
 obtain ⟨qa, qb, qc, qd⟩ := reads2 q1.out
 have qf := q1.out.lt
 go_wp2_with fail
 go_ret2
 exact ⟨rfl, BB.out⟩
/-- codec.Write at an image whose channels are the kind's. -/
theorem cwrite (k W H C : Nat) (p : List UInt8) (hi : Img W H C p) (hk : 1 ≤ k ∧ k ≤ 4) (hc : C = kindC k) (hl : p.length ≤ 1000000) (v : Value) (w : World) (hp : BY w v p) (ht : Tab w) : Calls Tryz.prog 123 #[.int .i64 (k : Int), imv W H C v] w (GiveWr (imgW k W H C p) w) := by
 have hic := img_code (n := p.length) hi
 have PB := fun (h : C = 3 ∨ C = 4) w1 (hb : Below w.heap.size w w1) => bwrite W H C p hi h v w1 (hp.below hb)
 obtain ⟨A, cap, e⟩ := hp.form
 subst e
 match k, hk with
 | 1, _ =>
   subst hc
   exact kwrite_1 W H _ cap A _ w hic (Hi fun w1 hb => pwrite_1 W H p hi (by omega) _ w1 (hp.below hb) (tab_on ht hb))
 | 2, _ =>
   subst hc
   exact kwrite_2 W H _ cap A _ w hic (Hi fun w1 hb => pwrite_3 W H p hi (by omega) _ w1 (hp.below hb) (tab_on ht hb))
 | 3, _ =>
   subst hc
   exact kwrite_3 W H _ cap A _ w hic (Hi (PB (.inl rfl)))
 | 4, _ =>
   subst hc
   exact kwrite_4 W H _ cap A _ w hic (Hi (PB (.inr rfl)))
theorem cwrite_no (k W H C : Nat) (p : List UInt8) (hi : Img W H C p) (hk : 1 ≤ k ∧ k ≤ 4) (hc : C ≠ kindC k) (v : Value) (w : World) (hp : BY w v p) : Calls Tryz.prog 123 #[.int .i64 (k : Int), imv W H C v] w (GiveArg w) := by
 have hic := img_code (n := p.length) hi
 obtain ⟨A, cap, e⟩ := hp.form
 subst e
 match k, hk with
 | 1, _ => exact kwrite_no_1 W H C _ cap A w hic (by have : C ≠ 1 := hc; rw [bne_iff_ne]; omega)
 | 2, _ => exact kwrite_no_2 W H C _ cap A w hic (by have : C ≠ 3 := hc; rw [bne_iff_ne]; omega)
 | 3, _ => exact kwrite_no_3 W H C _ cap A w hic (by have : C ≠ 3 := hc; rw [bne_iff_ne]; omega)
 | 4, _ => exact kwrite_no_4 W H C _ cap A w hic (by have : C ≠ 4 := hc; rw [bne_iff_ne]; omega)
def GiveCh (c : Int) (w : World) (e : Ending) (w' : World) : Prop := e = .returned (.int .i64 c) ∧ Below w.heap.size w w'
def GiveNm (s : ByteArray) (w : World) (e : Ending) (w' : World) : Prop := e = .returned (.string s) ∧ Below w.heap.size w w'
theorem rch_no (k : Int) (hk : k < 1 ∨ 4 < k) (w : World) : Calls Tryz.prog 4 #[.int .i64 k] w (GiveCh 0 w) := by
 rcases hk with h | h
 · have g1 : decide (k < 1) = true := decide_eq_true h
   go_enter Tryz.func4, Tryz.ntmps4
   go_wp2_with fail
   go_ret
   exact ⟨rfl, Below.refl _ _⟩
 · have g1 : decide (k < 1) = false := decide_eq_false (by omega)
   have g2 : decide (4 < k) = true := decide_eq_true h
   go_enter Tryz.func4, Tryz.ntmps4
   go_wp2_with fail
   go_ret
   exact ⟨rfl, Below.refl _ _⟩
theorem rch_1 (w : World) : Calls Tryz.prog 4 #[.int .i64 1] w (GiveCh 1 w) := by
 go_enter Tryz.func4, Tryz.ntmps4
 go_wp2_with fail
 all_goals (try go_region)
 all_goals (go_wp2_with fail)
 all_goals go_ret
 all_goals exact ⟨rfl, by repeat (first | with_reducible exact Below.refl _ _ | with_reducible apply below_new | with_reducible apply below_drew)⟩
theorem rnm_1 (w : World) : Calls Tryz.prog 5 #[.int .i64 1] w (GiveNm ⟨#[112, 103, 109]⟩ w) := by
 go_enter Tryz.func5, Tryz.ntmps5
 go_wp2_with fail
 all_goals (try go_region)
 all_goals (go_wp2_with fail)
 all_goals go_ret
 all_goals exact ⟨rfl, by repeat (first | with_reducible exact Below.refl _ _ | with_reducible apply below_new | with_reducible apply below_drew)⟩
theorem rch_2 (w : World) : Calls Tryz.prog 4 #[.int .i64 2] w (GiveCh 3 w) := by
 go_enter Tryz.func4, Tryz.ntmps4
 go_wp2_with fail
 all_goals (try go_region)
 all_goals (go_wp2_with fail)
 all_goals go_ret
 all_goals exact ⟨rfl, by repeat (first | with_reducible exact Below.refl _ _ | with_reducible apply below_new | with_reducible apply below_drew)⟩
theorem rnm_2 (w : World) : Calls Tryz.prog 5 #[.int .i64 2] w (GiveNm ⟨#[112, 112, 109]⟩ w) := by
 go_enter Tryz.func5, Tryz.ntmps5
 go_wp2_with fail
 all_goals (try go_region)
 all_goals (go_wp2_with fail)
 all_goals go_ret
 all_goals exact ⟨rfl, by repeat (first | with_reducible exact Below.refl _ _ | with_reducible apply below_new | with_reducible apply below_drew)⟩
theorem rch_3 (w : World) : Calls Tryz.prog 4 #[.int .i64 3] w (GiveCh 3 w) := by
 go_enter Tryz.func4, Tryz.ntmps4
 go_wp2_with fail
 all_goals (try go_region)
 all_goals (go_wp2_with fail)
 all_goals go_ret
 all_goals exact ⟨rfl, by repeat (first | with_reducible exact Below.refl _ _ | with_reducible apply below_new | with_reducible apply below_drew)⟩
theorem rnm_3 (w : World) : Calls Tryz.prog 5 #[.int .i64 3] w (GiveNm ⟨#[98, 109, 112, 50, 52]⟩ w) := by
 go_enter Tryz.func5, Tryz.ntmps5
 go_wp2_with fail
 all_goals (try go_region)
 all_goals (go_wp2_with fail)
 all_goals go_ret
 all_goals exact ⟨rfl, by repeat (first | with_reducible exact Below.refl _ _ | with_reducible apply below_new | with_reducible apply below_drew)⟩
theorem rch_4 (w : World) : Calls Tryz.prog 4 #[.int .i64 4] w (GiveCh 4 w) := by
 go_enter Tryz.func4, Tryz.ntmps4
 go_wp2_with fail
 all_goals (try go_region)
 all_goals (go_wp2_with fail)
 all_goals go_ret
 all_goals exact ⟨rfl, by repeat (first | with_reducible exact Below.refl _ _ | with_reducible apply below_new | with_reducible apply below_drew)⟩
theorem rnm_4 (w : World) : Calls Tryz.prog 5 #[.int .i64 4] w (GiveNm ⟨#[98, 109, 112, 51, 50]⟩ w) := by
 go_enter Tryz.func5, Tryz.ntmps5
 go_wp2_with fail
 all_goals (try go_region)
 all_goals (go_wp2_with fail)
 all_goals go_ret
 all_goals exact ⟨rfl, by repeat (first | with_reducible exact Below.refl _ _ | with_reducible apply below_new | with_reducible apply below_drew)⟩
theorem rsame14 (u v : Value) (l : List UInt8) (w : World) (hu : BY w u l) (hv : BY w v l) : Calls Tryz.prog 10 #[u, v] w fun e w' => e = .returned (.bool true) ∧ w = w' := by
 have h1 := conv_by hu
 have h2 := conv_by hv
 clear hu hv
 generalize strOfNums (uI l) = s at *
 go_enter Tryz.func10, Tryz.ntmps10
 go_wp2_with fail
 go_ret
 exact ⟨by simp [Act.eval], rfl⟩
theorem rkind_a (n : Nat) (A : Option Addr) (cap : Nat) (w : World) (h : (n : Int) < 2) : Calls Tryz.prog 16 #[.slice A n cap] w (GiveZk w) := by
 go_enter Tryz.func16, Tryz.ntmps16
 go_wp2_with fail
 all_goals (go_ret; exact ⟨_, rfl, Below.refl _ _⟩)
theorem rkind_b (n b off x0 x1 : Nat) (cap : Nat) (w : World) (h : ¬ (n : Int) < 2) (h0 : (0 : Int) < n) (h1 : (1 : Int) < n) (h2 : ¬ (30 : Int) ≤ n) (c0 : w.cell? ⟨b, off, none⟩ = some (.int .u8 (x0 : Int))) (c1 : w.cell? ⟨b, off + 1, none⟩ = some (.int .u8 (x1 : Int))) :
 Calls Tryz.prog 16 #[.slice (some ⟨b, off, none⟩) n cap] w (GiveZk w) := by
 go_enter Tryz.func16, Tryz.ntmps16
 go_wp2_with fail
 all_goals (go_ret; exact ⟨_, rfl, Below.refl _ _⟩)
theorem rkind_c (n b off x0 x1 x2 x3 : Nat) (cap : Nat) (w : World) (h : ¬ (n : Int) < 2) (h0 : (0 : Int) < n) (h1 : (1 : Int) < n) (h2 : (30 : Int) ≤ n) (h28 : (28 : Int) < n) (h29 : (29 : Int) < n) (c0 : w.cell? ⟨b, off, none⟩ = some (.int .u8 (x0 : Int))) (c1 : w.cell? ⟨b, off + 1, none⟩ = some (.int .u8 (x1 : Int))) (c28 : w.cell? ⟨b, off + 28, none⟩ = some (.int .u8 (x2 : Int))) (c29 : w.cell? ⟨b, off + 29, none⟩ = some (.int .u8 (x3 : Int))) :
 Calls Tryz.prog 16 #[.slice (some ⟨b, off, none⟩) n cap] w (GiveZk w) := by
 go_enter Tryz.func16, Tryz.ntmps16
 go_wp2_with fail
 all_goals (go_ret; exact ⟨_, rfl, Below.refl _ _⟩)
theorem rkind (v : Value) (l : List UInt8) (w : World) (h : BY w v l) : Calls Tryz.prog 16 #[v] w (GiveZk w) := by
 obtain ⟨A, cap, e⟩ := h.form
 subst e
 by_cases hn : l.length < 2
 · exact rkind_a _ A cap w (by omega)
 · obtain ⟨b, off, c, e, -, -, -, hc⟩ := h.some (by rintro rfl; simp at hn)
   simp only [Value.slice.injEq] at e
   obtain ⟨rfl, -, -⟩ := e
   by_cases h3 : l.length < 30
   · exact rkind_b _ b off _ _ cap w (by omega) (by omega) (by omega) (by omega) (hc 0 (by omega)) (hc 1 (by omega))
   · exact rkind_c _ b off _ _ _ _ cap w (by omega) (by omega) (by omega) (by omega) (by omega) (by omega) (hc 0 (by omega)) (hc 1 (by omega)) (hc 28 (by omega)) (hc 29 (by omega))
def GiveTwo (a b : Nat) (w : World) (e : Ending) (w' : World) : Prop := e = .returned (.tuple #[.int .i64 (a : Int), .int .i64 (b : Int)]) ∧ Below w.heap.size w w'
theorem rone_no (n cap : Nat) (A : Option Addr) (hn : n = 0) (w : World) : Calls Tryz.prog 48 #[.slice A n cap] w (GiveTwo 0 20 w) := by
 subst hn
 go_enter Tryz.func48, Tryz.ntmps48
 go_wp2_with fail
 go_ret2
 exact ⟨rfl, Below.refl _ _⟩
theorem rone_true (n cap b off : Nat) (c : UInt8) (hc : blankB c = true) (hn : ((n : Int) == 0) = false) (h0 : (0 : Int) < n) (w : World) (c0 : w.cell? ⟨b, off, none⟩ = some (.int .u8 (c.toNat : Int))) : Calls Tryz.prog 48 #[.slice (some ⟨b, off, none⟩) n cap] w (GiveTwo 1 0 w) := by
 have CB := Lib.hid (fun w => r14blank c w)
 rw [hc] at CB
 clear hc
 go_enter Tryz.func48, Tryz.ntmps48
 go_wp2_with fail
 refine (CB.out _).mono ?_
 rintro e w1 ⟨rfl, rfl⟩
 go_wp2_with fail
 go_ret2
 exact ⟨rfl, Below.refl _ _⟩
theorem rone_false (n cap b off : Nat) (c : UInt8) (hc : blankB c = false) (hn : ((n : Int) == 0) = false) (h0 : (0 : Int) < n) (w : World) (c0 : w.cell? ⟨b, off, none⟩ = some (.int .u8 (c.toNat : Int))) : Calls Tryz.prog 48 #[.slice (some ⟨b, off, none⟩) n cap] w (GiveTwo 0 21 w) := by
 have CB := Lib.hid (fun w => r14blank c w)
 rw [hc] at CB
 clear hc
 go_enter Tryz.func48, Tryz.ntmps48
 go_wp2_with fail
 refine (CB.out _).mono ?_
 rintro e w1 ⟨rfl, rfl⟩
 go_wp2_with fail
 go_ret2
 exact ⟨rfl, Below.refl _ _⟩
/-- One blank: how many bytes, and the code. -/
theorem rone (v : Value) (l : List UInt8) (w : World) (h : BY w v l) : Calls Tryz.prog 48 #[v] w (GiveTwo (oneR l).2 (oneR l).1 w) := by
 obtain ⟨A, cap, e⟩ := h.form
 subst e
 cases l with
 | nil => exact rone_no 0 cap A rfl w
 | cons c t =>
   obtain ⟨b, off, c', e, -, -, -, hc⟩ := h.some (by simp)
   simp only [Value.slice.injEq] at e
   obtain ⟨rfl, -, -⟩ := e
   have hn : (((c :: t).length : Int) == 0) = false := by rw [beq_eq_false_iff_ne]; simp only [List.length_cons]; omega
   have h0 : (0 : Int) < ((c :: t).length : Int) := by simp only [List.length_cons]; omega
   have c0 : w.cell? ⟨b, off, none⟩ = some (.int .u8 (c.toNat : Int)) := hc 0 (by simp)
   have hr : oneR (c :: t) = if blankB c then (0, 1) else (21, 0) := rfl
   rw [hr]
   clear hr
   cases hb : blankB c with
   | true => exact rone_true _ cap b off c hb hn h0 w c0
   | false => exact rone_false _ cap b off c hb hn h0 w c0
end Go.Proofs.YtikpobembcgbfaaGreatDoor
