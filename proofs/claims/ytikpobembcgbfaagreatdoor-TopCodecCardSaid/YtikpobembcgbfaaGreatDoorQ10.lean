/- Parts of the proof: JD RQuot0 Wt0 Bid Img. -/
import Derived.Test.YtikpobembcgbfaaGreatDoorQ02
import Derived.Test.YtikpobembcgbfaaGreatDoorQ07
import Derived.Test.YtikpobembcgbfaaGreatDoorQ06
import Derived.Lib.BitFns
import Derived.Laws.Bits64b
import Derived.Deep.DeepCutAuto
import Derived.Deep.CutBlock
import Derived.Lib.Mul64
import Derived.Laws.CopyOwn
import Derived.Laws.OwnMore
set_option linter.unusedVariables false
set_option linter.unusedSimpArgs false
set_option maxRecDepth 100000
set_option maxHeartbeats 40000000
namespace Go.Proofs.YtikpobembcgbfaaGreatDoor
open Go.RowKit
def nearI (z b : Int) : Int := (2 * z + b).fdiv (2 * b)
/-- What is told of a quotient, rounded to the nearer one. -/
def HB (z b hi lo : Int) (ok : Bool) : Prop := (b ≠ 0 ∧ WB (nearI z b) hi lo ok) ∨ (b = 0 ∧ ok = false ∧ hi = 0 ∧ lo = 0)
open Go.ChangeShapes Go.WideShapes Go.ChangeAt
/-- A slice that reads as the bytes zs. -/
def BS (w : World) (v : Value) (zs : List Int) : Prop := ∃ A cap, v = .slice A zs.length cap ∧ zs.length ≤ cap ∧ (cap : Int) ≤ 9223372036854775807 ∧ (∀ z ∈ zs, 0 ≤ z ∧ z ≤ 255) ∧
 (zs ≠ [] → ∃ b off, A = some ⟨b, off, none⟩ ∧ b < w.heap.size ∧ ∀ i, i < zs.length → w.cell? ⟨b, off + i, none⟩ = some (.int .u8 (zs.getD i 0)))
theorem BS.below {w w1 : World} {v : Value} {zs : List Int} (h : BS w v zs) (hb : Below w.heap.size w w1) : BS w1 v zs := by
 obtain ⟨A, cap, rfl, h1, h2, h3, h4⟩ := h
 refine ⟨A, cap, rfl, h1, h2, h3, fun hz => ?_⟩
 obtain ⟨b, off, rfl, hlt, hc⟩ := h4 hz
 exact ⟨b, off, rfl, Nat.lt_of_lt_of_le hlt hb.size, fun i hi => by rw [hb.cell (p := ⟨b, off + i, none⟩) hlt]; exact hc i hi⟩
theorem BS.form {w : World} {v : Value} {zs : List Int} (h : BS w v zs) : ∃ A cap, v = .slice A zs.length cap := by
 obtain ⟨A, cap, rfl, -⟩ := h; exact ⟨_, _, rfl⟩
theorem BS.some {w : World} {v : Value} {zs : List Int} (h : BS w v zs) (hz : zs ≠ []) : ∃ b off cap, v = .slice (.some ⟨b, off, none⟩) zs.length cap ∧ zs.length ≤ cap ∧ (cap : Int) ≤ 9223372036854775807 ∧ b < w.heap.size ∧ ∀ i, i < zs.length → w.cell? ⟨b, off + i, none⟩ = .some (.int .u8 (zs.getD i 0)) := by
 obtain ⟨A, cap, rfl, h1, h2, h3, h4⟩ := h
 obtain ⟨b, off, rfl, hlt, hc⟩ := h4 hz
 exact ⟨b, off, cap, rfl, h1, h2, hlt, hc⟩
theorem open_bs {P : Program} {H : Type} {enc : TypeId × Value → H} {t e : TypeId} (ht : P.underlying t = some (.slice e)) (he : P.underlying e = some (.int .u8)) (hc : P.cellsOf e = 1) {W : World} {base : Nat} {v : Value} {d : DataW H} {p : List MemPlace}
 (hval : Value.okWide P W .any base t v) (h : DataW.Trod enc P W 0 (fun _ => true) true t v d p) : ∃ zs, BS W v zs := by
 obtain ⟨a0, len, cap, rfl⟩ := okWide_slice ht hval
 obtain ⟨fuel, hf⟩ := h
 rcases open_ints ht he hc hf with ⟨hcs, hx⟩ | ⟨a, len', cap', zs, hcs, _, hl, hm, hz, hx, hcell, hwz⟩
 · simp [Value.cells] at hcs
   obtain ⟨rfl, rfl, rfl⟩ := hcs
   exact ⟨[], none, 0, rfl, by simp, by simp, by simp, fun h => absurd rfl h⟩
 · simp [Value.cells] at hcs
   obtain ⟨rfl, rfl, rfl⟩ := hcs
   simp only [if_true] at hz
   have hlen : (zs.take len).length = len := by rw [List.length_take]; omega
   refine ⟨zs.take len, some a, cap, by rw [hlen], by rw [hlen]; exact hl, by unfold maxLen at hm; omega, fun z hz' => u8_of_wf (hwz z (List.mem_of_mem_take hz')), fun hne => ?_⟩
   have hpos : 0 < len := by
    cases len with
    | zero => simp at hne
    | succ n => omega
   have g0 := hcell 0 (by omega)
   have hb : a.block < W.heap.size := by
    rcases Nat.lt_or_ge a.block W.heap.size with h | h
    · exact h
    · simp [World.cell?, Addr.add, Array.getElem?_eq_none h] at g0
   obtain ⟨b, off, spot⟩ := a
   have hspot : spot = none := by simpa [Addr.add] using World.cell?_spot g0
   subst hspot
   refine ⟨b, off, rfl, hb, fun i hi => ?_⟩
   rw [hlen] at hi
   have gi := hcell i (by omega)
   have e1 : (⟨b, off, none⟩ : Addr).add i = ⟨b, off + i, none⟩ := by
    unfold Addr.add; split
    · rename_i h; subst h; rfl
    · rfl
   rw [e1] at gi
   rw [gi]
   simp [List.getD, hi]
abbrev IT : TypeId := 31
abbrev imv (W H C : Int) (s : Value) : Value := .agg #[.int .i64 W, .int .i64 H, .int .i64 C, s]
/-- The code of an image's size. -/
def fitC (W H C : Int) : Int := if C ≠ 1 ∧ C ≠ 3 ∧ C ≠ 4 then 10 else if 32768 < W ∨ 32768 < H ∨ (0 < W ∧ 0 < H ∧ 4194304 < W * H) then 30 else if W < 1 ∨ H < 1 then 12 else 0
/-- The code of an image whose bytes are n. -/
def imC (W H C : Int) (n : Nat) : Int := if fitC W H C = 0 then (if (n : Int) = W * H * C then 0 else 12) else fitC W H C
theorem area_in {W H : Int} (hW : 1 ≤ W ∧ W ≤ 32768) (hH : 1 ≤ H ∧ H ≤ 32768) : 1 ≤ W * H ∧ W * H ≤ 1073741824 := by
 have h1 : 1 * 1 ≤ W * H := Int.mul_le_mul hW.1 hH.1 (by omega) (by omega)
 have h2 : W * H ≤ 32768 * 32768 := Int.mul_le_mul hW.2 hH.2 (by omega) (by omega)
 omega
theorem fitC_zero {W H C : Int} (h : fitC W H C = 0) : (C = 1 ∨ C = 3 ∨ C = 4) ∧ (1 ≤ W ∧ W ≤ 32768) ∧ (1 ≤ H ∧ H ≤ 32768) ∧ 1 ≤ W * H ∧ W * H ≤ 4194304 := by
 unfold fitC at h
 split at h
 · omega
 · split at h
   · omega
   · split at h
     · omega
     · have := area_in (W := W) (H := H) (by omega) (by omega)
       omega
theorem ifits (W H C : Int) (w : World) : Calls Tryz.prog 261 #[.int .i64 W, .int .i64 H, .int .i64 C] w fun e w' => e = .returned (.int .i64 (fitC W H C)) ∧ w = w' := by
 by_cases hc : C ≠ 1 ∧ C ≠ 3 ∧ C ≠ 4
 · have F : Hid (fitC W H C = 10) := if_pos hc
   obtain ⟨h1, h3, h4⟩ := hc
   have b1 : (C != 1) = true := by simpa using h1
   have b3 : (C != 3) = true := by simpa using h3
   have b4 : (C != 4) = true := by simpa using h4
   clear h1 h3 h4
   go_enter Tryz.func261, Tryz.ntmps261
   go_wp2
   go_ret
   exact ⟨ret_int F.out.symm, rfl⟩
 · have hc' : C = 1 ∨ C = 3 ∨ C = 4 := by omega
   have F0 : fitC W H C = if 32768 < W ∨ 32768 < H ∨ (0 < W ∧ 0 < H ∧ 4194304 < W * H) then 30 else if W < 1 ∨ H < 1 then 12 else 0 := if_neg hc
   generalize fitC W H C = c at *
   clear hc
   by_cases a1 : 32768 < W
   · have F : Hid (c = 30) := by show _ = _; rw [F0, if_pos (by omega)]
     clear F0
     rcases hc' with rfl | rfl | rfl
     · skip
       go_enter Tryz.func261, Tryz.ntmps261
       go_wp2
       go_ret
       exact ⟨ret_int F.out.symm, rfl⟩
     · skip
       go_enter Tryz.func261, Tryz.ntmps261
       go_wp2
       go_ret
       exact ⟨ret_int F.out.symm, rfl⟩
     · skip
       go_enter Tryz.func261, Tryz.ntmps261
       go_wp2
       go_ret
       exact ⟨ret_int F.out.symm, rfl⟩
   · by_cases a2 : 32768 < H
     · have F : Hid (c = 30) := by show _ = _; rw [F0, if_pos (by omega)]
       clear F0
       rcases hc' with rfl | rfl | rfl
       · skip
         go_enter Tryz.func261, Tryz.ntmps261
         go_wp2
         go_ret
         exact ⟨ret_int F.out.symm, rfl⟩
       · skip
         go_enter Tryz.func261, Tryz.ntmps261
         go_wp2
         go_ret
         exact ⟨ret_int F.out.symm, rfl⟩
       · skip
         go_enter Tryz.func261, Tryz.ntmps261
         go_wp2
         go_ret
         exact ⟨ret_int F.out.symm, rfl⟩
     · by_cases a3 : 0 < W
       · by_cases a4 : 0 < H
         · obtain ⟨p0, p1⟩ := area_in (W := W) (H := H) (by omega) (by omega)
           obtain ⟨P, hP⟩ : ∃ P, P = W * H := ⟨_, rfl⟩
           have hp : wrap64 (W * H) = P := by rw [hP]; exact wr_in (by omega) (by omega)
           rw [← hP] at F0 p0 p1
           have hw1 : ¬ W < 1 := by omega
           have hh1 : ¬ H < 1 := by omega
           clear hP
           by_cases a5 : 4194304 < P
           · have F : Hid (c = 30) := by show _ = _; rw [F0, if_pos (by omega)]
             clear F0
             rcases hc' with rfl | rfl | rfl
             · skip
               go_enter Tryz.func261, Tryz.ntmps261
               go_wp2
               go_ret
               exact ⟨ret_int F.out.symm, rfl⟩
             · skip
               go_enter Tryz.func261, Tryz.ntmps261
               go_wp2
               go_ret
               exact ⟨ret_int F.out.symm, rfl⟩
             · skip
               go_enter Tryz.func261, Tryz.ntmps261
               go_wp2
               go_ret
               exact ⟨ret_int F.out.symm, rfl⟩
           · have F : Hid (c = 0) := by show _ = _; rw [F0, if_neg (by omega), if_neg (by omega)]
             clear F0
             rcases hc' with rfl | rfl | rfl
             · skip
               go_enter Tryz.func261, Tryz.ntmps261
               go_wp2
               go_ret
               exact ⟨ret_int F.out.symm, rfl⟩
             · skip
               go_enter Tryz.func261, Tryz.ntmps261
               go_wp2
               go_ret
               exact ⟨ret_int F.out.symm, rfl⟩
             · skip
               go_enter Tryz.func261, Tryz.ntmps261
               go_wp2
               go_ret
               exact ⟨ret_int F.out.symm, rfl⟩
         · have hh1 : H < 1 := by omega
           have hw1 : ¬ W < 1 := by omega
           have F : Hid (c = 12) := by show _ = _; rw [F0, if_neg (by omega), if_pos (by omega)]
           clear F0
           rcases hc' with rfl | rfl | rfl
           · skip
             go_enter Tryz.func261, Tryz.ntmps261
             go_wp2
             go_ret
             exact ⟨ret_int F.out.symm, rfl⟩
           · skip
             go_enter Tryz.func261, Tryz.ntmps261
             go_wp2
             go_ret
             exact ⟨ret_int F.out.symm, rfl⟩
           · skip
             go_enter Tryz.func261, Tryz.ntmps261
             go_wp2
             go_ret
             exact ⟨ret_int F.out.symm, rfl⟩
       · have hw1 : W < 1 := by omega
         have F : Hid (c = 12) := by show _ = _; rw [F0, if_neg (by omega), if_pos (by omega)]
         clear F0
         rcases hc' with rfl | rfl | rfl
         · skip
           go_enter Tryz.func261, Tryz.ntmps261
           go_wp2
           go_ret
           exact ⟨ret_int F.out.symm, rfl⟩
         · skip
           go_enter Tryz.func261, Tryz.ntmps261
           go_wp2
           go_ret
           exact ⟨ret_int F.out.symm, rfl⟩
         · skip
           go_enter Tryz.func261, Tryz.ntmps261
           go_wp2
           go_ret
           exact ⟨ret_int F.out.symm, rfl⟩
theorem rfits07 (W H C : Int) (w : World) : Calls Tryz.prog 31 #[.int .i64 W, .int .i64 H, .int .i64 C] w fun e w' => e = .returned (.int .i64 (fitC W H C)) ∧ w = w' := by
 by_cases hc : C ≠ 1 ∧ C ≠ 3 ∧ C ≠ 4
 · have F : Hid (fitC W H C = 10) := if_pos hc
   obtain ⟨h1, h3, h4⟩ := hc
   have b1 : (C != 1) = true := by simpa using h1
   have b3 : (C != 3) = true := by simpa using h3
   have b4 : (C != 4) = true := by simpa using h4
   clear h1 h3 h4
   go_enter Tryz.func31, Tryz.ntmps31
   go_wp2
   go_ret
   exact ⟨ret_int F.out.symm, rfl⟩
 · have hc' : C = 1 ∨ C = 3 ∨ C = 4 := by omega
   have F0 : fitC W H C = if 32768 < W ∨ 32768 < H ∨ (0 < W ∧ 0 < H ∧ 4194304 < W * H) then 30 else if W < 1 ∨ H < 1 then 12 else 0 := if_neg hc
   generalize fitC W H C = c at *
   clear hc
   by_cases a1 : 32768 < W
   · have F : Hid (c = 30) := by show _ = _; rw [F0, if_pos (by omega)]
     clear F0
     rcases hc' with rfl | rfl | rfl
     · skip
       go_enter Tryz.func31, Tryz.ntmps31
       go_wp2
       go_ret
       exact ⟨ret_int F.out.symm, rfl⟩
     · skip
       go_enter Tryz.func31, Tryz.ntmps31
       go_wp2
       go_ret
       exact ⟨ret_int F.out.symm, rfl⟩
     · skip
       go_enter Tryz.func31, Tryz.ntmps31
       go_wp2
       go_ret
       exact ⟨ret_int F.out.symm, rfl⟩
   · by_cases a2 : 32768 < H
     · have F : Hid (c = 30) := by show _ = _; rw [F0, if_pos (by omega)]
       clear F0
       rcases hc' with rfl | rfl | rfl
       · skip
         go_enter Tryz.func31, Tryz.ntmps31
         go_wp2
         go_ret
         exact ⟨ret_int F.out.symm, rfl⟩
       · skip
         go_enter Tryz.func31, Tryz.ntmps31
         go_wp2
         go_ret
         exact ⟨ret_int F.out.symm, rfl⟩
       · skip
         go_enter Tryz.func31, Tryz.ntmps31
         go_wp2
         go_ret
         exact ⟨ret_int F.out.symm, rfl⟩
     · by_cases a3 : 0 < W
       · by_cases a4 : 0 < H
         · obtain ⟨p0, p1⟩ := area_in (W := W) (H := H) (by omega) (by omega)
           obtain ⟨P, hP⟩ : ∃ P, P = W * H := ⟨_, rfl⟩
           have hp : wrap64 (W * H) = P := by rw [hP]; exact wr_in (by omega) (by omega)
           rw [← hP] at F0 p0 p1
           have hw1 : ¬ W < 1 := by omega
           have hh1 : ¬ H < 1 := by omega
           clear hP
           by_cases a5 : 4194304 < P
           · have F : Hid (c = 30) := by show _ = _; rw [F0, if_pos (by omega)]
             clear F0
             rcases hc' with rfl | rfl | rfl
             · skip
               go_enter Tryz.func31, Tryz.ntmps31
               go_wp2
               go_ret
               exact ⟨ret_int F.out.symm, rfl⟩
             · skip
               go_enter Tryz.func31, Tryz.ntmps31
               go_wp2
               go_ret
               exact ⟨ret_int F.out.symm, rfl⟩
             · skip
               go_enter Tryz.func31, Tryz.ntmps31
               go_wp2
               go_ret
               exact ⟨ret_int F.out.symm, rfl⟩
           · have F : Hid (c = 0) := by show _ = _; rw [F0, if_neg (by omega), if_neg (by omega)]
             clear F0
             rcases hc' with rfl | rfl | rfl
             · skip
               go_enter Tryz.func31, Tryz.ntmps31
               go_wp2
               go_ret
               exact ⟨ret_int F.out.symm, rfl⟩
             · skip
               go_enter Tryz.func31, Tryz.ntmps31
               go_wp2
               go_ret
               exact ⟨ret_int F.out.symm, rfl⟩
             · skip
               go_enter Tryz.func31, Tryz.ntmps31
               go_wp2
               go_ret
               exact ⟨ret_int F.out.symm, rfl⟩
         · have hh1 : H < 1 := by omega
           have hw1 : ¬ W < 1 := by omega
           have F : Hid (c = 12) := by show _ = _; rw [F0, if_neg (by omega), if_pos (by omega)]
           clear F0
           rcases hc' with rfl | rfl | rfl
           · skip
             go_enter Tryz.func31, Tryz.ntmps31
             go_wp2
             go_ret
             exact ⟨ret_int F.out.symm, rfl⟩
           · skip
             go_enter Tryz.func31, Tryz.ntmps31
             go_wp2
             go_ret
             exact ⟨ret_int F.out.symm, rfl⟩
           · skip
             go_enter Tryz.func31, Tryz.ntmps31
             go_wp2
             go_ret
             exact ⟨ret_int F.out.symm, rfl⟩
       · have hw1 : W < 1 := by omega
         have F : Hid (c = 12) := by show _ = _; rw [F0, if_neg (by omega), if_pos (by omega)]
         clear F0
         rcases hc' with rfl | rfl | rfl
         · skip
           go_enter Tryz.func31, Tryz.ntmps31
           go_wp2
           go_ret
           exact ⟨ret_int F.out.symm, rfl⟩
         · skip
           go_enter Tryz.func31, Tryz.ntmps31
           go_wp2
           go_ret
           exact ⟨ret_int F.out.symm, rfl⟩
         · skip
           go_enter Tryz.func31, Tryz.ntmps31
           go_wp2
           go_ret
           exact ⟨ret_int F.out.symm, rfl⟩
theorem icheck (W H C : Int) (A : Option Addr) (n cap : Nat) (w : World) : Calls Tryz.prog 175 #[imv W H C (.slice A n cap)] w fun e w' => e = .returned (.int .i64 (imC W H C n)) ∧ Below w.heap.size w w' := by
 have CF := Lib.hid (fun w => ifits W H C w)
 by_cases h : fitC W H C = 0
 · have F0 : imC W H C n = if (n : Int) = W * H * C then 0 else 12 := if_pos h
   obtain ⟨hc, hW, hH, p0, p1⟩ := fitC_zero h
   rw [h] at CF
   obtain ⟨P, hP⟩ : ∃ P, P = W * H := ⟨_, rfl⟩
   have hp : wrap64 (W * H) = P := by rw [hP]; exact wr_in (by omega) (by omega)
   rw [← hP] at F0 p0 p1
   obtain ⟨Q, hQ⟩ : ∃ Q, Q = P * C := ⟨_, rfl⟩
   have hq : wrap64 (P * C) = Q := by rw [hQ]; rcases hc with rfl | rfl | rfl <;> exact wr_in (by omega) (by omega)
   rw [← hQ] at F0
   clear h hP hQ
   generalize imC W H C n = c at *
   by_cases hn : (n : Int) = Q
   · have F : Hid (c = 0) := by show _ = _; rw [F0, if_pos hn]
     clear F0
     go_enter Tryz.func175, Tryz.ntmps175
     go_wp2_with fail
     have BB := start1 w #[.int .i64 W, .int .i64 H, .int .i64 C, .slice A n cap] IT
     obtain ⟨BB, hsz, q0⟩ := BB
     generalize (w.alloc (.cells #[.int .i64 W, .int .i64 H, .int .i64 C, .slice A n cap] IT)) = w0 at *
     replace BB := Lib.hid BB
     replace q0 := Lib.hid q0
     clear hsz
     refine (CF.out _).mono ?_
     rintro e w9 ⟨rfl, rfl⟩
     obtain ⟨q1, q2, q3, q4, q5, q6, q7, q8⟩ := reads4 q0.out
     have q9 := q0.out.lt
     go_wp2_with fail
     go_ret
     exact ⟨ret_int F.out.symm, BB.out⟩
   · have F : Hid (c = 12) := by show _ = _; rw [F0, if_neg hn]
     have hb : ((n : Int) != Q) = true := by simpa using hn
     have hb2 : ((n : Int) == Q) = false := by simpa using hn
     clear F0
     go_enter Tryz.func175, Tryz.ntmps175
     go_wp2_with fail
     have BB := start1 w #[.int .i64 W, .int .i64 H, .int .i64 C, .slice A n cap] IT
     obtain ⟨BB, hsz, q0⟩ := BB
     generalize (w.alloc (.cells #[.int .i64 W, .int .i64 H, .int .i64 C, .slice A n cap] IT)) = w0 at *
     replace BB := Lib.hid BB
     replace q0 := Lib.hid q0
     clear hsz
     refine (CF.out _).mono ?_
     rintro e w9 ⟨rfl, rfl⟩
     obtain ⟨q1, q2, q3, q4, q5, q6, q7, q8⟩ := reads4 q0.out
     have q9 := q0.out.lt
     go_wp2_with fail
     go_ret
     exact ⟨ret_int F.out.symm, BB.out⟩
 · have F : Hid (imC W H C n = fitC W H C) := if_neg h
   generalize imC W H C n = c at *
   generalize fitC W H C = d at *
   go_enter Tryz.func175, Tryz.ntmps175
   go_wp2_with fail
   have BB := start1 w #[.int .i64 W, .int .i64 H, .int .i64 C, .slice A n cap] IT
   obtain ⟨BB, hsz, q0⟩ := BB
   generalize (w.alloc (.cells #[.int .i64 W, .int .i64 H, .int .i64 C, .slice A n cap] IT)) = w0 at *
   replace BB := Lib.hid BB
   replace q0 := Lib.hid q0
   clear hsz
   refine (CF.out _).mono ?_
   rintro e w9 ⟨rfl, rfl⟩
   obtain ⟨q1, q2, q3, q4, q5, q6, q7, q8⟩ := reads4 q0.out
   have q9 := q0.out.lt
   go_wp2_with fail
   go_ret
   exact ⟨ret_int F.out.symm, BB.out⟩
theorem rcheck07 (W H C : Int) (A : Option Addr) (n cap : Nat) (w : World) : Calls Tryz.prog 17 #[imv W H C (.slice A n cap)] w fun e w' => e = .returned (.int .i64 (imC W H C n)) ∧ Below w.heap.size w w' := by
 have CF := Lib.hid (fun w => rfits07 W H C w)
 by_cases h : fitC W H C = 0
 · have F0 : imC W H C n = if (n : Int) = W * H * C then 0 else 12 := if_pos h
   obtain ⟨hc, hW, hH, p0, p1⟩ := fitC_zero h
   rw [h] at CF
   obtain ⟨P, hP⟩ : ∃ P, P = W * H := ⟨_, rfl⟩
   have hp : wrap64 (W * H) = P := by rw [hP]; exact wr_in (by omega) (by omega)
   rw [← hP] at F0 p0 p1
   obtain ⟨Q, hQ⟩ : ∃ Q, Q = P * C := ⟨_, rfl⟩
   have hq : wrap64 (P * C) = Q := by rw [hQ]; rcases hc with rfl | rfl | rfl <;> exact wr_in (by omega) (by omega)
   rw [← hQ] at F0
   clear h hP hQ
   generalize imC W H C n = c at *
   by_cases hn : (n : Int) = Q
   · have F : Hid (c = 0) := by show _ = _; rw [F0, if_pos hn]
     clear F0
     go_enter Tryz.func17, Tryz.ntmps17
     go_wp2_with fail
     have BB := start1 w #[.int .i64 W, .int .i64 H, .int .i64 C, .slice A n cap] IT
     obtain ⟨BB, hsz, q0⟩ := BB
     generalize (w.alloc (.cells #[.int .i64 W, .int .i64 H, .int .i64 C, .slice A n cap] IT)) = w0 at *
     replace BB := Lib.hid BB
     replace q0 := Lib.hid q0
     clear hsz
     refine (CF.out _).mono ?_
     rintro e w9 ⟨rfl, rfl⟩
     obtain ⟨q1, q2, q3, q4, q5, q6, q7, q8⟩ := reads4 q0.out
     have q9 := q0.out.lt
     go_wp2_with fail
     go_ret
     exact ⟨ret_int F.out.symm, BB.out⟩
   · have F : Hid (c = 12) := by show _ = _; rw [F0, if_neg hn]
     have hb : ((n : Int) != Q) = true := by simpa using hn
     have hb2 : ((n : Int) == Q) = false := by simpa using hn
     clear F0
     go_enter Tryz.func17, Tryz.ntmps17
     go_wp2_with fail
     have BB := start1 w #[.int .i64 W, .int .i64 H, .int .i64 C, .slice A n cap] IT
     obtain ⟨BB, hsz, q0⟩ := BB
     generalize (w.alloc (.cells #[.int .i64 W, .int .i64 H, .int .i64 C, .slice A n cap] IT)) = w0 at *
     replace BB := Lib.hid BB
     replace q0 := Lib.hid q0
     clear hsz
     refine (CF.out _).mono ?_
     rintro e w9 ⟨rfl, rfl⟩
     obtain ⟨q1, q2, q3, q4, q5, q6, q7, q8⟩ := reads4 q0.out
     have q9 := q0.out.lt
     go_wp2_with fail
     go_ret
     exact ⟨ret_int F.out.symm, BB.out⟩
 · have F : Hid (imC W H C n = fitC W H C) := if_neg h
   generalize imC W H C n = c at *
   generalize fitC W H C = d at *
   go_enter Tryz.func17, Tryz.ntmps17
   go_wp2_with fail
   have BB := start1 w #[.int .i64 W, .int .i64 H, .int .i64 C, .slice A n cap] IT
   obtain ⟨BB, hsz, q0⟩ := BB
   generalize (w.alloc (.cells #[.int .i64 W, .int .i64 H, .int .i64 C, .slice A n cap] IT)) = w0 at *
   replace BB := Lib.hid BB
   replace q0 := Lib.hid q0
   clear hsz
   refine (CF.out _).mono ?_
   rintro e w9 ⟨rfl, rfl⟩
   obtain ⟨q1, q2, q3, q4, q5, q6, q7, q8⟩ := reads4 q0.out
   have q9 := q0.out.lt
   go_wp2_with fail
   go_ret
   exact ⟨ret_int F.out.symm, BB.out⟩
theorem info_u8s : (Tryz.prog.info? 5).map (fun i => (i.zero, i.size, i.bytes)) = some (some (.int .u8 0), 1, 1) := by kernel_rfl
theorem size_u8s : (Tryz.prog.info? 5).map (·.size) = some 1 := by kernel_rfl
theorem mk_bytes (c : Nat) (hc : c ≤ 1000000) (w : World) : (Instr.makeSlice 22 (.int .i64 (c : Int)) (.int .i64 (c : Int))).run Tryz.prog w = .ok (.slice (some ⟨w.heap.size, 0, none⟩) c c) (w.alloc (.cells (Array.replicate c (Value.int .u8 0)) 5)) := by
 obtain ⟨i, hi, he⟩ := Option.map_eq_some_iff.1 info_u8s
 simp only [Prod.mk.injEq] at he
 obtain ⟨hz, hs, hb⟩ := he
 have h := run_make (P := Tryz.prog) w 22 5 i _ Tryz.underlying22 hi hz .i64 .i64 (c : Int) (c : Int) (by omega) (by omega) (by rw [hb]; omega) (by omega)
 rw [hs, Int.toNat_natCast, Nat.mul_one] at h
 rw [h]
 have e : madeCells (Value.int .u8 0).cells c = Array.replicate c (Value.int .u8 0) := by
  apply Array.ext'
  rw [show (Value.int .u8 0).cells = #[Value.int .u8 0] from rfl, toList_madeCells_one]
  simp
 rw [e]
theorem row_set (w : World) (g : Nat) (cs : List Value) {c : Array Value} {T : TypeId} (h : AtB w g c T) : AtB (w.setRow g cs.toArray) g cs.toArray T := setRow_heap w g _ _ _ _ h
theorem addr_add (b o j : Nat) : (⟨b, o, none⟩ : Addr).add j = ⟨b, o + j, none⟩ := by
 unfold Addr.add; split
 · rename_i h; subst h; rfl
 · rfl
/-- An image that came in. -/
structure IMG (w : World) (s : Value) (W H C : Int) (zs : List Int) : Prop where
 iw : I64 W
 ih : I64 H
 ic : I64 C
 ib : BS w s zs
end Go.Proofs.YtikpobembcgbfaaGreatDoor
