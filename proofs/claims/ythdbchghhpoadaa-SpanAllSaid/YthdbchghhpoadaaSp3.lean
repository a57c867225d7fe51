/- Contracts of span.line's span, of span.Row; the chapter's example. -/
import Derived.Test.YthdbchghhpoadaaSp2
import Derived.Test.YthdbchghhpoadaaBoxS
set_option linter.unusedVariables false
set_option linter.unusedSimpArgs false
namespace Go.Proofs.Ythdbchghhpoadaa
open Go.RowKit
abbrev SPT : TypeId := 26
/-- Whether a column of a row comes from the image. -/
def inB (c0 c1 c2 c3 c4 c5 W H y : Int) (x : Int) : Bool := decide (0 ≤ colI c0 c1 c2 c3 c4 c5 y x) && (decide (colI c0 c1 c2 c3 c4 c5 y x < W) && (decide (0 ≤ rowI c0 c1 c2 c3 c4 c5 y x) && decide (rowI c0 c1 c2 c3 c4 c5 y x < H)))
set_option maxRecDepth 100000 in
set_option maxHeartbeats 4000000 in
theorem lspan (g : Nat) (c0 c1 c2 c3 c4 c5 W H y : Int) (n : Nat) (hn : 0 < n ∧ n ≤ 32768) (hM : AM c0 c1 c2 c3 c4 c5) (hy : 0 ≤ y ∧ y ≤ 32768) (w : World) (hm : AtB w g (afCells c0 c1 c2 c3 c4 c5) AT) :
    Calls Try.prog 30 #[lineV g W H y, .int .i64 (n : Int)] w fun e w' => e = .returned (.agg #[.int .i64 y, .int .i64 ((rowB (inB c0 c1 c2 c3 c4 c5 W H y) n).2.1 : Int), .int .i64 ((rowB (inB c0 c1 c2 c3 c4 c5 W H y) n).2.2 : Int)]) ∧ Below w.heap.size w w' := by
  have hD : detI c0 c1 c3 c4 ≠ 0 := hM.lines.1.z
  have CW := Lib.hid (fun w1 (hm : AtB w1 g (afCells c0 c1 c2 c3 c4 c5) AT) => wcol (lineV g W H y) (colI c0 c1 c2 c3 c4 c5 y) W n hn (rowF_way _ _ _ _ _ hD n) w1 (fun k w2 hk hb => lcol g c0 c1 c2 c3 c4 c5 W H y k hM ⟨by omega, by omega⟩ hy w2 (hm.keep hb)))
  have CH := Lib.hid (fun w1 (hm : AtB w1 g (afCells c0 c1 c2 c3 c4 c5) AT) => wrow (lineV g W H y) (rowI c0 c1 c2 c3 c4 c5 y) H n hn (rowF_way _ _ _ _ _ hD n) w1 (fun k w2 hk hb => lrow g c0 c1 c2 c3 c4 c5 W H y k hM ⟨by omega, by omega⟩ hy w2 (hm.keep hb)))
  have hmf : ∀ (fn : Fn) (first cap : Array Value) (w : World), (Instr.makeFunc fn first cap).run Try.prog w = .ok (.func fn first cap) w := fun _ _ _ _ => rfl
  have HS := Lib.hid (fun (a b c d : Nat) (h1 : WithIn (colI c0 c1 c2 c3 c4 c5 y) W n a b) (h2 : WithIn (rowI c0 c1 c2 c3 c4 c5 y) H n c d) => row_same h1 h2)
  have he : Hid ((fun x => decide (0 ≤ colI c0 c1 c2 c3 c4 c5 y x) && (decide (colI c0 c1 c2 c3 c4 c5 y x < W) && (decide (0 ≤ rowI c0 c1 c2 c3 c4 c5 y x) && decide (rowI c0 c1 c2 c3 c4 c5 y x < H)))) = inB c0 c1 c2 c3 c4 c5 W H y) := by show _ = _; funext x; rfl
  rw [he.out] at HS
  generalize inB c0 c1 c2 c3 c4 c5 W H y = p at *
  replace hm := Lib.hid hm
  clear hM hy hD he hn
  go_enter Try.func30, Try.ntmps30
  go_upto_region 1 with fail
  have BB := start2 w #[.pointer (some ⟨g, 0, none⟩), .int .i64 W, .int .i64 H, .int .i64 y] LNT #[.int .i64 0, .int .i64 0, .int .i64 0] SPT
  obtain ⟨BB, hsz, r_l, r_res⟩ := BB
  generalize ((w.alloc (.cells #[.pointer (some ⟨g, 0, none⟩), .int .i64 W, .int .i64 H, .int .i64 y] LNT)).alloc (.cells #[.int .i64 0, .int .i64 0, .int .i64 0] SPT)) = w0 at *
  replace BB := Lib.hid BB
  replace r_l := Lib.hid r_l
  replace r_res := Lib.hid r_res
  clear hsz
  obtain ⟨c_l0, c_l1, c_l2, c_l3, f_l0, f_l1, f_l2, f_l3⟩ := reads4 r_l.out
  have l_l := r_l.out.lt
  go_wp2_with fail
  refine (CW.out _ (hm.out.keep BB.out)).mono ?_
  rintro e w1 ⟨a, b, rfl, h1, hb⟩
  clear c_l0 c_l1 c_l2 c_l3 f_l0 f_l1 f_l2 f_l3 l_l
  replace r_l := Lib.hid (r_l.out.keep hb)
  replace r_res := Lib.hid (r_res.out.keep hb)
  replace BB := Lib.hid (below_next BB.out hb)
  clear hb
  replace h1 := Lib.hid h1
  obtain ⟨c_l0, c_l1, c_l2, c_l3, f_l0, f_l1, f_l2, f_l3⟩ := reads4 r_l.out
  have l_l := r_l.out.lt
  go_wp2_with fail
  refine (CH.out _ (hm.out.keep BB.out)).mono ?_
  rintro e w2 ⟨c, d, rfl, h2, hb⟩
  clear c_l0 c_l1 c_l2 c_l3 f_l0 f_l1 f_l2 f_l3 l_l
  replace r_l := Lib.hid (r_l.out.keep hb)
  replace r_res := Lib.hid (r_res.out.keep hb)
  replace BB := Lib.hid (below_next BB.out hb)
  clear hb
  have h3 := Lib.hid (HS.out a b c d h1.out h2)
  clear h1 h2 HS CW CH hm
  obtain ⟨X0, hX0⟩ : ∃ v : Nat, v = max a c := ⟨_, rfl⟩
  obtain ⟨X1, hX1⟩ : ∃ v : Nat, v = min b d := ⟨_, rfl⟩
  have q0 : (if a < c then (c : Int) else (a : Int)) = (X0 : Int) := by split <;> omega
  have q1 : (if d < b then (d : Int) else (b : Int)) = (X1 : Int) := by split <;> omega
  have h4 : Hid (spX a b c d = if X0 < X1 then (X0, X1) else (0, 0)) := by rw [hX0, hX1]; rfl
  clear hX0 hX1
  by_cases k1 : X1 ≤ X0
  · have h5 := Lib.hid (h4.out.trans (if_neg (by omega)))
    obtain ⟨c_l0, c_l1, c_l2, c_l3, f_l0, f_l1, f_l2, f_l3⟩ := reads4 r_l.out
    have l_l := r_l.out.lt
    obtain ⟨c_res0, c_res1, c_res2, f_res0, f_res1, f_res2⟩ := reads3 r_res.out
    have l_res := r_res.out.lt
    go_wp2_with fail
    clear c_l0 c_l1 c_l2 c_l3 f_l0 f_l1 f_l2 f_l3 l_l c_res0 c_res1 c_res2 f_res0 f_res1 f_res2 l_res
    have e_st : (((w2.setCell ⟨w.heap.size + 1, 0, none⟩ (.int .i64 y)).setCell ⟨w.heap.size + 1, 1, none⟩ (.int .i64 0)).setCell ⟨w.heap.size + 1, 2, none⟩ (.int .i64 0)) = setFrom w2 (w.heap.size + 1) 0 [.int .i64 y, .int .i64 0, .int .i64 0] := by simp only [setFrom, Nat.reduceAdd]
    rw [e_st]
    clear e_st
    replace r_l := Lib.hid (AtB.farAll (p := w.heap.size + 1) (by omega) [.int .i64 y, .int .i64 0, .int .i64 0] 0 r_l.out)
    replace r_res := Lib.hid (AtB.setAll r_res.out [.int .i64 y, .int .i64 0, .int .i64 0] rfl)
    replace BB := Lib.hid (below_setAll (b := w.heap.size + 1) (by omega) [.int .i64 y, .int .i64 0, .int .i64 0] 0 BB.out)
    generalize setFrom w2 (w.heap.size + 1) 0 [.int .i64 y, .int .i64 0, .int .i64 0] = w3 at *
    obtain ⟨c_res0, c_res1, c_res2, f_res0, f_res1, f_res2⟩ := reads3 r_res.out
    have l_res := r_res.out.lt
    go_wp2_with fail
    refine bodyPost_ret (v := .agg #[.int .i64 y, .int .i64 0, .int .i64 0]) (by unfold results; simp only [Try.results30]; go_simp) rfl ?_
    exact ⟨by rw [h3.out, h5.out]; rfl, BB.out⟩
  · have h5 := Lib.hid (h4.out.trans (if_pos (by omega)))
    obtain ⟨c_l0, c_l1, c_l2, c_l3, f_l0, f_l1, f_l2, f_l3⟩ := reads4 r_l.out
    have l_l := r_l.out.lt
    obtain ⟨c_res0, c_res1, c_res2, f_res0, f_res1, f_res2⟩ := reads3 r_res.out
    have l_res := r_res.out.lt
    go_wp2_with fail
    clear c_l0 c_l1 c_l2 c_l3 f_l0 f_l1 f_l2 f_l3 l_l c_res0 c_res1 c_res2 f_res0 f_res1 f_res2 l_res
    have e_st : (((w2.setCell ⟨w.heap.size + 1, 0, none⟩ (.int .i64 y)).setCell ⟨w.heap.size + 1, 1, none⟩ (.int .i64 (X0 : Int))).setCell ⟨w.heap.size + 1, 2, none⟩ (.int .i64 (X1 : Int))) = setFrom w2 (w.heap.size + 1) 0 [.int .i64 y, .int .i64 (X0 : Int), .int .i64 (X1 : Int)] := by simp only [setFrom, Nat.reduceAdd]
    rw [e_st]
    clear e_st
    replace r_l := Lib.hid (AtB.farAll (p := w.heap.size + 1) (by omega) [.int .i64 y, .int .i64 (X0 : Int), .int .i64 (X1 : Int)] 0 r_l.out)
    replace r_res := Lib.hid (AtB.setAll r_res.out [.int .i64 y, .int .i64 (X0 : Int), .int .i64 (X1 : Int)] rfl)
    replace BB := Lib.hid (below_setAll (b := w.heap.size + 1) (by omega) [.int .i64 y, .int .i64 (X0 : Int), .int .i64 (X1 : Int)] 0 BB.out)
    generalize setFrom w2 (w.heap.size + 1) 0 [.int .i64 y, .int .i64 (X0 : Int), .int .i64 (X1 : Int)] = w3 at *
    obtain ⟨c_res0, c_res1, c_res2, f_res0, f_res1, f_res2⟩ := reads3 r_res.out
    have l_res := r_res.out.lt
    go_wp2_with fail
    refine bodyPost_ret (v := .agg #[.int .i64 y, .int .i64 (X0 : Int), .int .i64 (X1 : Int)]) (by unfold results; simp only [Try.results30]; go_simp) rfl ?_
    exact ⟨by rw [h3.out, h5.out], BB.out⟩
/-- The code of a row. -/
def rowC (zs : List Int) (W H y tu : Int) : Int := if spC zs W H tu 1 ≠ 0 then spC zs W H tu 1 else if y < 0 ∨ 32768 ≤ y then 11 else 0
set_option maxRecDepth 100000 in
set_option maxHeartbeats 4000000 in
theorem prow_no (v : Value) (zs : List Int) (W H y tu : Int) (hC : rowC zs W H y tu ≠ 0) (w : World) (hv : IS w v zs) :
    Calls Try.prog 8 #[v, .int .i64 W, .int .i64 H, .int .i64 y, .int .i64 tu] w fun e w' => e = .returned (.tuple #[.agg #[.int .i64 0, .int .i64 0, .int .i64 0], .int .i64 (rowC zs W H y tu)]) ∧ Below w.heap.size w w' := by
  have CC := Lib.hid (fun w hv => spcheck v zs W H tu 1 w hv)
  replace hv := Lib.hid hv
  unfold rowC at *
  generalize spC zs W H tu 1 = C at *
  by_cases h0 : C ≠ 0
  · rw [if_pos h0]
    have h0' : (C != 0) = true := by simpa using h0
    clear hC h0
    go_enter Try.func8, Try.ntmps8
    go_upto_region 1 with fail
    have BB := start1 w #[.int .i64 0, .int .i64 0, .int .i64 0] SPT
    obtain ⟨BB, hsz, r_res⟩ := BB
    generalize (w.alloc (.cells #[.int .i64 0, .int .i64 0, .int .i64 0] SPT)) = w0 at *
    replace BB := Lib.hid BB
    replace r_res := Lib.hid r_res
    clear hsz
    go_wp2_with fail
    refine (CC.out _ (hv.out.below BB.out)).mono ?_
    rintro e w1 ⟨rfl, hb⟩
    replace r_res := Lib.hid (r_res.out.keep hb)
    replace BB := Lib.hid (below_next BB.out hb)
    clear hb
    obtain ⟨c_res0, c_res1, c_res2, f_res0, f_res1, f_res2⟩ := reads3 r_res.out
    have l_res := r_res.out.lt
    go_wp2_with fail
    clear c_res0 c_res1 c_res2 f_res0 f_res1 f_res2 l_res
    have e_st : (((w1.setCell ⟨w.heap.size, 0, none⟩ (.int .i64 0)).setCell ⟨w.heap.size, 1, none⟩ (.int .i64 0)).setCell ⟨w.heap.size, 2, none⟩ (.int .i64 0)) = setFrom w1 (w.heap.size) 0 [.int .i64 0, .int .i64 0, .int .i64 0] := by simp only [setFrom, Nat.reduceAdd]
    rw [e_st]
    clear e_st
    replace r_res := Lib.hid (AtB.setAll r_res.out [.int .i64 0, .int .i64 0, .int .i64 0] rfl)
    replace BB := Lib.hid (below_setAll (b := w.heap.size) (by omega) [.int .i64 0, .int .i64 0, .int .i64 0] 0 BB.out)
    generalize setFrom w1 (w.heap.size) 0 [.int .i64 0, .int .i64 0, .int .i64 0] = w2 at *
    obtain ⟨c_res0, c_res1, c_res2, f_res0, f_res1, f_res2⟩ := reads3 r_res.out
    have l_res := r_res.out.lt
    go_wp2_with fail
    refine bodyPost_ret (v := .tuple #[.agg #[.int .i64 0, .int .i64 0, .int .i64 0], .int .i64 C]) (by unfold results; simp only [Try.results8]; go_simp) rfl ?_
    exact ⟨rfl, BB.out⟩
  · obtain rfl : C = 0 := by omega
    rw [if_neg h0] at hC ⊢
    by_cases hy : y < 0 ∨ 32768 ≤ y
    · rw [if_pos hy]
      clear hC h0
      rcases dec_both (y < 0) with ⟨k1, d1⟩ | ⟨k1, d1⟩
      · clear hy k1
        go_enter Try.func8, Try.ntmps8
        go_upto_region 1 with fail
        have BB := start1 w #[.int .i64 0, .int .i64 0, .int .i64 0] SPT
        obtain ⟨BB, hsz, r_res⟩ := BB
        generalize (w.alloc (.cells #[.int .i64 0, .int .i64 0, .int .i64 0] SPT)) = w0 at *
        replace BB := Lib.hid BB
        replace r_res := Lib.hid r_res
        clear hsz
        go_wp2_with fail
        refine (CC.out _ (hv.out.below BB.out)).mono ?_
        rintro e w1 ⟨rfl, hb⟩
        replace r_res := Lib.hid (r_res.out.keep hb)
        replace BB := Lib.hid (below_next BB.out hb)
        clear hb
        obtain ⟨c_res0, c_res1, c_res2, f_res0, f_res1, f_res2⟩ := reads3 r_res.out
        have l_res := r_res.out.lt
        go_wp2_with fail
        clear c_res0 c_res1 c_res2 f_res0 f_res1 f_res2 l_res
        have e_st : (((w1.setCell ⟨w.heap.size, 0, none⟩ (.int .i64 0)).setCell ⟨w.heap.size, 1, none⟩ (.int .i64 0)).setCell ⟨w.heap.size, 2, none⟩ (.int .i64 0)) = setFrom w1 (w.heap.size) 0 [.int .i64 0, .int .i64 0, .int .i64 0] := by simp only [setFrom, Nat.reduceAdd]
        rw [e_st]
        clear e_st
        replace r_res := Lib.hid (AtB.setAll r_res.out [.int .i64 0, .int .i64 0, .int .i64 0] rfl)
        replace BB := Lib.hid (below_setAll (b := w.heap.size) (by omega) [.int .i64 0, .int .i64 0, .int .i64 0] 0 BB.out)
        generalize setFrom w1 (w.heap.size) 0 [.int .i64 0, .int .i64 0, .int .i64 0] = w2 at *
        obtain ⟨c_res0, c_res1, c_res2, f_res0, f_res1, f_res2⟩ := reads3 r_res.out
        have l_res := r_res.out.lt
        go_wp2_with fail
        refine bodyPost_ret (v := .tuple #[.agg #[.int .i64 0, .int .i64 0, .int .i64 0], .int .i64 11]) (by unfold results; simp only [Try.results8]; go_simp) rfl ?_
        exact ⟨rfl, BB.out⟩
      · have d2 : decide (y ≥ 32768) = true := decide_eq_true (by omega)
        clear hy k1
        go_enter Try.func8, Try.ntmps8
        go_upto_region 1 with fail
        have BB := start1 w #[.int .i64 0, .int .i64 0, .int .i64 0] SPT
        obtain ⟨BB, hsz, r_res⟩ := BB
        generalize (w.alloc (.cells #[.int .i64 0, .int .i64 0, .int .i64 0] SPT)) = w0 at *
        replace BB := Lib.hid BB
        replace r_res := Lib.hid r_res
        clear hsz
        go_wp2_with fail
        refine (CC.out _ (hv.out.below BB.out)).mono ?_
        rintro e w1 ⟨rfl, hb⟩
        replace r_res := Lib.hid (r_res.out.keep hb)
        replace BB := Lib.hid (below_next BB.out hb)
        clear hb
        obtain ⟨c_res0, c_res1, c_res2, f_res0, f_res1, f_res2⟩ := reads3 r_res.out
        have l_res := r_res.out.lt
        go_wp2_with fail
        clear c_res0 c_res1 c_res2 f_res0 f_res1 f_res2 l_res
        have e_st : (((w1.setCell ⟨w.heap.size, 0, none⟩ (.int .i64 0)).setCell ⟨w.heap.size, 1, none⟩ (.int .i64 0)).setCell ⟨w.heap.size, 2, none⟩ (.int .i64 0)) = setFrom w1 (w.heap.size) 0 [.int .i64 0, .int .i64 0, .int .i64 0] := by simp only [setFrom, Nat.reduceAdd]
        rw [e_st]
        clear e_st
        replace r_res := Lib.hid (AtB.setAll r_res.out [.int .i64 0, .int .i64 0, .int .i64 0] rfl)
        replace BB := Lib.hid (below_setAll (b := w.heap.size) (by omega) [.int .i64 0, .int .i64 0, .int .i64 0] 0 BB.out)
        generalize setFrom w1 (w.heap.size) 0 [.int .i64 0, .int .i64 0, .int .i64 0] = w2 at *
        obtain ⟨c_res0, c_res1, c_res2, f_res0, f_res1, f_res2⟩ := reads3 r_res.out
        have l_res := r_res.out.lt
        go_wp2_with fail
        refine bodyPost_ret (v := .tuple #[.agg #[.int .i64 0, .int .i64 0, .int .i64 0], .int .i64 11]) (by unfold results; simp only [Try.results8]; go_simp) rfl ?_
        exact ⟨rfl, BB.out⟩
    · rw [if_neg hy] at hC; exact absurd rfl hC
theorem rowC_zero {zs : List Int} {W H y tu : Int} (h : rowC zs W H y tu = 0) : spC zs W H tu 1 = 0 ∧ 0 ≤ y ∧ y < 32768 := by
  unfold rowC at h
  by_cases h0 : spC zs W H tu 1 ≠ 0
  · rw [if_pos h0] at h; exact absurd h h0
  · rw [if_neg h0] at h
    by_cases hy : y < 0 ∨ 32768 ≤ y
    · rw [if_pos hy] at h; omega
    · exact ⟨by omega, by omega, by omega⟩
set_option maxRecDepth 100000 in
set_option maxHeartbeats 4000000 in
theorem prow_ok (v : Value) (c0 c1 c2 c3 c4 c5 W H y : Int) (n : Nat) (hC : rowC [c0, c1, c2, c3, c4, c5] W H y n = 0) (w : World) (hv : IS w v [c0, c1, c2, c3, c4, c5]) :
    Calls Try.prog 8 #[v, .int .i64 W, .int .i64 H, .int .i64 y, .int .i64 (n : Int)] w fun e w' => e = .returned (.tuple #[.agg #[.int .i64 y, .int .i64 ((rowB (inB c0 c1 c2 c3 c4 c5 W H y) n).2.1 : Int), .int .i64 ((rowB (inB c0 c1 c2 c3 c4 c5 W H y) n).2.2 : Int)], .int .i64 0]) ∧ Below w.heap.size w w' := by
  obtain ⟨s0, y0, y1⟩ := rowC_zero hC
  obtain ⟨a0, -, -, n0, -⟩ := spC_zero s0
  have CC := Lib.hid (fun w hv => spcheck v [c0, c1, c2, c3, c4, c5] W H n 1 w hv)
  have CN := Lib.hid (fun w hv => afnew v [c0, c1, c2, c3, c4, c5] w hv)
  unfold GiveAf at CN
  rw [s0] at CC
  rw [a0] at CN
  have CS := Lib.hid (fun g hM w hm => lspan g c0 c1 c2 c3 c4 c5 W H y n ⟨by omega, by omega⟩ hM ⟨by omega, by omega⟩ w hm)
  have d1 : decide (y < 0) = false := decide_eq_false (by omega)
  have d2 : decide (y ≥ 32768) = false := decide_eq_false (by omega)
  generalize ((rowB (inB c0 c1 c2 c3 c4 c5 W H y) n).2.1 : Int) = X0 at *
  generalize ((rowB (inB c0 c1 c2 c3 c4 c5 W H y) n).2.2 : Int) = X1 at *
  replace hv := Lib.hid hv
  clear hC s0 y0 y1 a0 n0
  go_enter Try.func8, Try.ntmps8
  go_upto_region 1 with fail
  have BB := start1 w #[.int .i64 0, .int .i64 0, .int .i64 0] SPT
  obtain ⟨BB, hsz, r_res⟩ := BB
  generalize (w.alloc (.cells #[.int .i64 0, .int .i64 0, .int .i64 0] SPT)) = w0 at *
  replace BB := Lib.hid BB
  replace r_res := Lib.hid r_res
  clear hsz
  go_wp2_with fail
  refine (CC.out _ (hv.out.below BB.out)).mono ?_
  rintro e w1 ⟨rfl, hb⟩
  replace r_res := Lib.hid (r_res.out.keep hb)
  replace BB := Lib.hid (below_next BB.out hb)
  clear hb
  go_wp2_with fail
  refine (CN.out _ (hv.out.below BB.out)).mono ?_
  rintro e w2 ⟨m, rfl, hb, -, hp⟩
  replace r_res := Lib.hid (r_res.out.keep hb)
  replace BB := Lib.hid (below_next BB.out hb)
  clear hb
  obtain ⟨g, e0, e1, e2, e3, e4, e5, rfl, hz, hM, hA⟩ := hp trivial
  simp only [List.cons.injEq, and_true] at hz
  obtain ⟨rfl, rfl, rfl, rfl, rfl, rfl⟩ := hz
  have hA := Lib.hid hA
  have CS1 := Lib.hid (fun w hm => CS.out g hM w hm)
  clear hp hM CS CN CC
  go_wp2_with fail
  refine (CS1.out _ hA.out).mono ?_
  rintro e w3 ⟨rfl, hb⟩
  replace r_res := Lib.hid (r_res.out.keep hb)
  replace BB := Lib.hid (below_next BB.out hb)
  clear hb
  obtain ⟨c_res0, c_res1, c_res2, f_res0, f_res1, f_res2⟩ := reads3 r_res.out
  have l_res := r_res.out.lt
  go_wp2_with fail
  clear c_res0 c_res1 c_res2 f_res0 f_res1 f_res2 l_res
  have e_st : (((w3.setCell ⟨w.heap.size, 0, none⟩ (.int .i64 y)).setCell ⟨w.heap.size, 1, none⟩ (.int .i64 X0)).setCell ⟨w.heap.size, 2, none⟩ (.int .i64 X1)) = setFrom w3 (w.heap.size) 0 [.int .i64 y, .int .i64 X0, .int .i64 X1] := by simp only [setFrom, Nat.reduceAdd]
  rw [e_st]
  clear e_st
  replace r_res := Lib.hid (AtB.setAll r_res.out [.int .i64 y, .int .i64 X0, .int .i64 X1] rfl)
  replace BB := Lib.hid (below_setAll (b := w.heap.size) (by omega) [.int .i64 y, .int .i64 X0, .int .i64 X1] 0 BB.out)
  generalize setFrom w3 (w.heap.size) 0 [.int .i64 y, .int .i64 X0, .int .i64 X1] = w4 at *
  obtain ⟨c_res0, c_res1, c_res2, f_res0, f_res1, f_res2⟩ := reads3 r_res.out
  have l_res := r_res.out.lt
  go_wp2_with fail
  refine bodyPost_ret (v := .tuple #[.agg #[.int .i64 y, .int .i64 X0, .int .i64 X1], .int .i64 0]) (by unfold results; simp only [Try.results8]; go_simp) rfl ?_
  exact ⟨rfl, BB.out⟩
theorem is_at6 {w : World} {g : Nat} {c0 c1 c2 c3 c4 c5 : Int} {T : TypeId} (h : AtB w g #[.int .i64 c0, .int .i64 c1, .int .i64 c2, .int .i64 c3, .int .i64 c4, .int .i64 c5] T) (hz : ∀ z ∈ [c0, c1, c2, c3, c4, c5], I64 z) :
    IS w (.slice (some ⟨g, 0, none⟩) 6 6) [c0, c1, c2, c3, c4, c5] := by
  refine ⟨_, _, rfl, by simp, by simp, hz, fun _ => ⟨g, 0, rfl, h.lt, fun i hi => ?_⟩⟩
  simp at hi
  have : i = 0 ∨ i = 1 ∨ i = 2 ∨ i = 3 ∨ i = 4 ∨ i = 5 := by omega
  rcases this with rfl | rfl | rfl | rfl | rfl | rfl
  all_goals exact h.cell _ rfl
set_option maxRecDepth 100000 in
theorem alive26 (w : World) : Calls Try.prog 10 #[] w fun e w' => e = .returned (.bool true) ∧ Below w.heap.size w w' := by
  have hC : rowC [65536, 0, 131072, 0, 65536, 0] 3 3 0 (9 : Nat) = 0 := by decide +kernel
  have hR : (rowB (inB 65536 0 131072 0 65536 0 3 3 0) 9).2 = (2, 5) := by decide +kernel
  have CR := Lib.hid (fun v w hv => prow_ok v 65536 0 131072 0 65536 0 3 3 0 9 hC w hv)
  rw [hR] at CR
  clear hC hR
  go_enter Try.func10, Try.ntmps10
  go_wp2_with fail
  have BB : Hid (Below w.heap.size w w) := Below.refl _ _
  obtain ⟨hb, r_c⟩ := laid w #[.int .i64 65536, .int .i64 0, .int .i64 131072, .int .i64 0, .int .i64 65536, .int .i64 0] 2
  replace BB := Lib.hid (below_next BB.out hb)
  replace r_c := Lib.hid r_c
  clear hb
  generalize w.alloc (.cells #[.int .i64 65536, .int .i64 0, .int .i64 131072, .int .i64 0, .int .i64 65536, .int .i64 0] 2) = w1 at *
  refine (CR.out _ _ (is_at6 r_c.out (by simp [I64]))).mono ?_
  rintro e w2 ⟨rfl, hb⟩
  replace r_c := Lib.hid (r_c.out.keep hb)
  replace BB := Lib.hid (below_next BB.out hb)
  clear hb
  go_wp2_with fail
  go_ret
  exact ⟨rfl, below_new BB.out _⟩
end Go.Proofs.Ythdbchghhpoadaa
