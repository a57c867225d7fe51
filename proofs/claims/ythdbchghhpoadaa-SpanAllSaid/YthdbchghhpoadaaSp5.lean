/- Contract of ref26.Row; the walk of the law SpanRows. -/
import Derived.Test.YthdbchghhpoadaaSp4
set_option linter.unusedVariables false
set_option linter.unusedSimpArgs false
namespace Go.Proofs.Ythdbchghhpoadaa
open Go.RowKit Go.ChangeShapes Go.WideShapes Go.ChangeAt Go.Deep
abbrev RST : TypeId := 32
theorem rowB_step (p : Int → Bool) (k : Nat) : (p k = false → rowB p (k + 1) = rowB p k) ∧ (p k = true → rowB p (k + 1) = (true, if (rowB p k).1 then (rowB p k).2.1 else k, k + 1)) := by
  constructor
  · intro h; rw [rowB, h]; rfl
  · intro h; rw [rowB, h]; rfl
set_option maxRecDepth 100000 in
set_option maxHeartbeats 4000000 in
theorem r26row (v : Value) (c0 c1 c2 c3 c4 c5 W H y : Int) (n : Nat) (hn : n ≤ 32768) (hM : AM c0 c1 c2 c3 c4 c5) (hy : 0 ≤ y ∧ y ≤ 32768) (w : World) (hv : IS w v [c0, c1, c2, c3, c4, c5]) :
    Calls Try.prog 11 #[v, .int .i64 W, .int .i64 H, .int .i64 y, .int .i64 (n : Int)] w fun e w' => e = .returned (.agg #[.int .i64 y, .int .i64 ((rowB (inB c0 c1 c2 c3 c4 c5 W H y) n).2.1 : Int), .int .i64 ((rowB (inB c0 c1 c2 c3 c4 c5 W H y) n).2.2 : Int)]) ∧ Below w.heap.size w w' := by
  have CI := Lib.hid (fun (k : Nat) (hk : k < n) w hv => r26in v c0 c1 c2 c3 c4 c5 W H k y hM (rightI_iff.2 ⟨⟨by omega, by omega⟩, ⟨by omega, by omega⟩, by omega, by omega⟩) w hv)
  generalize inB c0 c1 c2 c3 c4 c5 W H y = p at *
  have hv := Lib.hid hv
  have hn := Lib.hid hn
  clear hM hy
  go_enter Try.func11, Try.ntmps11
  go_upto_region 1 with fail
  have BB := start1 w #[.int .i64 0, .int .i64 0, .int .i64 0] RST
  obtain ⟨BB, hsz, r_res⟩ := BB
  generalize (w.alloc (.cells #[.int .i64 0, .int .i64 0, .int .i64 0] RST)) = w0 at *
  replace BB := Lib.hid BB
  replace r_res := Lib.hid r_res
  clear hsz
  go_wp2_with fail
  have d_s := Lib.hid (And.intro BB.out.size (And.intro r_res.out.lt (True.intro)))
  obtain ⟨hb, r_s⟩ := laid w0 #[.int .i64 y, .int .i64 0, .int .i64 0] RST
  replace r_res := Lib.hid (r_res.out.keep hb)
  replace BB := Lib.hid (below_next BB.out hb)
  replace r_s := Lib.hid r_s
  clear hb
  generalize w0.alloc (.cells #[.int .i64 y, .int .i64 0, .int .i64 0] RST) = w1 at *
  generalize w0.heap.size = g_s at *
  go_loopw [12, 13] (fun so c wr => ∃ k : Nat, k ≤ n ∧ so = .bool (rowB p k).1 ∧ c = .int .i64 (k : Int) ∧ Hid (AtB wr w.heap.size #[.int .i64 0, .int .i64 0, .int .i64 0] RST ∧ AtB wr g_s #[.int .i64 y, .int .i64 ((rowB p k).2.1 : Int), .int .i64 ((rowB p k).2.2 : Int)] RST ∧ Below w.heap.size w wr)) (fun _ c _ => n - (intOf c).toNat)
  case atStart => exact ⟨0, by omega, rfl, rfl, ⟨r_res.out, r_s.out, BB.out⟩⟩
  case round =>
    clear BB r_res r_s
    obtain ⟨k, hk, rfl, rfl, hinv⟩ := hrel
    obtain ⟨r_res, r_s, BB⟩ := hinv.out
    replace r_res := Lib.hid r_res; replace r_s := Lib.hid r_s; replace BB := Lib.hid BB
    clear hinv
    by_cases hlt : k < n
    · have hlt' : (k : Int) < (n : Int) := by omega
      have CK := Lib.hid (fun w hv => CI.out k hlt w hv)
      obtain ⟨s1, s2⟩ := rowB_step p k
      have hs1 := Lib.hid s1
      have hs2 := Lib.hid s2
      clear s1 s2
      have hkb := Lib.hid (show k ≤ 32768 by have := hn.out; omega)
      have e1 : IntKind.i64.wrap ((k : Int) + 1) = ((k + 1 : Nat) : Int) := by rw [show ((k + 1 : Nat) : Int) = (k : Int) + 1 by omega]; exact iw ⟨by omega, by have := hkb.out; omega⟩
      obtain ⟨k1, hk1⟩ : ∃ v : Int, v = ((k + 1 : Nat) : Int) := ⟨_, rfl⟩
      rw [← hk1] at e1
      replace hk1 := Lib.hid hk1
      generalize rowB p k = R at *
      obtain ⟨R0, R1, R2⟩ := R
      simp only at r_s hs1 hs2 ⊢
      go_wp2_with fail
      refine (CK.out _ (hv.out.below BB.out)).mono ?_
      rintro e w2 ⟨rfl, hb⟩
      replace r_res := Lib.hid (r_res.out.keep hb)
      replace r_s := Lib.hid (r_s.out.keep hb)
      replace BB := Lib.hid (below_next BB.out hb)
      clear hb
      clear CK
      cases hp : p k
      · skip
        have hs := Lib.hid (hs1.out hp)
        clear hs1 hs2
        go_wp2_with fail
        go_roundw
        case rel => exact ⟨k + 1, by omega, by rw [hs.out], by rw [← hk1.out], ⟨r_res.out, by rw [hs.out]; exact r_s.out, BB.out⟩⟩
        case measure => have := hk1.out; simp [intOf]; omega
      · skip
        have hs := Lib.hid (hs2.out hp)
        clear hs1 hs2
        cases R0
        · skip
          obtain ⟨c_s0, c_s1, c_s2, f_s0, f_s1, f_s2⟩ := reads3 r_s.out
          have l_s := r_s.out.lt
          go_wp2_with fail
          clear c_s0 c_s1 c_s2 f_s0 f_s1 f_s2 l_s
          replace r_res := Lib.hid ((r_res.out.far (p := g_s) (by have dd_s := d_s.out; omega) 1 (.int .i64 (Nat.cast k))).far (p := g_s) (by have dd_s := d_s.out; omega) 2 (.int .i64 k1))
          replace r_s := Lib.hid (show AtB ((w2.setCell ⟨g_s, 1, none⟩ (.int .i64 (Nat.cast k))).setCell ⟨g_s, 2, none⟩ (.int .i64 k1)) (g_s) #[.int .i64 y, .int .i64 (Nat.cast k), .int .i64 k1] RST from by have k := ((r_s.out.set_n 1 (.int .i64 (Nat.cast k))).set_n 2 (.int .i64 k1)); simpa using k)
          replace BB := Lib.hid (below_set (below_set BB.out (b := g_s) (o := 1) (by have dd := d_s.out; omega) (.int .i64 (Nat.cast k))) (b := g_s) (o := 2) (by have dd := d_s.out; omega) (.int .i64 k1))
          generalize ((w2.setCell ⟨g_s, 1, none⟩ (.int .i64 (Nat.cast k))).setCell ⟨g_s, 2, none⟩ (.int .i64 k1)) = w3 at *
          go_roundw
          case rel => exact ⟨k + 1, by omega, by rw [hs.out], by rw [← hk1.out], ⟨r_res.out, by rw [hs.out, ← hk1.out]; exact r_s.out, BB.out⟩⟩
          case measure => have := hk1.out; simp [intOf]; omega
        · skip
          obtain ⟨c_s0, c_s1, c_s2, f_s0, f_s1, f_s2⟩ := reads3 r_s.out
          have l_s := r_s.out.lt
          go_wp2_with fail
          clear c_s0 c_s1 c_s2 f_s0 f_s1 f_s2 l_s
          replace r_res := Lib.hid (r_res.out.far (p := g_s) (by have dd_s := d_s.out; omega) 2 (.int .i64 k1))
          replace r_s := Lib.hid (show AtB (w2.setCell ⟨g_s, 2, none⟩ (.int .i64 k1)) (g_s) #[.int .i64 y, .int .i64 (Nat.cast R1), .int .i64 k1] RST from by have k := (r_s.out.set_n 2 (.int .i64 k1)); simpa using k)
          replace BB := Lib.hid (below_set BB.out (b := g_s) (o := 2) (by have dd := d_s.out; omega) (.int .i64 k1))
          generalize (w2.setCell ⟨g_s, 2, none⟩ (.int .i64 k1)) = w3 at *
          go_roundw
          case rel => exact ⟨k + 1, by omega, by rw [hs.out], by rw [← hk1.out], ⟨r_res.out, by rw [hs.out, ← hk1.out]; exact r_s.out, BB.out⟩⟩
          case measure => have := hk1.out; simp [intOf]; omega
    · obtain rfl : k = n := by omega
      have hlt' : ¬ (k : Int) < (k : Int) := by omega
      obtain ⟨c_s0, c_s1, c_s2, f_s0, f_s1, f_s2⟩ := reads3 r_s.out
      have l_s := r_s.out.lt
      obtain ⟨c_res0, c_res1, c_res2, f_res0, f_res1, f_res2⟩ := reads3 r_res.out
      have l_res := r_res.out.lt
      go_wp2_with fail
      clear c_s0 c_s1 c_s2 f_s0 f_s1 f_s2 l_s c_res0 c_res1 c_res2 f_res0 f_res1 f_res2 l_res
      have e_st : (((wr.setCell ⟨w.heap.size, 0, none⟩ (.int .i64 y)).setCell ⟨w.heap.size, 1, none⟩ (.int .i64 (Nat.cast (rowB p k).2.1))).setCell ⟨w.heap.size, 2, none⟩ (.int .i64 (Nat.cast (rowB p k).2.2))) = setFrom wr (w.heap.size) 0 [.int .i64 y, .int .i64 (Nat.cast (rowB p k).2.1), .int .i64 (Nat.cast (rowB p k).2.2)] := by simp only [setFrom, Nat.reduceAdd]
      rw [e_st]
      clear e_st
      replace r_res := Lib.hid (AtB.setAll r_res.out [.int .i64 y, .int .i64 (Nat.cast (rowB p k).2.1), .int .i64 (Nat.cast (rowB p k).2.2)] rfl)
      replace r_s := Lib.hid (AtB.farAll (p := w.heap.size) (by have dd_s := d_s.out; omega) [.int .i64 y, .int .i64 (Nat.cast (rowB p k).2.1), .int .i64 (Nat.cast (rowB p k).2.2)] 0 r_s.out)
      replace BB := Lib.hid (below_setAll (b := w.heap.size) (by omega) [.int .i64 y, .int .i64 (Nat.cast (rowB p k).2.1), .int .i64 (Nat.cast (rowB p k).2.2)] 0 BB.out)
      generalize setFrom wr (w.heap.size) 0 [.int .i64 y, .int .i64 (Nat.cast (rowB p k).2.1), .int .i64 (Nat.cast (rowB p k).2.2)] = w4 at *
      obtain ⟨c_res0, c_res1, c_res2, f_res0, f_res1, f_res2⟩ := reads3 r_res.out
      have l_res := r_res.out.lt
      refine bodyPost_ret (v := .agg #[.int .i64 y, .int .i64 (Nat.cast (rowB p k).2.1), .int .i64 (Nat.cast (rowB p k).2.2)]) (by unfold results; simp only [Try.results11]; go_simp) rfl ?_
      exact ⟨rfl, BB.out⟩
end Go.Proofs.Ythdbchghhpoadaa
