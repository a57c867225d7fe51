/- Walk of the law LensPlain. -/
import Derived.Test.YtmipcahdmenpcaaLensInW
set_option linter.unusedVariables false
namespace Go.Proofs.Ytmipcahdmenpcaa
open Go.RowKit

/-- The numbers of a lens that bends nothing, laid anew. -/
def GiveP (cx cy f : Int) (w : World) (e : Ending) (w' : World) : Prop := e = .returned (.slice (some ⟨w.heap.size, 0, none⟩) 7 7) ∧ Below w.heap.size w w' ∧ AtB w' w.heap.size #[.int .i64 cx, .int .i64 cy, .int .i64 f, .int .i64 0, .int .i64 0, .int .i64 0, .int .i64 0] 2
theorem lplain (cx cy f : Int) (w : World) : Calls Try.prog 39 #[.int .i64 cx, .int .i64 cy, .int .i64 f] w (GiveP cx cy f w) := by
  go_enter Try.func39, Try.ntmps39
  go_wp2
  go_ret
  exact ⟨rfl, below_new (Below.refl _ _) _, new_at _ _ _⟩

theorem plain_lB (x y s o : Int) (hs : s = 0) (ho : o = 0) : lB 0 0 x y s o = x := by
  subst hs; subst ho; unfold lB lg
  simp only [Int.zero_mul, Int.zero_ediv, Int.add_zero]
  omega
/-- Which middles a lens of one pixel may have. -/
theorem plain_far {cx cy : Int} : (farI (65536 * cx) (65536 * cy) 1 (-1) (-1) 2 = true ∨ farI (65536 * cx) (65536 * cy) 1 (2 * 1 - 1) (2 * 1 - 1) 2 = true) ↔ ¬ (inI (2 * cx) 7 = true ∧ inI (2 * cy) 7 = true) := by
  unfold farI axI
  simp only [Bool.or_eq_true, Bool.not_eq_true', inI_f, inI_iff]
  omega
theorem plain_C {cx cy : Int} (hx : -128 ≤ cx ∧ cx ≤ 127) (hy : -128 ≤ cy ∧ cy ≤ 127) : lC [65536 * cx, 65536 * cy, 1, 0, 0, 0, 0] 1 1 = if inI (2 * cx) 7 = true ∧ inI (2 * cy) 7 = true then 0 else 11 := by
  rw [lC_far (if_pos ⟨inI_iff.2 (by omega), inI_iff.2 (by omega), by omega, by omega, by decide⟩) (by decide)]
  by_cases h : inI (2 * cx) 7 = true ∧ inI (2 * cy) 7 = true
  · rw [if_pos h, if_neg (fun k => plain_far.1 k h)]
  · rw [if_neg h, if_pos (plain_far.2 h)]
theorem plain_at {cx cy px py : Int} (hx : -4 ≤ px - cx ∧ px - cx ≤ 4) (hy : -4 ≤ py - cy ∧ py - cy ≤ 4) :
    farI (65536 * cx) (65536 * cy) 1 px py 1 = false ∧ latU (65536 * cx) 1 0 0 0 0 (axI px 1 (65536 * cx) 1) (axI py 1 (65536 * cy) 1) = 65536 * px ∧ latU (65536 * cy) 1 0 0 0 0 (axI py 1 (65536 * cy) 1) (axI px 1 (65536 * cx) 1) = 65536 * py := by
  refine ⟨?_, ?_, ?_⟩
  · unfold farI axI
    simp only [Bool.or_eq_false_iff, Bool.not_eq_false', inI_iff]
    omega
  · unfold latU; rw [plain_lB _ _ _ _ rfl rfl]; unfold axI; omega
  · unfold latU; rw [plain_lB _ _ _ _ rfl rfl]; unfold axI; omega

set_option maxRecDepth 100000 in
set_option maxHeartbeats 8000000 in
theorem lensPlain_any (cx cy px py d : Int) (hx : -128 ≤ cx ∧ cx ≤ 127) (hy : -128 ≤ cy ∧ cy ≤ 127) (hpx : I64 px) (hpy : I64 py) (hd : I64 d) (w : World) :
    Calls Try.prog 10 #[.int .i8 cx, .int .i8 cy, .agg #[.int .i64 px, .int .i64 py, .int .i64 d]] w fun e w' => e = .returned (.bool true) ∧ Below w.heap.size w w' := by
  have e1 : wrap64 (65536 * cx) = 65536 * cx := ww (by omega)
  have e2 : wrap64 (65536 * cy) = 65536 * cy := ww (by omega)
  have e3 : wrap64 (2 * cx) = 2 * cx := ww (by omega)
  have e4 : wrap64 (2 * cy) = 2 * cy := ww (by omega)
  have CP := Lib.hid (fun w => lplain (65536 * cx) (65536 * cy) 1 w)
  have CN := Lib.hid (fun v w hv => lnew v [65536 * cx, 65536 * cy, 1, 0, 0, 0, 0] 1 1 ⟨by omega, by omega⟩ ⟨by omega, by omega⟩ w hv)
  have HC := Lib.hid (plain_C hx hy)
  have CA := Lib.hid (fun w => alive20 w)
  have CI := Lib.hid (fun x w => rin x 7 (by omega) (by omega) w)
  have CJ := Lib.hid (fun x w => rin x 4 (by omega) (by omega) w)
  have CR := Lib.hid (fun w => rright px py 1 w)
  have HI := Lib.hid (show ∀ z ∈ [65536 * cx, 65536 * cy, 1, 0, 0, 0, 0], I64 z by simp [I64]; omega)
  go_enter Try.func10, Try.ntmps10
  go_wp2_with fail
  have BB := start1 w #[.int .i64 px, .int .i64 py, .int .i64 d] 62
  obtain ⟨BB, hsz, r_p⟩ := BB
  generalize (w.alloc (.cells #[.int .i64 px, .int .i64 py, .int .i64 d] 62)) = w0 at *
  replace BB := Lib.hid BB
  replace r_p := Lib.hid r_p
  clear hsz
  refine (CP.out _).mono ?_
  rintro e w1 ⟨rfl, hb, r_c⟩
  replace r_p := Lib.hid (r_p.out.keep hb)
  replace BB := Lib.hid (below_next BB.out hb)
  clear hb
  replace r_c := Lib.hid r_c
  obtain ⟨c_c0, c_c1, c_c2, c_c3, c_c4, c_c5, c_c6, f_c0, f_c1, f_c2, f_c3, f_c4, f_c5, f_c6⟩ := reads7 r_c.out
  have l_c := r_c.out.lt
  go_wp2_with fail
  refine (CN.out _ _ (is_at7 r_c.out HI.out)).mono ?_
  rintro e w2 ⟨m, rfl, hb, hn, hp⟩
  clear c_c0 c_c1 c_c2 c_c3 c_c4 c_c5 c_c6 f_c0 f_c1 f_c2 f_c3 f_c4 f_c5 f_c6 l_c
  replace r_p := Lib.hid (r_p.out.keep hb)
  replace r_c := Lib.hid (r_c.out.keep hb)
  replace BB := Lib.hid (below_next BB.out hb)
  clear hb
  have hn := Lib.hid hn; have hp := Lib.hid hp
  rw [HC.out]
  rw [HC.out] at hn hp
  clear CN CP HI HC
  rcases ha : inI (2 * cx) 7 with _ | _
  · obtain rfl := hn.out (by rw [ha]; simp)
    simp only [Bool.false_eq_true, false_and, if_false]
    clear hn hp CJ CR
    go_wp2_with fail
    refine (CI.out _ _).mono ?_
    rintro e w9 ⟨rfl, rfl⟩
    rw [ha]
    go_wp2_with fail
    refine (CA.out _).mono ?_
    rintro e w3 ⟨rfl, hb⟩
    replace r_p := Lib.hid (r_p.out.keep hb)
    replace r_c := Lib.hid (r_c.out.keep hb)
    replace BB := Lib.hid (below_next BB.out hb)
    clear hb
    go_wp2_with fail
    refine bodyPost_ret (v := .bool true) (by unfold results; simp only [Try.results10]; go_simp) rfl ?_
    exact ⟨rfl, BB.out⟩
  rcases hb' : inI (2 * cy) 7 with _ | _
  · obtain rfl := hn.out (by rw [hb']; simp)
    simp only [Bool.false_eq_true, and_false, if_false]
    clear hn hp CJ CR
    go_wp2_with fail
    refine (CI.out _ _).mono ?_
    rintro e w9 ⟨rfl, rfl⟩
    rw [ha]
    go_wp2_with fail
    refine (CI.out _ _).mono ?_
    rintro e w9 ⟨rfl, rfl⟩
    rw [hb']
    go_wp2_with fail
    refine (CA.out _).mono ?_
    rintro e w3 ⟨rfl, hb⟩
    replace r_p := Lib.hid (r_p.out.keep hb)
    replace r_c := Lib.hid (r_c.out.keep hb)
    replace BB := Lib.hid (below_next BB.out hb)
    clear hb
    go_wp2_with fail
    refine bodyPost_ret (v := .bool true) (by unfold results; simp only [Try.results10]; go_simp) rfl ?_
    exact ⟨rfl, BB.out⟩
  obtain ⟨g, c0, c1, c2, c3, c4, c5, c6, rfl, hz, hM, r_m⟩ := hp.out (by rw [ha, hb']; simp)
  simp only [List.cons.injEq, and_true] at hz
  obtain ⟨rfl, rfl, rfl, rfl, rfl, rfl, rfl⟩ := hz
  simp only [and_self, if_true]
  have HAT := Lib.hid (fun k1 k2 => plain_at (cx := cx) (cy := cy) (px := px) (py := py) k1 k2)
  have CT := Lib.hid (fun hr hf w hm => lat_ok g (65536 * cx) (65536 * cy) 1 0 0 0 0 px py 1 hr hM hf w hm)
  replace r_m := Lib.hid r_m
  clear hn hp
  go_wp2_with fail
  refine (CI.out _ _).mono ?_
  rintro e w9 ⟨rfl, rfl⟩
  rw [ha]
  go_wp2_with fail
  refine (CI.out _ _).mono ?_
  rintro e w9 ⟨rfl, rfl⟩
  rw [hb']
  clear CI ha hb'
  cases h1 : (d != 1)
  · obtain rfl : d = 1 := by simpa using h1
    have q1 : wrap64 (px - cx) = wrap64 (px - cx) := rfl
    rcases hi : inI (wrap64 (px - cx)) 4 with _ | _
    · clear HAT CT CR
      obtain ⟨c_p0, c_p1, c_p2, f_p0, f_p1, f_p2⟩ := reads3 r_p.out
      have l_p := r_p.out.lt
      go_wp2_with fail
      refine (CJ.out _ _).mono ?_
      rintro e w9 ⟨rfl, rfl⟩
      rw [hi]
      go_wp2_with fail
      refine (CA.out _).mono ?_
      rintro e w3 ⟨rfl, hb⟩
      clear c_p0 c_p1 c_p2 f_p0 f_p1 f_p2 l_p
      replace r_p := Lib.hid (r_p.out.keep hb)
      replace r_c := Lib.hid (r_c.out.keep hb)
      replace r_m := Lib.hid (r_m.out.keep hb)
      replace BB := Lib.hid (below_next BB.out hb)
      clear hb
      go_wp2_with fail
      refine bodyPost_ret (v := .bool true) (by unfold results; simp only [Try.results10]; go_simp) rfl ?_
      exact ⟨rfl, BB.out⟩
    rcases hj : inI (wrap64 (py - cy)) 4 with _ | _
    · clear HAT CT CR
      obtain ⟨c_p0, c_p1, c_p2, f_p0, f_p1, f_p2⟩ := reads3 r_p.out
      have l_p := r_p.out.lt
      go_wp2_with fail
      refine (CJ.out _ _).mono ?_
      rintro e w9 ⟨rfl, rfl⟩
      rw [hi]
      go_wp2_with fail
      refine (CJ.out _ _).mono ?_
      rintro e w9 ⟨rfl, rfl⟩
      rw [hj]
      go_wp2_with fail
      refine (CA.out _).mono ?_
      rintro e w3 ⟨rfl, hb⟩
      clear c_p0 c_p1 c_p2 f_p0 f_p1 f_p2 l_p
      replace r_p := Lib.hid (r_p.out.keep hb)
      replace r_c := Lib.hid (r_c.out.keep hb)
      replace r_m := Lib.hid (r_m.out.keep hb)
      replace BB := Lib.hid (below_next BB.out hb)
      clear hb
      go_wp2_with fail
      refine bodyPost_ret (v := .bool true) (by unfold results; simp only [Try.results10]; go_simp) rfl ?_
      exact ⟨rfl, BB.out⟩
    rcases hr : rightI px py 1 with _ | _
    · rw [hr] at CR
      clear HAT CT hr
      obtain ⟨c_p0, c_p1, c_p2, f_p0, f_p1, f_p2⟩ := reads3 r_p.out
      have l_p := r_p.out.lt
      go_wp2_with fail
      refine (CJ.out _ _).mono ?_
      rintro e w9 ⟨rfl, rfl⟩
      rw [hi]
      go_wp2_with fail
      refine (CJ.out _ _).mono ?_
      rintro e w9 ⟨rfl, rfl⟩
      rw [hj]
      go_wp2_with fail
      refine (CR.out _).mono ?_
      rintro e w9 ⟨rfl, rfl⟩
      go_wp2_with fail
      refine (CA.out _).mono ?_
      rintro e w3 ⟨rfl, hb⟩
      clear c_p0 c_p1 c_p2 f_p0 f_p1 f_p2 l_p
      replace r_p := Lib.hid (r_p.out.keep hb)
      replace r_c := Lib.hid (r_c.out.keep hb)
      replace r_m := Lib.hid (r_m.out.keep hb)
      replace BB := Lib.hid (below_next BB.out hb)
      clear hb
      go_wp2_with fail
      refine bodyPost_ret (v := .bool true) (by unfold results; simp only [Try.results10]; go_simp) rfl ?_
      exact ⟨rfl, BB.out⟩
    rw [hr] at CR
    obtain ⟨x0, y0, -, -⟩ := rightI_iff.1 hr
    have i0 := inI_iff.1 hi
    have j0 := inI_iff.1 hj
    rw [ww (by omega)] at i0 j0
    obtain ⟨t1, t2, t3⟩ := HAT.out i0 j0
    replace CT := Lib.hid (CT.out hr t1)
    rw [t2, t3] at CT
    have e5 : wrap64 (65536 * px) = 65536 * px := ww (by omega)
    have e6 : wrap64 (65536 * py) = 65536 * py := ww (by omega)
    clear HAT t1 t2 t3 x0 y0 i0 j0 hr hx hy hpx hpy hd
    obtain ⟨c_p0, c_p1, c_p2, f_p0, f_p1, f_p2⟩ := reads3 r_p.out
    have l_p := r_p.out.lt
    go_wp2_with fail
    refine (CJ.out _ _).mono ?_
    rintro e w9 ⟨rfl, rfl⟩
    rw [hi]
    go_wp2_with fail
    refine (CJ.out _ _).mono ?_
    rintro e w9 ⟨rfl, rfl⟩
    rw [hj]
    go_wp2_with fail
    refine (CR.out _).mono ?_
    rintro e w9 ⟨rfl, rfl⟩
    go_wp2_with fail
    refine (CT.out _ r_m.out).mono ?_
    rintro e w9 ⟨rfl, m_q, rfl⟩
    have hb := below_drawn (Below.refl w2.heap.size w2) m_q
    generalize w2.drewN m_q = w3 at *
    clear c_p0 c_p1 c_p2 f_p0 f_p1 f_p2 l_p
    replace r_p := Lib.hid (r_p.out.keep hb)
    replace r_c := Lib.hid (r_c.out.keep hb)
    replace r_m := Lib.hid (r_m.out.keep hb)
    replace BB := Lib.hid (below_next BB.out hb)
    clear hb
    obtain ⟨c_p0, c_p1, c_p2, f_p0, f_p1, f_p2⟩ := reads3 r_p.out
    have l_p := r_p.out.lt
    go_wp2_with fail
    refine (CA.out _).mono ?_
    rintro e w4 ⟨rfl, hb⟩
    clear c_p0 c_p1 c_p2 f_p0 f_p1 f_p2 l_p
    replace r_p := Lib.hid (r_p.out.keep hb)
    replace r_c := Lib.hid (r_c.out.keep hb)
    replace r_m := Lib.hid (r_m.out.keep hb)
    replace BB := Lib.hid (below_next BB.out hb)
    clear hb
    go_wp2_with fail
    refine bodyPost_ret (v := .bool true) (by unfold results; simp only [Try.results10]; go_simp) rfl ?_
    exact ⟨rfl, BB.out⟩
  · clear HAT CT CR CJ
    obtain ⟨c_p0, c_p1, c_p2, f_p0, f_p1, f_p2⟩ := reads3 r_p.out
    have l_p := r_p.out.lt
    go_wp2_with fail
    refine (CA.out _).mono ?_
    rintro e w3 ⟨rfl, hb⟩
    clear c_p0 c_p1 c_p2 f_p0 f_p1 f_p2 l_p
    replace r_p := Lib.hid (r_p.out.keep hb)
    replace r_c := Lib.hid (r_c.out.keep hb)
    replace r_m := Lib.hid (r_m.out.keep hb)
    replace BB := Lib.hid (below_next BB.out hb)
    clear hb
    go_wp2_with fail
    refine bodyPost_ret (v := .bool true) (by unfold results; simp only [Try.results10]; go_simp) rfl ?_
    exact ⟨rfl, BB.out⟩

end Go.Proofs.Ytmipcahdmenpcaa
