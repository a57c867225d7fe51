/- Walk of the law MeshHulls. -/
import Derived.Test.YthoakbjnofhpbaaMeU
import Derived.Test.YthoakbjnofhpbaaMeH
import Derived.Test.YthoakbjnofhpbaaMeHk
set_option linter.unusedVariables false
set_option linter.unusedSimpArgs false
namespace Go.Proofs.Ythoakbjnofhpbaa
open Go.RowKit Go.ChangeShapes Go.WideShapes Go.ChangeAt Go.Deep
abbrev RCT : TypeId := 50
abbrev PLT : TypeId := 24
/-- A place within a rectangle's pixels comes from between the hull's bounds. -/
theorem hu_between {gx gy nx ny px py d x0 y0 x1 y1 : Int} (f : Int → Int → Int) (g1 : 1 ≤ gx ∧ gx ≤ 1024) (g2 : 1 ≤ gy ∧ gy ≤ 1024) (g3 : 1 ≤ nx ∧ nx ≤ 64) (g4 : 1 ≤ ny ∧ ny ≤ 64) (hd : 1 ≤ d ∧ d ≤ 16) (hx : x0 < x1) (hy : y0 < y1)
    (p0 : (2 * x0 - 1) * d ≤ 2 * px) (p1 : 2 * px ≤ (2 * x1 - 1) * d) (q0 : (2 * y0 - 1) * d ≤ 2 * py) (q1 : 2 * py ≤ (2 * y1 - 1) * d) (hf : ∀ i k, -2147483648 ≤ f i k ∧ f i k ≤ 2147483648) :
    huP min f gx gy nx ny x0 y0 x1 y1 ≤ mePl gx gy nx ny px py d f ∧ mePl gx gy nx ny px py d f ≤ huP max f gx gy nx ny x0 y0 x1 y1 := by
  have HX := hu_facts g1 g3 hx
  have HY := hu_facts g2 g4 hy
  have a0 := cellI_mono (g := gx) (n := nx) (a := 2 * x0 - 1) (b := px) (e := 2) (f := d) g1 g3 (by omega) (by omega) (by omega)
  have a1 := cellI_mono (g := gx) (n := nx) (a := px) (b := 2 * x1 - 1) (e := d) (f := 2) g1 g3 (by omega) (by omega) (by omega)
  have b0 := cellI_mono (g := gy) (n := ny) (a := 2 * y0 - 1) (b := py) (e := 2) (f := d) g2 g4 (by omega) (by omega) (by omega)
  have b1 := cellI_mono (g := gy) (n := ny) (a := py) (b := 2 * y1 - 1) (e := d) (f := 2) g2 g4 (by omega) (by omega) (by omega)
  unfold huP
  obtain ⟨l1, l2, l3⟩ := foBox_min f (huI gx nx x0) (huI gy ny y0) (huM gx nx x0 x1) (huM gy ny y0 y1) (f (huI gx nx x0) (huI gy ny y0))
  obtain ⟨h1, h2, h3⟩ := foBox_max f (huI gx nx x0) (huI gy ny y0) (huM gx nx x0 x1) (huM gy ny y0 y1) (f (huI gx nx x0) (huI gy ny y0))
  refine me_between f g1 g2 g3 g4 hd ?_ ?_ _ _ (fun i k hi hk => ⟨l2 i k hi hk, h2 i k hi hk⟩) ?_ ?_
  · unfold huI at *; omega
  · unfold huI at *; omega
  · rcases l3 with l3 | ⟨i, k, -, -, l3⟩ <;> rw [l3] <;> exact (hf _ _).1
  · rcases h3 with h3 | ⟨i, k, -, -, h3⟩ <;> rw [h3] <;> exact (hf _ _).2
set_option maxRecDepth 100000 in
set_option maxHeartbeats 8000000 in
theorem meshHulls_long (v : Value) (n1 : Nat) (A : Option Addr) (cap : Nat) (h : (n1 : Int) > 9000) (x0 y0 x1 y1 px py d : Int) (w : World) :
    Calls Try.prog 6 #[.slice A n1 cap, .agg #[.int .i64 x0, .int .i64 y0, .int .i64 x1, .int .i64 y1], .agg #[.int .i64 px, .int .i64 py, .int .i64 d]] w fun e w' => e = .returned (.bool true) ∧ Below w.heap.size w w' := by
  obtain ⟨g1, d1⟩ : ∃ _ : True, decide ((n1 : Int) > 9000) = true := ⟨trivial, decide_eq_true h⟩
  clear h
  go_enter Try.func6, Try.ntmps6
  go_upto_region 1 with fail
  have BB := start2 w #[.int .i64 x0, .int .i64 y0, .int .i64 x1, .int .i64 y1] RCT #[.int .i64 px, .int .i64 py, .int .i64 d] PLT
  obtain ⟨BB, hsz, r_r, r_p⟩ := BB
  generalize ((w.alloc (.cells #[.int .i64 x0, .int .i64 y0, .int .i64 x1, .int .i64 y1] RCT)).alloc (.cells #[.int .i64 px, .int .i64 py, .int .i64 d] PLT)) = w0 at *
  replace BB := Lib.hid BB
  replace r_r := Lib.hid r_r
  replace r_p := Lib.hid r_p
  clear hsz
  go_wp2_with fail
  refine bodyPost_ret (v := .bool true) (by unfold results; simp only [Try.results6]; go_simp) rfl ?_
  exact ⟨rfl, BB.out⟩
set_option maxRecDepth 100000 in
set_option maxHeartbeats 8000000 in
theorem meshHulls_bad (v : Value) (zs : List Int) (x0 y0 x1 y1 px py d : Int) (hC : meC zs 1 1 ≠ 0) (w : World) (hv : IS w v zs) :
    Calls Try.prog 6 #[v, .agg #[.int .i64 x0, .int .i64 y0, .int .i64 x1, .int .i64 y1], .agg #[.int .i64 px, .int .i64 py, .int .i64 d]] w fun e w' => e = .returned (.bool true) ∧ Below w.heap.size w w' := by
  have CN := Lib.hid (fun w hv => mnew_any v zs 1 1 w hv)
  have CD := Lib.hid (fun w hv => r21check v zs 1 1 w hv)
  unfold GiveNew at CN
  have CH := Lib.hid (fun w => mhull_nil x0 y0 x1 y1 w)
  have CA := Lib.hid (fun w => alive21 w)
  obtain ⟨A, cap, rfl⟩ := hv.form
  rcases dec_both ((zs.length : Int) > 9000) with ⟨g1, d1⟩ | ⟨g1, d1⟩
  · exact meshHulls_long (.bool true) _ A cap g1 x0 y0 x1 y1 px py d w
  have hv := Lib.hid hv
  generalize hn1 : zs.length = n1 at *
  have hn1 := Lib.hid hn1
  go_enter Try.func6, Try.ntmps6
  go_upto_region 1 with fail
  have BB := start2 w #[.int .i64 x0, .int .i64 y0, .int .i64 x1, .int .i64 y1] RCT #[.int .i64 px, .int .i64 py, .int .i64 d] PLT
  obtain ⟨BB, hsz, r_r, r_p⟩ := BB
  generalize ((w.alloc (.cells #[.int .i64 x0, .int .i64 y0, .int .i64 x1, .int .i64 y1] RCT)).alloc (.cells #[.int .i64 px, .int .i64 py, .int .i64 d] PLT)) = w0 at *
  replace BB := Lib.hid BB
  replace r_r := Lib.hid r_r
  replace r_p := Lib.hid r_p
  clear hsz
  have h_v := Lib.hid (hv.out.below BB.out)
  go_wp2_with fail
  refine (CN.out _ h_v.out).mono ?_
  rintro e w1 ⟨m, rfl, hb, hn, -⟩
  replace r_r := Lib.hid (r_r.out.keep hb)
  replace r_p := Lib.hid (r_p.out.keep hb)
  replace h_v := Lib.hid (IS.below h_v.out hb)
  replace BB := Lib.hid (below_next BB.out hb)
  clear hb
  clear CN
  generalize meC zs 1 1 = C at *
  have hC' : (C != 0) = true := by simpa using hC
  have hC2 : (C == 0) = false := by simpa using hC
  obtain rfl := hn hC
  clear hn hC
  obtain ⟨c_r0, c_r1, c_r2, c_r3, f_r0, f_r1, f_r2, f_r3⟩ := reads4 r_r.out
  have l_r := r_r.out.lt
  go_wp2_with fail
  refine (CH.out _).mono ?_
  rintro e w2 ⟨rfl, hb⟩
  clear c_r0 c_r1 c_r2 c_r3 f_r0 f_r1 f_r2 f_r3 l_r
  replace r_r := Lib.hid (r_r.out.keep hb)
  replace r_p := Lib.hid (r_p.out.keep hb)
  replace h_v := Lib.hid (IS.below h_v.out hb)
  replace BB := Lib.hid (below_next BB.out hb)
  clear hb
  go_upto_region 5 with fail
  have d_h := Lib.hid (And.intro BB.out.size (And.intro r_r.out.lt (And.intro r_p.out.lt (True.intro))))
  obtain ⟨hb, r_h⟩ := laid w2 #[.int .i64 0, .int .i64 0, .int .i64 0, .int .i64 0] RCT
  replace r_r := Lib.hid (r_r.out.keep hb)
  replace r_p := Lib.hid (r_p.out.keep hb)
  replace h_v := Lib.hid (IS.below h_v.out hb)
  replace BB := Lib.hid (below_next BB.out hb)
  replace r_h := Lib.hid r_h
  clear hb
  generalize w2.alloc (.cells #[.int .i64 0, .int .i64 0, .int .i64 0, .int .i64 0] RCT) = w3 at *
  generalize w2.heap.size = g_h at *
  go_wp2_with fail
  refine (CD.out _ h_v.out).mono ?_
  rintro e w4 ⟨rfl, hb⟩
  replace r_r := Lib.hid (r_r.out.keep hb)
  replace r_p := Lib.hid (r_p.out.keep hb)
  replace r_h := Lib.hid (r_h.out.keep hb)
  replace h_v := Lib.hid (IS.below h_v.out hb)
  replace BB := Lib.hid (below_next BB.out hb)
  clear hb
  go_wp2_with fail
  refine (CD.out _ h_v.out).mono ?_
  rintro e w5 ⟨rfl, hb⟩
  replace r_r := Lib.hid (r_r.out.keep hb)
  replace r_p := Lib.hid (r_p.out.keep hb)
  replace r_h := Lib.hid (r_h.out.keep hb)
  replace h_v := Lib.hid (IS.below h_v.out hb)
  replace BB := Lib.hid (below_next BB.out hb)
  clear hb
  obtain ⟨c_h0, c_h1, c_h2, c_h3, f_h0, f_h1, f_h2, f_h3⟩ := reads4 r_h.out
  have l_h := r_h.out.lt
  go_wp2_with fail
  refine (CA.out _).mono ?_
  rintro e w6 ⟨rfl, hb⟩
  clear c_h0 c_h1 c_h2 c_h3 f_h0 f_h1 f_h2 f_h3 l_h
  replace r_r := Lib.hid (r_r.out.keep hb)
  replace r_p := Lib.hid (r_p.out.keep hb)
  replace r_h := Lib.hid (r_h.out.keep hb)
  replace h_v := Lib.hid (IS.below h_v.out hb)
  replace BB := Lib.hid (below_next BB.out hb)
  clear hb
  go_wp2_with fail
  refine bodyPost_ret (v := .bool true) (by unfold results; simp only [Try.results6]; go_simp) rfl ?_
  exact ⟨rfl, BB.out⟩
set_option maxRecDepth 100000 in
set_option maxHeartbeats 8000000 in
theorem meshHulls_no (v : Value) (zs : List Int) (x0 y0 x1 y1 px py d : Int) (hC : meC zs 1 1 = 0) (hR : ¬ (0 ≤ x0 ∧ x1 ≤ 32768 ∧ 0 ≤ y0 ∧ y1 ≤ 32768 ∧ x0 < x1 ∧ y0 < y1)) (w : World) (hv : IS w v zs) :
    Calls Try.prog 6 #[v, .agg #[.int .i64 x0, .int .i64 y0, .int .i64 x1, .int .i64 y1], .agg #[.int .i64 px, .int .i64 py, .int .i64 d]] w fun e w' => e = .returned (.bool true) ∧ Below w.heap.size w w' := by
  have CN := Lib.hid (fun w hv => mnew_any v zs 1 1 w hv)
  have CD := Lib.hid (fun w hv => r21check v zs 1 1 w hv)
  unfold GiveNew at CN
  rw [hC] at CN CD
  clear hC
  have CH := Lib.hid (fun g w => mhull_no g x0 y0 x1 y1 hR w)
  have CA := Lib.hid (fun w => alive21 w)
  obtain ⟨A, cap, rfl⟩ := hv.form
  rcases dec_both ((zs.length : Int) > 9000) with ⟨g1, d1⟩ | ⟨g1, d1⟩
  · exact meshHulls_long (.bool true) _ A cap g1 x0 y0 x1 y1 px py d w
  have hv := Lib.hid hv
  generalize hn1 : zs.length = n1 at *
  have hn1 := Lib.hid hn1
  rcases dec_both (x0 ≥ 0) with ⟨k1, e1⟩ | ⟨k1, e1⟩
  · rcases dec_both (x1 ≤ 32768) with ⟨k2, e2⟩ | ⟨k2, e2⟩
    · rcases dec_both (y0 ≥ 0) with ⟨k3, e3⟩ | ⟨k3, e3⟩
      · rcases dec_both (y1 ≤ 32768) with ⟨k4, e4⟩ | ⟨k4, e4⟩
        · rcases dec_both (x0 < x1) with ⟨k5, e5⟩ | ⟨k5, e5⟩
          · have e6 : decide (y0 < y1) = false := decide_eq_false (fun k6 => hR ⟨k1, k2, k3, k4, k5, k6⟩)
            clear k1 k2 k3 k4 k5
            clear hR
            go_enter Try.func6, Try.ntmps6
            go_upto_region 1 with fail
            have BB := start2 w #[.int .i64 x0, .int .i64 y0, .int .i64 x1, .int .i64 y1] RCT #[.int .i64 px, .int .i64 py, .int .i64 d] PLT
            obtain ⟨BB, hsz, r_r, r_p⟩ := BB
            generalize ((w.alloc (.cells #[.int .i64 x0, .int .i64 y0, .int .i64 x1, .int .i64 y1] RCT)).alloc (.cells #[.int .i64 px, .int .i64 py, .int .i64 d] PLT)) = w0 at *
            replace BB := Lib.hid BB
            replace r_r := Lib.hid r_r
            replace r_p := Lib.hid r_p
            clear hsz
            have h_v := Lib.hid (hv.out.below BB.out)
            go_wp2_with fail
            refine (CN.out _ h_v.out).mono ?_
            rintro e w1 ⟨m, rfl, hb, -, hp⟩
            replace r_r := Lib.hid (r_r.out.keep hb)
            replace r_p := Lib.hid (r_p.out.keep hb)
            replace h_v := Lib.hid (IS.below h_v.out hb)
            replace BB := Lib.hid (below_next BB.out hb)
            clear hb
            obtain ⟨gx, gy, nx, ny, rest, N, g, -, -, -, rfl, -⟩ := hp trivial
            clear CN hp
            obtain ⟨c_r0, c_r1, c_r2, c_r3, f_r0, f_r1, f_r2, f_r3⟩ := reads4 r_r.out
            have l_r := r_r.out.lt
            go_wp2_with fail
            refine (CH.out g _).mono ?_
            rintro e w2 ⟨rfl, hb⟩
            clear c_r0 c_r1 c_r2 c_r3 f_r0 f_r1 f_r2 f_r3 l_r
            replace r_r := Lib.hid (r_r.out.keep hb)
            replace r_p := Lib.hid (r_p.out.keep hb)
            replace h_v := Lib.hid (IS.below h_v.out hb)
            replace BB := Lib.hid (below_next BB.out hb)
            clear hb
            go_upto_region 5 with fail
            have d_h := Lib.hid (And.intro BB.out.size (And.intro r_r.out.lt (And.intro r_p.out.lt (True.intro))))
            obtain ⟨hb, r_h⟩ := laid w2 #[.int .i64 0, .int .i64 0, .int .i64 0, .int .i64 0] RCT
            replace r_r := Lib.hid (r_r.out.keep hb)
            replace r_p := Lib.hid (r_p.out.keep hb)
            replace h_v := Lib.hid (IS.below h_v.out hb)
            replace BB := Lib.hid (below_next BB.out hb)
            replace r_h := Lib.hid r_h
            clear hb
            generalize w2.alloc (.cells #[.int .i64 0, .int .i64 0, .int .i64 0, .int .i64 0] RCT) = w3 at *
            generalize w2.heap.size = g_h at *
            go_wp2_with fail
            refine (CD.out _ h_v.out).mono ?_
            rintro e w4 ⟨rfl, hb⟩
            replace r_r := Lib.hid (r_r.out.keep hb)
            replace r_p := Lib.hid (r_p.out.keep hb)
            replace r_h := Lib.hid (r_h.out.keep hb)
            replace h_v := Lib.hid (IS.below h_v.out hb)
            replace BB := Lib.hid (below_next BB.out hb)
            clear hb
            obtain ⟨c_r0, c_r1, c_r2, c_r3, f_r0, f_r1, f_r2, f_r3⟩ := reads4 r_r.out
            have l_r := r_r.out.lt
            go_wp2_with fail
            refine (CD.out _ h_v.out).mono ?_
            rintro e w5 ⟨rfl, hb⟩
            clear c_r0 c_r1 c_r2 c_r3 f_r0 f_r1 f_r2 f_r3 l_r
            replace r_r := Lib.hid (r_r.out.keep hb)
            replace r_p := Lib.hid (r_p.out.keep hb)
            replace r_h := Lib.hid (r_h.out.keep hb)
            replace h_v := Lib.hid (IS.below h_v.out hb)
            replace BB := Lib.hid (below_next BB.out hb)
            clear hb
            obtain ⟨c_h0, c_h1, c_h2, c_h3, f_h0, f_h1, f_h2, f_h3⟩ := reads4 r_h.out
            have l_h := r_h.out.lt
            go_wp2_with fail
            refine (CA.out _).mono ?_
            rintro e w6 ⟨rfl, hb⟩
            clear c_h0 c_h1 c_h2 c_h3 f_h0 f_h1 f_h2 f_h3 l_h
            replace r_r := Lib.hid (r_r.out.keep hb)
            replace r_p := Lib.hid (r_p.out.keep hb)
            replace r_h := Lib.hid (r_h.out.keep hb)
            replace h_v := Lib.hid (IS.below h_v.out hb)
            replace BB := Lib.hid (below_next BB.out hb)
            clear hb
            go_wp2_with fail
            refine bodyPost_ret (v := .bool true) (by unfold results; simp only [Try.results6]; go_simp) rfl ?_
            exact ⟨rfl, BB.out⟩
          · clear k1 k2 k3 k4 k5
            clear hR
            go_enter Try.func6, Try.ntmps6
            go_upto_region 1 with fail
            have BB := start2 w #[.int .i64 x0, .int .i64 y0, .int .i64 x1, .int .i64 y1] RCT #[.int .i64 px, .int .i64 py, .int .i64 d] PLT
            obtain ⟨BB, hsz, r_r, r_p⟩ := BB
            generalize ((w.alloc (.cells #[.int .i64 x0, .int .i64 y0, .int .i64 x1, .int .i64 y1] RCT)).alloc (.cells #[.int .i64 px, .int .i64 py, .int .i64 d] PLT)) = w0 at *
            replace BB := Lib.hid BB
            replace r_r := Lib.hid r_r
            replace r_p := Lib.hid r_p
            clear hsz
            have h_v := Lib.hid (hv.out.below BB.out)
            go_wp2_with fail
            refine (CN.out _ h_v.out).mono ?_
            rintro e w1 ⟨m, rfl, hb, -, hp⟩
            replace r_r := Lib.hid (r_r.out.keep hb)
            replace r_p := Lib.hid (r_p.out.keep hb)
            replace h_v := Lib.hid (IS.below h_v.out hb)
            replace BB := Lib.hid (below_next BB.out hb)
            clear hb
            obtain ⟨gx, gy, nx, ny, rest, N, g, -, -, -, rfl, -⟩ := hp trivial
            clear CN hp
            obtain ⟨c_r0, c_r1, c_r2, c_r3, f_r0, f_r1, f_r2, f_r3⟩ := reads4 r_r.out
            have l_r := r_r.out.lt
            go_wp2_with fail
            refine (CH.out g _).mono ?_
            rintro e w2 ⟨rfl, hb⟩
            clear c_r0 c_r1 c_r2 c_r3 f_r0 f_r1 f_r2 f_r3 l_r
            replace r_r := Lib.hid (r_r.out.keep hb)
            replace r_p := Lib.hid (r_p.out.keep hb)
            replace h_v := Lib.hid (IS.below h_v.out hb)
            replace BB := Lib.hid (below_next BB.out hb)
            clear hb
            go_upto_region 5 with fail
            have d_h := Lib.hid (And.intro BB.out.size (And.intro r_r.out.lt (And.intro r_p.out.lt (True.intro))))
            obtain ⟨hb, r_h⟩ := laid w2 #[.int .i64 0, .int .i64 0, .int .i64 0, .int .i64 0] RCT
            replace r_r := Lib.hid (r_r.out.keep hb)
            replace r_p := Lib.hid (r_p.out.keep hb)
            replace h_v := Lib.hid (IS.below h_v.out hb)
            replace BB := Lib.hid (below_next BB.out hb)
            replace r_h := Lib.hid r_h
            clear hb
            generalize w2.alloc (.cells #[.int .i64 0, .int .i64 0, .int .i64 0, .int .i64 0] RCT) = w3 at *
            generalize w2.heap.size = g_h at *
            go_wp2_with fail
            refine (CD.out _ h_v.out).mono ?_
            rintro e w4 ⟨rfl, hb⟩
            replace r_r := Lib.hid (r_r.out.keep hb)
            replace r_p := Lib.hid (r_p.out.keep hb)
            replace r_h := Lib.hid (r_h.out.keep hb)
            replace h_v := Lib.hid (IS.below h_v.out hb)
            replace BB := Lib.hid (below_next BB.out hb)
            clear hb
            obtain ⟨c_r0, c_r1, c_r2, c_r3, f_r0, f_r1, f_r2, f_r3⟩ := reads4 r_r.out
            have l_r := r_r.out.lt
            go_wp2_with fail
            refine (CD.out _ h_v.out).mono ?_
            rintro e w5 ⟨rfl, hb⟩
            clear c_r0 c_r1 c_r2 c_r3 f_r0 f_r1 f_r2 f_r3 l_r
            replace r_r := Lib.hid (r_r.out.keep hb)
            replace r_p := Lib.hid (r_p.out.keep hb)
            replace r_h := Lib.hid (r_h.out.keep hb)
            replace h_v := Lib.hid (IS.below h_v.out hb)
            replace BB := Lib.hid (below_next BB.out hb)
            clear hb
            obtain ⟨c_h0, c_h1, c_h2, c_h3, f_h0, f_h1, f_h2, f_h3⟩ := reads4 r_h.out
            have l_h := r_h.out.lt
            go_wp2_with fail
            refine (CA.out _).mono ?_
            rintro e w6 ⟨rfl, hb⟩
            clear c_h0 c_h1 c_h2 c_h3 f_h0 f_h1 f_h2 f_h3 l_h
            replace r_r := Lib.hid (r_r.out.keep hb)
            replace r_p := Lib.hid (r_p.out.keep hb)
            replace r_h := Lib.hid (r_h.out.keep hb)
            replace h_v := Lib.hid (IS.below h_v.out hb)
            replace BB := Lib.hid (below_next BB.out hb)
            clear hb
            go_wp2_with fail
            refine bodyPost_ret (v := .bool true) (by unfold results; simp only [Try.results6]; go_simp) rfl ?_
            exact ⟨rfl, BB.out⟩
        · clear k1 k2 k3 k4
          clear hR
          go_enter Try.func6, Try.ntmps6
          go_upto_region 1 with fail
          have BB := start2 w #[.int .i64 x0, .int .i64 y0, .int .i64 x1, .int .i64 y1] RCT #[.int .i64 px, .int .i64 py, .int .i64 d] PLT
          obtain ⟨BB, hsz, r_r, r_p⟩ := BB
          generalize ((w.alloc (.cells #[.int .i64 x0, .int .i64 y0, .int .i64 x1, .int .i64 y1] RCT)).alloc (.cells #[.int .i64 px, .int .i64 py, .int .i64 d] PLT)) = w0 at *
          replace BB := Lib.hid BB
          replace r_r := Lib.hid r_r
          replace r_p := Lib.hid r_p
          clear hsz
          have h_v := Lib.hid (hv.out.below BB.out)
          go_wp2_with fail
          refine (CN.out _ h_v.out).mono ?_
          rintro e w1 ⟨m, rfl, hb, -, hp⟩
          replace r_r := Lib.hid (r_r.out.keep hb)
          replace r_p := Lib.hid (r_p.out.keep hb)
          replace h_v := Lib.hid (IS.below h_v.out hb)
          replace BB := Lib.hid (below_next BB.out hb)
          clear hb
          obtain ⟨gx, gy, nx, ny, rest, N, g, -, -, -, rfl, -⟩ := hp trivial
          clear CN hp
          obtain ⟨c_r0, c_r1, c_r2, c_r3, f_r0, f_r1, f_r2, f_r3⟩ := reads4 r_r.out
          have l_r := r_r.out.lt
          go_wp2_with fail
          refine (CH.out g _).mono ?_
          rintro e w2 ⟨rfl, hb⟩
          clear c_r0 c_r1 c_r2 c_r3 f_r0 f_r1 f_r2 f_r3 l_r
          replace r_r := Lib.hid (r_r.out.keep hb)
          replace r_p := Lib.hid (r_p.out.keep hb)
          replace h_v := Lib.hid (IS.below h_v.out hb)
          replace BB := Lib.hid (below_next BB.out hb)
          clear hb
          go_upto_region 5 with fail
          have d_h := Lib.hid (And.intro BB.out.size (And.intro r_r.out.lt (And.intro r_p.out.lt (True.intro))))
          obtain ⟨hb, r_h⟩ := laid w2 #[.int .i64 0, .int .i64 0, .int .i64 0, .int .i64 0] RCT
          replace r_r := Lib.hid (r_r.out.keep hb)
          replace r_p := Lib.hid (r_p.out.keep hb)
          replace h_v := Lib.hid (IS.below h_v.out hb)
          replace BB := Lib.hid (below_next BB.out hb)
          replace r_h := Lib.hid r_h
          clear hb
          generalize w2.alloc (.cells #[.int .i64 0, .int .i64 0, .int .i64 0, .int .i64 0] RCT) = w3 at *
          generalize w2.heap.size = g_h at *
          go_wp2_with fail
          refine (CD.out _ h_v.out).mono ?_
          rintro e w4 ⟨rfl, hb⟩
          replace r_r := Lib.hid (r_r.out.keep hb)
          replace r_p := Lib.hid (r_p.out.keep hb)
          replace r_h := Lib.hid (r_h.out.keep hb)
          replace h_v := Lib.hid (IS.below h_v.out hb)
          replace BB := Lib.hid (below_next BB.out hb)
          clear hb
          obtain ⟨c_r0, c_r1, c_r2, c_r3, f_r0, f_r1, f_r2, f_r3⟩ := reads4 r_r.out
          have l_r := r_r.out.lt
          go_wp2_with fail
          refine (CD.out _ h_v.out).mono ?_
          rintro e w5 ⟨rfl, hb⟩
          clear c_r0 c_r1 c_r2 c_r3 f_r0 f_r1 f_r2 f_r3 l_r
          replace r_r := Lib.hid (r_r.out.keep hb)
          replace r_p := Lib.hid (r_p.out.keep hb)
          replace r_h := Lib.hid (r_h.out.keep hb)
          replace h_v := Lib.hid (IS.below h_v.out hb)
          replace BB := Lib.hid (below_next BB.out hb)
          clear hb
          obtain ⟨c_h0, c_h1, c_h2, c_h3, f_h0, f_h1, f_h2, f_h3⟩ := reads4 r_h.out
          have l_h := r_h.out.lt
          go_wp2_with fail
          refine (CA.out _).mono ?_
          rintro e w6 ⟨rfl, hb⟩
          clear c_h0 c_h1 c_h2 c_h3 f_h0 f_h1 f_h2 f_h3 l_h
          replace r_r := Lib.hid (r_r.out.keep hb)
          replace r_p := Lib.hid (r_p.out.keep hb)
          replace r_h := Lib.hid (r_h.out.keep hb)
          replace h_v := Lib.hid (IS.below h_v.out hb)
          replace BB := Lib.hid (below_next BB.out hb)
          clear hb
          go_wp2_with fail
          refine bodyPost_ret (v := .bool true) (by unfold results; simp only [Try.results6]; go_simp) rfl ?_
          exact ⟨rfl, BB.out⟩
      · clear k1 k2 k3
        clear hR
        go_enter Try.func6, Try.ntmps6
        go_upto_region 1 with fail
        have BB := start2 w #[.int .i64 x0, .int .i64 y0, .int .i64 x1, .int .i64 y1] RCT #[.int .i64 px, .int .i64 py, .int .i64 d] PLT
        obtain ⟨BB, hsz, r_r, r_p⟩ := BB
        generalize ((w.alloc (.cells #[.int .i64 x0, .int .i64 y0, .int .i64 x1, .int .i64 y1] RCT)).alloc (.cells #[.int .i64 px, .int .i64 py, .int .i64 d] PLT)) = w0 at *
        replace BB := Lib.hid BB
        replace r_r := Lib.hid r_r
        replace r_p := Lib.hid r_p
        clear hsz
        have h_v := Lib.hid (hv.out.below BB.out)
        go_wp2_with fail
        refine (CN.out _ h_v.out).mono ?_
        rintro e w1 ⟨m, rfl, hb, -, hp⟩
        replace r_r := Lib.hid (r_r.out.keep hb)
        replace r_p := Lib.hid (r_p.out.keep hb)
        replace h_v := Lib.hid (IS.below h_v.out hb)
        replace BB := Lib.hid (below_next BB.out hb)
        clear hb
        obtain ⟨gx, gy, nx, ny, rest, N, g, -, -, -, rfl, -⟩ := hp trivial
        clear CN hp
        obtain ⟨c_r0, c_r1, c_r2, c_r3, f_r0, f_r1, f_r2, f_r3⟩ := reads4 r_r.out
        have l_r := r_r.out.lt
        go_wp2_with fail
        refine (CH.out g _).mono ?_
        rintro e w2 ⟨rfl, hb⟩
        clear c_r0 c_r1 c_r2 c_r3 f_r0 f_r1 f_r2 f_r3 l_r
        replace r_r := Lib.hid (r_r.out.keep hb)
        replace r_p := Lib.hid (r_p.out.keep hb)
        replace h_v := Lib.hid (IS.below h_v.out hb)
        replace BB := Lib.hid (below_next BB.out hb)
        clear hb
        go_upto_region 5 with fail
        have d_h := Lib.hid (And.intro BB.out.size (And.intro r_r.out.lt (And.intro r_p.out.lt (True.intro))))
        obtain ⟨hb, r_h⟩ := laid w2 #[.int .i64 0, .int .i64 0, .int .i64 0, .int .i64 0] RCT
        replace r_r := Lib.hid (r_r.out.keep hb)
        replace r_p := Lib.hid (r_p.out.keep hb)
        replace h_v := Lib.hid (IS.below h_v.out hb)
        replace BB := Lib.hid (below_next BB.out hb)
        replace r_h := Lib.hid r_h
        clear hb
        generalize w2.alloc (.cells #[.int .i64 0, .int .i64 0, .int .i64 0, .int .i64 0] RCT) = w3 at *
        generalize w2.heap.size = g_h at *
        go_wp2_with fail
        refine (CD.out _ h_v.out).mono ?_
        rintro e w4 ⟨rfl, hb⟩
        replace r_r := Lib.hid (r_r.out.keep hb)
        replace r_p := Lib.hid (r_p.out.keep hb)
        replace r_h := Lib.hid (r_h.out.keep hb)
        replace h_v := Lib.hid (IS.below h_v.out hb)
        replace BB := Lib.hid (below_next BB.out hb)
        clear hb
        obtain ⟨c_r0, c_r1, c_r2, c_r3, f_r0, f_r1, f_r2, f_r3⟩ := reads4 r_r.out
        have l_r := r_r.out.lt
        go_wp2_with fail
        refine (CD.out _ h_v.out).mono ?_
        rintro e w5 ⟨rfl, hb⟩
        clear c_r0 c_r1 c_r2 c_r3 f_r0 f_r1 f_r2 f_r3 l_r
        replace r_r := Lib.hid (r_r.out.keep hb)
        replace r_p := Lib.hid (r_p.out.keep hb)
        replace r_h := Lib.hid (r_h.out.keep hb)
        replace h_v := Lib.hid (IS.below h_v.out hb)
        replace BB := Lib.hid (below_next BB.out hb)
        clear hb
        obtain ⟨c_h0, c_h1, c_h2, c_h3, f_h0, f_h1, f_h2, f_h3⟩ := reads4 r_h.out
        have l_h := r_h.out.lt
        go_wp2_with fail
        refine (CA.out _).mono ?_
        rintro e w6 ⟨rfl, hb⟩
        clear c_h0 c_h1 c_h2 c_h3 f_h0 f_h1 f_h2 f_h3 l_h
        replace r_r := Lib.hid (r_r.out.keep hb)
        replace r_p := Lib.hid (r_p.out.keep hb)
        replace r_h := Lib.hid (r_h.out.keep hb)
        replace h_v := Lib.hid (IS.below h_v.out hb)
        replace BB := Lib.hid (below_next BB.out hb)
        clear hb
        go_wp2_with fail
        refine bodyPost_ret (v := .bool true) (by unfold results; simp only [Try.results6]; go_simp) rfl ?_
        exact ⟨rfl, BB.out⟩
    · clear k1 k2
      clear hR
      go_enter Try.func6, Try.ntmps6
      go_upto_region 1 with fail
      have BB := start2 w #[.int .i64 x0, .int .i64 y0, .int .i64 x1, .int .i64 y1] RCT #[.int .i64 px, .int .i64 py, .int .i64 d] PLT
      obtain ⟨BB, hsz, r_r, r_p⟩ := BB
      generalize ((w.alloc (.cells #[.int .i64 x0, .int .i64 y0, .int .i64 x1, .int .i64 y1] RCT)).alloc (.cells #[.int .i64 px, .int .i64 py, .int .i64 d] PLT)) = w0 at *
      replace BB := Lib.hid BB
      replace r_r := Lib.hid r_r
      replace r_p := Lib.hid r_p
      clear hsz
      have h_v := Lib.hid (hv.out.below BB.out)
      go_wp2_with fail
      refine (CN.out _ h_v.out).mono ?_
      rintro e w1 ⟨m, rfl, hb, -, hp⟩
      replace r_r := Lib.hid (r_r.out.keep hb)
      replace r_p := Lib.hid (r_p.out.keep hb)
      replace h_v := Lib.hid (IS.below h_v.out hb)
      replace BB := Lib.hid (below_next BB.out hb)
      clear hb
      obtain ⟨gx, gy, nx, ny, rest, N, g, -, -, -, rfl, -⟩ := hp trivial
      clear CN hp
      obtain ⟨c_r0, c_r1, c_r2, c_r3, f_r0, f_r1, f_r2, f_r3⟩ := reads4 r_r.out
      have l_r := r_r.out.lt
      go_wp2_with fail
      refine (CH.out g _).mono ?_
      rintro e w2 ⟨rfl, hb⟩
      clear c_r0 c_r1 c_r2 c_r3 f_r0 f_r1 f_r2 f_r3 l_r
      replace r_r := Lib.hid (r_r.out.keep hb)
      replace r_p := Lib.hid (r_p.out.keep hb)
      replace h_v := Lib.hid (IS.below h_v.out hb)
      replace BB := Lib.hid (below_next BB.out hb)
      clear hb
      go_upto_region 5 with fail
      have d_h := Lib.hid (And.intro BB.out.size (And.intro r_r.out.lt (And.intro r_p.out.lt (True.intro))))
      obtain ⟨hb, r_h⟩ := laid w2 #[.int .i64 0, .int .i64 0, .int .i64 0, .int .i64 0] RCT
      replace r_r := Lib.hid (r_r.out.keep hb)
      replace r_p := Lib.hid (r_p.out.keep hb)
      replace h_v := Lib.hid (IS.below h_v.out hb)
      replace BB := Lib.hid (below_next BB.out hb)
      replace r_h := Lib.hid r_h
      clear hb
      generalize w2.alloc (.cells #[.int .i64 0, .int .i64 0, .int .i64 0, .int .i64 0] RCT) = w3 at *
      generalize w2.heap.size = g_h at *
      go_wp2_with fail
      refine (CD.out _ h_v.out).mono ?_
      rintro e w4 ⟨rfl, hb⟩
      replace r_r := Lib.hid (r_r.out.keep hb)
      replace r_p := Lib.hid (r_p.out.keep hb)
      replace r_h := Lib.hid (r_h.out.keep hb)
      replace h_v := Lib.hid (IS.below h_v.out hb)
      replace BB := Lib.hid (below_next BB.out hb)
      clear hb
      obtain ⟨c_r0, c_r1, c_r2, c_r3, f_r0, f_r1, f_r2, f_r3⟩ := reads4 r_r.out
      have l_r := r_r.out.lt
      go_wp2_with fail
      refine (CD.out _ h_v.out).mono ?_
      rintro e w5 ⟨rfl, hb⟩
      clear c_r0 c_r1 c_r2 c_r3 f_r0 f_r1 f_r2 f_r3 l_r
      replace r_r := Lib.hid (r_r.out.keep hb)
      replace r_p := Lib.hid (r_p.out.keep hb)
      replace r_h := Lib.hid (r_h.out.keep hb)
      replace h_v := Lib.hid (IS.below h_v.out hb)
      replace BB := Lib.hid (below_next BB.out hb)
      clear hb
      obtain ⟨c_h0, c_h1, c_h2, c_h3, f_h0, f_h1, f_h2, f_h3⟩ := reads4 r_h.out
      have l_h := r_h.out.lt
      go_wp2_with fail
      refine (CA.out _).mono ?_
      rintro e w6 ⟨rfl, hb⟩
      clear c_h0 c_h1 c_h2 c_h3 f_h0 f_h1 f_h2 f_h3 l_h
      replace r_r := Lib.hid (r_r.out.keep hb)
      replace r_p := Lib.hid (r_p.out.keep hb)
      replace r_h := Lib.hid (r_h.out.keep hb)
      replace h_v := Lib.hid (IS.below h_v.out hb)
      replace BB := Lib.hid (below_next BB.out hb)
      clear hb
      go_wp2_with fail
      refine bodyPost_ret (v := .bool true) (by unfold results; simp only [Try.results6]; go_simp) rfl ?_
      exact ⟨rfl, BB.out⟩
  · clear k1
    clear hR
    go_enter Try.func6, Try.ntmps6
    go_upto_region 1 with fail
    have BB := start2 w #[.int .i64 x0, .int .i64 y0, .int .i64 x1, .int .i64 y1] RCT #[.int .i64 px, .int .i64 py, .int .i64 d] PLT
    obtain ⟨BB, hsz, r_r, r_p⟩ := BB
    generalize ((w.alloc (.cells #[.int .i64 x0, .int .i64 y0, .int .i64 x1, .int .i64 y1] RCT)).alloc (.cells #[.int .i64 px, .int .i64 py, .int .i64 d] PLT)) = w0 at *
    replace BB := Lib.hid BB
    replace r_r := Lib.hid r_r
    replace r_p := Lib.hid r_p
    clear hsz
    have h_v := Lib.hid (hv.out.below BB.out)
    go_wp2_with fail
    refine (CN.out _ h_v.out).mono ?_
    rintro e w1 ⟨m, rfl, hb, -, hp⟩
    replace r_r := Lib.hid (r_r.out.keep hb)
    replace r_p := Lib.hid (r_p.out.keep hb)
    replace h_v := Lib.hid (IS.below h_v.out hb)
    replace BB := Lib.hid (below_next BB.out hb)
    clear hb
    obtain ⟨gx, gy, nx, ny, rest, N, g, -, -, -, rfl, -⟩ := hp trivial
    clear CN hp
    obtain ⟨c_r0, c_r1, c_r2, c_r3, f_r0, f_r1, f_r2, f_r3⟩ := reads4 r_r.out
    have l_r := r_r.out.lt
    go_wp2_with fail
    refine (CH.out g _).mono ?_
    rintro e w2 ⟨rfl, hb⟩
    clear c_r0 c_r1 c_r2 c_r3 f_r0 f_r1 f_r2 f_r3 l_r
    replace r_r := Lib.hid (r_r.out.keep hb)
    replace r_p := Lib.hid (r_p.out.keep hb)
    replace h_v := Lib.hid (IS.below h_v.out hb)
    replace BB := Lib.hid (below_next BB.out hb)
    clear hb
    go_upto_region 5 with fail
    have d_h := Lib.hid (And.intro BB.out.size (And.intro r_r.out.lt (And.intro r_p.out.lt (True.intro))))
    obtain ⟨hb, r_h⟩ := laid w2 #[.int .i64 0, .int .i64 0, .int .i64 0, .int .i64 0] RCT
    replace r_r := Lib.hid (r_r.out.keep hb)
    replace r_p := Lib.hid (r_p.out.keep hb)
    replace h_v := Lib.hid (IS.below h_v.out hb)
    replace BB := Lib.hid (below_next BB.out hb)
    replace r_h := Lib.hid r_h
    clear hb
    generalize w2.alloc (.cells #[.int .i64 0, .int .i64 0, .int .i64 0, .int .i64 0] RCT) = w3 at *
    generalize w2.heap.size = g_h at *
    go_wp2_with fail
    refine (CD.out _ h_v.out).mono ?_
    rintro e w4 ⟨rfl, hb⟩
    replace r_r := Lib.hid (r_r.out.keep hb)
    replace r_p := Lib.hid (r_p.out.keep hb)
    replace r_h := Lib.hid (r_h.out.keep hb)
    replace h_v := Lib.hid (IS.below h_v.out hb)
    replace BB := Lib.hid (below_next BB.out hb)
    clear hb
    obtain ⟨c_r0, c_r1, c_r2, c_r3, f_r0, f_r1, f_r2, f_r3⟩ := reads4 r_r.out
    have l_r := r_r.out.lt
    go_wp2_with fail
    refine (CD.out _ h_v.out).mono ?_
    rintro e w5 ⟨rfl, hb⟩
    clear c_r0 c_r1 c_r2 c_r3 f_r0 f_r1 f_r2 f_r3 l_r
    replace r_r := Lib.hid (r_r.out.keep hb)
    replace r_p := Lib.hid (r_p.out.keep hb)
    replace r_h := Lib.hid (r_h.out.keep hb)
    replace h_v := Lib.hid (IS.below h_v.out hb)
    replace BB := Lib.hid (below_next BB.out hb)
    clear hb
    obtain ⟨c_h0, c_h1, c_h2, c_h3, f_h0, f_h1, f_h2, f_h3⟩ := reads4 r_h.out
    have l_h := r_h.out.lt
    go_wp2_with fail
    refine (CA.out _).mono ?_
    rintro e w6 ⟨rfl, hb⟩
    clear c_h0 c_h1 c_h2 c_h3 f_h0 f_h1 f_h2 f_h3 l_h
    replace r_r := Lib.hid (r_r.out.keep hb)
    replace r_p := Lib.hid (r_p.out.keep hb)
    replace r_h := Lib.hid (r_h.out.keep hb)
    replace h_v := Lib.hid (IS.below h_v.out hb)
    replace BB := Lib.hid (below_next BB.out hb)
    clear hb
    go_wp2_with fail
    refine bodyPost_ret (v := .bool true) (by unfold results; simp only [Try.results6]; go_simp) rfl ?_
    exact ⟨rfl, BB.out⟩
set_option maxRecDepth 100000 in
set_option maxHeartbeats 8000000 in
theorem meshHulls_ok (v : Value) (zs : List Int) (x0 y0 x1 y1 px py d : Int) (hC : meC zs 1 1 = 0) (hR : 0 ≤ x0 ∧ x1 ≤ 32768 ∧ 0 ≤ y0 ∧ y1 ≤ 32768 ∧ x0 < x1 ∧ y0 < y1) (hpx : I64 px) (hpy : I64 py) (hpd : I64 d) (w : World) (hv : IS w v zs) :
    Calls Try.prog 6 #[v, .agg #[.int .i64 x0, .int .i64 y0, .int .i64 x1, .int .i64 y1], .agg #[.int .i64 px, .int .i64 py, .int .i64 d]] w fun e w' => e = .returned (.bool true) ∧ Below w.heap.size w w' := by
  have CN := Lib.hid (fun w hv => mnew_any v zs 1 1 w hv)
  have CD := Lib.hid (fun w hv => r21check v zs 1 1 w hv)
  unfold GiveNew at CN
  rw [hC] at CN CD
  clear hC
  obtain ⟨k1, k2, k3, k4, k5, k6⟩ := id hR
  have CA := Lib.hid (fun w => alive21 w)
  have CR := Lib.hid (fun w => rright px py d w)
  obtain ⟨A, cap, rfl⟩ := hv.form
  rcases dec_both ((zs.length : Int) > 9000) with ⟨g1, d1⟩ | ⟨g1, d1⟩
  · exact meshHulls_long (.bool true) _ A cap g1 x0 y0 x1 y1 px py d w
  have hv := Lib.hid hv
  generalize hn1 : zs.length = n1 at *
  have hn1 := Lib.hid hn1
  have e1 : decide (x0 ≥ 0) = true := decide_eq_true k1
  have e2 : decide (x1 ≤ 32768) = true := decide_eq_true k2
  have e3 : decide (y0 ≥ 0) = true := decide_eq_true k3
  have e4 : decide (y1 ≤ 32768) = true := decide_eq_true k4
  have e5 : decide (x0 < x1) = true := decide_eq_true k5
  have e6 : decide (y0 < y1) = true := decide_eq_true k6
  have m1 : IntKind.i64.wrap (2 * x0) = 2 * x0 := iw ⟨by omega, by omega⟩
  have m2 : IntKind.i64.wrap (2 * x1) = 2 * x1 := iw ⟨by omega, by omega⟩
  have m3 : IntKind.i64.wrap (2 * y0) = 2 * y0 := iw ⟨by omega, by omega⟩
  have m4 : IntKind.i64.wrap (2 * y1) = 2 * y1 := iw ⟨by omega, by omega⟩
  obtain ⟨a0, ha0⟩ : ∃ v, v = 2 * x0 - 1 := ⟨_, rfl⟩
  obtain ⟨a1, ha1⟩ : ∃ v, v = 2 * x1 - 1 := ⟨_, rfl⟩
  obtain ⟨b0, hb0⟩ : ∃ v, v = 2 * y0 - 1 := ⟨_, rfl⟩
  obtain ⟨b1, hb1⟩ : ∃ v, v = 2 * y1 - 1 := ⟨_, rfl⟩
  have n1' : IntKind.i64.wrap (2 * x0 - 1) = a0 := by rw [ha0]; exact iw ⟨by omega, by omega⟩
  have n2' : IntKind.i64.wrap (2 * x1 - 1) = a1 := by rw [ha1]; exact iw ⟨by omega, by omega⟩
  have n3' : IntKind.i64.wrap (2 * y0 - 1) = b0 := by rw [hb0]; exact iw ⟨by omega, by omega⟩
  have n4' : IntKind.i64.wrap (2 * y1 - 1) = b1 := by rw [hb1]; exact iw ⟨by omega, by omega⟩
  have HR := Lib.hid hR
  have HA := Lib.hid (show a0 = 2 * x0 - 1 ∧ a1 = 2 * x1 - 1 ∧ b0 = 2 * y0 - 1 ∧ b1 = 2 * y1 - 1 from ⟨ha0, ha1, hb0, hb1⟩)
  clear hR k1 k2 k3 k4 k5 k6 ha0 ha1 hb0 hb1
  go_enter Try.func6, Try.ntmps6
  go_upto_region 1 with fail
  have BB := start2 w #[.int .i64 x0, .int .i64 y0, .int .i64 x1, .int .i64 y1] RCT #[.int .i64 px, .int .i64 py, .int .i64 d] PLT
  obtain ⟨BB, hsz, r_r, r_p⟩ := BB
  generalize ((w.alloc (.cells #[.int .i64 x0, .int .i64 y0, .int .i64 x1, .int .i64 y1] RCT)).alloc (.cells #[.int .i64 px, .int .i64 py, .int .i64 d] PLT)) = w0 at *
  replace BB := Lib.hid BB
  replace r_r := Lib.hid r_r
  replace r_p := Lib.hid r_p
  clear hsz
  have h_v := Lib.hid (hv.out.below BB.out)
  go_wp2_with fail
  refine (CN.out _ h_v.out).mono ?_
  rintro e w1 ⟨m, rfl, hb, -, hp⟩
  replace r_r := Lib.hid (r_r.out.keep hb)
  replace r_p := Lib.hid (r_p.out.keep hb)
  replace h_v := Lib.hid (IS.below h_v.out hb)
  replace BB := Lib.hid (below_next BB.out hb)
  clear hb
  obtain ⟨gx, gy, nx, ny, rest, N, g, ez, hG, hN, rfl, hX, hr⟩ := hp trivial
  have hX := Lib.hid hX
  obtain ⟨q1, q2, q3, q4, q5⟩ := id hG
  obtain ⟨k1, k2, k3, k4, k5, k6⟩ := HR.out
  have CH := Lib.hid (fun w hm => mhull_ok g gx gy nx ny x0 y0 x1 y1 (ksOf rest N) hG k1 k2 k3 k4 k5 k6 w hm)
  have CU := Lib.hid (fun w hv => r21hull (.slice A n1 cap) gx gy nx ny x0 y0 x1 y1 rest N hG hN hr k1 k2 k3 k4 k5 k6 w hv)
  have hk1 : ∀ j, -2147483648 ≤ rest.getD j 0 ∧ rest.getD j 0 ≤ 2147483648 := fun j => by
    by_cases hk : j < rest.length
    · have e : rest.getD j 0 = rest[j] := by simp [List.getD, hk]
      rw [e]; exact hr _ (List.getElem_mem hk)
    · rw [List.getD_eq_getElem?_getD, List.getElem?_eq_none (by omega)]; exact ⟨by decide, by decide⟩
  have hfx : ∀ i k, -2147483648 ≤ (knP (ksOf rest N) nx i k).1 ∧ (knP (ksOf rest N) nx i k).1 ≤ 2147483648 := fun i k => by rw [(knP_at hN nx i k).1]; exact hk1 _
  have hfy : ∀ i k, -2147483648 ≤ (knP (ksOf rest N) nx i k).2 ∧ (knP (ksOf rest N) nx i k).2 ≤ 2147483648 := fun i k => by rw [(knP_at hN nx i k).2]; exact hk1 _
  have CM := Lib.hid (fun (hp : rightI px py d = true) w hm => meat_ok g gx gy nx ny px py d (ksOf rest N) hpx hpy hp hG (ks_in hr) w hm)
  have BX : Hid (rightI px py d = true → a0 * d ≤ 2 * px → 2 * px ≤ a1 * d → b0 * d ≤ 2 * py → 2 * py ≤ b1 * d → (huP min (fun i k => (knP (ksOf rest N) nx i k).1) gx gy nx ny x0 y0 x1 y1 ≤ mePl gx gy nx ny px py d (fun i k => (knP (ksOf rest N) nx i k).1) ∧ mePl gx gy nx ny px py d (fun i k => (knP (ksOf rest N) nx i k).1) ≤ huP max (fun i k => (knP (ksOf rest N) nx i k).1) gx gy nx ny x0 y0 x1 y1) ∧ (huP min (fun i k => (knP (ksOf rest N) nx i k).2) gx gy nx ny x0 y0 x1 y1 ≤ mePl gx gy nx ny px py d (fun i k => (knP (ksOf rest N) nx i k).2) ∧ mePl gx gy nx ny px py d (fun i k => (knP (ksOf rest N) nx i k).2) ≤ huP max (fun i k => (knP (ksOf rest N) nx i k).2) gx gy nx ny x0 y0 x1 y1)) := fun hp u1 u2 u3 u4 => by
    obtain ⟨-, -, hd1, hd2⟩ := rightI_iff.1 hp
    obtain ⟨rfl, rfl, rfl, rfl⟩ := HA.out
    exact ⟨hu_between (fun i k => (knP (ksOf rest N) nx i k).1) q1 q2 q3 q4 ⟨hd1, hd2⟩ k5 k6 u1 u2 u3 u4 hfx, hu_between (fun i k => (knP (ksOf rest N) nx i k).2) q1 q2 q3 q4 ⟨hd1, hd2⟩ k5 k6 u1 u2 u3 u4 hfy⟩
  generalize huP min (fun i k => (knP (ksOf rest N) nx i k).1) gx gy nx ny x0 y0 x1 y1 = H0 at *
  generalize huP min (fun i k => (knP (ksOf rest N) nx i k).2) gx gy nx ny x0 y0 x1 y1 = H1 at *
  generalize huP max (fun i k => (knP (ksOf rest N) nx i k).1) gx gy nx ny x0 y0 x1 y1 = H2 at *
  generalize huP max (fun i k => (knP (ksOf rest N) nx i k).2) gx gy nx ny x0 y0 x1 y1 = H3 at *
  generalize mePl gx gy nx ny px py d (fun i k => (knP (ksOf rest N) nx i k).1) = U at *
  generalize mePl gx gy nx ny px py d (fun i k => (knP (ksOf rest N) nx i k).2) = V at *
  have h_w := Lib.hid (show IS w1 (.slice A n1 cap) (gx :: gy :: nx :: ny :: rest) from ez ▸ h_v.out)
  clear CN hp hk1 hfx hfy hr hN ez hG q1 q2 q3 q4 q5 k1 k2 k3 k4 k5 k6
  obtain ⟨c_r0, c_r1, c_r2, c_r3, f_r0, f_r1, f_r2, f_r3⟩ := reads4 r_r.out
  have l_r := r_r.out.lt
  go_wp2_with fail
  refine (CH.out _ hX.out).mono ?_
  rintro e w2 ⟨rfl, hb⟩
  clear c_r0 c_r1 c_r2 c_r3 f_r0 f_r1 f_r2 f_r3 l_r
  replace r_r := Lib.hid (r_r.out.keep hb)
  replace r_p := Lib.hid (r_p.out.keep hb)
  replace h_w := Lib.hid (h_w.out.below hb)
  replace h_v := Lib.hid (IS.below h_v.out hb)
  replace hX := Lib.hid (MX.below hX.out hb)
  replace BB := Lib.hid (below_next BB.out hb)
  clear hb
  go_upto_region 5 with fail
  have d_h := Lib.hid (And.intro BB.out.size (And.intro r_r.out.lt (And.intro r_p.out.lt (True.intro))))
  obtain ⟨hb, r_h⟩ := laid w2 #[.int .i64 H0, .int .i64 H1, .int .i64 H2, .int .i64 H3] RCT
  replace r_r := Lib.hid (r_r.out.keep hb)
  replace r_p := Lib.hid (r_p.out.keep hb)
  replace h_w := Lib.hid (h_w.out.below hb)
  replace h_v := Lib.hid (IS.below h_v.out hb)
  replace hX := Lib.hid (MX.below hX.out hb)
  replace BB := Lib.hid (below_next BB.out hb)
  replace r_h := Lib.hid r_h
  clear hb
  generalize w2.alloc (.cells #[.int .i64 H0, .int .i64 H1, .int .i64 H2, .int .i64 H3] RCT) = w3 at *
  generalize w2.heap.size = g_h at *
  go_wp2_with fail
  refine (CD.out _ h_v.out).mono ?_
  rintro e w4 ⟨rfl, hb⟩
  replace r_r := Lib.hid (r_r.out.keep hb)
  replace r_p := Lib.hid (r_p.out.keep hb)
  replace r_h := Lib.hid (r_h.out.keep hb)
  replace h_w := Lib.hid (h_w.out.below hb)
  replace h_v := Lib.hid (IS.below h_v.out hb)
  replace hX := Lib.hid (MX.below hX.out hb)
  replace BB := Lib.hid (below_next BB.out hb)
  clear hb
  obtain ⟨c_r0, c_r1, c_r2, c_r3, f_r0, f_r1, f_r2, f_r3⟩ := reads4 r_r.out
  have l_r := r_r.out.lt
  go_wp2_with fail
  refine (CD.out _ h_v.out).mono ?_
  rintro e w5 ⟨rfl, hb⟩
  clear c_r0 c_r1 c_r2 c_r3 f_r0 f_r1 f_r2 f_r3 l_r
  replace r_r := Lib.hid (r_r.out.keep hb)
  replace r_p := Lib.hid (r_p.out.keep hb)
  replace r_h := Lib.hid (r_h.out.keep hb)
  replace h_w := Lib.hid (h_w.out.below hb)
  replace h_v := Lib.hid (IS.below h_v.out hb)
  replace hX := Lib.hid (MX.below hX.out hb)
  replace BB := Lib.hid (below_next BB.out hb)
  clear hb
  go_wp2_with fail
  clear CD CH
  have KK := Lib.hid (fun (w9 : World) (h : Below w5.heap.size w5 w9) => (⟨cells4 (r_h.out.keep h), cells4 (r_r.out.keep h)⟩ : (w9.cell? ⟨g_h, 0, none⟩ = some (.int .i64 H0) ∧ w9.cell? ⟨g_h, 1, none⟩ = some (.int .i64 H1) ∧ w9.cell? ⟨g_h, 2, none⟩ = some (.int .i64 H2) ∧ w9.cell? ⟨g_h, 3, none⟩ = some (.int .i64 H3)) ∧ (w9.cell? ⟨w.heap.size, 0, none⟩ = some (.int .i64 x0) ∧ w9.cell? ⟨w.heap.size, 1, none⟩ = some (.int .i64 y0) ∧ w9.cell? ⟨w.heap.size, 2, none⟩ = some (.int .i64 x1) ∧ w9.cell? ⟨w.heap.size, 3, none⟩ = some (.int .i64 y1))))
  have K0 := KK.out w5 (Below.refl _ _)
  have KD := KK.out w5.drew (below_drew (Below.refl _ _))
  go_region_held3 (fun w9 => (w9.cell? ⟨g_h, 0, none⟩ = some (.int .i64 H0) ∧ w9.cell? ⟨g_h, 1, none⟩ = some (.int .i64 H1) ∧ w9.cell? ⟨g_h, 2, none⟩ = some (.int .i64 H2) ∧ w9.cell? ⟨g_h, 3, none⟩ = some (.int .i64 H3)) ∧ (w9.cell? ⟨w.heap.size, 0, none⟩ = some (.int .i64 x0) ∧ w9.cell? ⟨w.heap.size, 1, none⟩ = some (.int .i64 y0) ∧ w9.cell? ⟨w.heap.size, 2, none⟩ = some (.int .i64 x1) ∧ w9.cell? ⟨w.heap.size, 3, none⟩ = some (.int .i64 y1)))
      (first | with_reducible exact KD | with_reducible exact K0 | with_reducible exact K_w6)
      (first
        | (go_at_call 29
           refine (CU.out _ (h_w.out.below ?_)).mono ?_
           · repeat (first | with_reducible exact Below.refl _ _ | with_reducible apply below_drew | with_reducible apply below_new)
           rintro e w6 ⟨rfl, hb⟩
           have B_w6 := Lib.hid (reg_next (w0 := w5) (by repeat (first | with_reducible exact Below.refl _ _ | with_reducible apply below_drew | with_reducible apply below_new)) hb)
           have K_w6 := KK.out _ B_w6.out
           clear hb))
  clear KK K0 KD K_w6
  replace r_r := Lib.hid (r_r.out.keep B_w6.out)
  replace r_p := Lib.hid (r_p.out.keep B_w6.out)
  replace r_h := Lib.hid (r_h.out.keep B_w6.out)
  replace h_w := Lib.hid (h_w.out.below B_w6.out)
  replace h_v := Lib.hid (IS.below h_v.out B_w6.out)
  replace hX := Lib.hid (MX.below hX.out B_w6.out)
  replace BB := Lib.hid (below_next BB.out B_w6.out)
  clear B_w6
  clear CU
  obtain ⟨c_p0, c_p1, c_p2, f_p0, f_p1, f_p2⟩ := reads3 r_p.out
  have l_p := r_p.out.lt
  obtain ⟨c_r0, c_r1, c_r2, c_r3, f_r0, f_r1, f_r2, f_r3⟩ := reads4 r_r.out
  have l_r := r_r.out.lt
  go_wp2_with fail
  refine (CR.out _).mono ?_
  rintro e w9 ⟨rfl, rfl⟩
  by_cases hp : rightI px py d = true
  · rw [hp]
    obtain ⟨⟨r1, r2⟩, ⟨r3, r4⟩, r5, r6⟩ := rightI_iff.1 hp
    replace CM := Lib.hid (CM.out hp)
    replace BX := Lib.hid (BX.out hp)
    have v1 : IntKind.i64.wrap (2 * px) = 2 * px := iw ⟨by omega, by omega⟩
    have v2 : IntKind.i64.wrap (2 * py) = 2 * py := iw ⟨by omega, by omega⟩
    have hA := HA.out
    have hR := HR.out
    have t1 : -65536 * 16 ≤ a0 * d ∧ a0 * d ≤ 65536 * 16 := ⟨by have := Int.mul_le_mul_of_nonneg_right (show -65536 ≤ a0 by omega) (show 0 ≤ d by omega); omega, by have := Int.mul_le_mul_of_nonneg_right (show a0 ≤ 65536 by omega) (show 0 ≤ d by omega); omega⟩
    have t2 : -65536 * 16 ≤ a1 * d ∧ a1 * d ≤ 65536 * 16 := ⟨by have := Int.mul_le_mul_of_nonneg_right (show -65536 ≤ a1 by omega) (show 0 ≤ d by omega); omega, by have := Int.mul_le_mul_of_nonneg_right (show a1 ≤ 65536 by omega) (show 0 ≤ d by omega); omega⟩
    have t3 : -65536 * 16 ≤ b0 * d ∧ b0 * d ≤ 65536 * 16 := ⟨by have := Int.mul_le_mul_of_nonneg_right (show -65536 ≤ b0 by omega) (show 0 ≤ d by omega); omega, by have := Int.mul_le_mul_of_nonneg_right (show b0 ≤ 65536 by omega) (show 0 ≤ d by omega); omega⟩
    have t4 : -65536 * 16 ≤ b1 * d ∧ b1 * d ≤ 65536 * 16 := ⟨by have := Int.mul_le_mul_of_nonneg_right (show -65536 ≤ b1 by omega) (show 0 ≤ d by omega); omega, by have := Int.mul_le_mul_of_nonneg_right (show b1 ≤ 65536 by omega) (show 0 ≤ d by omega); omega⟩
    have w1' : IntKind.i64.wrap (a0 * d) = a0 * d := iw ⟨by omega, by omega⟩
    have w2' : IntKind.i64.wrap (a1 * d) = a1 * d := iw ⟨by omega, by omega⟩
    have w3' : IntKind.i64.wrap (b0 * d) = b0 * d := iw ⟨by omega, by omega⟩
    have w4' : IntKind.i64.wrap (b1 * d) = b1 * d := iw ⟨by omega, by omega⟩
    clear hp r1 r2 r3 r4 r5 r6 hA hR t1 t2 t3 t4 HA HR hpx hpy hpd
    rcases dec_both (2 * px < a0 * d) with ⟨j1, f1⟩ | ⟨j1, f1⟩
    · skip
      clear BX CM j1
      go_wp2_with fail
      refine (CA.out _).mono ?_
      rintro e w7 ⟨rfl, hb⟩
      clear c_p0 c_p1 c_p2 f_p0 f_p1 f_p2 l_p c_r0 c_r1 c_r2 c_r3 f_r0 f_r1 f_r2 f_r3 l_r
      replace r_r := Lib.hid (r_r.out.keep hb)
      replace r_p := Lib.hid (r_p.out.keep hb)
      replace r_h := Lib.hid (r_h.out.keep hb)
      replace h_w := Lib.hid (h_w.out.below hb)
      replace h_v := Lib.hid (IS.below h_v.out hb)
      replace hX := Lib.hid (MX.below hX.out hb)
      replace BB := Lib.hid (below_next BB.out hb)
      clear hb
      go_wp2_with fail
      refine bodyPost_ret (v := .bool true) (by unfold results; simp only [Try.results6]; go_simp) rfl ?_
      exact ⟨rfl, BB.out⟩
    · rcases dec_both (2 * px > a1 * d) with ⟨j2, f2⟩ | ⟨j2, f2⟩
      · skip
        clear BX CM j1 j2
        go_wp2_with fail
        refine (CA.out _).mono ?_
        rintro e w7 ⟨rfl, hb⟩
        clear c_p0 c_p1 c_p2 f_p0 f_p1 f_p2 l_p c_r0 c_r1 c_r2 c_r3 f_r0 f_r1 f_r2 f_r3 l_r
        replace r_r := Lib.hid (r_r.out.keep hb)
        replace r_p := Lib.hid (r_p.out.keep hb)
        replace r_h := Lib.hid (r_h.out.keep hb)
        replace h_w := Lib.hid (h_w.out.below hb)
        replace h_v := Lib.hid (IS.below h_v.out hb)
        replace hX := Lib.hid (MX.below hX.out hb)
        replace BB := Lib.hid (below_next BB.out hb)
        clear hb
        go_wp2_with fail
        refine bodyPost_ret (v := .bool true) (by unfold results; simp only [Try.results6]; go_simp) rfl ?_
        exact ⟨rfl, BB.out⟩
      · rcases dec_both (2 * py < b0 * d) with ⟨j3, f3⟩ | ⟨j3, f3⟩
        · skip
          clear BX CM j1 j2 j3
          go_wp2_with fail
          refine (CA.out _).mono ?_
          rintro e w7 ⟨rfl, hb⟩
          clear c_p0 c_p1 c_p2 f_p0 f_p1 f_p2 l_p c_r0 c_r1 c_r2 c_r3 f_r0 f_r1 f_r2 f_r3 l_r
          replace r_r := Lib.hid (r_r.out.keep hb)
          replace r_p := Lib.hid (r_p.out.keep hb)
          replace r_h := Lib.hid (r_h.out.keep hb)
          replace h_w := Lib.hid (h_w.out.below hb)
          replace h_v := Lib.hid (IS.below h_v.out hb)
          replace hX := Lib.hid (MX.below hX.out hb)
          replace BB := Lib.hid (below_next BB.out hb)
          clear hb
          go_wp2_with fail
          refine bodyPost_ret (v := .bool true) (by unfold results; simp only [Try.results6]; go_simp) rfl ?_
          exact ⟨rfl, BB.out⟩
        · rcases dec_both (2 * py > b1 * d) with ⟨j4, f4⟩ | ⟨j4, f4⟩
          · skip
            clear BX CM j1 j2 j3 j4
            go_wp2_with fail
            refine (CA.out _).mono ?_
            rintro e w7 ⟨rfl, hb⟩
            clear c_p0 c_p1 c_p2 f_p0 f_p1 f_p2 l_p c_r0 c_r1 c_r2 c_r3 f_r0 f_r1 f_r2 f_r3 l_r
            replace r_r := Lib.hid (r_r.out.keep hb)
            replace r_p := Lib.hid (r_p.out.keep hb)
            replace r_h := Lib.hid (r_h.out.keep hb)
            replace h_w := Lib.hid (h_w.out.below hb)
            replace h_v := Lib.hid (IS.below h_v.out hb)
            replace hX := Lib.hid (MX.below hX.out hb)
            replace BB := Lib.hid (below_next BB.out hb)
            clear hb
            go_wp2_with fail
            refine bodyPost_ret (v := .bool true) (by unfold results; simp only [Try.results6]; go_simp) rfl ?_
            exact ⟨rfl, BB.out⟩
          · obtain ⟨⟨z1, z2⟩, ⟨z3, z4⟩⟩ := BX.out (by omega) (by omega) (by omega) (by omega)
            have y1' : decide (U ≥ H0) = true := decide_eq_true z1
            have y2' : decide (U ≤ H2) = true := decide_eq_true z2
            have y3' : decide (V ≥ H1) = true := decide_eq_true z3
            have y4' : decide (V ≤ H3) = true := decide_eq_true z4
            clear BX j1 j2 j3 j4 z1 z2 z3 z4
            go_wp2_with fail
            refine (CM.out _ hX.out).mono ?_
            rintro e w7 ⟨rfl, hb⟩
            clear c_p0 c_p1 c_p2 f_p0 f_p1 f_p2 l_p c_r0 c_r1 c_r2 c_r3 f_r0 f_r1 f_r2 f_r3 l_r
            replace r_r := Lib.hid (r_r.out.keep hb)
            replace r_p := Lib.hid (r_p.out.keep hb)
            replace r_h := Lib.hid (r_h.out.keep hb)
            replace h_w := Lib.hid (h_w.out.below hb)
            replace h_v := Lib.hid (IS.below h_v.out hb)
            replace hX := Lib.hid (MX.below hX.out hb)
            replace BB := Lib.hid (below_next BB.out hb)
            clear hb
            obtain ⟨c_h0, c_h1, c_h2, c_h3, f_h0, f_h1, f_h2, f_h3⟩ := reads4 r_h.out
            have l_h := r_h.out.lt
            go_wp2_with fail
            refine (CA.out _).mono ?_
            rintro e w8 ⟨rfl, hb⟩
            clear c_h0 c_h1 c_h2 c_h3 f_h0 f_h1 f_h2 f_h3 l_h
            replace r_r := Lib.hid (r_r.out.keep hb)
            replace r_p := Lib.hid (r_p.out.keep hb)
            replace r_h := Lib.hid (r_h.out.keep hb)
            replace h_w := Lib.hid (h_w.out.below hb)
            replace h_v := Lib.hid (IS.below h_v.out hb)
            replace hX := Lib.hid (MX.below hX.out hb)
            replace BB := Lib.hid (below_next BB.out hb)
            clear hb
            go_wp2_with fail
            refine bodyPost_ret (v := .bool true) (by unfold results; simp only [Try.results6]; go_simp) rfl ?_
            exact ⟨rfl, BB.out⟩
  · have hp' : rightI px py d = false := by simpa using hp
    rw [hp']
    clear hp hp' BX CM
    go_wp2_with fail
    refine (CA.out _).mono ?_
    rintro e w7 ⟨rfl, hb⟩
    clear c_p0 c_p1 c_p2 f_p0 f_p1 f_p2 l_p c_r0 c_r1 c_r2 c_r3 f_r0 f_r1 f_r2 f_r3 l_r
    replace r_r := Lib.hid (r_r.out.keep hb)
    replace r_p := Lib.hid (r_p.out.keep hb)
    replace r_h := Lib.hid (r_h.out.keep hb)
    replace h_w := Lib.hid (h_w.out.below hb)
    replace h_v := Lib.hid (IS.below h_v.out hb)
    replace hX := Lib.hid (MX.below hX.out hb)
    replace BB := Lib.hid (below_next BB.out hb)
    clear hb
    go_wp2_with fail
    refine bodyPost_ret (v := .bool true) (by unfold results; simp only [Try.results6]; go_simp) rfl ?_
    exact ⟨rfl, BB.out⟩
/-- The law's walk. -/
theorem meshHulls_any (v : Value) (zs : List Int) (x0 y0 x1 y1 px py d : Int) (hpx : I64 px) (hpy : I64 py) (hpd : I64 d) (w : World) (hv : IS w v zs) :
    Calls Try.prog 6 #[v, .agg #[.int .i64 x0, .int .i64 y0, .int .i64 x1, .int .i64 y1], .agg #[.int .i64 px, .int .i64 py, .int .i64 d]] w fun e w' => e = .returned (.bool true) ∧ Below w.heap.size w w' := by
  by_cases h : meC zs 1 1 = 0
  · by_cases hR : 0 ≤ x0 ∧ x1 ≤ 32768 ∧ 0 ≤ y0 ∧ y1 ≤ 32768 ∧ x0 < x1 ∧ y0 < y1
    · exact meshHulls_ok v zs x0 y0 x1 y1 px py d h hR hpx hpy hpd w hv
    · exact meshHulls_no v zs x0 y0 x1 y1 px py d h hR w hv
  · exact meshHulls_bad v zs x0 y0 x1 y1 px py d h w hv
end Go.Proofs.Ythoakbjnofhpbaa
