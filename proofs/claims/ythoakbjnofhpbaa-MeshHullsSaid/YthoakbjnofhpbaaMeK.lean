/- Walk of the law MeshKnots. -/
import Derived.Test.YthoakbjnofhpbaaMeA
set_option linter.unusedVariables false
set_option linter.unusedSimpArgs false
namespace Go.Proofs.Ythoakbjnofhpbaa
open Go.RowKit Go.ChangeShapes Go.WideShapes Go.ChangeAt Go.Deep
set_option maxRecDepth 100000 in
set_option maxHeartbeats 8000000 in
theorem meshKnots_bad (v : Value) (zs : List Int) (s0 s1 t0 t1 : Int) (hC : meC zs s0 s1 ≠ 0) (w : World) (hv : IS w v zs) :
    Calls Try.prog 5 #[v, .agg #[.int .i64 s0, .int .i64 s1], .agg #[.int .i64 t0, .int .i64 t1]] w fun e w' => e = .returned (.bool true) ∧ Below w.heap.size w w' := by
  have CN := Lib.hid (fun w hv => mnew_any v zs s0 s1 w hv)
  have CD := Lib.hid (fun w hv => r21check v zs s0 s1 w hv)
  unfold GiveNew at CN
  have CC := Lib.hid (fun w => mcells_nil w)
  have CK := Lib.hid (fun w => mknot_nil t0 t1 w)
  have CA := Lib.hid (fun w => alive21 w)
  obtain ⟨A, cap, rfl⟩ := hv.form
  have hv := Lib.hid hv
  generalize hn1 : zs.length = n1 at *
  have hn1 := Lib.hid hn1
  rcases dec_both ((n1 : Int) > 9000) with ⟨g1, d1⟩ | ⟨g1, d1⟩
  · clear CN CD CC CK CA g1
    go_enter Try.func5, Try.ntmps5
    go_upto_region 1 with fail
    have BB := start2 w #[.int .i64 s0, .int .i64 s1] 39 #[.int .i64 t0, .int .i64 t1] 39
    obtain ⟨BB, hsz, r_s, r_t⟩ := BB
    generalize ((w.alloc (.cells #[.int .i64 s0, .int .i64 s1] 39)).alloc (.cells #[.int .i64 t0, .int .i64 t1] 39)) = w0 at *
    replace BB := Lib.hid BB
    replace r_s := Lib.hid r_s
    replace r_t := Lib.hid r_t
    clear hsz
    go_wp2_with fail
    refine bodyPost_ret (v := .bool true) (by unfold results; simp only [Try.results5]; go_simp) rfl ?_
    exact ⟨rfl, BB.out⟩
  go_enter Try.func5, Try.ntmps5
  go_upto_region 1 with fail
  have BB := start2 w #[.int .i64 s0, .int .i64 s1] 39 #[.int .i64 t0, .int .i64 t1] 39
  obtain ⟨BB, hsz, r_s, r_t⟩ := BB
  generalize ((w.alloc (.cells #[.int .i64 s0, .int .i64 s1] 39)).alloc (.cells #[.int .i64 t0, .int .i64 t1] 39)) = w0 at *
  replace BB := Lib.hid BB
  replace r_s := Lib.hid r_s
  replace r_t := Lib.hid r_t
  clear hsz
  have h_v := Lib.hid (hv.out.below BB.out)
  obtain ⟨c_s0, c_s1, f_s0, f_s1⟩ := reads2 r_s.out
  have l_s := r_s.out.lt
  go_wp2_with fail
  refine (CN.out _ h_v.out).mono ?_
  rintro e w1 ⟨m, rfl, hb, hn, -⟩
  clear c_s0 c_s1 f_s0 f_s1 l_s
  replace r_s := Lib.hid (r_s.out.keep hb)
  replace r_t := Lib.hid (r_t.out.keep hb)
  replace h_v := Lib.hid (IS.below h_v.out hb)
  replace BB := Lib.hid (below_next BB.out hb)
  clear hb
  clear CN
  generalize meC zs s0 s1 = C at *
  have hC' : (C != 0) = true := by simpa using hC
  have hC2 : (C == 0) = false := by simpa using hC
  obtain rfl := hn hC
  clear hn hC
  go_wp2_with fail
  refine (CC.out _).mono ?_
  rintro e w2 ⟨rfl, hb⟩
  replace r_s := Lib.hid (r_s.out.keep hb)
  replace r_t := Lib.hid (r_t.out.keep hb)
  replace h_v := Lib.hid (IS.below h_v.out hb)
  replace BB := Lib.hid (below_next BB.out hb)
  clear hb
  obtain ⟨c_t0, c_t1, f_t0, f_t1⟩ := reads2 r_t.out
  have l_t := r_t.out.lt
  go_wp2_with fail
  refine (CK.out _).mono ?_
  rintro e w3 ⟨rfl, hb⟩
  clear c_t0 c_t1 f_t0 f_t1 l_t
  replace r_s := Lib.hid (r_s.out.keep hb)
  replace r_t := Lib.hid (r_t.out.keep hb)
  replace h_v := Lib.hid (IS.below h_v.out hb)
  replace BB := Lib.hid (below_next BB.out hb)
  clear hb
  obtain ⟨c_s0, c_s1, f_s0, f_s1⟩ := reads2 r_s.out
  have l_s := r_s.out.lt
  go_wp2_with fail
  refine (CD.out _ h_v.out).mono ?_
  rintro e w4 ⟨rfl, hb⟩
  clear c_s0 c_s1 f_s0 f_s1 l_s
  replace r_s := Lib.hid (r_s.out.keep hb)
  replace r_t := Lib.hid (r_t.out.keep hb)
  replace h_v := Lib.hid (IS.below h_v.out hb)
  replace BB := Lib.hid (below_next BB.out hb)
  clear hb
  clear CC CK CD
  go_wp2_with fail
  refine (CA.out _).mono ?_
  rintro e w5 ⟨rfl, hb⟩
  replace r_s := Lib.hid (r_s.out.keep hb)
  replace r_t := Lib.hid (r_t.out.keep hb)
  replace h_v := Lib.hid (IS.below h_v.out hb)
  replace BB := Lib.hid (below_next BB.out hb)
  clear hb
  go_wp2_with fail
  refine bodyPost_ret (v := .bool true) (by unfold results; simp only [Try.results5]; go_simp) rfl ?_
  exact ⟨rfl, BB.out⟩
theorem cell_knot {g n i : Int} (hg : 1 ≤ g ∧ g ≤ 1024) (hn : 1 ≤ n ∧ n ≤ 64) (hi : 0 ≤ i ∧ i ≤ n) : (cellI g n (i * g) 1 = i ∧ cellS g n (i * g) 1 = 0) ∨ (cellI g n (i * g) 1 + 1 = i ∧ cellS g n (i * g) 1 = g * 1) := by
  have h1 : i * g ≤ n * g := Int.mul_le_mul_of_nonneg_right hi.2 (by omega)
  have h2 : 0 ≤ i * g := Int.mul_nonneg hi.1 (by omega)
  have h3 : g * n * 1 = n * g := by rw [Int.mul_one, Int.mul_comm]
  have hQ : cellQ g n (i * g) 1 = i * g := by
    have hM : cellM g n (i * g) 1 = i * g := by unfold cellM; rw [h3, if_neg (by omega)]
    unfold cellQ
    rw [hM]
    split <;> omega
  have hD : i * g / (g * 1) = i := by rw [Int.mul_one]; exact Int.mul_ediv_cancel _ (by omega)
  unfold cellS cellI
  rw [hQ, hD]
  by_cases hl : n - 1 < i
  · right
    rw [if_pos hl]
    obtain rfl : i = n := by omega
    refine ⟨by omega, ?_⟩
    rw [Int.sub_mul]
    omega
  · left
    rw [if_neg hl]
    exact ⟨rfl, by omega⟩
theorem me_knot {gx gy nx ny i k : Int} (f : Int → Int → Int) (g1 : 1 ≤ gx ∧ gx ≤ 1024) (g2 : 1 ≤ gy ∧ gy ≤ 1024) (g3 : 1 ≤ nx ∧ nx ≤ 64) (g4 : 1 ≤ ny ∧ ny ≤ 64) (hi : 0 ≤ i ∧ i ≤ nx) (hk : 0 ≤ k ∧ k ≤ ny) (hf : -2147483648 ≤ f i k ∧ f i k ≤ 2147483648) : mePl gx gy nx ny (i * gx) (k * gy) 1 f = f i k := by
  have h0 : gx * 1 * (gy * 1) ≠ 0 := by
    have := mul_rng g1 g2
    rw [Int.mul_one, Int.mul_one]; omega
  have hc : ∀ z : Int, -2147483648 ≤ z ∧ z ≤ 2147483648 → cutI z = z := fun z hz => cut_near (by omega) (by omega)
  unfold mePl mixS cwA cwB cwC cwD
  rcases cell_knot g1 g3 hi with ⟨a1, a2⟩ | ⟨a1, a2⟩ <;> rcases cell_knot g2 g4 hk with ⟨b1, b2⟩ | ⟨b1, b2⟩ <;> rw [a2, b2]
  · rw [a1, b1]
    simp only [Int.sub_zero, Int.mul_zero, Int.zero_mul, Int.add_zero, Int.zero_add]
    rw [Int.mul_fdiv_cancel_left _ h0]; exact hc _ hf
  · rw [a1, b1]
    simp only [Int.sub_zero, Int.sub_self, Int.mul_zero, Int.zero_mul, Int.add_zero, Int.zero_add]
    rw [Int.mul_fdiv_cancel_left _ h0]; exact hc _ hf
  · rw [a1, b1]
    simp only [Int.sub_zero, Int.sub_self, Int.mul_zero, Int.zero_mul, Int.add_zero, Int.zero_add]
    rw [Int.mul_fdiv_cancel_left _ h0]; exact hc _ hf
  · rw [a1, b1]
    simp only [Int.sub_zero, Int.sub_self, Int.mul_zero, Int.zero_mul, Int.add_zero, Int.zero_add]
    rw [Int.mul_fdiv_cancel_left _ h0]; exact hc _ hf
theorem below_of {P : Program} {f : FuncId} {args : Array Value} {w : World} {z : Value} (h : Calls P f args w fun e w' => e = .returned z ∧ w = w') : Calls P f args w fun e w' => e = .returned z ∧ Below w.heap.size w w' := h.mono fun e w' k => ⟨k.1, by rw [← k.2]; exact Below.refl _ _⟩
set_option maxRecDepth 100000 in
set_option maxHeartbeats 8000000 in
theorem meshKnots_ok (v : Value) (zs : List Int) (s0 s1 t0 t1 : Int) (hC : meC zs s0 s1 = 0) (w : World) (hv : IS w v zs) :
    Calls Try.prog 5 #[v, .agg #[.int .i64 s0, .int .i64 s1], .agg #[.int .i64 t0, .int .i64 t1]] w fun e w' => e = .returned (.bool true) ∧ Below w.heap.size w w' := by
  have CN := Lib.hid (fun w hv => mnew_any v zs s0 s1 w hv)
  have CD := Lib.hid (fun w hv => r21check v zs s0 s1 w hv)
  unfold GiveNew at CN
  rw [hC] at CN CD
  have CA := Lib.hid (fun w => alive21 w)
  obtain ⟨A, cap, rfl⟩ := hv.form
  have hv := Lib.hid hv
  generalize hn1 : zs.length = n1 at *
  have hn1 := Lib.hid hn1
  rcases dec_both ((n1 : Int) > 9000) with ⟨g1, d1⟩ | ⟨g1, d1⟩
  · clear CN CD CA g1 hC
    go_enter Try.func5, Try.ntmps5
    go_upto_region 1 with fail
    have BB := start2 w #[.int .i64 s0, .int .i64 s1] 39 #[.int .i64 t0, .int .i64 t1] 39
    obtain ⟨BB, hsz, r_s, r_t⟩ := BB
    generalize ((w.alloc (.cells #[.int .i64 s0, .int .i64 s1] 39)).alloc (.cells #[.int .i64 t0, .int .i64 t1] 39)) = w0 at *
    replace BB := Lib.hid BB
    replace r_s := Lib.hid r_s
    replace r_t := Lib.hid r_t
    clear hsz
    go_wp2_with fail
    refine bodyPost_ret (v := .bool true) (by unfold results; simp only [Try.results5]; go_simp) rfl ?_
    exact ⟨rfl, BB.out⟩
  go_enter Try.func5, Try.ntmps5
  go_upto_region 1 with fail
  have BB := start2 w #[.int .i64 s0, .int .i64 s1] 39 #[.int .i64 t0, .int .i64 t1] 39
  obtain ⟨BB, hsz, r_s, r_t⟩ := BB
  generalize ((w.alloc (.cells #[.int .i64 s0, .int .i64 s1] 39)).alloc (.cells #[.int .i64 t0, .int .i64 t1] 39)) = w0 at *
  replace BB := Lib.hid BB
  replace r_s := Lib.hid r_s
  replace r_t := Lib.hid r_t
  clear hsz
  have h_v := Lib.hid (hv.out.below BB.out)
  obtain ⟨c_s0, c_s1, f_s0, f_s1⟩ := reads2 r_s.out
  have l_s := r_s.out.lt
  go_wp2_with fail
  refine (CN.out _ h_v.out).mono ?_
  rintro e w1 ⟨m, rfl, hb, -, hp⟩
  clear c_s0 c_s1 f_s0 f_s1 l_s
  replace r_s := Lib.hid (r_s.out.keep hb)
  replace r_t := Lib.hid (r_t.out.keep hb)
  replace h_v := Lib.hid (IS.below h_v.out hb)
  replace BB := Lib.hid (below_next BB.out hb)
  clear hb
  obtain ⟨gx, gy, nx, ny, rest, N, g, e1, hG, hN, rfl, hX, hr⟩ := hp trivial
  have hX := Lib.hid hX
  obtain ⟨q1, q2, q3, q4, q5⟩ := id hG
  have CC := Lib.hid (fun w hm => mcells_ok g gx gy nx ny (ksOf rest N) w hm)
  have k3 : (3 : Int) < (n1 : Int) := by have := hn1.out; rw [e1] at this; simp at this; omega
  have k2 : (2 : Int) < (n1 : Int) := by omega
  have k0 : (0 : Int) < (n1 : Int) := by omega
  have k0n : 0 < n1 := by omega
  have k1 : (1 : Int) < (n1 : Int) := by omega
  obtain ⟨b, off, cap', e2, -, -, hlt, hcells⟩ := h_v.out.some (by rw [e1]; simp)
  simp only [Value.slice.injEq] at e2
  obtain ⟨rfl, -, rfl⟩ := e2
  have HCl := Lib.hid (fun w9 (h9 : Below w1.heap.size w1 w9) => show (w9.cell? ⟨b, off, none⟩ = some (.int .i64 gx) ∧ w9.cell? ⟨b, off + 1, none⟩ = some (.int .i64 gy) ∧ w9.cell? ⟨b, off + 2, none⟩ = some (.int .i64 nx) ∧ w9.cell? ⟨b, off + 3, none⟩ = some (.int .i64 ny)) from by
    rw [e1] at hcells
    exact ⟨(h9.cell hlt).trans (hcells 0 (by simp)), (h9.cell hlt).trans (hcells 1 (by simp)), (h9.cell hlt).trans (hcells 2 (by simp)), (h9.cell hlt).trans (hcells 3 (by simp))⟩)
  have hb0 := Lib.hid (Below.refl w1.heap.size w1)
  clear CN hp hC hcells
  go_wp2_with fail
  refine (CC.out _ hX.out).mono ?_
  rintro e w2 ⟨rfl, hb⟩
  replace r_s := Lib.hid (r_s.out.keep hb)
  replace r_t := Lib.hid (r_t.out.keep hb)
  replace h_v := Lib.hid (IS.below h_v.out hb)
  replace hX := Lib.hid (MX.below hX.out hb)
  replace hb0 := Lib.hid (below_next hb0.out hb)
  replace BB := Lib.hid (below_next BB.out hb)
  clear hb
  by_cases hin : 0 ≤ t0 ∧ t0 ≤ nx ∧ 0 ≤ t1 ∧ t1 ≤ ny
  · obtain ⟨i1, i2, i3, i4⟩ := hin
    have hj := kn_ix (ny := ny) (i := t0) (k := t1) q3.1 ⟨i1, i2⟩ ⟨i3, i4⟩
    have hNN : (N : Int) = (nx + 1) * (ny + 1) := by have := q5; unfold ksOf at this; simp at this; exact this
    have u1 : t0 * gx ≤ 64 * 1024 := Int.mul_le_mul (by omega) q1.2 (by omega) (by omega)
    have u2 : t1 * gy ≤ 64 * 1024 := Int.mul_le_mul (by omega) q2.2 (by omega) (by omega)
    have u3 : 0 ≤ t0 * gx := Int.mul_nonneg i1 (by omega)
    have u4 : 0 ≤ t1 * gy := Int.mul_nonneg i3 (by omega)
    have CK := Lib.hid (fun w hm => mknot_in g gx gy nx ny t0 t1 (ksOf rest N) hG ⟨i1, i2⟩ ⟨i3, i4⟩ w hm)
    have CM := Lib.hid (fun w hm => meat_ok g gx gy nx ny (t0 * gx) (t1 * gy) 1 (ksOf rest N) ⟨by omega, by omega⟩ ⟨by omega, by omega⟩ (rightI_iff.2 ⟨⟨by omega, by omega⟩, ⟨by omega, by omega⟩, by omega, by omega⟩) hG (ks_in hr) w hm)
    have hk1 : ∀ j, -2147483648 ≤ rest.getD j 0 ∧ rest.getD j 0 ≤ 2147483648 := fun j => by
      by_cases hk : j < rest.length
      · have e : rest.getD j 0 = rest[j] := by simp [List.getD, hk]
        rw [e]; exact hr _ (List.getElem_mem hk)
      · rw [List.getD_eq_getElem?_getD, List.getElem?_eq_none (by omega)]; exact ⟨by decide, by decide⟩
    rw [me_knot (fun i k => (knP (ksOf rest N) nx i k).1) q1 q2 q3 q4 ⟨i1, i2⟩ ⟨i3, i4⟩ (by rw [(knP_at hN nx t0 t1).1]; exact hk1 _), me_knot (fun i k => (knP (ksOf rest N) nx i k).2) q1 q2 q3 q4 ⟨i1, i2⟩ ⟨i3, i4⟩ (by rw [(knP_at hN nx t0 t1).2]; exact hk1 _)] at CM
    have hjn : ((t1 * (nx + 1) + t0).toNat : Int) = t1 * (nx + 1) + t0 := Int.toNat_of_nonneg hj.1
    have hjl : 2 * (t1 * (nx + 1) + t0).toNat + 1 < rest.length := by omega
    have R0 := Lib.hid (fun w hv => below_of (r21knot (.slice (some ⟨b, off, none⟩) n1 cap) gx gy nx ny t0 t1 rest 0 (t1 * (nx + 1) + t0).toNat (by omega) hjn (by omega) q3 (by omega) (by omega) w hv))
    have R1 := Lib.hid (fun w hv => below_of (r21knot (.slice (some ⟨b, off, none⟩) n1 cap) gx gy nx ny t0 t1 rest 1 (t1 * (nx + 1) + t0).toNat (by omega) hjn (by omega) q3 (by omega) (by omega) w hv))
    rw [(knP_at hN nx t0 t1).1, (knP_at hN nx t0 t1).2] at CK CM
    have hU := hk1 (2 * (t1 * (nx + 1) + t0).toNat + 0)
    have hV := hk1 (2 * (t1 * (nx + 1) + t0).toNat + 1)
    generalize rest.getD (2 * (t1 * (nx + 1) + t0).toNat + 0) 0 = U at *
    generalize rest.getD (2 * (t1 * (nx + 1) + t0).toNat + 1) 0 = V at *
    have h_w := Lib.hid (show IS w2 (.slice (some ⟨b, off, none⟩) n1 cap) (gx :: gy :: nx :: ny :: rest) from e1 ▸ h_v.out)
    have w0' : IntKind.i64.wrap (t0 * gx) = t0 * gx := iw ⟨by omega, by omega⟩
    have w1' : IntKind.i64.wrap (t1 * gy) = t1 * gy := iw ⟨by omega, by omega⟩
    have a1 : decide (t0 ≥ 0) = true := by simpa using i1
    have a2 : decide (t0 ≤ nx) = true := by simpa using i2
    have a3 : decide (t1 ≥ 0) = true := by simpa using i3
    have a4 : decide (t1 ≤ ny) = true := by simpa using i4
    clear hU hV hk1 hj hjn hjl hNN u1 u2 u3 u4 hr hN e1 hG
    obtain ⟨c_t0, c_t1, f_t0, f_t1⟩ := reads2 r_t.out
    have l_t := r_t.out.lt
    go_wp2_with fail
    refine (CK.out _ hX.out).mono ?_
    rintro e w3 ⟨rfl, hb⟩
    clear c_t0 c_t1 f_t0 f_t1 l_t
    replace r_s := Lib.hid (r_s.out.keep hb)
    replace r_t := Lib.hid (r_t.out.keep hb)
    replace h_w := Lib.hid (h_w.out.below hb)
    replace h_v := Lib.hid (IS.below h_v.out hb)
    replace hX := Lib.hid (MX.below hX.out hb)
    replace hb0 := Lib.hid (below_next hb0.out hb)
    replace BB := Lib.hid (below_next BB.out hb)
    clear hb
    obtain ⟨c_s0, c_s1, f_s0, f_s1⟩ := reads2 r_s.out
    have l_s := r_s.out.lt
    go_wp2_with fail
    refine (CD.out _ h_v.out).mono ?_
    rintro e w4 ⟨rfl, hb⟩
    clear c_s0 c_s1 f_s0 f_s1 l_s
    replace r_s := Lib.hid (r_s.out.keep hb)
    replace r_t := Lib.hid (r_t.out.keep hb)
    replace h_w := Lib.hid (h_w.out.below hb)
    replace h_v := Lib.hid (IS.below h_v.out hb)
    replace hX := Lib.hid (MX.below hX.out hb)
    replace hb0 := Lib.hid (below_next hb0.out hb)
    replace BB := Lib.hid (below_next BB.out hb)
    clear hb
    obtain ⟨cc0, cc1, cc2, cc3⟩ := HCl.out _ hb0.out
    obtain ⟨c_t0, c_t1, f_t0, f_t1⟩ := reads2 r_t.out
    have l_t := r_t.out.lt
    go_wp2_with fail
    go_quiet (fail)
    have hb := below_drawn (Below.refl w4.heap.size w4) nq
    generalize w4.drewN nq = w5 at *
    clear c_t0 c_t1 f_t0 f_t1 l_t
    replace r_s := Lib.hid (r_s.out.keep hb)
    replace r_t := Lib.hid (r_t.out.keep hb)
    replace h_w := Lib.hid (h_w.out.below hb)
    replace h_v := Lib.hid (IS.below h_v.out hb)
    replace hX := Lib.hid (MX.below hX.out hb)
    replace hb0 := Lib.hid (below_next hb0.out hb)
    replace BB := Lib.hid (below_next BB.out hb)
    clear hb nq
    go_wp2_with fail
    have HCc := Lib.hid (fun w9 (h9 : Below w5.heap.size w5 w9) => HCl.out _ (below_next hb0.out h9))
    have KK := Lib.hid (fun (w9 : World) (h : Below w5.heap.size w5 w9) => (HCc.out _ h : (w9.cell? ⟨b, off, none⟩ = some (.int .i64 gx) ∧ w9.cell? ⟨b, off + 1, none⟩ = some (.int .i64 gy) ∧ w9.cell? ⟨b, off + 2, none⟩ = some (.int .i64 nx) ∧ w9.cell? ⟨b, off + 3, none⟩ = some (.int .i64 ny))))
    have K0 := KK.out w5 (Below.refl _ _)
    have KD := KK.out w5.drew (below_drew (Below.refl _ _))
    go_region_held3 (fun w9 => (w9.cell? ⟨b, off, none⟩ = some (.int .i64 gx) ∧ w9.cell? ⟨b, off + 1, none⟩ = some (.int .i64 gy) ∧ w9.cell? ⟨b, off + 2, none⟩ = some (.int .i64 nx) ∧ w9.cell? ⟨b, off + 3, none⟩ = some (.int .i64 ny)))
        (first | with_reducible exact KD | with_reducible exact K0 | with_reducible exact K_w6)
        (first
          | (go_at_call 21
             refine (CM.out _ (hX.out.below ?_)).mono ?_
             · repeat (first | with_reducible exact Below.refl _ _ | with_reducible apply below_drew | with_reducible apply below_new)
             rintro e w6 ⟨rfl, hb⟩
             have B_w6 := Lib.hid (reg_next (w0 := w5) (by repeat (first | with_reducible exact Below.refl _ _ | with_reducible apply below_drew | with_reducible apply below_new)) hb)
             have K_w6 := KK.out _ B_w6.out
             clear hb))
    clear KK K0 KD K_w6
    replace r_s := Lib.hid (r_s.out.keep B_w6.out)
    replace r_t := Lib.hid (r_t.out.keep B_w6.out)
    replace h_w := Lib.hid (h_w.out.below B_w6.out)
    replace h_v := Lib.hid (IS.below h_v.out B_w6.out)
    replace hX := Lib.hid (MX.below hX.out B_w6.out)
    replace hb0 := Lib.hid (below_next hb0.out B_w6.out)
    replace BB := Lib.hid (below_next BB.out B_w6.out)
    clear B_w6
    go_wp2_with fail
    refine (R0.out _ h_w.out).mono ?_
    rintro e w7 ⟨rfl, hb⟩
    replace r_s := Lib.hid (r_s.out.keep hb)
    replace r_t := Lib.hid (r_t.out.keep hb)
    replace h_w := Lib.hid (h_w.out.below hb)
    replace h_v := Lib.hid (IS.below h_v.out hb)
    replace hX := Lib.hid (MX.below hX.out hb)
    replace hb0 := Lib.hid (below_next hb0.out hb)
    replace BB := Lib.hid (below_next BB.out hb)
    clear hb
    go_wp2_with fail
    refine (R1.out _ h_w.out).mono ?_
    rintro e w8 ⟨rfl, hb⟩
    replace r_s := Lib.hid (r_s.out.keep hb)
    replace r_t := Lib.hid (r_t.out.keep hb)
    replace h_w := Lib.hid (h_w.out.below hb)
    replace h_v := Lib.hid (IS.below h_v.out hb)
    replace hX := Lib.hid (MX.below hX.out hb)
    replace hb0 := Lib.hid (below_next hb0.out hb)
    replace BB := Lib.hid (below_next BB.out hb)
    clear hb
    go_wp2_with fail
    refine (CA.out _).mono ?_
    rintro e w10 ⟨rfl, hb⟩
    replace r_s := Lib.hid (r_s.out.keep hb)
    replace r_t := Lib.hid (r_t.out.keep hb)
    replace h_w := Lib.hid (h_w.out.below hb)
    replace h_v := Lib.hid (IS.below h_v.out hb)
    replace hX := Lib.hid (MX.below hX.out hb)
    replace hb0 := Lib.hid (below_next hb0.out hb)
    replace BB := Lib.hid (below_next BB.out hb)
    clear hb
    go_wp2_with fail
    refine bodyPost_ret (v := .bool true) (by unfold results; simp only [Try.results5]; go_simp) rfl ?_
    exact ⟨rfl, BB.out⟩
  · have CK := Lib.hid (fun w hm => mknot_out g gx gy nx ny t0 t1 (ksOf rest N) hin w hm)
    by_cases i1 : 0 ≤ t0
    · have a1 : decide (t0 ≥ 0) = true := by simpa using i1
      by_cases i2 : t0 ≤ nx
      · have a2 : decide (t0 ≤ nx) = true := by simpa using i2
        by_cases i3 : 0 ≤ t1
        · have a3 : decide (t1 ≥ 0) = true := by simpa using i3
          have a4 : decide (t1 ≤ ny) = false := by simpa using fun h => hin ⟨i1, i2, i3, h⟩
          clear hin hr e1 hG
          obtain ⟨c_t0, c_t1, f_t0, f_t1⟩ := reads2 r_t.out
          have l_t := r_t.out.lt
          go_wp2_with fail
          refine (CK.out _ hX.out).mono ?_
          rintro e w3 ⟨rfl, hb⟩
          clear c_t0 c_t1 f_t0 f_t1 l_t
          replace r_s := Lib.hid (r_s.out.keep hb)
          replace r_t := Lib.hid (r_t.out.keep hb)
          replace h_v := Lib.hid (IS.below h_v.out hb)
          replace hX := Lib.hid (MX.below hX.out hb)
          replace hb0 := Lib.hid (below_next hb0.out hb)
          replace BB := Lib.hid (below_next BB.out hb)
          clear hb
          obtain ⟨c_s0, c_s1, f_s0, f_s1⟩ := reads2 r_s.out
          have l_s := r_s.out.lt
          go_wp2_with fail
          refine (CD.out _ h_v.out).mono ?_
          rintro e w4 ⟨rfl, hb⟩
          clear c_s0 c_s1 f_s0 f_s1 l_s
          replace r_s := Lib.hid (r_s.out.keep hb)
          replace r_t := Lib.hid (r_t.out.keep hb)
          replace h_v := Lib.hid (IS.below h_v.out hb)
          replace hX := Lib.hid (MX.below hX.out hb)
          replace hb0 := Lib.hid (below_next hb0.out hb)
          replace BB := Lib.hid (below_next BB.out hb)
          clear hb
          obtain ⟨cc0, cc1, cc2, cc3⟩ := HCl.out _ hb0.out
          obtain ⟨c_t0, c_t1, f_t0, f_t1⟩ := reads2 r_t.out
          have l_t := r_t.out.lt
          go_wp2_with fail
          refine (CA.out _).mono ?_
          rintro e w5 ⟨rfl, hb⟩
          clear c_t0 c_t1 f_t0 f_t1 l_t
          replace r_s := Lib.hid (r_s.out.keep hb)
          replace r_t := Lib.hid (r_t.out.keep hb)
          replace h_v := Lib.hid (IS.below h_v.out hb)
          replace hX := Lib.hid (MX.below hX.out hb)
          replace hb0 := Lib.hid (below_next hb0.out hb)
          replace BB := Lib.hid (below_next BB.out hb)
          clear hb
          go_wp2_with fail
          refine bodyPost_ret (v := .bool true) (by unfold results; simp only [Try.results5]; go_simp) rfl ?_
          exact ⟨rfl, BB.out⟩
        · have a3 : decide (t1 ≥ 0) = false := by simpa using i3
          clear hin hr e1 hG
          obtain ⟨c_t0, c_t1, f_t0, f_t1⟩ := reads2 r_t.out
          have l_t := r_t.out.lt
          go_wp2_with fail
          refine (CK.out _ hX.out).mono ?_
          rintro e w3 ⟨rfl, hb⟩
          clear c_t0 c_t1 f_t0 f_t1 l_t
          replace r_s := Lib.hid (r_s.out.keep hb)
          replace r_t := Lib.hid (r_t.out.keep hb)
          replace h_v := Lib.hid (IS.below h_v.out hb)
          replace hX := Lib.hid (MX.below hX.out hb)
          replace hb0 := Lib.hid (below_next hb0.out hb)
          replace BB := Lib.hid (below_next BB.out hb)
          clear hb
          obtain ⟨c_s0, c_s1, f_s0, f_s1⟩ := reads2 r_s.out
          have l_s := r_s.out.lt
          go_wp2_with fail
          refine (CD.out _ h_v.out).mono ?_
          rintro e w4 ⟨rfl, hb⟩
          clear c_s0 c_s1 f_s0 f_s1 l_s
          replace r_s := Lib.hid (r_s.out.keep hb)
          replace r_t := Lib.hid (r_t.out.keep hb)
          replace h_v := Lib.hid (IS.below h_v.out hb)
          replace hX := Lib.hid (MX.below hX.out hb)
          replace hb0 := Lib.hid (below_next hb0.out hb)
          replace BB := Lib.hid (below_next BB.out hb)
          clear hb
          obtain ⟨cc0, cc1, cc2, cc3⟩ := HCl.out _ hb0.out
          obtain ⟨c_t0, c_t1, f_t0, f_t1⟩ := reads2 r_t.out
          have l_t := r_t.out.lt
          go_wp2_with fail
          refine (CA.out _).mono ?_
          rintro e w5 ⟨rfl, hb⟩
          clear c_t0 c_t1 f_t0 f_t1 l_t
          replace r_s := Lib.hid (r_s.out.keep hb)
          replace r_t := Lib.hid (r_t.out.keep hb)
          replace h_v := Lib.hid (IS.below h_v.out hb)
          replace hX := Lib.hid (MX.below hX.out hb)
          replace hb0 := Lib.hid (below_next hb0.out hb)
          replace BB := Lib.hid (below_next BB.out hb)
          clear hb
          go_wp2_with fail
          refine bodyPost_ret (v := .bool true) (by unfold results; simp only [Try.results5]; go_simp) rfl ?_
          exact ⟨rfl, BB.out⟩
      · have a2 : decide (t0 ≤ nx) = false := by simpa using i2
        clear hin hr e1 hG
        obtain ⟨c_t0, c_t1, f_t0, f_t1⟩ := reads2 r_t.out
        have l_t := r_t.out.lt
        go_wp2_with fail
        refine (CK.out _ hX.out).mono ?_
        rintro e w3 ⟨rfl, hb⟩
        clear c_t0 c_t1 f_t0 f_t1 l_t
        replace r_s := Lib.hid (r_s.out.keep hb)
        replace r_t := Lib.hid (r_t.out.keep hb)
        replace h_v := Lib.hid (IS.below h_v.out hb)
        replace hX := Lib.hid (MX.below hX.out hb)
        replace hb0 := Lib.hid (below_next hb0.out hb)
        replace BB := Lib.hid (below_next BB.out hb)
        clear hb
        obtain ⟨c_s0, c_s1, f_s0, f_s1⟩ := reads2 r_s.out
        have l_s := r_s.out.lt
        go_wp2_with fail
        refine (CD.out _ h_v.out).mono ?_
        rintro e w4 ⟨rfl, hb⟩
        clear c_s0 c_s1 f_s0 f_s1 l_s
        replace r_s := Lib.hid (r_s.out.keep hb)
        replace r_t := Lib.hid (r_t.out.keep hb)
        replace h_v := Lib.hid (IS.below h_v.out hb)
        replace hX := Lib.hid (MX.below hX.out hb)
        replace hb0 := Lib.hid (below_next hb0.out hb)
        replace BB := Lib.hid (below_next BB.out hb)
        clear hb
        obtain ⟨cc0, cc1, cc2, cc3⟩ := HCl.out _ hb0.out
        obtain ⟨c_t0, c_t1, f_t0, f_t1⟩ := reads2 r_t.out
        have l_t := r_t.out.lt
        go_wp2_with fail
        refine (CA.out _).mono ?_
        rintro e w5 ⟨rfl, hb⟩
        clear c_t0 c_t1 f_t0 f_t1 l_t
        replace r_s := Lib.hid (r_s.out.keep hb)
        replace r_t := Lib.hid (r_t.out.keep hb)
        replace h_v := Lib.hid (IS.below h_v.out hb)
        replace hX := Lib.hid (MX.below hX.out hb)
        replace hb0 := Lib.hid (below_next hb0.out hb)
        replace BB := Lib.hid (below_next BB.out hb)
        clear hb
        go_wp2_with fail
        refine bodyPost_ret (v := .bool true) (by unfold results; simp only [Try.results5]; go_simp) rfl ?_
        exact ⟨rfl, BB.out⟩
    · have a1 : decide (t0 ≥ 0) = false := by simpa using i1
      clear hin hr e1 hG
      obtain ⟨c_t0, c_t1, f_t0, f_t1⟩ := reads2 r_t.out
      have l_t := r_t.out.lt
      go_wp2_with fail
      refine (CK.out _ hX.out).mono ?_
      rintro e w3 ⟨rfl, hb⟩
      clear c_t0 c_t1 f_t0 f_t1 l_t
      replace r_s := Lib.hid (r_s.out.keep hb)
      replace r_t := Lib.hid (r_t.out.keep hb)
      replace h_v := Lib.hid (IS.below h_v.out hb)
      replace hX := Lib.hid (MX.below hX.out hb)
      replace hb0 := Lib.hid (below_next hb0.out hb)
      replace BB := Lib.hid (below_next BB.out hb)
      clear hb
      obtain ⟨c_s0, c_s1, f_s0, f_s1⟩ := reads2 r_s.out
      have l_s := r_s.out.lt
      go_wp2_with fail
      refine (CD.out _ h_v.out).mono ?_
      rintro e w4 ⟨rfl, hb⟩
      clear c_s0 c_s1 f_s0 f_s1 l_s
      replace r_s := Lib.hid (r_s.out.keep hb)
      replace r_t := Lib.hid (r_t.out.keep hb)
      replace h_v := Lib.hid (IS.below h_v.out hb)
      replace hX := Lib.hid (MX.below hX.out hb)
      replace hb0 := Lib.hid (below_next hb0.out hb)
      replace BB := Lib.hid (below_next BB.out hb)
      clear hb
      obtain ⟨cc0, cc1, cc2, cc3⟩ := HCl.out _ hb0.out
      obtain ⟨c_t0, c_t1, f_t0, f_t1⟩ := reads2 r_t.out
      have l_t := r_t.out.lt
      go_wp2_with fail
      refine (CA.out _).mono ?_
      rintro e w5 ⟨rfl, hb⟩
      clear c_t0 c_t1 f_t0 f_t1 l_t
      replace r_s := Lib.hid (r_s.out.keep hb)
      replace r_t := Lib.hid (r_t.out.keep hb)
      replace h_v := Lib.hid (IS.below h_v.out hb)
      replace hX := Lib.hid (MX.below hX.out hb)
      replace hb0 := Lib.hid (below_next hb0.out hb)
      replace BB := Lib.hid (below_next BB.out hb)
      clear hb
      go_wp2_with fail
      refine bodyPost_ret (v := .bool true) (by unfold results; simp only [Try.results5]; go_simp) rfl ?_
      exact ⟨rfl, BB.out⟩
/-- The law's walk. -/
theorem meshKnots_any (v : Value) (zs : List Int) (s0 s1 t0 t1 : Int) (w : World) (hv : IS w v zs) :
    Calls Try.prog 5 #[v, .agg #[.int .i64 s0, .int .i64 s1], .agg #[.int .i64 t0, .int .i64 t1]] w fun e w' => e = .returned (.bool true) ∧ Below w.heap.size w w' := by
  by_cases h : meC zs s0 s1 = 0
  · exact meshKnots_ok v zs s0 s1 t0 t1 h w hv
  · exact meshKnots_bad v zs s0 s1 t0 t1 h w hv
end Go.Proofs.Ythoakbjnofhpbaa
