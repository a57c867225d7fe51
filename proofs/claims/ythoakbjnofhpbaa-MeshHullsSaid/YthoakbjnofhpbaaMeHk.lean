/- Contract of mesh.Hull. -/
import Derived.Test.YthoakbjnofhpbaaMeH0
import Derived.Test.YthoakbjnofhpbaaBoxS
import Derived.Deep.DeepCutAuto
set_option linter.unusedVariables false
set_option linter.unusedSimpArgs false
namespace Go.Proofs.Ythoakbjnofhpbaa
open Go.RowKit
set_option maxRecDepth 100000 in
set_option maxHeartbeats 8000000 in
theorem mhull_ok (g : Nat) (gx gy nx ny x0 y0 x1 y1 : Int) (ks : List (Int × Int)) (hG : MG gx gy nx ny ks) (hx0 : 0 ≤ x0) (hx1 : x1 ≤ 32768) (hy0 : 0 ≤ y0) (hy1 : y1 ≤ 32768) (hx : x0 < x1) (hy : y0 < y1) (w : World) (hm : MX w g gx gy nx ny ks) :
    Calls Try.prog 28 #[.pointer (some ⟨g, 0, none⟩), .int .i64 x0, .int .i64 y0, .int .i64 x1, .int .i64 y1] w fun e w' =>
      e = .returned (.tuple #[.agg #[.int .i64 (huP min (fun i k => (knP ks nx i k).1) gx gy nx ny x0 y0 x1 y1), .int .i64 (huP min (fun i k => (knP ks nx i k).2) gx gy nx ny x0 y0 x1 y1), .int .i64 (huP max (fun i k => (knP ks nx i k).1) gx gy nx ny x0 y0 x1 y1), .int .i64 (huP max (fun i k => (knP ks nx i k).2) gx gy nx ny x0 y0 x1 y1)], .bool true]) ∧ Below w.heap.size w w' := by
  obtain ⟨g1, g2, g3, g4, -⟩ := id hG
  have HX := hu_facts g1 g3 hx
  have HY := hu_facts g2 g4 hy
  have CA := Lib.hid (fun i k hi hk w hm => mk_kn g gx gy nx ny i k ks hG hi hk w hm)
  have C1 := Lib.hid (fun w => mcell gx nx (2 * x0 - 1) 2 g1 g3 (by omega) w)
  have C2 := Lib.hid (fun w => mcell gx nx (2 * x1 - 1) 2 g1 g3 (by omega) w)
  have C3 := Lib.hid (fun w => mcell gy ny (2 * y0 - 1) 2 g2 g4 (by omega) w)
  have C4 := Lib.hid (fun w => mcell gy ny (2 * y1 - 1) 2 g2 g4 (by omega) w)
  have m1 : IntKind.i64.wrap (2 * x0) = 2 * x0 := iw ⟨by omega, by omega⟩
  have m2 : IntKind.i64.wrap (2 * x1) = 2 * x1 := iw ⟨by omega, by omega⟩
  have m3 : IntKind.i64.wrap (2 * y0) = 2 * y0 := iw ⟨by omega, by omega⟩
  have m4 : IntKind.i64.wrap (2 * y1) = 2 * y1 := iw ⟨by omega, by omega⟩
  obtain ⟨p0, hp0⟩ : ∃ v, v = 2 * x0 - 1 := ⟨_, rfl⟩
  have n1 : IntKind.i64.wrap (2 * x0 - 1) = p0 := by rw [hp0]; exact iw ⟨by omega, by omega⟩
  obtain ⟨p1, hp1⟩ : ∃ v, v = 2 * x1 - 1 := ⟨_, rfl⟩
  have n2 : IntKind.i64.wrap (2 * x1 - 1) = p1 := by rw [hp1]; exact iw ⟨by omega, by omega⟩
  obtain ⟨q0, hq0⟩ : ∃ v, v = 2 * y0 - 1 := ⟨_, rfl⟩
  have n3 : IntKind.i64.wrap (2 * y0 - 1) = q0 := by rw [hq0]; exact iw ⟨by omega, by omega⟩
  obtain ⟨q1, hq1⟩ : ∃ v, v = 2 * y1 - 1 := ⟨_, rfl⟩
  have n4 : IntKind.i64.wrap (2 * y1 - 1) = q1 := by rw [hq1]; exact iw ⟨by omega, by omega⟩
  have a1 : ¬ x0 < 0 := by omega
  have a2 : ¬ 32768 < x1 := by omega
  have a3 : ¬ y0 < 0 := by omega
  have a4 : ¬ 32768 < y1 := by omega
  have a5 : ¬ x1 ≤ x0 := by omega
  have a6 : ¬ y1 ≤ y0 := by omega
  unfold huP
  generalize huM gx nx x0 x1 = m at *
  generalize huM gy ny y0 y1 = l at *
  unfold huI at *
  rw [← hp0, ← hp1] at HX
  rw [← hq0, ← hq1] at HY
  rw [← hp0] at C1 ⊢
  rw [← hp1] at C2
  rw [← hq0] at C3 ⊢
  rw [← hq1] at C4
  clear hp0 hp1 hq0 hq1
  generalize cellI gx nx p0 2 = I0 at *
  generalize cellI gx nx p1 2 = I1 at *
  generalize cellI gy ny q0 2 = K0 at *
  generalize cellI gy ny q1 2 = K1 at *
  generalize cellS gx nx p0 2 = S0 at *
  generalize cellS gx nx p1 2 = S1 at *
  generalize cellS gy ny q0 2 = T0 at *
  generalize cellS gy ny q1 2 = T1 at *
  obtain ⟨J1, hJ1⟩ : ∃ v, v = I1 + 1 := ⟨_, rfl⟩
  obtain ⟨L1, hL1⟩ : ∃ v, v = K1 + 1 := ⟨_, rfl⟩
  have o1 : IntKind.i64.wrap (I1 + 1) = J1 := by rw [hJ1]; exact iw ⟨by omega, by omega⟩
  have o2 : IntKind.i64.wrap (K1 + 1) = L1 := by rw [hL1]; exact iw ⟨by omega, by omega⟩
  have HX' := Lib.hid (show 0 ≤ I0 ∧ I0 ≤ I1 ∧ I1 ≤ nx - 1 ∧ (m : Int) = I1 - I0 + 2 ∧ 2 ≤ m ∧ m ≤ 65 ∧ J1 = I1 + 1 from ⟨HX.1, HX.2.1, HX.2.2.1, HX.2.2.2.1, HX.2.2.2.2.1, HX.2.2.2.2.2, hJ1⟩)
  have HY' := Lib.hid (show 0 ≤ K0 ∧ K0 ≤ K1 ∧ K1 ≤ ny - 1 ∧ (l : Int) = K1 - K0 + 2 ∧ 2 ≤ l ∧ l ≤ 65 ∧ L1 = K1 + 1 from ⟨HY.1, HY.2.1, HY.2.2.1, HY.2.2.2.1, HY.2.2.2.2.1, HY.2.2.2.2.2, hL1⟩)
  have HN := Lib.hid (And.intro g3 g4)
  clear HX HY hJ1 hL1 hx0 hx1 hy0 hy1 hx hy g1 g2 g3 g4 hG
  obtain ⟨fx, hfx⟩ : ∃ f : Int → Int → Int, f = fun i k => (knP ks nx i k).1 := ⟨_, rfl⟩
  obtain ⟨fy, hfy⟩ : ∃ f : Int → Int → Int, f = fun i k => (knP ks nx i k).2 := ⟨_, rfl⟩
  replace CA : Hid (∀ i k, 0 ≤ i ∧ i ≤ nx → 0 ≤ k ∧ k ≤ ny → ∀ w, MX w g gx gy nx ny ks → Calls Try.prog 87 #[.pointer (some ⟨g, 0, none⟩), .int .i64 i, .int .i64 k] w fun e w' => e = .returned (.agg #[.int .i64 (fx i k), .int .i64 (fy i k)]) ∧ Below w.heap.size w w') := by rw [hfx, hfy]; exact CA
  rw [← hfx, ← hfy]
  clear hfx hfy
  go_enter Try.func28, Try.ntmps28
  go_upto_region 1 with fail
  have BB := start1 w #[.int .i64 0, .int .i64 0, .int .i64 0, .int .i64 0] 50
  obtain ⟨BB, hsz, r_res⟩ := BB
  generalize (w.alloc (.cells #[.int .i64 0, .int .i64 0, .int .i64 0, .int .i64 0] 50)) = w0 at *
  replace BB := Lib.hid BB
  replace r_res := Lib.hid r_res
  clear hsz
  have HM := Lib.hid hm
  obtain ⟨b, cap, hA, -⟩ := hm
  have r_m := Lib.hid (hA.keep BB.out)
  clear hA
  obtain ⟨c_m0, c_m1, c_m2, c_m3, c_m4, f_m0, f_m1, f_m2, f_m3, f_m4⟩ := reads5 r_m.out
  have l_m := r_m.out.lt
  go_wp2_with fail
  refine (C1.out _).mono ?_
  rintro e w1 ⟨rfl, hb⟩
  clear c_m0 c_m1 c_m2 c_m3 c_m4 f_m0 f_m1 f_m2 f_m3 f_m4 l_m
  replace r_res := Lib.hid (r_res.out.keep hb)
  replace r_m := Lib.hid (r_m.out.keep hb)
  replace BB := Lib.hid (below_next BB.out hb)
  clear hb
  obtain ⟨c_m0, c_m1, c_m2, c_m3, c_m4, f_m0, f_m1, f_m2, f_m3, f_m4⟩ := reads5 r_m.out
  have l_m := r_m.out.lt
  go_wp2_with fail
  refine (C2.out _).mono ?_
  rintro e w2 ⟨rfl, hb⟩
  clear c_m0 c_m1 c_m2 c_m3 c_m4 f_m0 f_m1 f_m2 f_m3 f_m4 l_m
  replace r_res := Lib.hid (r_res.out.keep hb)
  replace r_m := Lib.hid (r_m.out.keep hb)
  replace BB := Lib.hid (below_next BB.out hb)
  clear hb
  obtain ⟨c_m0, c_m1, c_m2, c_m3, c_m4, f_m0, f_m1, f_m2, f_m3, f_m4⟩ := reads5 r_m.out
  have l_m := r_m.out.lt
  go_wp2_with fail
  refine (C3.out _).mono ?_
  rintro e w3 ⟨rfl, hb⟩
  clear c_m0 c_m1 c_m2 c_m3 c_m4 f_m0 f_m1 f_m2 f_m3 f_m4 l_m
  replace r_res := Lib.hid (r_res.out.keep hb)
  replace r_m := Lib.hid (r_m.out.keep hb)
  replace BB := Lib.hid (below_next BB.out hb)
  clear hb
  obtain ⟨c_m0, c_m1, c_m2, c_m3, c_m4, f_m0, f_m1, f_m2, f_m3, f_m4⟩ := reads5 r_m.out
  have l_m := r_m.out.lt
  go_wp2_with fail
  refine (C4.out _).mono ?_
  rintro e w4 ⟨rfl, hb⟩
  clear c_m0 c_m1 c_m2 c_m3 c_m4 f_m0 f_m1 f_m2 f_m3 f_m4 l_m
  replace r_res := Lib.hid (r_res.out.keep hb)
  replace r_m := Lib.hid (r_m.out.keep hb)
  replace BB := Lib.hid (below_next BB.out hb)
  clear hb
  clear C1 C2 C3 C4
  go_wp2_with fail
  refine (CA.out I0 K0 (by have := HX'.out; omega) (by have := HY'.out; omega) _ (HM.out.below BB.out)).mono ?_
  rintro e w5 ⟨rfl, hb⟩
  replace r_res := Lib.hid (r_res.out.keep hb)
  replace r_m := Lib.hid (r_m.out.keep hb)
  replace BB := Lib.hid (below_next BB.out hb)
  clear hb
  have hst := Lib.hid (rfl : fx I0 K0 = fx I0 K0)
  obtain ⟨X0, hX0⟩ : ∃ v, v = fx I0 K0 := ⟨_, rfl⟩
  obtain ⟨Y0, hY0⟩ : ∃ v, v = fy I0 K0 := ⟨_, rfl⟩
  rw [← hX0, ← hY0]
  replace hX0 := Lib.hid hX0; replace hY0 := Lib.hid hY0
  clear hst
  clear r_m
  go_upto_region 8 with fail
  have d_first := Lib.hid (And.intro BB.out.size (And.intro r_res.out.lt (True.intro)))
  obtain ⟨hb, r_first⟩ := laid w5 #[.int .i64 X0, .int .i64 Y0] KNT
  replace r_res := Lib.hid (r_res.out.keep hb)
  replace BB := Lib.hid (below_next BB.out hb)
  replace r_first := Lib.hid r_first
  clear hb
  generalize w5.alloc (.cells #[.int .i64 X0, .int .i64 Y0] KNT) = w6 at *
  generalize w5.heap.size = g_first at *
  go_cut [21, 22] (fun s21 s22 wc => ∃ g1 g2, s21 = .pointer (some ⟨g1, 0, none⟩) ∧ s22 = .pointer (some ⟨g2, 0, none⟩) ∧ Hid (AtB wc g1 #[.int .i64 X0, .int .i64 Y0] KNT ∧ AtB wc g2 #[.int .i64 X0, .int .i64 Y0] KNT ∧ g1 ≠ g2 ∧ Below w6.heap.size w6 wc ∧ w6.heap.size ≤ g1 ∧ w6.heap.size ≤ g2))
  case first =>
    clear CA HX' HY' HN HM
    have KK := Lib.hid (fun (w9 : World) (h : Below w6.heap.size w6 w9) => (cells2 (r_first.out.keep h) : (w9.cell? ⟨g_first, 0, none⟩ = some (.int .i64 X0) ∧ w9.cell? ⟨g_first, 1, none⟩ = some (.int .i64 Y0))))
    have K0 := KK.out w6 (Below.refl _ _)
    have KD := KK.out w6.drew (below_drew (Below.refl _ _))
    go_region_held3 (fun w9 => (w9.cell? ⟨g_first, 0, none⟩ = some (.int .i64 X0) ∧ w9.cell? ⟨g_first, 1, none⟩ = some (.int .i64 Y0)))
        (first | with_reducible exact KD | with_reducible exact K0 | (refine KK.out _ ?_; repeat' (first | with_reducible exact Below.refl _ _ | with_reducible apply below_new | with_reducible apply below_drew | with_reducible apply below_set | omega)))
        (fail)
    all_goals clear KK K0 KD
    all_goals go_wp2_with fail
    all_goals go_meet
    all_goals refine ⟨_, _, rfl, rfl, ⟨?_, ?_, ?_, ?_, ?_, ?_⟩⟩
    all_goals repeat' (first | with_reducible exact Below.refl _ _ | with_reducible apply below_new | with_reducible apply below_drew | (with_reducible refine below_set ?_ ?_ _) | (with_reducible refine AtB.set2 (a := .int .i64 0) (b := .int .i64 0) (T := KNT) ?_ _ _) | (with_reducible refine AtB.far2 ?_ ?_ _ _) | (with_reducible refine new_at_eq ?_ _ _; first | rfl | (simp; done)) | (with_reducible refine AtB.alloc ?_ _) | with_reducible apply AtB.drew | omega)
  obtain ⟨wc1, rfl⟩ : ∃ wo : World, wo = wc := ⟨_, rfl⟩
  obtain ⟨g_lo, g_hi, rfl, rfl, hcut⟩ := hcut
  obtain ⟨r_lo, r_hi, hne, hb, hglo, hghi⟩ := hcut.out
  clear hcut
  have d_lo := Lib.hid (show w.heap.size < g_lo ∧ w.heap.size < g_hi ∧ g_lo ≠ g_hi ∧ w.heap.size ≤ g_lo ∧ w.heap.size ≤ g_hi from ⟨by have := r_res.out.lt; omega, by have := r_res.out.lt; omega, hne, by have := r_res.out.lt; omega, by have := r_res.out.lt; omega⟩)
  have d_hi := d_lo
  replace r_res := Lib.hid (r_res.out.keep hb)
  replace BB := Lib.hid (below_next BB.out hb)
  replace r_lo := Lib.hid r_lo; replace r_hi := Lib.hid r_hi
  clear hb hglo hghi hne r_first d_first
  go_wp2_with fail
  go_loopw [23] (fun c wr => ∃ k : Nat, k ≤ l ∧ c = .int .i64 (K0 + (k : Int)) ∧ Hid (AtB wr w.heap.size #[.int .i64 0, .int .i64 0, .int .i64 0, .int .i64 0] 50 ∧ AtB wr g_lo #[.int .i64 (foBox min fx I0 K0 m k X0), .int .i64 (foBox min fy I0 K0 m k Y0)] KNT ∧ AtB wr g_hi #[.int .i64 (foBox max fx I0 K0 m k X0), .int .i64 (foBox max fy I0 K0 m k Y0)] KNT ∧ Below w.heap.size w wr)) (fun c _ => (L1 + 1 - intOf c).toNat)
  case atStart => exact ⟨0, by omega, by simp, ⟨r_res.out, r_lo.out, r_hi.out, BB.out⟩⟩
  case round =>
    clear BB r_lo r_hi r_res
    obtain ⟨k, hk, rfl, hinv⟩ := hrel
    obtain ⟨r_res, r_lo, r_hi, BB⟩ := hinv.out
    replace r_res := Lib.hid r_res; replace r_lo := Lib.hid r_lo; replace r_hi := Lib.hid r_hi; replace BB := Lib.hid BB
    clear hinv
    by_cases hlt : k < l
    · have hst0 : Hid (foBox min fx I0 K0 m (k + 1) X0 = foRow min fx I0 (K0 + (k : Int)) m (foBox min fx I0 K0 m k X0) ∧ foBox min fy I0 K0 m (k + 1) Y0 = foRow min fy I0 (K0 + (k : Int)) m (foBox min fy I0 K0 m k Y0) ∧ foBox max fx I0 K0 m (k + 1) X0 = foRow max fx I0 (K0 + (k : Int)) m (foBox max fx I0 K0 m k X0) ∧ foBox max fy I0 K0 m (k + 1) Y0 = foRow max fy I0 (K0 + (k : Int)) m (foBox max fy I0 K0 m k Y0)) := ⟨rfl, rfl, rfl, rfl⟩
      obtain ⟨kk, hkk⟩ : ∃ v, v = K0 + (k : Int) := ⟨_, rfl⟩
      obtain ⟨k2, hk2⟩ : ∃ v, v = K0 + ((k + 1 : Nat) : Int) := ⟨_, rfl⟩
      have hy' := HY'.out
      have e1 : IntKind.i64.wrap (kk + 1) = k2 := by rw [show kk + 1 = k2 by omega]; exact iw ⟨by have := HN.out; omega, by have := HN.out; omega⟩
      have t1 : kk ≤ L1 := by omega
      have hkr := Lib.hid (show (0 ≤ kk ∧ kk ≤ ny) ∧ kk = K0 + (k : Int) ∧ k2 = K0 + ((k + 1 : Nat) : Int) from ⟨by have := HN.out; omega, hkk, hk2⟩)
      rw [← hkk] at hst0 ⊢
      clear hkk hk2 hy' hk
      generalize foBox min fx I0 K0 m k X0 = A at *
      generalize foBox min fy I0 K0 m k Y0 = B at *
      generalize foBox max fx I0 K0 m k X0 = C at *
      generalize foBox max fy I0 K0 m k Y0 = D at *
      go_wp2_with fail
      go_loopw [24] (fun c wr => ∃ i : Nat, i ≤ m ∧ c = .int .i64 (I0 + (i : Int)) ∧ Hid (AtB wr w.heap.size #[.int .i64 0, .int .i64 0, .int .i64 0, .int .i64 0] 50 ∧ AtB wr g_lo #[.int .i64 (foRow min fx I0 kk i A), .int .i64 (foRow min fy I0 kk i B)] KNT ∧ AtB wr g_hi #[.int .i64 (foRow max fx I0 kk i C), .int .i64 (foRow max fy I0 kk i D)] KNT ∧ Below w.heap.size w wr)) (fun c _ => (J1 + 1 - intOf c).toNat)
      case atStart => exact ⟨0, by omega, by simp, ⟨r_res.out, r_lo.out, r_hi.out, BB.out⟩⟩
      case round =>
        clear BB r_lo r_hi r_res
        obtain ⟨i, hi, rfl, hinv⟩ := hrel
        obtain ⟨r_res, r_lo, r_hi, BB⟩ := hinv.out
        replace r_res := Lib.hid r_res; replace r_lo := Lib.hid r_lo; replace r_hi := Lib.hid r_hi; replace BB := Lib.hid BB
        clear hinv
        by_cases hlt2 : i < m
        · have hx' := HX'.out
          obtain ⟨ii, hii⟩ : ∃ v, v = I0 + (i : Int) := ⟨_, rfl⟩
          obtain ⟨i2, hi2⟩ : ∃ v, v = I0 + ((i + 1 : Nat) : Int) := ⟨_, rfl⟩
          have e2 : IntKind.i64.wrap (ii + 1) = i2 := by rw [show ii + 1 = i2 by omega]; exact iw ⟨by have := HN.out; omega, by have := HN.out; omega⟩
          have t2 : ii ≤ J1 := by omega
          have CI := Lib.hid (CA.out ii kk (by have := HN.out; omega) hkr.out.1)
          have hst : Hid (foRow min fx I0 kk (i + 1) A = min (foRow min fx I0 kk i A) (fx ii kk) ∧ foRow min fy I0 kk (i + 1) B = min (foRow min fy I0 kk i B) (fy ii kk) ∧ foRow max fx I0 kk (i + 1) C = max (foRow max fx I0 kk i C) (fx ii kk) ∧ foRow max fy I0 kk (i + 1) D = max (foRow max fy I0 kk i D) (fy ii kk)) := by
            rw [hii]; exact ⟨rfl, rfl, rfl, rfl⟩
          rw [← hii]
          have hir := Lib.hid hi2
          have him := Lib.hid (show ii < J1 + 1 ∧ i2 = ii + 1 by omega)
          clear hii hi2 hx' hi
          generalize foRow min fx I0 kk i A = a0 at *
          generalize foRow min fy I0 kk i B = b0 at *
          generalize foRow max fx I0 kk i C = c0 at *
          generalize foRow max fy I0 kk i D = d0 at *
          generalize fx ii kk = px at *
          generalize fy ii kk = py at *
          obtain ⟨a1, ha1⟩ : ∃ v, v = min a0 px := ⟨_, rfl⟩
          obtain ⟨b1, hb1⟩ : ∃ v, v = min b0 py := ⟨_, rfl⟩
          obtain ⟨c1, hc1⟩ : ∃ v, v = max c0 px := ⟨_, rfl⟩
          obtain ⟨d1, hd1⟩ : ∃ v, v = max d0 py := ⟨_, rfl⟩
          rw [← ha1, ← hb1, ← hc1, ← hd1] at hst
          have q1 : (if px < a0 then px else a0) = a1 := by rw [ha1]; exact if_min _ _
          have q2 : (if py < b0 then py else b0) = b1 := by rw [hb1]; exact if_min _ _
          have q3 : (if c0 < px then px else c0) = c1 := by rw [hc1]; exact if_max _ _
          have q4 : (if d0 < py then py else d0) = d1 := by rw [hd1]; exact if_max _ _
          clear ha1 hb1 hc1 hd1
          go_wp2_with fail
          refine (CI.out _ (HM.out.below BB.out)).mono ?_
          rintro e w7 ⟨rfl, hb⟩
          replace r_res := Lib.hid (r_res.out.keep hb)
          replace r_lo := Lib.hid (r_lo.out.keep hb)
          replace r_hi := Lib.hid (r_hi.out.keep hb)
          replace BB := Lib.hid (below_next BB.out hb)
          clear hb
          go_upto_region 16 with fail
          have d_p := Lib.hid (And.intro BB.out.size (And.intro r_res.out.lt (And.intro r_lo.out.lt (And.intro r_hi.out.lt (True.intro)))))
          obtain ⟨hb, r_p⟩ := laid w7 #[.int .i64 px, .int .i64 py] KNT
          replace r_res := Lib.hid (r_res.out.keep hb)
          replace r_lo := Lib.hid (r_lo.out.keep hb)
          replace r_hi := Lib.hid (r_hi.out.keep hb)
          replace BB := Lib.hid (below_next BB.out hb)
          replace r_p := Lib.hid r_p
          clear hb
          generalize w7.alloc (.cells #[.int .i64 px, .int .i64 py] KNT) = w8 at *
          generalize w7.heap.size = g_p at *
          obtain ⟨c_lo0, c_lo1, f_lo0, f_lo1⟩ := reads2 r_lo.out
          have l_lo := r_lo.out.lt
          obtain ⟨c_p0, c_p1, f_p0, f_p1⟩ := reads2 r_p.out
          have l_p := r_p.out.lt
          go_upto_region 17 with fail
          clear c_lo0 c_lo1 f_lo0 f_lo1 l_lo c_p0 c_p1 f_p0 f_p1 l_p
          have e_st : ((w8.setCell ⟨g_lo, 0, none⟩ (.int .i64 a1)).setCell ⟨g_lo, 1, none⟩ (.int .i64 b1)) = setFrom w8 (g_lo) 0 [.int .i64 a1, .int .i64 b1] := by simp only [setFrom, Nat.reduceAdd]
          rw [e_st]
          clear e_st
          replace r_res := Lib.hid (AtB.farAll (p := g_lo) (by have dd_lo := d_lo.out; omega) [.int .i64 a1, .int .i64 b1] 0 r_res.out)
          replace r_lo := Lib.hid (AtB.setAll r_lo.out [.int .i64 a1, .int .i64 b1] rfl)
          replace r_hi := Lib.hid (AtB.farAll (p := g_lo) (by have dd_hi := d_hi.out; have dd_lo := d_lo.out; omega) [.int .i64 a1, .int .i64 b1] 0 r_hi.out)
          replace r_p := Lib.hid (AtB.farAll (p := g_lo) (by have dd_p := d_p.out; have dd_lo := d_lo.out; omega) [.int .i64 a1, .int .i64 b1] 0 r_p.out)
          replace BB := Lib.hid (below_setAll (b := g_lo) (by have dd := d_lo.out; omega) [.int .i64 a1, .int .i64 b1] 0 BB.out)
          generalize setFrom w8 (g_lo) 0 [.int .i64 a1, .int .i64 b1] = w10 at *
          obtain ⟨c_hi0, c_hi1, f_hi0, f_hi1⟩ := reads2 r_hi.out
          have l_hi := r_hi.out.lt
          obtain ⟨c_p0, c_p1, f_p0, f_p1⟩ := reads2 r_p.out
          have l_p := r_p.out.lt
          go_wp2_with fail
          clear c_hi0 c_hi1 f_hi0 f_hi1 l_hi c_p0 c_p1 f_p0 f_p1 l_p
          have e_st : ((w10.setCell ⟨g_hi, 0, none⟩ (.int .i64 c1)).setCell ⟨g_hi, 1, none⟩ (.int .i64 d1)) = setFrom w10 (g_hi) 0 [.int .i64 c1, .int .i64 d1] := by simp only [setFrom, Nat.reduceAdd]
          rw [e_st]
          clear e_st
          replace r_res := Lib.hid (AtB.farAll (p := g_hi) (by have dd_hi := d_hi.out; omega) [.int .i64 c1, .int .i64 d1] 0 r_res.out)
          replace r_lo := Lib.hid (AtB.farAll (p := g_hi) (by have dd_lo := d_lo.out; have dd_hi := d_hi.out; omega) [.int .i64 c1, .int .i64 d1] 0 r_lo.out)
          replace r_hi := Lib.hid (AtB.setAll r_hi.out [.int .i64 c1, .int .i64 d1] rfl)
          replace r_p := Lib.hid (AtB.farAll (p := g_hi) (by have dd_p := d_p.out; have dd_hi := d_hi.out; omega) [.int .i64 c1, .int .i64 d1] 0 r_p.out)
          replace BB := Lib.hid (below_setAll (b := g_hi) (by have dd := d_hi.out; omega) [.int .i64 c1, .int .i64 d1] 0 BB.out)
          generalize setFrom w10 (g_hi) 0 [.int .i64 c1, .int .i64 d1] = w11 at *
          go_wp2_with fail
          go_roundw
          case rel => exact ⟨i + 1, by omega, by rw [hir.out], ⟨r_res.out, by rw [hst.out.1, hst.out.2.1]; exact r_lo.out, by rw [hst.out.2.2.1, hst.out.2.2.2]; exact r_hi.out, BB.out⟩⟩
          case measure => have := him.out; simp [intOf]; omega
        · obtain rfl : i = m := by omega
          have hx' := HX'.out
          obtain ⟨ii, hii⟩ : ∃ v, v = I0 + (i : Int) := ⟨_, rfl⟩
          have t2 : ¬ ii ≤ J1 := by omega
          rw [← hii]
          have hky := Lib.hid (show kk < L1 + 1 ∧ k2 = kk + 1 by have := hkr.out; have := HY'.out; omega)
          clear hii hx' hi
          rw [← hst0.out.1, ← hst0.out.2.1] at r_lo
          rw [← hst0.out.2.2.1, ← hst0.out.2.2.2] at r_hi
          go_wp2_with fail
          go_roundw
          case rel => exact ⟨k + 1, by omega, by rw [hkr.out.2.2], ⟨r_res.out, r_lo.out, r_hi.out, BB.out⟩⟩
          case measure => have := hky.out; simp [intOf]; omega
    · obtain rfl : k = l := by omega
      have hy' := HY'.out
      obtain ⟨kk, hkk⟩ : ∃ v, v = K0 + (k : Int) := ⟨_, rfl⟩
      have t1 : ¬ kk ≤ L1 := by omega
      rw [← hkk]
      clear hkk hy' hk
      obtain ⟨A, hA⟩ : ∃ v, v = foBox min fx I0 K0 m k X0 := ⟨_, rfl⟩
      obtain ⟨B, hB⟩ : ∃ v, v = foBox min fy I0 K0 m k Y0 := ⟨_, rfl⟩
      obtain ⟨C, hC⟩ : ∃ v, v = foBox max fx I0 K0 m k X0 := ⟨_, rfl⟩
      obtain ⟨D, hD⟩ : ∃ v, v = foBox max fy I0 K0 m k Y0 := ⟨_, rfl⟩
      rw [← hA, ← hB] at r_lo
      rw [← hC, ← hD] at r_hi
      replace hA := Lib.hid hA; replace hB := Lib.hid hB; replace hC := Lib.hid hC; replace hD := Lib.hid hD
      obtain ⟨c_lo0, c_lo1, f_lo0, f_lo1⟩ := reads2 r_lo.out
      have l_lo := r_lo.out.lt
      obtain ⟨c_hi0, c_hi1, f_hi0, f_hi1⟩ := reads2 r_hi.out
      have l_hi := r_hi.out.lt
      obtain ⟨c_res0, c_res1, c_res2, c_res3, f_res0, f_res1, f_res2, f_res3⟩ := reads4 r_res.out
      have l_res := r_res.out.lt
      go_wp2_with fail
      clear c_lo0 c_lo1 f_lo0 f_lo1 l_lo c_hi0 c_hi1 f_hi0 f_hi1 l_hi c_res0 c_res1 c_res2 c_res3 f_res0 f_res1 f_res2 f_res3 l_res
      have e_st : ((((wr.setCell ⟨w.heap.size, 0, none⟩ (.int .i64 A)).setCell ⟨w.heap.size, 1, none⟩ (.int .i64 B)).setCell ⟨w.heap.size, 2, none⟩ (.int .i64 C)).setCell ⟨w.heap.size, 3, none⟩ (.int .i64 D)) = setFrom wr (w.heap.size) 0 [.int .i64 A, .int .i64 B, .int .i64 C, .int .i64 D] := by simp only [setFrom, Nat.reduceAdd]
      rw [e_st]
      clear e_st
      replace r_res := Lib.hid (AtB.setAll r_res.out [.int .i64 A, .int .i64 B, .int .i64 C, .int .i64 D] rfl)
      replace r_lo := Lib.hid (AtB.farAll (p := w.heap.size) (by have dd_lo := d_lo.out; omega) [.int .i64 A, .int .i64 B, .int .i64 C, .int .i64 D] 0 r_lo.out)
      replace r_hi := Lib.hid (AtB.farAll (p := w.heap.size) (by have dd_hi := d_hi.out; omega) [.int .i64 A, .int .i64 B, .int .i64 C, .int .i64 D] 0 r_hi.out)
      replace BB := Lib.hid (below_setAll (b := w.heap.size) (by omega) [.int .i64 A, .int .i64 B, .int .i64 C, .int .i64 D] 0 BB.out)
      generalize setFrom wr (w.heap.size) 0 [.int .i64 A, .int .i64 B, .int .i64 C, .int .i64 D] = w12 at *
      obtain ⟨c_res0, c_res1, c_res2, c_res3, f_res0, f_res1, f_res2, f_res3⟩ := reads4 r_res.out
      have l_res := r_res.out.lt
      refine bodyPost_ret (v := .tuple #[.agg #[.int .i64 A, .int .i64 B, .int .i64 C, .int .i64 D], .bool true]) (by unfold results; simp only [Try.results28]; go_simp) rfl ?_
      exact ⟨by rw [hA.out, hB.out, hC.out, hD.out, hX0.out, hY0.out], BB.out⟩
end Go.Proofs.Ythoakbjnofhpbaa
