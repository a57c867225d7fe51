/- Contract of ref21.Hull. -/
import Derived.Test.YthoakbjnofhpbaaMeH0
import Derived.Test.YthoakbjnofhpbaaBoxS
import Derived.Test.YthoakbjnofhpbaaMeK
set_option linter.unusedVariables false
set_option linter.unusedSimpArgs false
namespace Go.Proofs.Ythoakbjnofhpbaa
open Go.RowKit
set_option maxRecDepth 100000 in
set_option maxHeartbeats 8000000 in
theorem r21hull (v : Value) (gx gy nx ny x0 y0 x1 y1 : Int) (rest : List Int) (N : Nat) (hG : MG gx gy nx ny (ksOf rest N)) (hN : rest.length = 2 * N) (hr : ∀ z ∈ rest, -2147483648 ≤ z ∧ z ≤ 2147483648) (hx0 : 0 ≤ x0) (hx1 : x1 ≤ 32768) (hy0 : 0 ≤ y0) (hy1 : y1 ≤ 32768) (hx : x0 < x1) (hy : y0 < y1) (w : World) (hv : IS w v (gx :: gy :: nx :: ny :: rest)) :
    Calls Try.prog 29 #[v, .int .i64 x0, .int .i64 y0, .int .i64 x1, .int .i64 y1] w fun e w' =>
      e = .returned (.agg #[.int .i64 (huP min (fun i k => (knP (ksOf rest N) nx i k).1) gx gy nx ny x0 y0 x1 y1), .int .i64 (huP min (fun i k => (knP (ksOf rest N) nx i k).2) gx gy nx ny x0 y0 x1 y1), .int .i64 (huP max (fun i k => (knP (ksOf rest N) nx i k).1) gx gy nx ny x0 y0 x1 y1), .int .i64 (huP max (fun i k => (knP (ksOf rest N) nx i k).2) gx gy nx ny x0 y0 x1 y1)]) ∧ Below w.heap.size w w' := by
  obtain ⟨g1, g2, g3, g4, g5⟩ := id hG
  have hNN : (N : Int) = (nx + 1) * (ny + 1) := by have := g5; unfold ksOf at this; simp at this; exact this
  have hl4 : ∀ i k, 0 ≤ i ∧ i ≤ nx → 0 ≤ k ∧ k ≤ ny → ((k * (nx + 1) + i).toNat : Int) = k * (nx + 1) + i ∧ 2 * (k * (nx + 1) + i).toNat + 1 < rest.length := fun i k hi hk => by
    have hj := kn_ix (ny := ny) (i := i) (k := k) g3.1 hi hk
    exact ⟨Int.toNat_of_nonneg hj.1, by omega⟩
  have hk1 : ∀ j, -2147483648 ≤ rest.getD j 0 ∧ rest.getD j 0 ≤ 2147483648 := fun j => by
    by_cases hk : j < rest.length
    · have e : rest.getD j 0 = rest[j] := by simp [List.getD, hk]
      rw [e]; exact hr _ (List.getElem_mem hk)
    · rw [List.getD_eq_getElem?_getD, List.getElem?_eq_none (by omega)]; exact ⟨by decide, by decide⟩
  have HX := hu_facts g1 g3 hx
  have HY := hu_facts g2 g4 hy
  have CA : Hid (∀ i k, 0 ≤ i ∧ i ≤ nx → 0 ≤ k ∧ k ≤ ny → ∀ w, IS w v (gx :: gy :: nx :: ny :: rest) → Calls Try.prog 27 #[v, .int .i64 i, .int .i64 k, .int .i64 0] w fun e w' => e = .returned (.int .i64 ((knP (ksOf rest N) nx i k).1)) ∧ Below w.heap.size w w') := fun i k hi hk w hv => by
    rw [(knP_at hN nx i k).1]
    obtain ⟨q1, q2⟩ := hl4 i k hi hk
    exact below_of (r21knot v gx gy nx ny i k rest 0 _ (by omega) q1 (by omega) g3 (by omega) (by omega) w hv)
  have CB : Hid (∀ i k, 0 ≤ i ∧ i ≤ nx → 0 ≤ k ∧ k ≤ ny → ∀ w, IS w v (gx :: gy :: nx :: ny :: rest) → Calls Try.prog 27 #[v, .int .i64 i, .int .i64 k, .int .i64 1] w fun e w' => e = .returned (.int .i64 ((knP (ksOf rest N) nx i k).2)) ∧ Below w.heap.size w w') := fun i k hi hk w hv => by
    rw [(knP_at hN nx i k).2]
    obtain ⟨q1, q2⟩ := hl4 i k hi hk
    exact below_of (r21knot v gx gy nx ny i k rest 1 _ (by omega) q1 (by omega) g3 (by omega) (by omega) w hv)
  have Hf : Hid (∀ i k, (-2147483648 ≤ (knP (ksOf rest N) nx i k).1 ∧ (knP (ksOf rest N) nx i k).1 ≤ 2147483648) ∧ (-2147483648 ≤ (knP (ksOf rest N) nx i k).2 ∧ (knP (ksOf rest N) nx i k).2 ≤ 2147483648)) := fun i k => by
    rw [(knP_at hN nx i k).1, (knP_at hN nx i k).2]; exact ⟨hk1 _, hk1 _⟩
  have C1 := Lib.hid (fun w => r21cell gx nx (2 * x0 - 1) 2 g1 g3 (by omega) w)
  have C2 := Lib.hid (fun w => r21cell gx nx (2 * x1 - 1) 2 g1 g3 (by omega) w)
  have C3 := Lib.hid (fun w => r21cell gy ny (2 * y0 - 1) 2 g2 g4 (by omega) w)
  have C4 := Lib.hid (fun w => r21cell gy ny (2 * y1 - 1) 2 g2 g4 (by omega) w)
  have m1 : IntKind.i64.wrap (2 * x0) = 2 * x0 := iw ⟨by omega, by omega⟩
  have m2 : IntKind.i64.wrap (2 * x1) = 2 * x1 := iw ⟨by omega, by omega⟩
  have m3 : IntKind.i64.wrap (2 * y0) = 2 * y0 := iw ⟨by omega, by omega⟩
  have m4 : IntKind.i64.wrap (2 * y1) = 2 * y1 := iw ⟨by omega, by omega⟩
  obtain ⟨p0, hp0⟩ : ∃ v, v = 2 * x0 - 1 := ⟨_, rfl⟩
  have n1 : IntKind.i64.wrap (2 * x0 - 1) = p0 := by rw [hp0]; exact iw ⟨by omega, by omega⟩
  obtain ⟨p1, hp1⟩ : ∃ v, v = 2 * x1 - 1 := ⟨_, rfl⟩
  have n2 : IntKind.i64.wrap (2 * x1 - 1) = p1 := by rw [hp1]; exact iw ⟨by omega, by omega⟩
  obtain ⟨q0, hq0⟩ : ∃ v, v = 2 * y0 - 1 := ⟨_, rfl⟩
  have n3 : IntKind.i64.wrap (2 * y0 - 1) = q0 := by rw [hq0]; exact iw ⟨by omega, by omega⟩
  obtain ⟨q1, hq1⟩ : ∃ v, v = 2 * y1 - 1 := ⟨_, rfl⟩
  have n4 : IntKind.i64.wrap (2 * y1 - 1) = q1 := by rw [hq1]; exact iw ⟨by omega, by omega⟩
  obtain ⟨b, off, cap, rfl, h1, h2, h3, h4⟩ := hv.some (by simp)
  have hv' := hv
  simp only [List.length_cons] at hv h1 h4 CA CB hv' ⊢
  have k0 : (0 : Int) < ((rest.length + 1 + 1 + 1 + 1 : Nat) : Int) := by omega
  have k1 : (1 : Int) < ((rest.length + 1 + 1 + 1 + 1 : Nat) : Int) := by omega
  have k2 : (2 : Int) < ((rest.length + 1 + 1 + 1 + 1 : Nat) : Int) := by omega
  have k3 : (3 : Int) < ((rest.length + 1 + 1 + 1 + 1 : Nat) : Int) := by omega
  have k0n : 0 < rest.length + 1 + 1 + 1 + 1 := by omega
  have CT : Hid (∀ w9, Below w.heap.size w w9 → (w9.cell? ⟨b, off, none⟩ = some (.int .i64 gx) ∧ w9.cell? ⟨b, off + 1, none⟩ = some (.int .i64 gy) ∧ w9.cell? ⟨b, off + 2, none⟩ = some (.int .i64 nx) ∧ w9.cell? ⟨b, off + 3, none⟩ = some (.int .i64 ny))) := fun w9 h9 =>
    ⟨(h9.cell h3).trans (h4 0 (by omega)), (h9.cell h3).trans (h4 1 (by omega)), (h9.cell h3).trans (h4 2 (by omega)), (h9.cell h3).trans (h4 3 (by omega))⟩
  generalize rest.length + 1 + 1 + 1 + 1 = n at *
  unfold huP
  generalize huM gx nx x0 x1 = m at *
  generalize huM gy ny y0 y1 = l at *
  unfold huI at *
  rw [← hp0, ← hp1] at HX
  rw [← hq0, ← hq1] at HY
  rw [← hp0] at C1 ⊢
  rw [← hp1] at C2
  rw [← hq0] at C3 ⊢
  rw [← hq1] at C4
  clear hp0 hp1 hq0 hq1
  generalize cellI gx nx p0 2 = I0 at *
  generalize cellI gx nx p1 2 = I1 at *
  generalize cellI gy ny q0 2 = K0 at *
  generalize cellI gy ny q1 2 = K1 at *
  generalize cellS gx nx p0 2 = S0 at *
  generalize cellS gx nx p1 2 = S1 at *
  generalize cellS gy ny q0 2 = T0 at *
  generalize cellS gy ny q1 2 = T1 at *
  obtain ⟨J1, hJ1⟩ : ∃ v, v = I1 + 1 := ⟨_, rfl⟩
  obtain ⟨L1, hL1⟩ : ∃ v, v = K1 + 1 := ⟨_, rfl⟩
  have o1 : IntKind.i64.wrap (I1 + 1) = J1 := by rw [hJ1]; exact iw ⟨by omega, by omega⟩
  have o2 : IntKind.i64.wrap (K1 + 1) = L1 := by rw [hL1]; exact iw ⟨by omega, by omega⟩
  have HX' := Lib.hid (show 0 ≤ I0 ∧ I0 ≤ I1 ∧ I1 ≤ nx - 1 ∧ (m : Int) = I1 - I0 + 2 ∧ 2 ≤ m ∧ m ≤ 65 ∧ J1 = I1 + 1 from ⟨HX.1, HX.2.1, HX.2.2.1, HX.2.2.2.1, HX.2.2.2.2.1, HX.2.2.2.2.2, hJ1⟩)
  have HY' := Lib.hid (show 0 ≤ K0 ∧ K0 ≤ K1 ∧ K1 ≤ ny - 1 ∧ (l : Int) = K1 - K0 + 2 ∧ 2 ≤ l ∧ l ≤ 65 ∧ L1 = K1 + 1 from ⟨HY.1, HY.2.1, HY.2.2.1, HY.2.2.2.1, HY.2.2.2.2.1, HY.2.2.2.2.2, hL1⟩)
  have HN := Lib.hid (And.intro g3 g4)
  obtain ⟨fx, hfx⟩ : ∃ f : Int → Int → Int, f = fun i k => (knP (ksOf rest N) nx i k).1 := ⟨_, rfl⟩
  obtain ⟨fy, hfy⟩ : ∃ f : Int → Int → Int, f = fun i k => (knP (ksOf rest N) nx i k).2 := ⟨_, rfl⟩
  replace CA : Hid (∀ i k, 0 ≤ i ∧ i ≤ nx → 0 ≤ k ∧ k ≤ ny → ∀ w, IS w (.slice (some ⟨b, off, none⟩) n cap) (gx :: gy :: nx :: ny :: rest) → Calls Try.prog 27 #[.slice (some ⟨b, off, none⟩) n cap, .int .i64 i, .int .i64 k, .int .i64 0] w fun e w' => e = .returned (.int .i64 (fx i k)) ∧ Below w.heap.size w w') := by rw [hfx]; exact CA
  replace CB : Hid (∀ i k, 0 ≤ i ∧ i ≤ nx → 0 ≤ k ∧ k ≤ ny → ∀ w, IS w (.slice (some ⟨b, off, none⟩) n cap) (gx :: gy :: nx :: ny :: rest) → Calls Try.prog 27 #[.slice (some ⟨b, off, none⟩) n cap, .int .i64 i, .int .i64 k, .int .i64 1] w fun e w' => e = .returned (.int .i64 (fy i k)) ∧ Below w.heap.size w w') := by rw [hfy]; exact CB
  replace Hf : Hid (∀ i k, (-2147483648 ≤ fx i k ∧ fx i k ≤ 2147483648) ∧ (-2147483648 ≤ fy i k ∧ fy i k ≤ 2147483648)) := by rw [hfx, hfy]; exact Hf
  rw [← hfx, ← hfy]
  have m0 : 0 < m := by omega
  have l0 : 0 < l := by omega
  rw [← foBox_min_start fx I0 K0 m l 4611686018427387904 m0 l0 (by have := Hf.out I0 K0; omega), ← foBox_min_start fy I0 K0 m l 4611686018427387904 m0 l0 (by have := Hf.out I0 K0; omega), ← foBox_max_start fx I0 K0 m l (-4611686018427387904) m0 l0 (by have := Hf.out I0 K0; omega), ← foBox_max_start fy I0 K0 m l (-4611686018427387904) m0 l0 (by have := Hf.out I0 K0; omega)]
  clear hfx hfy HX HY hJ1 hL1 hx0 hx1 hy0 hy1 hx hy g1 g2 g3 g4 g5 hG hk1 hl4 hNN hr hN h1 h2 h3 h4 m0 l0 Hf hv
  replace hv' := Lib.hid hv'
  go_enter Try.func29, Try.ntmps29
  go_upto_region 1 with fail
  have BB := start1 w #[.int .i64 0, .int .i64 0, .int .i64 0, .int .i64 0] 50
  obtain ⟨BB, hsz, r_res⟩ := BB
  generalize (w.alloc (.cells #[.int .i64 0, .int .i64 0, .int .i64 0, .int .i64 0] 50)) = w0 at *
  replace BB := Lib.hid BB
  replace r_res := Lib.hid r_res
  clear hsz
  obtain ⟨ct0, ct1, ct2, ct3⟩ := CT.out _ BB.out
  have Q_0 := Lib.hid (fun n => quiet_same (C1.out (w0.drewN n)))
  go_quiet ((first | (go_at_call 84; with_reducible exact Q_0.out _)))
  clear Q_0
  have hb := below_drawn (Below.refl w0.heap.size w0) nq
  generalize w0.drewN nq = w1 at *
  replace r_res := Lib.hid (r_res.out.keep hb)
  replace BB := Lib.hid (below_next BB.out hb)
  clear hb nq
  clear ct0 ct1 ct2 ct3
  go_wp2_with fail
  obtain ⟨ct0, ct1, ct2, ct3⟩ := CT.out _ BB.out
  have Q_0 := Lib.hid (fun n => quiet_same (C2.out (w1.drewN n)))
  go_quiet ((first | (go_at_call 84; with_reducible exact Q_0.out _)))
  clear Q_0
  have hb := below_drawn (Below.refl w1.heap.size w1) nq
  generalize w1.drewN nq = w2 at *
  replace r_res := Lib.hid (r_res.out.keep hb)
  replace BB := Lib.hid (below_next BB.out hb)
  clear hb nq
  clear ct0 ct1 ct2 ct3
  go_wp2_with fail
  obtain ⟨ct0, ct1, ct2, ct3⟩ := CT.out _ BB.out
  have Q_0 := Lib.hid (fun n => quiet_same (C3.out (w2.drewN n)))
  go_quiet ((first | (go_at_call 84; with_reducible exact Q_0.out _)))
  clear Q_0
  have hb := below_drawn (Below.refl w2.heap.size w2) nq
  generalize w2.drewN nq = w3 at *
  replace r_res := Lib.hid (r_res.out.keep hb)
  replace BB := Lib.hid (below_next BB.out hb)
  clear hb nq
  clear ct0 ct1 ct2 ct3
  go_wp2_with fail
  obtain ⟨ct0, ct1, ct2, ct3⟩ := CT.out _ BB.out
  have Q_0 := Lib.hid (fun n => quiet_same (C4.out (w3.drewN n)))
  go_quiet ((first | (go_at_call 84; with_reducible exact Q_0.out _)))
  clear Q_0
  have hb := below_drawn (Below.refl w3.heap.size w3) nq
  generalize w3.drewN nq = w4 at *
  replace r_res := Lib.hid (r_res.out.keep hb)
  replace BB := Lib.hid (below_next BB.out hb)
  clear hb nq
  clear ct0 ct1 ct2 ct3 C1 C2 C3 C4 CT
  go_wp2_with fail
  have d_out := Lib.hid (And.intro BB.out.size (And.intro r_res.out.lt (True.intro)))
  obtain ⟨hb, r_out⟩ := laid w4 #[.int .i64 4611686018427387904, .int .i64 4611686018427387904, .int .i64 (-4611686018427387904), .int .i64 (-4611686018427387904)] 50
  replace r_res := Lib.hid (r_res.out.keep hb)
  replace BB := Lib.hid (below_next BB.out hb)
  replace r_out := Lib.hid r_out
  clear hb
  generalize w4.alloc (.cells #[.int .i64 4611686018427387904, .int .i64 4611686018427387904, .int .i64 (-4611686018427387904), .int .i64 (-4611686018427387904)] 50) = w5 at *
  generalize w4.heap.size = g_out at *
  go_loopw [20] (fun c wr => ∃ k : Nat, k ≤ l ∧ c = .int .i64 (K0 + (k : Int)) ∧ Hid (AtB wr w.heap.size #[.int .i64 0, .int .i64 0, .int .i64 0, .int .i64 0] 50 ∧ AtB wr g_out #[.int .i64 (foBox min fx I0 K0 m k 4611686018427387904), .int .i64 (foBox min fy I0 K0 m k 4611686018427387904), .int .i64 (foBox max fx I0 K0 m k (-4611686018427387904)), .int .i64 (foBox max fy I0 K0 m k (-4611686018427387904))] 50 ∧ Below w.heap.size w wr)) (fun c _ => (L1 + 1 - intOf c).toNat)
  case atStart => exact ⟨0, by omega, by simp, ⟨r_res.out, r_out.out, BB.out⟩⟩
  case round =>
    clear BB r_out r_res
    obtain ⟨k, hk, rfl, hinv⟩ := hrel
    obtain ⟨r_res, r_out, BB⟩ := hinv.out
    replace r_res := Lib.hid r_res; replace r_out := Lib.hid r_out; replace BB := Lib.hid BB
    clear hinv
    by_cases hlt : k < l
    · have hst0 : Hid (foBox min fx I0 K0 m (k + 1) 4611686018427387904 = foRow min fx I0 (K0 + (k : Int)) m (foBox min fx I0 K0 m k 4611686018427387904) ∧ foBox min fy I0 K0 m (k + 1) 4611686018427387904 = foRow min fy I0 (K0 + (k : Int)) m (foBox min fy I0 K0 m k 4611686018427387904) ∧ foBox max fx I0 K0 m (k + 1) (-4611686018427387904) = foRow max fx I0 (K0 + (k : Int)) m (foBox max fx I0 K0 m k (-4611686018427387904)) ∧ foBox max fy I0 K0 m (k + 1) (-4611686018427387904) = foRow max fy I0 (K0 + (k : Int)) m (foBox max fy I0 K0 m k (-4611686018427387904))) := ⟨rfl, rfl, rfl, rfl⟩
      obtain ⟨kk, hkk⟩ : ∃ v, v = K0 + (k : Int) := ⟨_, rfl⟩
      obtain ⟨k2, hk2⟩ : ∃ v, v = K0 + ((k + 1 : Nat) : Int) := ⟨_, rfl⟩
      have hy' := HY'.out
      have e1 : IntKind.i64.wrap (kk + 1) = k2 := by rw [show kk + 1 = k2 by omega]; exact iw ⟨by have := HN.out; omega, by have := HN.out; omega⟩
      have t1 : kk ≤ L1 := by omega
      have hkr := Lib.hid (show (0 ≤ kk ∧ kk ≤ ny) ∧ kk = K0 + (k : Int) ∧ k2 = K0 + ((k + 1 : Nat) : Int) from ⟨by have := HN.out; omega, hkk, hk2⟩)
      rw [← hkk] at hst0 ⊢
      clear hkk hk2 hy' hk
      generalize foBox min fx I0 K0 m k 4611686018427387904 = A at *
      generalize foBox min fy I0 K0 m k 4611686018427387904 = B at *
      generalize foBox max fx I0 K0 m k (-4611686018427387904) = C at *
      generalize foBox max fy I0 K0 m k (-4611686018427387904) = D at *
      go_wp2_with fail
      go_loopw [21] (fun c wr => ∃ i : Nat, i ≤ m ∧ c = .int .i64 (I0 + (i : Int)) ∧ Hid (AtB wr w.heap.size #[.int .i64 0, .int .i64 0, .int .i64 0, .int .i64 0] 50 ∧ AtB wr g_out #[.int .i64 (foRow min fx I0 kk i A), .int .i64 (foRow min fy I0 kk i B), .int .i64 (foRow max fx I0 kk i C), .int .i64 (foRow max fy I0 kk i D)] 50 ∧ Below w.heap.size w wr)) (fun c _ => (J1 + 1 - intOf c).toNat)
      case atStart => exact ⟨0, by omega, by simp, ⟨r_res.out, r_out.out, BB.out⟩⟩
      case round =>
        clear BB r_out r_res
        obtain ⟨i, hi, rfl, hinv⟩ := hrel
        obtain ⟨r_res, r_out, BB⟩ := hinv.out
        replace r_res := Lib.hid r_res; replace r_out := Lib.hid r_out; replace BB := Lib.hid BB
        clear hinv
        by_cases hlt2 : i < m
        · have hx' := HX'.out
          obtain ⟨ii, hii⟩ : ∃ v, v = I0 + (i : Int) := ⟨_, rfl⟩
          obtain ⟨i2, hi2⟩ : ∃ v, v = I0 + ((i + 1 : Nat) : Int) := ⟨_, rfl⟩
          have e2 : IntKind.i64.wrap (ii + 1) = i2 := by rw [show ii + 1 = i2 by omega]; exact iw ⟨by have := HN.out; omega, by have := HN.out; omega⟩
          have t2 : ii ≤ J1 := by omega
          have CI := Lib.hid (CA.out ii kk (by have := HN.out; omega) hkr.out.1)
          have CJ := Lib.hid (CB.out ii kk (by have := HN.out; omega) hkr.out.1)
          have hst : Hid (foRow min fx I0 kk (i + 1) A = min (foRow min fx I0 kk i A) (fx ii kk) ∧ foRow min fy I0 kk (i + 1) B = min (foRow min fy I0 kk i B) (fy ii kk) ∧ foRow max fx I0 kk (i + 1) C = max (foRow max fx I0 kk i C) (fx ii kk) ∧ foRow max fy I0 kk (i + 1) D = max (foRow max fy I0 kk i D) (fy ii kk)) := by
            rw [hii]; exact ⟨rfl, rfl, rfl, rfl⟩
          rw [← hii]
          have hir := Lib.hid hi2
          have him := Lib.hid (show ii < J1 + 1 ∧ i2 = ii + 1 by omega)
          clear hii hi2 hx' hi
          generalize foRow min fx I0 kk i A = a0 at *
          generalize foRow min fy I0 kk i B = b0 at *
          generalize foRow max fx I0 kk i C = c0 at *
          generalize foRow max fy I0 kk i D = d0 at *
          generalize fx ii kk = px at *
          generalize fy ii kk = py at *
          obtain ⟨a1, ha1⟩ : ∃ v, v = min a0 px := ⟨_, rfl⟩
          obtain ⟨b1, hb1⟩ : ∃ v, v = min b0 py := ⟨_, rfl⟩
          obtain ⟨c1, hc1⟩ : ∃ v, v = max c0 px := ⟨_, rfl⟩
          obtain ⟨d1, hd1⟩ : ∃ v, v = max d0 py := ⟨_, rfl⟩
          rw [← ha1, ← hb1, ← hc1, ← hd1] at hst
          have q1 : (if px < a0 then px else a0) = a1 := by rw [ha1]; exact if_min _ _
          have q2 : (if py < b0 then py else b0) = b1 := by rw [hb1]; exact if_min _ _
          have q3 : (if c0 < px then px else c0) = c1 := by rw [hc1]; exact if_max _ _
          have q4 : (if d0 < py then py else d0) = d1 := by rw [hd1]; exact if_max _ _
          clear ha1 hb1 hc1 hd1
          go_wp2_with fail
          refine (CI.out _ (hv'.out.below BB.out)).mono ?_
          rintro e w6 ⟨rfl, hb⟩
          replace r_res := Lib.hid (r_res.out.keep hb)
          replace r_out := Lib.hid (r_out.out.keep hb)
          replace BB := Lib.hid (below_next BB.out hb)
          clear hb
          go_wp2_with fail
          refine (CJ.out _ (hv'.out.below BB.out)).mono ?_
          rintro e w7 ⟨rfl, hb⟩
          replace r_res := Lib.hid (r_res.out.keep hb)
          replace r_out := Lib.hid (r_out.out.keep hb)
          replace BB := Lib.hid (below_next BB.out hb)
          clear hb
          obtain ⟨c_out0, c_out1, c_out2, c_out3, f_out0, f_out1, f_out2, f_out3⟩ := reads4 r_out.out
          have l_out := r_out.out.lt
          go_wp2_with fail
          clear c_out0 c_out1 c_out2 c_out3 f_out0 f_out1 f_out2 f_out3 l_out
          have e_st : ((((w7.setCell ⟨g_out, 0, none⟩ (.int .i64 a1)).setCell ⟨g_out, 1, none⟩ (.int .i64 b1)).setCell ⟨g_out, 2, none⟩ (.int .i64 c1)).setCell ⟨g_out, 3, none⟩ (.int .i64 d1)) = setFrom w7 (g_out) 0 [.int .i64 a1, .int .i64 b1, .int .i64 c1, .int .i64 d1] := by simp only [setFrom, Nat.reduceAdd]
          rw [e_st]
          clear e_st
          replace r_res := Lib.hid (AtB.farAll (p := g_out) (by have dd_out := d_out.out; omega) [.int .i64 a1, .int .i64 b1, .int .i64 c1, .int .i64 d1] 0 r_res.out)
          replace r_out := Lib.hid (AtB.setAll r_out.out [.int .i64 a1, .int .i64 b1, .int .i64 c1, .int .i64 d1] rfl)
          replace BB := Lib.hid (below_setAll (b := g_out) (by have dd := d_out.out; omega) [.int .i64 a1, .int .i64 b1, .int .i64 c1, .int .i64 d1] 0 BB.out)
          generalize setFrom w7 (g_out) 0 [.int .i64 a1, .int .i64 b1, .int .i64 c1, .int .i64 d1] = w8 at *
          go_roundw
          case rel => exact ⟨i + 1, by omega, by rw [hir.out], ⟨r_res.out, by rw [hst.out.1, hst.out.2.1, hst.out.2.2.1, hst.out.2.2.2]; exact r_out.out, BB.out⟩⟩
          case measure => have := him.out; simp [intOf]; omega
        · obtain rfl : i = m := by omega
          have hx' := HX'.out
          obtain ⟨ii, hii⟩ : ∃ v, v = I0 + (i : Int) := ⟨_, rfl⟩
          have t2 : ¬ ii ≤ J1 := by omega
          rw [← hii]
          have hky := Lib.hid (show kk < L1 + 1 ∧ k2 = kk + 1 by have := hkr.out; have := HY'.out; omega)
          clear hii hx' hi
          rw [← hst0.out.1, ← hst0.out.2.1, ← hst0.out.2.2.1, ← hst0.out.2.2.2] at r_out
          go_wp2_with fail
          go_roundw
          case rel => exact ⟨k + 1, by omega, by rw [hkr.out.2.2], ⟨r_res.out, r_out.out, BB.out⟩⟩
          case measure => have := hky.out; simp [intOf]; omega
    · obtain rfl : k = l := by omega
      have hy' := HY'.out
      obtain ⟨kk, hkk⟩ : ∃ v, v = K0 + (k : Int) := ⟨_, rfl⟩
      have t1 : ¬ kk ≤ L1 := by omega
      rw [← hkk]
      clear hkk hy' hk
      obtain ⟨A, hA⟩ : ∃ v, v = foBox min fx I0 K0 m k 4611686018427387904 := ⟨_, rfl⟩
      obtain ⟨B, hB⟩ : ∃ v, v = foBox min fy I0 K0 m k 4611686018427387904 := ⟨_, rfl⟩
      obtain ⟨C, hC⟩ : ∃ v, v = foBox max fx I0 K0 m k (-4611686018427387904) := ⟨_, rfl⟩
      obtain ⟨D, hD⟩ : ∃ v, v = foBox max fy I0 K0 m k (-4611686018427387904) := ⟨_, rfl⟩
      rw [← hA, ← hB, ← hC, ← hD] at r_out
      replace hA := Lib.hid hA; replace hB := Lib.hid hB; replace hC := Lib.hid hC; replace hD := Lib.hid hD
      obtain ⟨c_out0, c_out1, c_out2, c_out3, f_out0, f_out1, f_out2, f_out3⟩ := reads4 r_out.out
      have l_out := r_out.out.lt
      obtain ⟨c_res0, c_res1, c_res2, c_res3, f_res0, f_res1, f_res2, f_res3⟩ := reads4 r_res.out
      have l_res := r_res.out.lt
      go_wp2_with fail
      clear c_out0 c_out1 c_out2 c_out3 f_out0 f_out1 f_out2 f_out3 l_out c_res0 c_res1 c_res2 c_res3 f_res0 f_res1 f_res2 f_res3 l_res
      have e_st : ((((wr.setCell ⟨w.heap.size, 0, none⟩ (.int .i64 A)).setCell ⟨w.heap.size, 1, none⟩ (.int .i64 B)).setCell ⟨w.heap.size, 2, none⟩ (.int .i64 C)).setCell ⟨w.heap.size, 3, none⟩ (.int .i64 D)) = setFrom wr (w.heap.size) 0 [.int .i64 A, .int .i64 B, .int .i64 C, .int .i64 D] := by simp only [setFrom, Nat.reduceAdd]
      rw [e_st]
      clear e_st
      replace r_res := Lib.hid (AtB.setAll r_res.out [.int .i64 A, .int .i64 B, .int .i64 C, .int .i64 D] rfl)
      replace r_out := Lib.hid (AtB.farAll (p := w.heap.size) (by have dd_out := d_out.out; omega) [.int .i64 A, .int .i64 B, .int .i64 C, .int .i64 D] 0 r_out.out)
      replace BB := Lib.hid (below_setAll (b := w.heap.size) (by omega) [.int .i64 A, .int .i64 B, .int .i64 C, .int .i64 D] 0 BB.out)
      generalize setFrom wr (w.heap.size) 0 [.int .i64 A, .int .i64 B, .int .i64 C, .int .i64 D] = w10 at *
      obtain ⟨c_res0, c_res1, c_res2, c_res3, f_res0, f_res1, f_res2, f_res3⟩ := reads4 r_res.out
      have l_res := r_res.out.lt
      refine bodyPost_ret (v := .agg #[.int .i64 A, .int .i64 B, .int .i64 C, .int .i64 D]) (by unfold results; simp only [Try.results29]; go_simp) rfl ?_
      exact ⟨by rw [hA.out, hB.out, hC.out, hD.out], BB.out⟩
end Go.Proofs.Ythoakbjnofhpbaa
