/- Contract of ref05.minor. -/
import Derived.Test.YthoakbjnofhpbaaMr0
import Derived.Test.YthoakbjnofhpbaaOwn
set_option linter.unusedVariables false
set_option linter.unusedSimpArgs false
namespace Go.Proofs.Ythoakbjnofhpbaa
open Go.RowKit
theorem BL.two {w : World} {base : Nat} {v : Value} {zs : List Int} (h : BL w base v zs) {i : Nat} (hi : i < zs.length) : ∃ g cap A n c, v = .slice (some ⟨g, 0, none⟩) zs.length cap ∧ g < w.heap.size ∧ zs.length ≤ cap ∧ 
    (∀ w9, Below w.heap.size w w9 → w9.cell? ⟨g, i * 2, none⟩ = some (.bool (sgn (zs.getD i 0))) ∧ w9.cell? ⟨g, i * 2 + 1, none⟩ = some (.slice A n c)) ∧ BR w (.agg #[.bool (sgn (zs.getD i 0)), .slice A n c]) (zs.getD i 0) := by
  obtain ⟨g, cap, A, n, c, e, h1, h2, h3, h4, h5⟩ := h.at_ hi
  refine ⟨g, cap, A, n, c, e, h1, h2, fun w9 hb => ?_, h5⟩
  rw [hb.cell h1, hb.cell h1, Nat.mul_comm i 2]
  exact ⟨h3, h4⟩
set_option maxRecDepth 100000 in
set_option maxHeartbeats 8000000 in
theorem r5minor (v : Value) (zs : List Int) (base : Nat) (w : World) (hv : BL w base v zs) (hl : zs.length = 9) (hz : ∀ z ∈ zs, Wd 200 z) (r c : Nat) (hr : r < 3) (hc : c < 3) : Calls Try.prog 94 #[v, .int .i64 r, .int .i64 c] w (GiveB (minI zs r c) w) := by
  obtain ⟨A, cap, rfl⟩ := hv.len
  rw [hl]
  obtain ⟨i0, hi0, hz0, hz1, hz2⟩ := info_parts info_big
  have HP4 := Lib.hid (pk_len (zs := zs) hr hc)
  have HPW := Lib.hid (fun i => pk_wd hz r c 9 i)
  have C1 := Lib.hid (fun (x y : Int) (u v : Value) w (hu : BR w u x) (hv : BR w v y) (hx : Wd 200 x) (hy : Wd 200 y) => mul_any u v x y w hu hv (hx.mid (by omega)) (hy.mid (by omega)))
  have C2 := Lib.hid (fun (x y : Int) (u v : Value) w (hu : BR w u x) (hv : BR w v y) (hx : Wd 400 x) (hy : Wd 400 y) => sub_any u v x y w hu hv (hx.mid (by omega)) (hy.mid (by omega)))
  have HPT := Lib.hid (fun k (h1 : k / 3 ≠ r) (h2 : k % 3 ≠ c) => pk_step_t (zs := zs) h1 h2)
  have HPF := Lib.hid (fun k (h : k / 3 = r ∨ k % 3 = c) => pk_step_f (zs := zs) h)
  have HPL : Hid (∀ k, k ≤ 9 → (pk zs r c k).length ≤ 9) := fun k hk => by
    unfold pk
    rw [List.length_map]
    have := List.length_filter_le (fun i => decide (i / 3 ≠ r) && decide (i % 3 ≠ c)) (List.range k)
    rw [List.length_range] at this
    omega
  have HR0 : Hid (pk zs r c 0 = []) := rfl
  have HM : Hid (minI zs r c = (pk zs r c 9).getD 0 0 * (pk zs r c 9).getD 3 0 - (pk zs r c 9).getD 1 0 * (pk zs r c 9).getD 2 0) := rfl
  generalize minI zs r c = M at *
  generalize pk zs r c = P at *
  have H2 := Lib.hid (fun k (hk : k < 9) => hv.two (i := k) (by rw [hl]; exact hk))
  replace hl := Lib.hid hl
  clear hv hz
  go_enter Try.func94, Try.ntmps94
  go_wp2_with fail
  have BB := start1 w #[.bool false, .slice none 0 0] BT
  obtain ⟨BB, hsz, r_res⟩ := BB
  generalize (w.alloc (.cells #[.bool false, .slice none 0 0] BT)) = w0 at *
  replace BB := Lib.hid BB
  replace r_res := Lib.hid r_res
  clear hsz
  go_loopw [7, 8] (fun v i wr => ∃ (L : List (Int × Value)) (k : Nat), k ≤ 9 ∧ i = .int .i64 k ∧ Hid (L.map Prod.fst = P k ∧ BLp wr (w.heap.size + 1) v L ∧ AtB wr w.heap.size #[.bool false, .slice none 0 0] BT ∧ Below w.heap.size w wr)) (fun _ i _ => 9 - (intOf i).toNat)
  case atStart => exact ⟨[], 0, by omega, rfl, ⟨HR0.out.symm, ⟨World.ownsRow_nil _ _ _ _, fun p hp => by cases hp⟩, r_res.out, BB.out⟩⟩
  case round =>
    clear BB r_res
    obtain ⟨L, k, hk, rfl, hinv⟩ := hrel
    obtain ⟨hm, HO, r_res, BB⟩ := hinv.out
    replace hm := Lib.hid hm; replace HO := Lib.hid HO; replace BB := Lib.hid BB; replace r_res := Lib.hid r_res
    clear hinv
    by_cases hlt : k < 9
    · have k0 : (0 : Int) ≤ (k : Int) := by omega
      have k1 : (k : Int) < 9 := by omega
      have eq : (k : Int).tdiv 3 = ((k / 3 : Nat) : Int) := by rw [Int.tdiv_eq_ediv_of_nonneg (by omega)]; omega
      have er : (k : Int).tmod 3 = ((k % 3 : Nat) : Int) := by rw [Int.tmod_eq_emod_of_nonneg (by omega)]; omega
      have ey : IntKind.i64.wrap ((k / 3 : Nat) : Int) = ((k / 3 : Nat) : Int) := iw ⟨by omega, by omega⟩
      have ex : IntKind.i64.wrap ((k % 3 : Nat) : Int) = ((k % 3 : Nat) : Int) := iw ⟨by omega, by omega⟩
      by_cases h1 : k / 3 = r
      · have HF := HPF.out k (.inl h1)
        have e1 : ((k / 3 : Nat) : Int) = (r : Int) := by omega
        have HS : Hid (L.map Prod.fst = P (k + 1)) := hm.out.trans HF.symm
        clear HF HPF HPT
        generalize ((k % 3 : Nat) : Int) = x at *
        generalize ((k / 3 : Nat) : Int) = y at *
        go_wp2_with fail
        go_roundw
        case rel => exact ⟨L, k + 1, by omega, by go_num, ⟨HS.out, HO.out, r_res.out, BB.out⟩⟩
        case measure => simp [intOf]; omega
      · have e1 : ¬ ((k / 3 : Nat) : Int) = (r : Int) := by omega
        by_cases h2 : k % 3 = c
        · have HF := HPF.out k (.inr h2)
          have e2 : ((k % 3 : Nat) : Int) = (c : Int) := by omega
          have HS : Hid (L.map Prod.fst = P (k + 1)) := hm.out.trans HF.symm
          clear HF HPF HPT
          generalize ((k % 3 : Nat) : Int) = x at *
          generalize ((k / 3 : Nat) : Int) = y at *
          go_wp2_with fail
          go_roundw
          case rel => exact ⟨L, k + 1, by omega, by go_num, ⟨HS.out, HO.out, r_res.out, BB.out⟩⟩
          case measure => simp [intOf]; omega
        · have e2 : ¬ ((k % 3 : Nat) : Int) = (c : Int) := by omega
          have HF := HPT.out k h1 h2
          have hll := HPL.out k hk
          rw [← hm.out, List.length_map] at hll
          obtain ⟨g, cap', A_x, n_x, cap_x, e, hg1, hg2, hg3, hb0⟩ := H2.out k hlt
          simp only [Value.slice.injEq] at e
          obtain ⟨rfl, -, rfl⟩ := e
          have HS : Hid (P k ++ [zs.getD k 0] = P (k + 1)) := HF.symm
          obtain ⟨cz0, cz1⟩ := hg3 wr BB.out
          replace hb0 := Lib.hid (hb0.below BB.out)
          replace hll := Lib.hid hll
          rw [hl.out] at hg2
          clear HF HPF HPT H2 hg3
          generalize zs.getD k 0 = z at *
          generalize ((k % 3 : Nat) : Int) = x at *
          generalize ((k / 3 : Nat) : Int) = y at *
          have hws : w.heap.size + 1 ≤ wr.heap.size := r_res.out.lt
          have f1 : (y != (r : Int)) = true := bne_iff_ne.2 e1
          have f2 : (x != (c : Int)) = true := bne_iff_ne.2 e2
          go_wp2_with (first | (at_builtin; refine wpList_append_own _ rfl (.tmp 23) (.tmp 28) LBT rfl (w.heap.size + 1) BT i0 (.agg #[.bool false, .slice none 0 0]) 2 32 Try.underlying70 hi0 hz0 hz1 hz2 rfl (by decide) _ _ _ rfl (HO.out.1.alloc _) ⟨wr.heap.size, 0, none⟩ 1 1 [.bool (sgn z), .slice A_x n_x cap_x] rfl rfl (two_new _ _ _ _) (two_cell _ _ _ _) (by have := hll.out; unfold maxLen; omega) (by have := hll.out; omega) (by simp; omega) ?_))
          intro v' w8 hown' hgrow _
          have HB1 := Lib.hid (below_app' BB.out (by omega) (by omega) HO.out.1 hgrow)
          have HO1 := Lib.hid (HO.out.app hb0.out hown' hgrow)
          have HR1 := Lib.hid (r_res.out.app (by omega) HO.out.1 hgrow)
          clear hown' hgrow
          have HM1 : Hid ((L ++ [(z, Value.slice A_x n_x cap_x)]).map Prod.fst = P (k + 1)) := by
            show _ = _
            rw [List.map_append, hm.out, ← HS.out]; rfl
          go_wp2_with fail
          go_roundw
          case rel => exact ⟨L ++ [(z, .slice A_x n_x cap_x)], k + 1, by omega, by go_num, ⟨HM1.out, HO1.out, HR1.out, HB1.out⟩⟩
          case measure => simp [intOf]; omega
    · obtain rfl : k = 9 := by omega
      have HB9 := BL.mono (w := wr) (base := w.heap.size + 1) (b2 := w.heap.size + 1) ⟨L, hm.out, HO.out⟩ (Nat.le_refl _)
      have hl4 := HP4.out
      have HE := HM
      clear H2 HPT HPF HPL HM HR0 hm HO
      generalize P 9 = qs at *
      have T0 := HB9.two (i := 0) (by omega)
      have T1 := HB9.two (i := 1) (by omega)
      have T2 := HB9.two (i := 2) (by omega)
      have T3 := HB9.two (i := 3) (by omega)
      rw [hl4] at T0 T1 T2 T3
      obtain ⟨g, cap1, A0, n0, k0, rfl, hg1, hg2, T0, b0⟩ := T0
      obtain ⟨g', cap', A1, n1, k1, e, -, -, T1, b1⟩ := T1
      simp only [Value.slice.injEq, Option.some.injEq, Addr.mk.injEq] at e
      obtain ⟨⟨rfl, -⟩, -, rfl⟩ := e
      obtain ⟨g', cap', A2, n2, k2, e, -, -, T2, b2⟩ := T2
      simp only [Value.slice.injEq, Option.some.injEq, Addr.mk.injEq] at e
      obtain ⟨⟨rfl, -⟩, -, rfl⟩ := e
      obtain ⟨g', cap', A3, n3, k3, e, -, -, T3, b3⟩ := T3
      simp only [Value.slice.injEq, Option.some.injEq, Addr.mk.injEq] at e
      obtain ⟨⟨rfl, -⟩, -, rfl⟩ := e
      have w0 := HPW.out 0
      have w1 := HPW.out 1
      have w2 := HPW.out 2
      have w3 := HPW.out 3
      have D1 := Lib.hid (fun (u v : Value) w (hu : BR w u (qs.getD 0 0)) (hv : BR w v (qs.getD 3 0)) => C1.out _ _ u v w hu hv w0 w3)
      have D2 := Lib.hid (fun (u v : Value) w (hu : BR w u (qs.getD 1 0)) (hv : BR w v (qs.getD 2 0)) => C1.out _ _ u v w hu hv w1 w2)
      have D3 := Lib.hid (fun (u v : Value) w (hu : BR w u (qs.getD 0 0 * qs.getD 3 0)) (hv : BR w v (qs.getD 1 0 * qs.getD 2 0)) => C2.out _ _ u v w hu hv (w0.mul w3) (w1.mul w2))
      have CT := Lib.hid (fun (w9 : World) (h9 : Below wr.heap.size wr w9) => And.intro (T0 w9 h9) (And.intro (T1 w9 h9) (And.intro (T2 w9 h9) (T3 w9 h9))))
      clear T0 T1 T2 T3 HPW C1 C2 w0 w1 w2 w3 HB9
      generalize qs.getD 0 0 * qs.getD 3 0 - qs.getD 1 0 * qs.getD 2 0 = M1 at *
      generalize qs.getD 0 0 * qs.getD 3 0 = M2 at *
      generalize qs.getD 1 0 * qs.getD 2 0 = M3 at *
      generalize qs.getD 0 0 = z0 at *
      generalize qs.getD 1 0 = z1 at *
      generalize qs.getD 2 0 = z2 at *
      generalize qs.getD 3 0 = z3 at *
      have h_z0 := Lib.hid b0; have h_z1 := Lib.hid b1; have h_z2 := Lib.hid b2; have h_z3 := Lib.hid b3
      clear b0 b1 b2 b3
      have KF := Lib.hid (fun (w9 : World) (h9 : Below wr.heap.size wr w9) => And.intro ((r_res.out.keep h9).fr 0) ((r_res.out.keep h9).fr 1))
      go_wp2_with fail
      have KK := Lib.hid (fun (w9 : World) (h : Below wr.heap.size wr w9) => (⟨CT.out _ h, cells2 (r_res.out.keep h), KF.out _ h⟩ : ((w9.cell? ⟨g, 0 * 2, none⟩ = some (.bool (sgn z0)) ∧ w9.cell? ⟨g, 0 * 2 + 1, none⟩ = some (.slice A0 n0 k0)) ∧ (w9.cell? ⟨g, 1 * 2, none⟩ = some (.bool (sgn z1)) ∧ w9.cell? ⟨g, 1 * 2 + 1, none⟩ = some (.slice A1 n1 k1)) ∧ (w9.cell? ⟨g, 2 * 2, none⟩ = some (.bool (sgn z2)) ∧ w9.cell? ⟨g, 2 * 2 + 1, none⟩ = some (.slice A2 n2 k2)) ∧ (w9.cell? ⟨g, 3 * 2, none⟩ = some (.bool (sgn z3)) ∧ w9.cell? ⟨g, 3 * 2 + 1, none⟩ = some (.slice A3 n3 k3))) ∧ (w9.cell? ⟨w.heap.size, 0, none⟩ = some (.bool false) ∧ w9.cell? ⟨w.heap.size, 1, none⟩ = some (.slice none 0 0)) ∧ (w9.frozen? ⟨w.heap.size, 0, none⟩ = false ∧ w9.frozen? ⟨w.heap.size, 1, none⟩ = false)))
      have K0 := KK.out wr (Below.refl _ _)
      have KD := KK.out wr.drew (below_drew (Below.refl _ _))
      have tok0 : Hid True := trivial
      have tok1 : Hid True := trivial
      refine AnyG.begin_ (fun w9 => ((w9.cell? ⟨g, 0 * 2, none⟩ = some (.bool (sgn z0)) ∧ w9.cell? ⟨g, 0 * 2 + 1, none⟩ = some (.slice A0 n0 k0)) ∧ (w9.cell? ⟨g, 1 * 2, none⟩ = some (.bool (sgn z1)) ∧ w9.cell? ⟨g, 1 * 2 + 1, none⟩ = some (.slice A1 n1 k1)) ∧ (w9.cell? ⟨g, 2 * 2, none⟩ = some (.bool (sgn z2)) ∧ w9.cell? ⟨g, 2 * 2 + 1, none⟩ = some (.slice A2 n2 k2)) ∧ (w9.cell? ⟨g, 3 * 2, none⟩ = some (.bool (sgn z3)) ∧ w9.cell? ⟨g, 3 * 2 + 1, none⟩ = some (.slice A3 n3 k3))) ∧ (w9.cell? ⟨w.heap.size, 0, none⟩ = some (.bool false) ∧ w9.cell? ⟨w.heap.size, 1, none⟩ = some (.slice none 0 0)) ∧ (w9.frozen? ⟨w.heap.size, 0, none⟩ = false ∧ w9.frozen? ⟨w.heap.size, 1, none⟩ = false)) 15 (by kernel_rfl) ?_
      refine AnyG.take (i := 0) (v := ?_) rfl (by kernel_rfl) (by kernel_rfl) (by kernel_rfl) (fun _ _ _ h => h) (by kernel_rfl) (by kernel_rfl) (Or.inl ⟨by rfl, ?_⟩) (by assumption) ?_
      rotate_left
      · intro w9 hSw; (try dsimp only at hSw); go_simp <;> with_reducible rfl
      try simp only [Act.put, List.getElem_toArray, List.getElem_cons_zero, List.getElem_cons_succ, List.setIfInBounds_toArray, List.set_cons_zero, List.set_cons_succ]
      refine AnyG.take (i := 1) (v := ?_) rfl (by kernel_rfl) (by kernel_rfl) (by kernel_rfl) (fun _ _ _ h => h) (by kernel_rfl) (by kernel_rfl) (Or.inl ⟨by rfl, ?_⟩) (by assumption) ?_
      rotate_left
      · intro w9 hSw; (try dsimp only at hSw); go_simp <;> with_reducible rfl
      try simp only [Act.put, List.getElem_toArray, List.getElem_cons_zero, List.getElem_cons_succ, List.setIfInBounds_toArray, List.set_cons_zero, List.set_cons_succ]
      refine AnyG.take (i := 2) (v := ?_) rfl (by kernel_rfl) (by kernel_rfl) (by kernel_rfl) (fun _ _ _ h => h) (by kernel_rfl) (by kernel_rfl) (Or.inl ⟨by rfl, ?_⟩) (by assumption) ?_
      rotate_left
      · intro w9 hSw; (try dsimp only at hSw); go_simp <;> with_reducible rfl
      try simp only [Act.put, List.getElem_toArray, List.getElem_cons_zero, List.getElem_cons_succ, List.setIfInBounds_toArray, List.set_cons_zero, List.set_cons_succ]
      refine AnyG.take (i := 3) (v := ?_) rfl (by kernel_rfl) (by kernel_rfl) (by kernel_rfl) (fun _ _ _ h => h) (by kernel_rfl) (by kernel_rfl) (Or.inl ⟨by rfl, ?_⟩) (by assumption) ?_
      rotate_left
      · intro w9 hSw; (try dsimp only at hSw); go_simp <;> with_reducible rfl
      try simp only [Act.put, List.getElem_toArray, List.getElem_cons_zero, List.getElem_cons_succ, List.setIfInBounds_toArray, List.set_cons_zero, List.set_cons_succ]
      refine AnyG.take (i := 4) (v := ?_) rfl (by kernel_rfl) (by kernel_rfl) (by kernel_rfl) (fun _ _ _ h => h) (by kernel_rfl) (by kernel_rfl) (Or.inl ⟨by rfl, ?_⟩) (by assumption) ?_
      rotate_left
      · intro w9 hSw; (try dsimp only at hSw); go_simp <;> with_reducible rfl
      try simp only [Act.put, List.getElem_toArray, List.getElem_cons_zero, List.getElem_cons_succ, List.setIfInBounds_toArray, List.set_cons_zero, List.set_cons_succ]
      refine AnyG.take (i := 5) (v := ?_) rfl (by kernel_rfl) (by kernel_rfl) (by kernel_rfl) (fun _ _ _ h => h) (by kernel_rfl) (by kernel_rfl) (Or.inl ⟨by rfl, ?_⟩) (by assumption) ?_
      rotate_left
      · intro w9 hSw; (try dsimp only at hSw); go_simp <;> with_reducible rfl
      try simp only [Act.put, List.getElem_toArray, List.getElem_cons_zero, List.getElem_cons_succ, List.setIfInBounds_toArray, List.set_cons_zero, List.set_cons_succ]
      refine AnyG.take (i := 7) (v := ?_) rfl (by kernel_rfl) (by kernel_rfl) (by kernel_rfl) (fun _ _ _ h => h) (by kernel_rfl) (by kernel_rfl) (Or.inl ⟨by rfl, ?_⟩) (by assumption) ?_
      rotate_left
      · intro w9 hSw; (try dsimp only at hSw); go_simp <;> with_reducible rfl
      try simp only [Act.put, List.getElem_toArray, List.getElem_cons_zero, List.getElem_cons_succ, List.setIfInBounds_toArray, List.set_cons_zero, List.set_cons_succ]
      refine AnyG.take (i := 8) (v := ?_) rfl (by kernel_rfl) (by kernel_rfl) (by kernel_rfl) (fun _ _ _ h => h) (by kernel_rfl) (by kernel_rfl) (Or.inl ⟨by rfl, ?_⟩) (by assumption) ?_
      rotate_left
      · intro w9 hSw; (try dsimp only at hSw); go_simp <;> with_reducible rfl
      try simp only [Act.put, List.getElem_toArray, List.getElem_cons_zero, List.getElem_cons_succ, List.setIfInBounds_toArray, List.set_cons_zero, List.set_cons_succ]
      refine AnyG.take (i := 9) (v := ?_) rfl (by kernel_rfl) (by kernel_rfl) (by kernel_rfl) (fun _ _ _ h => h) (by kernel_rfl) (by kernel_rfl) (Or.inl ⟨by rfl, ?_⟩) (by assumption) ?_
      rotate_left
      · intro w9 hSw; (try dsimp only at hSw); go_simp <;> with_reducible rfl
      try simp only [Act.put, List.getElem_toArray, List.getElem_cons_zero, List.getElem_cons_succ, List.setIfInBounds_toArray, List.set_cons_zero, List.set_cons_succ]
      refine AnyG.take (i := 10) (v := ?_) rfl (by kernel_rfl) (by kernel_rfl) (by kernel_rfl) (fun _ _ _ h => h) (by kernel_rfl) (by kernel_rfl) (Or.inl ⟨by rfl, ?_⟩) (by assumption) ?_
      rotate_left
      · intro w9 hSw; (try dsimp only at hSw); go_simp <;> with_reducible rfl
      try simp only [Act.put, List.getElem_toArray, List.getElem_cons_zero, List.getElem_cons_succ, List.setIfInBounds_toArray, List.set_cons_zero, List.set_cons_succ]
      refine AnyG.take (i := 11) (v := ?_) rfl (by kernel_rfl) (by kernel_rfl) (by kernel_rfl) (fun _ _ _ h => h) (by kernel_rfl) (by kernel_rfl) (Or.inl ⟨by rfl, ?_⟩) (by assumption) ?_
      rotate_left
      · intro w9 hSw; (try dsimp only at hSw); go_simp <;> with_reducible rfl
      try simp only [Act.put, List.getElem_toArray, List.getElem_cons_zero, List.getElem_cons_succ, List.setIfInBounds_toArray, List.set_cons_zero, List.set_cons_succ]
      refine AnyG.take (i := 12) (v := ?_) rfl (by kernel_rfl) (by kernel_rfl) (by kernel_rfl) (fun _ _ _ h => h) (by kernel_rfl) (by kernel_rfl) (Or.inl ⟨by rfl, ?_⟩) (by assumption) ?_
      rotate_left
      · intro w9 hSw; (try dsimp only at hSw); go_simp <;> with_reducible rfl
      try simp only [Act.put, List.getElem_toArray, List.getElem_cons_zero, List.getElem_cons_succ, List.setIfInBounds_toArray, List.set_cons_zero, List.set_cons_succ]
      refine AnyG.step (i := 6) (by kernel_rfl) rfl (fun K hK => ?_)
      go_simp
      go_at_call 47
      have t_k := tok0
      refine (D1.out _ _ _ (h_z0.out.below ?_) (h_z3.out.below ?_)).mono ?_
      · repeat (first | with_reducible exact Below.refl _ _ | with_reducible apply below_drew | with_reducible apply below_new)
      · repeat (first | with_reducible exact Below.refl _ _ | with_reducible apply below_drew | with_reducible apply below_new)
      rintro e w1 ⟨v_e, rfl, hb, h_e⟩
      obtain ⟨A_e, n_e, cap_e, rfl, -⟩ := id h_e.form
      replace h_e := Lib.hid h_e
      have B_w1 := Lib.hid (reg_next (w0 := wr) (by repeat (first | with_reducible exact Below.refl _ _ | with_reducible apply below_drew | with_reducible apply below_new)) hb)
      have K_w1 := KK.out _ B_w1.out
      clear hb
      clear t_k tok0
      refine hK.out _ _ (fun _ => K_w1) (fun hHeld => ?_)
      replace hHeld := hHeld (by decide)
      clear hK
      try simp only [Act.put, List.getElem_toArray, List.getElem_cons_zero, List.getElem_cons_succ, List.setIfInBounds_toArray, List.set_cons_zero, List.set_cons_succ]
      refine AnyG.step (i := 13) (by kernel_rfl) rfl (fun K hK => ?_)
      go_simp
      go_at_call 47
      have t_k := tok1
      refine (D2.out _ _ _ (h_z1.out.below B_w1.out) (h_z2.out.below B_w1.out)).mono ?_
      rintro e w2 ⟨v_f, rfl, hb, h_f⟩
      obtain ⟨A_f, n_f, cap_f, rfl, -⟩ := id h_f.form
      replace h_f := Lib.hid h_f
      replace h_e := Lib.hid (h_e.out.below hb)
      have B_w2 := Lib.hid (below_next B_w1.out hb)
      have K_w2 := KK.out _ B_w2.out
      clear hb
      clear t_k tok1
      refine hK.out _ _ (fun _ => K_w2) (fun hHeld => ?_)
      replace hHeld := hHeld (by decide)
      clear hK
      try simp only [Act.put, List.getElem_toArray, List.getElem_cons_zero, List.getElem_cons_succ, List.setIfInBounds_toArray, List.set_cons_zero, List.set_cons_succ]
      refine AnyG.step (i := 14) (by kernel_rfl) rfl (fun K hK => ?_)
      go_simp
      go_at_call 106
      refine (D3.out _ _ _ h_e.out h_f.out).mono ?_
      rintro e w3 ⟨v_d, rfl, hb, h_d⟩
      obtain ⟨A_d, n_d, cap_d, rfl, -⟩ := id h_d.form
      replace h_d := Lib.hid h_d
      replace h_e := Lib.hid (h_e.out.below hb)
      replace h_f := Lib.hid (h_f.out.below hb)
      have B_w3 := Lib.hid (below_next B_w2.out hb)
      have K_w3 := KK.out _ B_w3.out
      clear hb
      refine hK.out _ _ (fun _ => K_w3) (fun hHeld => ?_)
      replace hHeld := hHeld (by decide)
      clear hK
      try simp only [Act.put, List.getElem_toArray, List.getElem_cons_zero, List.getElem_cons_succ, List.setIfInBounds_toArray, List.set_cons_zero, List.set_cons_succ]
      refine AnyG.step (i := 15) (by kernel_rfl) rfl (fun K hK => ?_)
      go_simp
      refine hK.out _ _ (fun h => absurd h (by decide)) (fun _ => ?_)
      clear hK
      try simp only [Act.put, List.getElem_toArray, List.getElem_cons_zero, List.getElem_cons_succ, List.setIfInBounds_toArray, List.set_cons_zero, List.set_cons_succ]
      refine AnyG.done (by kernel_rfl) ?_ _
      clear KK K0 KD K_w1 K_w2 K_w3
      replace r_res := Lib.hid (r_res.out.keep B_w3.out)
      replace h_z0 := Lib.hid (h_z0.out.below B_w3.out)
      replace h_z1 := Lib.hid (h_z1.out.below B_w3.out)
      replace h_z2 := Lib.hid (h_z2.out.below B_w3.out)
      replace h_z3 := Lib.hid (h_z3.out.below B_w3.out)
      replace BB := Lib.hid (below_next BB.out B_w3.out)
      clear B_w1 B_w2 B_w3
      replace h_d := Lib.hid (h_d.out.far2 r_res.out (by decide) (.bool (sgn M1)) (.slice A_d n_d cap_d))
      replace r_res := Lib.hid (r_res.out.set2 (.bool (sgn M1)) (.slice A_d n_d cap_d))
      replace BB := Lib.hid (below_far2 BB.out (p := w.heap.size) (by omega) (.bool (sgn M1)) (.slice A_d n_d cap_d))
      generalize ((w3.setCell ⟨w.heap.size, 0, none⟩ (.bool (sgn M1))).setCell ⟨w.heap.size, 1, none⟩ (.slice A_d n_d cap_d)) = w4 at *
      obtain ⟨c_res0, c_res1, f_res0, f_res1⟩ := reads2 r_res.out
      have l_res := r_res.out.lt
      go_wp2_with fail
      refine bodyPost_ret (v := .agg #[.bool (sgn M1), .slice A_d n_d cap_d]) (by unfold results; simp only [Try.results94]; go_simp) rfl ?_
      rw [HE.out]
      exact ⟨_, rfl, BB.out, h_d.out⟩
end Go.Proofs.Ythoakbjnofhpbaa
