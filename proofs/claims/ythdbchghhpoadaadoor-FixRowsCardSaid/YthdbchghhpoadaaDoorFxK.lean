/- Contract of ref04's Dot. -/
import Derived.Test.YthdbchghhpoadaaDoorFxJ
import Derived.Test.YthdbchghhpoadaaDoorFxI
set_option linter.unusedVariables false
set_option linter.unusedSimpArgs false
namespace Go.Proofs.YthdbchghhpoadaaDoor
open Go.RowKit
theorem dot_wd {F : Nat → Int} (h : ∀ k, Wd 126 (F k)) : ∀ k, Wd (127 + k) (dotS F k)
  | 0 => by show Wd _ 0; unfold Wd; have := two_pos (127 + 0); omega
  | k + 1 => (dot_wd h k).add ((h k).up (by omega))
set_option maxRecDepth 100000 in
set_option maxHeartbeats 8000000 in
theorem r4dot (u v : Value) (xs zs : List Int) (w : World) (hu : IS w u xs) (hv : IS w v zs) (he : xs.length = zs.length) (hl : zs.length ≤ 64) : Calls Tryd.prog 18 #[u, v] w (GiveB (dotS (fun k => xs.getD k 0 * zs.getD k 0) zs.length / 65536) w) := by
  have HX : Hid (∀ k, I64 (xs.getD k 0)) := hu.i64
  have HZ : Hid (∀ k, I64 (zs.getD k 0)) := hv.i64
  have HA := Lib.hid (fun (hz : xs ≠ []) => hu.some hz)
  have HB := Lib.hid (fun (hz : zs ≠ []) => hv.some hz)
  obtain ⟨A, cap, rfl⟩ := hu.form
  obtain ⟨A2, cap2, rfl⟩ := hv.form
  rw [he] at HA ⊢
  have CA : Hid (∀ k, k < zs.length → ∃ b off cap', (.slice A zs.length cap : Value) = .slice (some ⟨b, off, none⟩) zs.length cap' ∧ b < w.heap.size ∧ w.cell? ⟨b, off + k, none⟩ = some (.int .i64 (xs.getD k 0))) := by
    intro k hk
    obtain ⟨b, off, cap', e, -, -, hb, hc⟩ := HA.out (by rintro rfl; simp at he; omega)
    exact ⟨b, off, cap', e, hb, hc k hk⟩
  have CB : Hid (∀ k, k < zs.length → ∃ b off cap', (.slice A2 zs.length cap2 : Value) = .slice (some ⟨b, off, none⟩) zs.length cap' ∧ b < w.heap.size ∧ w.cell? ⟨b, off + k, none⟩ = some (.int .i64 (zs.getD k 0))) := by
    intro k hk
    obtain ⟨b, off, cap', e, -, -, hb, hc⟩ := HB.out (by rintro rfl; simp at hk)
    exact ⟨b, off, cap', e, hb, hc k hk⟩
  obtain ⟨X, hX⟩ : ∃ X : Nat → Int, X = fun k => xs.getD k 0 := ⟨_, rfl⟩
  obtain ⟨Z, hZ⟩ : ∃ Z : Nat → Int, Z = fun k => zs.getD k 0 := ⟨_, rfl⟩
  have HX : Hid (∀ k, I64 (X k)) := by rw [hX]; exact HX.out
  have HZ : Hid (∀ k, I64 (Z k)) := by rw [hZ]; exact HZ.out
  have CA : Hid (∀ k, k < zs.length → ∃ b off cap', (.slice A zs.length cap : Value) = .slice (some ⟨b, off, none⟩) zs.length cap' ∧ b < w.heap.size ∧ w.cell? ⟨b, off + k, none⟩ = some (.int .i64 (X k))) := by rw [hX]; exact CA.out
  have CB : Hid (∀ k, k < zs.length → ∃ b off cap', (.slice A2 zs.length cap2 : Value) = .slice (some ⟨b, off, none⟩) zs.length cap' ∧ b < w.heap.size ∧ w.cell? ⟨b, off + k, none⟩ = some (.int .i64 (Z k))) := by rw [hZ]; exact CB.out
  rw [show (fun k => xs.getD k 0 * zs.getD k 0) = fun k => X k * Z k by rw [hX, hZ]]
  have hnl : Hid (zs.length ≤ 64) := hl
  clear hX hZ hu hv he hl HA HB
  generalize zs.length = n at *
  obtain ⟨S, hS⟩ : ∃ D : Nat → Int, D = dotS fun k => X k * Z k := ⟨_, rfl⟩
  have S0 : Hid (S 0 = 0) := by rw [hS]; rfl
  have SS : Hid (∀ k, S k + X k * Z k = S (k + 1)) := by rw [hS]; intro k; rfl
  have SW : Hid (∀ k, Wd (127 + k) (S k)) := by rw [hS]; exact dot_wd (fun k => (i64_wd (HX.out k)).mul (i64_wd (HZ.out k)))
  have CO := Lib.hid (fun w => of_any 0 (by unfold I64; omega) w)
  have CN := Lib.hid (fun (k : Nat) w => of_any (X k) (HX.out k) w)
  have CP := Lib.hid (fun (k : Nat) w => of_any (Z k) (HZ.out k) w)
  have CM := Lib.hid (fun (k : Nat) (u v : Value) w (hu : BR w u (X k)) (hv : BR w v (Z k)) => mul_any u v _ _ w hu hv ((i64_wd (HX.out k)).mid (by omega)) ((i64_wd (HZ.out k)).mid (by omega)))
  have CD : Hid (∀ (k : Nat), k ≤ 64 → ∀ (u v : Value) w, BR w u (S k) → BR w v (X k * Z k) → Calls Tryd.prog 13 #[u, v] w (GiveB (S k + X k * Z k) w)) := fun k hk u v w hu hv => add_any u v _ _ w hu hv ((SW.out k).mid (by omega)) (((i64_wd (HX.out k)).mul (i64_wd (HZ.out k))).mid (by omega))
  have CW := Lib.hid (fun w => pow_any 16 (by omega) w)
  rw [two16] at CW
  have CF : Hid (∀ (u v : Value) w, BR w u (S n) → BR w v 65536 → Calls Tryd.prog 43 #[u, v] w (GiveB (S n / 65536) w)) := by
    intro u v w hu hv
    rw [← Int.fdiv_eq_ediv_of_nonneg _ (show (0 : Int) ≤ 65536 by omega)]
    exact floor_any u v (S n) 65536 w hu hv ((SW.out n).mid (by have := hnl.out; omega)) ((show Wd 17 65536 by unfold Wd; decide).low (by omega)) (by omega)
  rw [← hS]
  clear hS
  go_enter Tryd.func18, Tryd.ntmps18
  go_wp2_with fail
  have BB := start1 w #[.bool false, .slice none 0 0] BT4
  obtain ⟨BB, hsz, r_res⟩ := BB
  generalize (w.alloc (.cells #[.bool false, .slice none 0 0] BT4)) = w0 at *
  replace BB := Lib.hid BB
  replace r_res := Lib.hid r_res
  clear hsz
  refine (CO.out _).mono ?_
  rintro e w1 ⟨v_s, rfl, hb, h_s⟩
  obtain ⟨A_s, n_s, cap_s, rfl, -⟩ := id h_s.form
  replace h_s := Lib.hid h_s
  replace r_res := Lib.hid (r_res.out.keep hb)
  replace BB := Lib.hid (below_next BB.out hb)
  clear hb
  go_upto_region 2 with fail
  have d_s := Lib.hid (And.intro BB.out.size (And.intro r_res.out.lt (True.intro)))
  obtain ⟨hb, r_s⟩ := laid w1 #[.bool (sgn 0), .slice A_s n_s cap_s] BT4
  replace r_res := Lib.hid (r_res.out.keep hb)
  replace h_s := Lib.hid (h_s.out.below hb)
  replace BB := Lib.hid (below_next BB.out hb)
  replace r_s := Lib.hid r_s
  clear hb
  generalize w1.alloc (.cells #[.bool (sgn 0), .slice A_s n_s cap_s] BT4) = w2 at *
  generalize w1.heap.size = g_s at *
  go_wp2_with fail
  go_loopw [6] (fun i wr => ∃ k A n' c, k ≤ n ∧ i = .int .i64 ((k : Nat) : Int) ∧ Hid (AtB wr g_s #[.bool (sgn (S k)), .slice A n' c] BT4 ∧ BR wr (.agg #[.bool (sgn (S k)), .slice A n' c]) (S k) ∧ AtB wr w.heap.size #[.bool false, .slice none 0 0] BT4 ∧ Below w.heap.size w wr)) (fun i _ => n - (intOf i).toNat)
  case atStart => exact ⟨0, A_s, n_s, cap_s, by omega, rfl, by rw [S0.out]; exact ⟨r_s.out, h_s.out, r_res.out, BB.out⟩⟩
  case round =>
    clear BB h_s r_s r_res CO S0
    obtain ⟨k, A_s, n_s, cap_s, hk, rfl, hinv⟩ := hrel
    obtain ⟨r_s, h_s, r_res, BB⟩ := hinv.out
    replace r_s := Lib.hid r_s; replace h_s := Lib.hid h_s; replace BB := Lib.hid BB; replace r_res := Lib.hid r_res
    clear hinv
    by_cases hlt : k < n
    · have k0 : (0 : Int) ≤ (k : Int) := by omega
      have k1 : (k : Int) < (n : Int) := by omega
      obtain ⟨b, off, cap', e, hb0, hcz⟩ := CA.out k hlt
      simp only [Value.slice.injEq] at e
      obtain ⟨rfl, -, rfl⟩ := e
      obtain ⟨b2, off2, cap3, e, hb2, hcz2⟩ := CB.out k hlt
      simp only [Value.slice.injEq] at e
      obtain ⟨rfl, -, rfl⟩ := e
      have CX := Lib.hid (fun w9 (h9 : Below w.heap.size w w9) => (h9.cell (p := ⟨b, off + k, none⟩) hb0).trans hcz)
      have CZ := Lib.hid (fun w9 (h9 : Below w.heap.size w w9) => (h9.cell (p := ⟨b2, off2 + k, none⟩) hb2).trans hcz2)
      have ew : IntKind.i64.wrap ((k : Int) + 1) = ((k + 1 : Nat) : Int) := by have := hnl.out; rw [show (k : Int) + 1 = ((k + 1 : Nat) : Int) by omega]; exact iw ⟨by omega, by omega⟩
      have D1 := Lib.hid (CN.out k)
      have D2 := Lib.hid (CP.out k)
      have D3 := Lib.hid (CM.out k)
      have D4 := Lib.hid (CD.out k (by have := hnl.out; omega))
      have HS1 : Hid (S (k + 1) = S k + X k * Z k) := (SS.out k).symm
      generalize S k + X k * Z k = t at *
      generalize X k * Z k = m at *
      generalize S k = a at *
      generalize X k = x at *
      generalize Z k = y at *
      have d_s' := d_s
      clear CA CB hcz hcz2 CN CP CM CD CF CW SS SW HX HZ
      go_wp2_with fail
      have KK := Lib.hid (fun (w9 : World) (h : Below wr.heap.size wr w9) => (⟨cells2 (r_s.out.keep h), CX.out _ (below_next BB.out h), CZ.out _ (below_next BB.out h)⟩ : (w9.cell? ⟨g_s, 0, none⟩ = some (.bool (sgn a)) ∧ w9.cell? ⟨g_s, 1, none⟩ = some (.slice A_s n_s cap_s)) ∧ (w9.cell? ⟨b, off + k, none⟩ = some (.int .i64 x)) ∧ (w9.cell? ⟨b2, off2 + k, none⟩ = some (.int .i64 y))))
      have K0 := KK.out wr (Below.refl _ _)
      have KD := KK.out wr.drew (below_drew (Below.refl _ _))
      have tok0 : Hid True := trivial
      have tok1 : Hid True := trivial
      refine AnyG.begin_ (fun w9 => (w9.cell? ⟨g_s, 0, none⟩ = some (.bool (sgn a)) ∧ w9.cell? ⟨g_s, 1, none⟩ = some (.slice A_s n_s cap_s)) ∧ (w9.cell? ⟨b, off + k, none⟩ = some (.int .i64 x)) ∧ (w9.cell? ⟨b2, off2 + k, none⟩ = some (.int .i64 y))) 13 (by kernel_rfl) ?_
      refine AnyG.take (i := 0) (v := ?_) rfl (by kernel_rfl) (by kernel_rfl) (by kernel_rfl) (fun _ _ _ h => h) (by kernel_rfl) (by kernel_rfl) (Or.inl ⟨by rfl, ?_⟩) (by assumption) ?_
      rotate_left
      · intro w9 hSw; (try dsimp only at hSw); go_simp <;> with_reducible rfl
      try simp only [Act.put, List.getElem_toArray, List.getElem_cons_zero, List.getElem_cons_succ, List.setIfInBounds_toArray, List.set_cons_zero, List.set_cons_succ]
      refine AnyG.take (i := 1) (v := ?_) rfl (by kernel_rfl) (by kernel_rfl) (by kernel_rfl) (fun _ _ _ h => h) (by kernel_rfl) (by kernel_rfl) (Or.inl ⟨by rfl, ?_⟩) (by assumption) ?_
      rotate_left
      · intro w9 hSw; (try dsimp only at hSw); go_simp <;> with_reducible rfl
      try simp only [Act.put, List.getElem_toArray, List.getElem_cons_zero, List.getElem_cons_succ, List.setIfInBounds_toArray, List.set_cons_zero, List.set_cons_succ]
      refine AnyG.take (i := 2) (v := ?_) rfl (by kernel_rfl) (by kernel_rfl) (by kernel_rfl) (fun _ _ _ h => h) (by kernel_rfl) (by kernel_rfl) (Or.inl ⟨by rfl, ?_⟩) (by assumption) ?_
      rotate_left
      · intro w9 hSw; (try dsimp only at hSw); go_simp <;> with_reducible rfl
      try simp only [Act.put, List.getElem_toArray, List.getElem_cons_zero, List.getElem_cons_succ, List.setIfInBounds_toArray, List.set_cons_zero, List.set_cons_succ]
      refine AnyG.take (i := 3) (v := ?_) rfl (by kernel_rfl) (by kernel_rfl) (by kernel_rfl) (fun _ _ _ h => h) (by kernel_rfl) (by kernel_rfl) (Or.inl ⟨by rfl, ?_⟩) (by assumption) ?_
      rotate_left
      · intro w9 hSw; (try dsimp only at hSw); go_simp <;> with_reducible rfl
      try simp only [Act.put, List.getElem_toArray, List.getElem_cons_zero, List.getElem_cons_succ, List.setIfInBounds_toArray, List.set_cons_zero, List.set_cons_succ]
      refine AnyG.take (i := 4) (v := ?_) rfl (by kernel_rfl) (by kernel_rfl) (by kernel_rfl) (fun _ _ _ h => h) (by kernel_rfl) (by kernel_rfl) (Or.inl ⟨by rfl, ?_⟩) (by assumption) ?_
      rotate_left
      · intro w9 hSw; (try dsimp only at hSw); go_simp <;> with_reducible rfl
      try simp only [Act.put, List.getElem_toArray, List.getElem_cons_zero, List.getElem_cons_succ, List.setIfInBounds_toArray, List.set_cons_zero, List.set_cons_succ]
      refine AnyG.take (i := 6) (v := ?_) rfl (by kernel_rfl) (by kernel_rfl) (by kernel_rfl) (fun _ _ _ h => h) (by kernel_rfl) (by kernel_rfl) (Or.inl ⟨by rfl, ?_⟩) (by assumption) ?_
      rotate_left
      · intro w9 hSw; (try dsimp only at hSw); go_simp <;> with_reducible rfl
      try simp only [Act.put, List.getElem_toArray, List.getElem_cons_zero, List.getElem_cons_succ, List.setIfInBounds_toArray, List.set_cons_zero, List.set_cons_succ]
      refine AnyG.take (i := 7) (v := ?_) rfl (by kernel_rfl) (by kernel_rfl) (by kernel_rfl) (fun _ _ _ h => h) (by kernel_rfl) (by kernel_rfl) (Or.inl ⟨by rfl, ?_⟩) (by assumption) ?_
      rotate_left
      · intro w9 hSw; (try dsimp only at hSw); go_simp <;> with_reducible rfl
      try simp only [Act.put, List.getElem_toArray, List.getElem_cons_zero, List.getElem_cons_succ, List.setIfInBounds_toArray, List.set_cons_zero, List.set_cons_succ]
      refine AnyG.take (i := 8) (v := ?_) rfl (by kernel_rfl) (by kernel_rfl) (by kernel_rfl) (fun _ _ _ h => h) (by kernel_rfl) (by kernel_rfl) (Or.inl ⟨by rfl, ?_⟩) (by assumption) ?_
      rotate_left
      · intro w9 hSw; (try dsimp only at hSw); go_simp <;> with_reducible rfl
      try simp only [Act.put, List.getElem_toArray, List.getElem_cons_zero, List.getElem_cons_succ, List.setIfInBounds_toArray, List.set_cons_zero, List.set_cons_succ]
      refine AnyG.take (i := 9) (v := ?_) rfl (by kernel_rfl) (by kernel_rfl) (by kernel_rfl) (fun _ _ _ h => h) (by kernel_rfl) (by kernel_rfl) (Or.inl ⟨by rfl, ?_⟩) (by assumption) ?_
      rotate_left
      · intro w9 hSw; (try dsimp only at hSw); go_simp <;> with_reducible rfl
      try simp only [Act.put, List.getElem_toArray, List.getElem_cons_zero, List.getElem_cons_succ, List.setIfInBounds_toArray, List.set_cons_zero, List.set_cons_succ]
      refine AnyG.step (i := 5) (by kernel_rfl) rfl (fun K hK => ?_)
      go_simp
      go_at_call 6
      have t_k := tok0
      refine (D1.out _).mono ?_
      rintro e w3 ⟨v_p, rfl, hb, h_p⟩
      obtain ⟨A_p, n_p, cap_p, rfl, -⟩ := id h_p.form
      replace h_p := Lib.hid h_p
      have B_w3 := Lib.hid (reg_next (w0 := wr) (by repeat (first | with_reducible exact Below.refl _ _ | with_reducible apply below_drew | with_reducible apply below_new)) hb)
      have K_w3 := KK.out _ B_w3.out
      clear hb
      clear t_k tok0
      refine hK.out _ _ (fun _ => K_w3) (fun hHeld => ?_)
      replace hHeld := hHeld (by decide)
      clear hK
      try simp only [Act.put, List.getElem_toArray, List.getElem_cons_zero, List.getElem_cons_succ, List.setIfInBounds_toArray, List.set_cons_zero, List.set_cons_succ]
      refine AnyG.step (i := 10) (by kernel_rfl) rfl (fun K hK => ?_)
      go_simp
      go_at_call 6
      have t_k := tok1
      refine (D2.out _).mono ?_
      rintro e w4 ⟨v_q, rfl, hb, h_q⟩
      obtain ⟨A_q, n_q, cap_q, rfl, -⟩ := id h_q.form
      replace h_q := Lib.hid h_q
      replace h_p := Lib.hid (h_p.out.below hb)
      have B_w4 := Lib.hid (below_next B_w3.out hb)
      have K_w4 := KK.out _ B_w4.out
      clear hb
      clear t_k tok1
      refine hK.out _ _ (fun _ => K_w4) (fun hHeld => ?_)
      replace hHeld := hHeld (by decide)
      clear hK
      try simp only [Act.put, List.getElem_toArray, List.getElem_cons_zero, List.getElem_cons_succ, List.setIfInBounds_toArray, List.set_cons_zero, List.set_cons_succ]
      refine AnyG.step (i := 11) (by kernel_rfl) rfl (fun K hK => ?_)
      go_simp
      go_at_call 34
      refine (D3.out _ _ _ h_p.out h_q.out).mono ?_
      rintro e w5 ⟨v_e, rfl, hb, h_e⟩
      obtain ⟨A_e, n_e, cap_e, rfl, -⟩ := id h_e.form
      replace h_e := Lib.hid h_e
      replace h_p := Lib.hid (h_p.out.below hb)
      replace h_q := Lib.hid (h_q.out.below hb)
      have B_w5 := Lib.hid (below_next B_w4.out hb)
      have K_w5 := KK.out _ B_w5.out
      clear hb
      refine hK.out _ _ (fun _ => K_w5) (fun hHeld => ?_)
      replace hHeld := hHeld (by decide)
      clear hK
      try simp only [Act.put, List.getElem_toArray, List.getElem_cons_zero, List.getElem_cons_succ, List.setIfInBounds_toArray, List.set_cons_zero, List.set_cons_succ]
      refine AnyG.step (i := 12) (by kernel_rfl) rfl (fun K hK => ?_)
      go_simp
      go_at_call 13
      refine (D4.out _ _ _ (h_s.out.below B_w5.out) h_e.out).mono ?_
      rintro e w6 ⟨v_t, rfl, hb, h_t⟩
      obtain ⟨A_t, n_t, cap_t, rfl, -⟩ := id h_t.form
      replace h_t := Lib.hid h_t
      replace h_p := Lib.hid (h_p.out.below hb)
      replace h_q := Lib.hid (h_q.out.below hb)
      replace h_e := Lib.hid (h_e.out.below hb)
      have B_w6 := Lib.hid (below_next B_w5.out hb)
      have K_w6 := KK.out _ B_w6.out
      obtain ⟨rc_s0, rc_s1, rf_s0, rf_s1⟩ := reads2 (r_s.out.keep B_w6.out)
      have rl_s := (r_s.out.keep B_w6.out).lt
      clear hb
      refine hK.out _ _ (fun _ => K_w6) (fun hHeld => ?_)
      replace hHeld := hHeld (by decide)
      clear hK
      try simp only [Act.put, List.getElem_toArray, List.getElem_cons_zero, List.getElem_cons_succ, List.setIfInBounds_toArray, List.set_cons_zero, List.set_cons_succ]
      refine AnyG.step (i := 13) (by kernel_rfl) rfl (fun K hK => ?_)
      go_simp
      refine hK.out _ _ (fun h => absurd h (by decide)) (fun _ => ?_)
      clear hK
      try simp only [Act.put, List.getElem_toArray, List.getElem_cons_zero, List.getElem_cons_succ, List.setIfInBounds_toArray, List.set_cons_zero, List.set_cons_succ]
      refine AnyG.done (by kernel_rfl) ?_ _
      clear KK K0 KD K_w3 K_w4 K_w5 K_w6
      replace r_res := Lib.hid (r_res.out.keep B_w6.out)
      replace r_s := Lib.hid (r_s.out.keep B_w6.out)
      replace h_s := Lib.hid (h_s.out.below B_w6.out)
      replace BB := Lib.hid (below_next BB.out B_w6.out)
      clear B_w3 B_w4 B_w5 B_w6
      replace h_t := Lib.hid (h_t.out.far2 r_s.out (by decide) (.bool (sgn t)) (.slice A_t n_t cap_t))
      replace r_res := Lib.hid (r_res.out.far2 (p := g_s) (by have dd_s := d_s.out; omega) (.bool (sgn t)) (.slice A_t n_t cap_t))
      replace r_s := Lib.hid (r_s.out.set2 (.bool (sgn t)) (.slice A_t n_t cap_t))
      replace BB := Lib.hid (below_far2 BB.out (p := g_s) (by have dd := d_s.out; omega) (.bool (sgn t)) (.slice A_t n_t cap_t))
      generalize ((w6.setCell ⟨g_s, 0, none⟩ (.bool (sgn t))).setCell ⟨g_s, 1, none⟩ (.slice A_t n_t cap_t)) = w7 at *
      go_wp2_with fail
      go_roundw
      case rel => exact ⟨k + 1, A_t, n_t, cap_t, by omega, by go_num, by rw [HS1.out]; exact ⟨r_s.out, h_t.out, r_res.out, BB.out⟩⟩
      case measure => simp [intOf, ew]; omega
    · obtain rfl : k = n := by omega
      have hQ : Hid (∃ Q, Q = S k / 65536) := ⟨_, rfl⟩
      obtain ⟨Q, hq⟩ := hQ.out
      rw [← hq] at CF
      have HQ : Hid (S k / 65536 = Q) := hq.symm
      obtain ⟨a, ha⟩ : ∃ a, a = S k := ⟨_, rfl⟩
      rw [← ha] at r_s h_s CF
      clear hq hQ ha CN CP CM CD SS SW HX HZ CA CB
      go_wp2_with fail
      have KK := Lib.hid (fun (w9 : World) (h : Below wr.heap.size wr w9) => (cells2 (r_s.out.keep h) : (w9.cell? ⟨g_s, 0, none⟩ = some (.bool (sgn a)) ∧ w9.cell? ⟨g_s, 1, none⟩ = some (.slice A_s n_s cap_s))))
      have K0 := KK.out wr (Below.refl _ _)
      have KD := KK.out wr.drew (below_drew (Below.refl _ _))
      go_region_held3 (fun w9 => (w9.cell? ⟨g_s, 0, none⟩ = some (.bool (sgn a)) ∧ w9.cell? ⟨g_s, 1, none⟩ = some (.slice A_s n_s cap_s)))
          (first | with_reducible exact KD | with_reducible exact K0 | with_reducible exact K_w8 | with_reducible exact K_w10 | with_reducible exact cells2 ((r_s.out.keep B_w10.out).far2 (by have dd_s := d_s.out; omega) _ _))
          (first
            | (go_at_call 35
               refine (CW.out _).mono ?_
               rintro e w8 ⟨v_p, rfl, hb, h_p⟩
               obtain ⟨A_p, n_p, cap_p, rfl, -⟩ := id h_p.form
               replace h_p := Lib.hid h_p
               have B_w8 := Lib.hid (reg_next (w0 := wr) (by repeat (first | with_reducible exact Below.refl _ _ | with_reducible apply below_drew | with_reducible apply below_new)) hb)
               have K_w8 := KK.out _ B_w8.out
               clear hb)
            | (go_at_call 43
               refine (CF.out _ _ _ (h_s.out.below B_w8.out) h_p.out).mono ?_
               rintro e w10 ⟨v_q, rfl, hb, h_q⟩
               obtain ⟨A_q, n_q, cap_q, rfl, -⟩ := id h_q.form
               replace h_q := Lib.hid h_q
               replace h_p := Lib.hid (h_p.out.below hb)
               have B_w10 := Lib.hid (below_next B_w8.out hb)
               have K_w10 := KK.out _ B_w10.out
               obtain ⟨rc_res0, rc_res1, rf_res0, rf_res1⟩ := reads2 (r_res.out.keep B_w10.out)
               have rl_res := (r_res.out.keep B_w10.out).lt
               clear hb))
      clear KK K0 KD K_w8 K_w10
      replace r_res := Lib.hid (r_res.out.keep B_w10.out)
      replace r_s := Lib.hid (r_s.out.keep B_w10.out)
      replace h_s := Lib.hid (h_s.out.below B_w10.out)
      replace BB := Lib.hid (below_next BB.out B_w10.out)
      clear B_w8 B_w10
      replace h_q := Lib.hid (h_q.out.far2 r_res.out (by decide) (.bool (sgn Q)) (.slice A_q n_q cap_q))
      replace r_res := Lib.hid (r_res.out.set2 (.bool (sgn Q)) (.slice A_q n_q cap_q))
      replace r_s := Lib.hid (r_s.out.far2 (p := w.heap.size) (by have dd_s := d_s.out; omega) (.bool (sgn Q)) (.slice A_q n_q cap_q))
      replace BB := Lib.hid (below_far2 BB.out (p := w.heap.size) (by omega) (.bool (sgn Q)) (.slice A_q n_q cap_q))
      generalize ((w10.setCell ⟨w.heap.size, 0, none⟩ (.bool (sgn Q))).setCell ⟨w.heap.size, 1, none⟩ (.slice A_q n_q cap_q)) = w11 at *
      obtain ⟨c_res0, c_res1, f_res0, f_res1⟩ := reads2 r_res.out
      have l_res := r_res.out.lt
      go_wp2_with fail
      refine bodyPost_ret (v := .agg #[.bool (sgn Q), .slice A_q n_q cap_q]) (by unfold results; simp only [Tryd.results18]; go_simp) rfl ?_
      rw [HQ.out]
      exact ⟨_, rfl, BB.out, h_q.out⟩
end Go.Proofs.YthdbchghhpoadaaDoor
