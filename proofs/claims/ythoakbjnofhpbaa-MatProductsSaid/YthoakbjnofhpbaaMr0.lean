/- Contracts of ref05.Of, Right, minor. -/
import Derived.Test.YthoakbjnofhpbaaBl
import Derived.Test.YthoakbjnofhpbaaMt0
set_option linter.unusedVariables false
set_option linter.unusedSimpArgs false
namespace Go.Proofs.Ythoakbjnofhpbaa
open Go.RowKit
theorem BLp.below {w w1 : World} {base : Nat} {v : Value} {L : List (Int × Value)} (h : BLp w base v L) (hb : Below w.heap.size w w1) : BLp w1 base v L := ⟨own_keep2 h.1 hb, fun p hp => (h.2 p hp).below hb⟩
set_option maxRecDepth 100000 in
set_option maxHeartbeats 8000000 in
theorem r5of (v : Value) (zs : List Int) (w : World) (hv : IS w v zs) (hl : zs.length ≤ 1000) : Calls Try.prog 37 #[v] w fun e w' => ∃ r, e = .returned r ∧ Below w.heap.size w w' ∧ BL w' w.heap.size r zs := by
  obtain ⟨A, cap, rfl⟩ := hv.form
  obtain ⟨i0, hi0, hz0, hz1, hz2⟩ := info_parts info_big
  replace hv := Lib.hid hv
  go_enter Try.func37, Try.ntmps37
  go_wp2_with fail
  have BB : Hid (Below w.heap.size w w) := Below.refl _ _
  go_loopw [3, 4] (fun v i wr => ∃ L : List (Int × Value), L.length ≤ zs.length ∧ i = .int .i64 L.length ∧ Hid (L.map Prod.fst = zs.take L.length ∧ BLp wr w.heap.size v L ∧ Below w.heap.size w wr)) (fun _ i _ => zs.length - (intOf i).toNat)
  case atStart => exact ⟨[], by simp, rfl, ⟨rfl, ⟨World.ownsRow_nil _ _ _ _, fun p hp => by cases hp⟩, BB.out⟩⟩
  case round =>
    clear BB
    obtain ⟨L, hL, rfl, hinv⟩ := hrel
    obtain ⟨hm, HO, BB⟩ := hinv.out
    replace hm := Lib.hid hm; replace HO := Lib.hid HO; replace BB := Lib.hid BB
    clear hinv
    obtain ⟨k, hk⟩ : ∃ k, L.length = k := ⟨_, rfl⟩
    rw [hk] at hL ⊢
    by_cases hlt : k < zs.length
    · have k0 : (0 : Int) ≤ (k : Int) := by omega
      have k1 : (k : Int) < (zs.length : Int) := by omega
      obtain ⟨b, off, cap', e, h1, h2, h3, h4⟩ := (hv.out.below BB.out).some (by intro e; rw [e] at hlt; simp at hlt)
      simp only [Value.slice.injEq] at e
      obtain ⟨rfl, -, rfl⟩ := e
      have cz := h4 k hlt
      have iz := hv.out.ints k
      have CO := Lib.hid (fun w => of_any (zs.getD k 0) iz w)
      have HT : Hid (zs.take k ++ [zs.getD k 0] = zs.take (k + 1)) := by
        show _ = _
        rw [List.take_add_one]; simp [List.getD, hlt]
      replace hk := Lib.hid hk
      generalize zs.getD k 0 = z at *
      clear iz h1 h2 h4
      go_wp2_with fail
      refine (CO.out _).mono ?_
      rintro e w1 ⟨v_x, rfl, hb, h_x⟩
      obtain ⟨A_x, n_x, cap_x, rfl, -⟩ := id h_x.form
      replace h_x := Lib.hid h_x
      replace HO := Lib.hid (BLp.below HO.out hb)
      replace BB := Lib.hid (below_next BB.out hb)
      clear hb
      have hle : L.length ≤ 1000 := by have := hk.out; omega
      have hws : w.heap.size ≤ w1.heap.size := BB.out.size
      go_wp2_with (first | (at_builtin; refine wpList_append_own _ rfl (.tmp 11) (.tmp 17) LBT rfl w.heap.size BT i0 (.agg #[.bool false, .slice none 0 0]) 2 32 Try.underlying70 hi0 hz0 hz1 hz2 rfl (by decide) _ _ _ rfl (HO.out.1.alloc _) ⟨w1.heap.size, 0, none⟩ 1 1 [.bool (sgn z), .slice A_x n_x cap_x] rfl rfl (two_new _ _ _ _) (two_cell _ _ _ _) (by unfold maxLen; omega) (by omega) (by simp; omega) ?_))
      intro v' w8 hown' hgrow _
      have HB1 := Lib.hid (below_app BB.out HO.out.1 hgrow)
      have HO1 := Lib.hid (HO.out.app h_x.out hown' hgrow)
      clear hown' hgrow
      have HM : Hid ((L ++ [(z, Value.slice A_x n_x cap_x)]).map Prod.fst = zs.take (L ++ [(z, Value.slice A_x n_x cap_x)]).length) := by
        show _ = _
        rw [List.map_append, hm.out, List.length_append, List.length_singleton, hk.out, ← HT.out]; rfl
      go_wp2_with fail
      go_roundw
      case rel => exact ⟨L ++ [(z, .slice A_x n_x cap_x)], by simp; have := hk.out; omega, by simp only [List.length_append, List.length_singleton, hk.out]; go_num, ⟨HM.out, HO1.out, HB1.out⟩⟩
      case measure => simp [intOf]; omega
    · obtain rfl : k = zs.length := by omega
      go_wp2_with fail
      go_ret
      refine ⟨_, rfl, BB.out, L, ?_, HO.out⟩
      rw [hm.out, hk]; exact List.take_of_length_le (Nat.le_refl _)
set_option maxRecDepth 100000 in
set_option maxHeartbeats 4000000 in
theorem r5right (v : Value) (zs : List Int) (w : World) (hv : IS w v zs) : Calls Try.prog 32 #[v] w fun e w' => e = .returned (.bool (!(zs.any farM))) ∧ w = w' := by
  have hl := hv.len
  by_cases hz : zs = []
  · subst hz
    obtain ⟨A, cap, rfl⟩ := hv.form
    clear hv
    go_enter Try.func32, Try.ntmps32
    go_wp2
    go_loop [3] (fun i => i = .int .i64 0) (fun _ => 0)
    case atStart => exact rfl
    case round =>
      obtain rfl := hrel
      go_wp2
      go_ret
      exact ⟨rfl, rfl⟩
  · obtain ⟨b, off, cap, rfl, h1, h2, hlt, hc⟩ := hv.some hz
    have HC := Lib.hid hc
    have HS := Lib.hid (fun k (hk : k < zs.length) => any_step (p := farM) hk)
    have HF : Hid (∀ k, farM (zs.getD k 0) = true → k < zs.length → zs.any farM = true) := fun k hk hkl => by
      rw [List.any_eq_true]
      exact ⟨zs[k], List.getElem_mem hkl, by have e : zs.getD k 0 = zs[k] := by simp [List.getD, hkl]
                                             rw [← e]; exact hk⟩
    clear hv hc
    generalize hn : zs.length = n at *
    have HN := Lib.hid hn
    clear hn
    go_enter Try.func32, Try.ntmps32
    go_wp2
    go_loop [3] (fun i => ∃ k : Nat, k ≤ n ∧ i = .int .i64 k ∧ Hid ((zs.take k).any farM = false)) (fun i => n - (intOf i).toNat)
    case atStart => exact ⟨0, by omega, rfl, rfl⟩
    case round =>
      obtain ⟨k, hk, rfl, hI⟩ := hrel
      by_cases hkn : k < n
      · have hcell := HC.out k hkn
        have hstep := HS.out k hkn
        have hall := HF.out k
        rw [hI.out, Bool.false_or] at hstep
        have k0 : (0 : Int) ≤ (k : Int) := by omega
        have k1 : (k : Int) < (n : Int) := by omega
        clear HS HC hI HF
        generalize zs.getD k 0 = z at *
        by_cases hz1 : z < -2147483648
        · have hA : Hid (zs.any farM = true) := hall (farM_t (.inl hz1)) hkn
          clear hall hstep
          go_wp2_with fail
          go_ret
          exact ⟨ret_bool (by rw [hA.out]; rfl), rfl⟩
        · by_cases hz2 : 2147483648 < z
          · have hA : Hid (zs.any farM = true) := hall (farM_t (.inr hz2)) hkn
            clear hall hstep
            go_wp2_with fail
            go_ret
            exact ⟨ret_bool (by rw [hA.out]; rfl), rfl⟩
          · rw [farM_f (by omega)] at hstep
            replace hstep := Lib.hid hstep
            clear hall
            go_wp2_with fail
            go_round
            case rel => exact ⟨k + 1, by omega, by go_num, hstep.out⟩
            case measure => simp [intOf]; omega
      · have : k = n := by omega
        subst this
        have hA : Hid (zs.any farM = false) := by
          have := hI.out
          rw [List.take_of_length_le (by rw [HN.out]; omega)] at this
          exact this
        clear HS HC hI HF
        go_wp2_with fail
        go_ret
        exact ⟨ret_bool (by rw [hA.out]; rfl), rfl⟩
/-- What is left of a matrix without a row and a column, the first k numbers of it. -/
def pk (zs : List Int) (r c k : Nat) : List Int := ((List.range k).filter (fun i => decide (i / 3 ≠ r) && decide (i % 3 ≠ c))).map (fun i => zs.getD i 0)
theorem pk_step_t {zs : List Int} {r c k : Nat} (h1 : k / 3 ≠ r) (h2 : k % 3 ≠ c) : pk zs r c (k + 1) = pk zs r c k ++ [zs.getD k 0] := by
  unfold pk
  rw [List.range_succ, List.filter_append, List.map_append]
  simp [h1, h2]
theorem pk_step_f {zs : List Int} {r c k : Nat} (h : k / 3 = r ∨ k % 3 = c) : pk zs r c (k + 1) = pk zs r c k := by
  unfold pk
  rw [List.range_succ, List.filter_append, List.map_append]
  rcases h with h | h <;> simp [h]
def minI (zs : List Int) (r c : Nat) : Int := (pk zs r c 9).getD 0 0 * (pk zs r c 9).getD 3 0 - (pk zs r c 9).getD 1 0 * (pk zs r c 9).getD 2 0
theorem pk_len {zs : List Int} {r c : Nat} (hr : r < 3) (hc : c < 3) : (pk zs r c 9).length = 4 := by
  unfold pk
  rw [List.length_map]
  have : r = 0 ∨ r = 1 ∨ r = 2 := by omega
  have : c = 0 ∨ c = 1 ∨ c = 2 := by omega
  rcases ‹r = 0 ∨ r = 1 ∨ r = 2› with rfl | rfl | rfl <;> rcases ‹c = 0 ∨ c = 1 ∨ c = 2› with rfl | rfl | rfl <;> rfl
theorem pk_wd {zs : List Int} {n : Nat} (h : ∀ z ∈ zs, Wd n z) (r c k i : Nat) : Wd n ((pk zs r c k).getD i 0) := by
  have h0 : Wd n 0 := by unfold Wd; have := two_pos n; omega
  have hg : ∀ j, Wd n (zs.getD j 0) := fun j => by
    by_cases hj : j < zs.length
    · have e : zs.getD j 0 = zs[j] := by simp [List.getD, hj]
      rw [e]; exact h _ (List.getElem_mem hj)
    · rw [List.getD_eq_getElem?_getD, List.getElem?_eq_none (by omega)]; exact h0
  by_cases hi : i < (pk zs r c k).length
  · have e : (pk zs r c k).getD i 0 = (pk zs r c k)[i] := by simp [List.getD, hi]
    rw [e]
    have hm := List.getElem_mem hi
    unfold pk at hm
    obtain ⟨j, -, hj⟩ := List.mem_map.1 hm
    have : (pk zs r c k)[i] = zs.getD j 0 := by unfold pk; exact hj.symm
    rw [this]; exact hg j
  · rw [List.getD_eq_getElem?_getD, List.getElem?_eq_none (by omega)]; exact h0
end Go.Proofs.Ythoakbjnofhpbaa
