/- The walk of the document's 'sum': digits added. -/
import Derived.Test.YtommpclkiiffpaaBig1
set_option linter.unusedVariables false
namespace Go.Proofs.Ytommpclkiiffpaa
open Go.RowKit

theorem info_int : (Try.prog.info? 3).map (fun i => (i.zero, i.size, i.bytes)) = some (some (.int .i64 0), 1, 8) := by kernel_rfl

theorem sum_step {a b os : List Int} {k : Nat} {c : Int} (hl : os.length = k) (h : bval os + P2 k * c = bval (a.take k) + bval (b.take k)) :
    bval (os ++ [(a.getD k 0 + b.getD k 0 + c) % 32768]) + P2 (k + 1) * ((a.getD k 0 + b.getD k 0 + c) / 32768) = bval (a.take (k + 1)) + bval (b.take (k + 1)) := by
  rw [bval_snoc, take_succ_val, take_succ_val, hl, P2_succ]
  have e := Int.mul_ediv_add_emod (a.getD k 0 + b.getD k 0 + c) 32768
  generalize (a.getD k 0 + b.getD k 0 + c) % 32768 = q at *
  generalize (a.getD k 0 + b.getD k 0 + c) / 32768 = r at *
  grind

theorem one_new (w : World) (x : Value) (t : TypeId) : ∀ j u, [x][j]? = some u → (w.alloc (.cells #[x] t)).cell? ((⟨w.heap.size, 0, none⟩ : Addr).add j) = some u := by
  intro j u hj
  match j, hj with
  | 0, hj => simp at hj; subst hj; simp [Addr.add]
theorem one_cell (k : IntKind) (x : Int) : ∀ u ∈ [Value.int k x], u.oneCell' = true := by
  intro u hu; simp at hu; subst hu; rfl

theorem own_one {w1 : World} {base : Nat} {v1 : Value} {os : List Int} {x : Int} (h : w1.ownsRow base 3 1 v1 (os.length + 1) (os.map (Value.int .i64) ++ [.int .i64 x])) :
    w1.ownsRow base 3 1 v1 (os ++ [x]).length ((os ++ [x]).map (Value.int .i64)) := by
  simpa using h

theorem own_block_ge {w : World} {base : Nat} {e : TypeId} {sz n : Nat} {v : Value} {xs : List Value} (h : w.ownsRow base e sz v n xs) : ∀ k, v.ownBlock = some k → base ≤ k := by
  intro k hk
  rcases h.2 with ⟨rfl, _⟩ | ⟨g, cap, cur, rfl, hg, _⟩
  · simp [Value.ownBlock] at hk
  · simp [Value.ownBlock] at hk; omega

/-- An append onto a row of the call's own, behind the block that holds what is appended. -/
theorem below_app {w wr w1 : World} {o : Obj} {e : TypeId} {sz n : Nat} {v : Value} {xs : List Value} (hb : Below w.heap.size w wr) (hown : wr.ownsRow w.heap.size e sz v n xs) (hg : (wr.alloc o).grownBy w1 v.ownBlock) : Below w.heap.size w w1 :=
  (below_new hb o).grown hg (below_new hb o).size (own_block_ge hown)

theorem trim_give {s : Value} {ds : List Int} {x : Int} {w w1 : World} (hb : Below w.heap.size w w1) (h : DR w1 s ds) (hd : Dig ds) (hl : ds.length ≤ 4611686018427387904) (hx : bval ds = x) :
    Calls Try.prog 87 #[s] w1 (GiveN x w) := by
  refine (trim_any s ds w1 h hd hl).mono ?_
  rintro e w' ⟨r, rfl, rfl, hr⟩
  exact ⟨r, rfl, hb, hx ▸ hr⟩

set_option maxRecDepth 100000 in
theorem sum_any (s t : Value) (x y : Int) (w : World) (hs : NR w s x) (ht : NR w t y) (hx : x < HUGE) (hy : y < HUGE) :
    Calls Try.prog 84 #[s, t] w (GiveN (x + y) w) := by
  obtain ⟨a, ha, ca, rfl⟩ := hs
  obtain ⟨b, hb, cb, rfl⟩ := ht
  have la := huge_len ca hx
  have lb := huge_len cb hy
  have DA := Lib.hid (fun i wr (hw : Below w.heap.size w wr) => digit_any s a i wr (ha.below hw) (by omega))
  have DB := Lib.hid (fun i wr (hw : Below w.heap.size w wr) => digit_any t b i wr (hb.below hw) (by omega))
  obtain ⟨A, capa, rfl⟩ := ha.form
  obtain ⟨B, capb, rfl⟩ := hb.form
  clear ha hb hx hy
  obtain ⟨m, hm, hma, hmb⟩ : ∃ m : Nat, ((a.length : Int) < b.length ∧ m = b.length ∨ (b.length : Int) ≤ a.length ∧ m = a.length) ∧ a.length ≤ m ∧ b.length ≤ m := by
    by_cases h : (a.length : Int) < b.length
    · exact ⟨b.length, .inl ⟨h, rfl⟩, by omega, Nat.le_refl _⟩
    · exact ⟨a.length, .inr ⟨by omega, rfl⟩, Nat.le_refl _, by omega⟩
  have hE : Hid (a.take m = a ∧ b.take m = b) := ⟨List.take_of_length_le hma, List.take_of_length_le hmb⟩
  obtain ⟨i0, hi, hz0, hz1, hz2⟩ := info_parts info_int
  rcases hm with ⟨hle, rfl⟩ | ⟨hle, rfl⟩
  · go_enter Try.func84, Try.ntmps84
    go_wp2
    go_loopw [5, 6, 7] (fun v cy i wr => ∃ (k : Nat) (c : Int) (os : List Int), k ≤ b.length ∧ i = .int .i64 k ∧ cy = .int .i64 c ∧ 0 ≤ c ∧ c ≤ 1 ∧ wr.ownsRow w.heap.size 3 1 v os.length (os.map (Value.int .i64)) ∧
        Hid (os.length = k ∧ Dig os ∧ bval os + P2 k * c = bval (a.take k) + bval (b.take k)) ∧ Below w.heap.size w wr) (fun _ _ i _ => 2001 - (intOf i).toNat)
    case atStart => exact ⟨0, 0, [], by omega, rfl, rfl, by omega, by omega, World.ownsRow_nil _ _ _ _, ⟨rfl, Dig.nil, by simp [bval]⟩, Below.refl _ _⟩
    case round =>
      obtain ⟨k, c, os, hk, rfl, rfl, c0, c1, hown, hinv, hbel⟩ := hrel
      have HO := Lib.hid hown
      clear hown
      by_cases hlt : (k : Int) < b.length
      · have HA := DA.out (k : Int) wr hbel
        have HB := DB.out (k : Int) wr hbel
        rw [dg_nat] at HA HB
        have dA := ca.1.at k
        have dB := cb.1.at k
        have HS := Lib.hid (sum_step (a := a) (b := b) hinv.out.1 hinv.out.2.2)
        generalize a.getD k 0 = u at HA HS dA
        generalize b.getD k 0 = v at HB HS dB
        obtain ⟨dA0, dA1⟩ := dA
        obtain ⟨dB0, dB1⟩ := dB
        have HA := Lib.hid HA
        have HB := Lib.hid HB
        have hos : os.length ≤ 2001 := by have := hinv.out.1; omega
        have hns : w.heap.size ≤ wr.heap.size := hbel.size
        go_wp2_with fail
        refine HA.out.mono ?_; rintro e w' ⟨rfl, rfl⟩
        go_wp2_with fail
        refine HB.out.mono ?_; rintro e w' ⟨rfl, rfl⟩
        go_wp2_with (first | (at_builtin; refine wpList_append_own _ rfl (.tmp 27) (.tmp 30) 35 rfl w.heap.size 3 i0 (.int .i64 0) 1 8 Try.underlying35 hi hz0 hz1 hz2 rfl (by decide) _ _ _ rfl (HO.out.alloc _) ⟨wr.heap.size, 0, none⟩ 1 1 [.int .i64 ((u + v + c) % 32768)] rfl rfl (one_new _ _ _) (one_cell _ _) (by unfold maxLen; omega) (by omega) (by simp; omega) ?_))
        intro v' w1 hown' hgrow _
        have HB1 := Lib.hid (below_app hbel HO.out hgrow)
        have HO1 := Lib.hid (own_one hown')
        clear hown' hgrow
        go_wp2_with fail
        go_roundw
        case rel =>
          have hd := hinv.out
          refine ⟨k + 1, (u + v + c) / 32768, os ++ [(u + v + c) % 32768], by omega, by go_num, by first | rfl | go_num, by omega, by omega, HO1.out, ⟨by simp; omega, hd.2.1.snoc ⟨by omega, by omega⟩, HS.out⟩, HB1.out⟩
        case measure => simp [intOf]; omega
      · obtain rfl : k = b.length := by omega
        have hos : os.length ≤ 2001 := by have := hinv.out.1; omega
        have hns : w.heap.size ≤ wr.heap.size := hbel.size
        go_wp2_with (first | (at_builtin; refine wpList_append_own _ rfl (.tmp 34) (.tmp 36) 35 rfl w.heap.size 3 i0 (.int .i64 0) 1 8 Try.underlying35 hi hz0 hz1 hz2 rfl (by decide) _ _ _ rfl (HO.out.alloc _) ⟨wr.heap.size, 0, none⟩ 1 1 [.int .i64 c] rfl rfl (one_new _ _ _) (one_cell _ _) (by unfold maxLen; omega) (by omega) (by simp; omega) ?_))
        intro v' w1 hown' hgrow _
        have HB1 := Lib.hid (below_app hbel HO.out hgrow)
        have HO1 := Lib.hid (own_one hown')
        have hd := Lib.hid hinv.out
        clear hown' hgrow
        have HF : Hid (bval (os ++ [c]) = bval a + bval b) := by
          show _ = _
          have h3 := hd.out.2.2
          rw [hE.out.1, hE.out.2] at h3
          rw [bval_snoc, hd.out.1]; exact h3
        have HC := Lib.hid (trim_give HB1.out (DR.of_own HO1.out) (hd.out.2.1.snoc ⟨c0, by omega⟩) (by simp; omega) HF.out)
        go_wp2_with fail
        refine HC.out.mono ?_; rintro e w2 ⟨r, rfl, hb2, hr⟩
        have HR := Lib.hid hr
        clear hr
        go_wp2_with fail
        go_ret
        exact ⟨_, rfl, hb2, HR.out⟩
  · go_enter Try.func84, Try.ntmps84
    go_wp2
    go_loopw [5, 6, 7] (fun v cy i wr => ∃ (k : Nat) (c : Int) (os : List Int), k ≤ a.length ∧ i = .int .i64 k ∧ cy = .int .i64 c ∧ 0 ≤ c ∧ c ≤ 1 ∧ wr.ownsRow w.heap.size 3 1 v os.length (os.map (Value.int .i64)) ∧
        Hid (os.length = k ∧ Dig os ∧ bval os + P2 k * c = bval (a.take k) + bval (b.take k)) ∧ Below w.heap.size w wr) (fun _ _ i _ => 2001 - (intOf i).toNat)
    case atStart => exact ⟨0, 0, [], by omega, rfl, rfl, by omega, by omega, World.ownsRow_nil _ _ _ _, ⟨rfl, Dig.nil, by simp [bval]⟩, Below.refl _ _⟩
    case round =>
      obtain ⟨k, c, os, hk, rfl, rfl, c0, c1, hown, hinv, hbel⟩ := hrel
      have HO := Lib.hid hown
      clear hown
      by_cases hlt : (k : Int) < a.length
      · have HA := DA.out (k : Int) wr hbel
        have HB := DB.out (k : Int) wr hbel
        rw [dg_nat] at HA HB
        have dA := ca.1.at k
        have dB := cb.1.at k
        have HS := Lib.hid (sum_step (a := a) (b := b) hinv.out.1 hinv.out.2.2)
        generalize a.getD k 0 = u at HA HS dA
        generalize b.getD k 0 = v at HB HS dB
        obtain ⟨dA0, dA1⟩ := dA
        obtain ⟨dB0, dB1⟩ := dB
        have HA := Lib.hid HA
        have HB := Lib.hid HB
        have hos : os.length ≤ 2001 := by have := hinv.out.1; omega
        have hns : w.heap.size ≤ wr.heap.size := hbel.size
        go_wp2_with fail
        refine HA.out.mono ?_; rintro e w' ⟨rfl, rfl⟩
        go_wp2_with fail
        refine HB.out.mono ?_; rintro e w' ⟨rfl, rfl⟩
        go_wp2_with (first | (at_builtin; refine wpList_append_own _ rfl (.tmp 27) (.tmp 30) 35 rfl w.heap.size 3 i0 (.int .i64 0) 1 8 Try.underlying35 hi hz0 hz1 hz2 rfl (by decide) _ _ _ rfl (HO.out.alloc _) ⟨wr.heap.size, 0, none⟩ 1 1 [.int .i64 ((u + v + c) % 32768)] rfl rfl (one_new _ _ _) (one_cell _ _) (by unfold maxLen; omega) (by omega) (by simp; omega) ?_))
        intro v' w1 hown' hgrow _
        have HB1 := Lib.hid (below_app hbel HO.out hgrow)
        have HO1 := Lib.hid (own_one hown')
        clear hown' hgrow
        go_wp2_with fail
        go_roundw
        case rel =>
          have hd := hinv.out
          refine ⟨k + 1, (u + v + c) / 32768, os ++ [(u + v + c) % 32768], by omega, by go_num, by first | rfl | go_num, by omega, by omega, HO1.out, ⟨by simp; omega, hd.2.1.snoc ⟨by omega, by omega⟩, HS.out⟩, HB1.out⟩
        case measure => simp [intOf]; omega
      · obtain rfl : k = a.length := by omega
        have hos : os.length ≤ 2001 := by have := hinv.out.1; omega
        have hns : w.heap.size ≤ wr.heap.size := hbel.size
        go_wp2_with (first | (at_builtin; refine wpList_append_own _ rfl (.tmp 34) (.tmp 36) 35 rfl w.heap.size 3 i0 (.int .i64 0) 1 8 Try.underlying35 hi hz0 hz1 hz2 rfl (by decide) _ _ _ rfl (HO.out.alloc _) ⟨wr.heap.size, 0, none⟩ 1 1 [.int .i64 c] rfl rfl (one_new _ _ _) (one_cell _ _) (by unfold maxLen; omega) (by omega) (by simp; omega) ?_))
        intro v' w1 hown' hgrow _
        have HB1 := Lib.hid (below_app hbel HO.out hgrow)
        have HO1 := Lib.hid (own_one hown')
        have hd := Lib.hid hinv.out
        clear hown' hgrow
        have HF : Hid (bval (os ++ [c]) = bval a + bval b) := by
          show _ = _
          have h3 := hd.out.2.2
          rw [hE.out.1, hE.out.2] at h3
          rw [bval_snoc, hd.out.1]; exact h3
        have HC := Lib.hid (trim_give HB1.out (DR.of_own HO1.out) (hd.out.2.1.snoc ⟨c0, by omega⟩) (by simp; omega) HF.out)
        go_wp2_with fail
        refine HC.out.mono ?_; rintro e w2 ⟨r, rfl, hb2, hr⟩
        have HR := Lib.hid hr
        clear hr
        go_wp2_with fail
        go_ret
        exact ⟨_, rfl, hb2, HR.out⟩

end Go.Proofs.Ytommpclkiiffpaa
