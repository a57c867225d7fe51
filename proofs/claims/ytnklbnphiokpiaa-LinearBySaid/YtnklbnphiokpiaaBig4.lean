/- Walks of the document's 'made', 'Uns', 'Of': numbers out of digits, out of an uint64, out of an int64. -/
import Derived.Test.YtnklbnphiokpiaaJB
set_option linter.unusedVariables false
namespace Go.Proofs.Ytnklbnphiokpiaa
open Go.RowKit

theorem give_bool {b c : Bool} {s : Value} (h : b = c) : Value.agg #[.bool b, s] = .agg #[.bool c, s] := by rw [h]

theorem made_any (n : Bool) (s : Value) (x z : Int) (w : World) (hs : NR w s x) (hz : z = if n then -x else x) :
    Calls Try.prog 60 #[.bool n, s] w (GiveB z w) := by
  have hx := hs.nonneg
  have HS := Lib.hid hs
  obtain ⟨A, m, cap, rfl, hm⟩ := hs.form
  have HA : Hid ((z.natAbs : Int) = x) := by show _ = _; cases n <;> simp at hz <;> omega
  clear hs
  cases n
  · have HZ : Hid (sgn z = false) := by show _ = _; simp at hz; exact sgn_f (by omega)
    clear hz hm
    go_enter Try.func60, Try.ntmps60
    go_wp2
    refine bodyPost_ret (v := .agg #[.bool false, .slice A m cap]) (by simp [results, Try.results60, go_sem]) rfl ⟨_, rfl, below_new (Below.refl _ _) _, _, give_bool HZ.out.symm, ?_⟩
    rw [HA.out]
    exact HS.out.below (below_new (Below.refl _ _) _)
  · by_cases h0 : x = 0
    · have HZ : Hid (sgn z = false) := by show _ = _; simp at hz; exact sgn_f (by omega)
      obtain rfl : m = 0 := hm.2 h0
      have H0 := Lib.hid h0
      clear hz hm h0
      go_enter Try.func60, Try.ntmps60
      go_wp2
      refine bodyPost_ret (v := .agg #[.bool false, .slice A 0 cap]) (by simp [results, Try.results60, go_sem]) rfl ⟨_, rfl, below_new (Below.refl _ _) _, _, give_bool HZ.out.symm, ?_⟩
      rw [HA.out]
      exact HS.out.below (below_new (Below.refl _ _) _)
    · have HZ : Hid (sgn z = true) := by show _ = _; simp at hz; exact sgn_t (by omega)
      have hm0 : 0 < m := by
        rcases Nat.eq_zero_or_pos m with h | h
        · exact absurd (hm.1 h) h0
        · exact h
      clear hz hm
      go_enter Try.func60, Try.ntmps60
      go_wp2
      refine bodyPost_ret (v := .agg #[.bool true, .slice A m cap]) (by simp [results, Try.results60, go_sem]) rfl ⟨_, rfl, below_new (Below.refl _ _) _, _, give_bool HZ.out.symm, ?_⟩
      rw [HA.out]
      exact HS.out.below (below_new (Below.refl _ _) _)

theorem uns_step {os : List Int} {X y : Int} (hy : 0 < y) (h : bval os + P2 os.length * y = X) (hd : Dig os) :
    Dig (os ++ [y % 32768]) ∧ bval (os ++ [y % 32768]) + P2 (os ++ [y % 32768]).length * (y / 32768) = X ∧ (y / 32768 = 0 → Canon (os ++ [y % 32768])) := by
  have e := Int.mul_ediv_add_emod y 32768
  refine ⟨hd.snoc ⟨by omega, by omega⟩, ?_, fun h0 => ⟨hd.snoc ⟨by omega, by omega⟩, fun _ => by simp; omega⟩⟩
  rw [bval_snoc, List.length_append, List.length_singleton, P2_succ, ← h]
  generalize y % 32768 = q at *
  generalize y / 32768 = r at *
  rw [← e]
  grind

theorem fuel_step {y : Int} {f : Nat} (hy : 0 < y) (h : y < P2 f) : 0 < f ∧ y / 32768 < P2 (f - 1) := by
  cases f with
  | zero => rw [P2_zero] at h; omega
  | succ f => rw [P2_succ] at h; exact ⟨by omega, by simp; omega⟩

theorem P2_5 : P2 5 = 37778931862957161709568 := by unfold P2; decide

set_option maxRecDepth 100000 in
theorem uns_any (x : Int) (hx : U64 x) (w : World) :
    Calls Try.prog 59 #[.int .u64 x] w (GiveB x w) := by
  obtain ⟨x0, x1⟩ := hx
  obtain ⟨i0, hi, hz0, hz1, hz2⟩ := info_parts info_int
  have HX : Hid (sgn x = false ∧ (x.natAbs : Int) = x) := ⟨sgn_f x0, by omega⟩
  go_enter Try.func59, Try.ntmps59
  go_wp2
  go_loopw [0, 3] (fun xv v wr => ∃ (y : Int) (os : List Int) (fuel : Nat), xv = .int .u64 y ∧ 0 ≤ y ∧ y ≤ 18446744073709551615 ∧
      wr.ownsRow (w.alloc (.cells #[.bool false, .slice none 0 0] 38)).heap.size 3 1 v os.length (os.map (Value.int .i64)) ∧
      Hid (y < P2 fuel ∧ os.length + fuel ≤ 1000) ∧ Hid (Dig os ∧ bval os + P2 os.length * y = x ∧ (y = 0 → Canon os)) ∧
      Below (w.alloc (.cells #[.bool false, .slice none 0 0] 38)).heap.size (w.alloc (.cells #[.bool false, .slice none 0 0] 38)) wr) (fun xv _ _ => (intOf xv).toNat)
  case atStart => exact ⟨x, [], 5, rfl, x0, x1, World.ownsRow_nil _ _ _ _, ⟨by rw [P2_5]; omega, by simp⟩, ⟨Dig.nil, by simp [bval, P2_zero], fun _ => Canon.nil⟩, Below.refl _ _⟩
  case round =>
    obtain ⟨y, os, fuel, rfl, y0, y1, hown, hfuel, hinv, hbel⟩ := hrel
    have HO := Lib.hid hown
    have HB := Lib.hid hbel
    have hsz : w.heap.size < wr.heap.size := by have := hbel.size; simp at this; omega
    obtain ⟨hc, hf⟩ := below_reads hbel
    have hos : os.length ≤ 1000 := by have := hfuel.out.2; omega
    have hns : (w.alloc (.cells #[.bool false, .slice none 0 0] 38)).heap.size ≤ wr.heap.size := hbel.size
    clear hown hbel
    by_cases hy : 0 < y
    · go_wp2_with (first | (at_builtin; refine wpList_append_own _ rfl (.tmp 6) (.tmp 10) 36 rfl (w.alloc (.cells #[.bool false, .slice none 0 0] 38)).heap.size 3 i0 (.int .i64 0) 1 8 Try.underlying36 hi hz0 hz1 hz2 rfl (by decide) _ _ _ rfl (HO.out.alloc _) ⟨wr.heap.size, 0, none⟩ 1 1 [.int .i64 (y % 32768)] rfl rfl (one_new _ _ _) (one_cell _ _) (by unfold maxLen; omega) (by omega) (by simp at *; omega) ?_))
      intro v' w1 hown' hgrow _
      have HB1 := Lib.hid (below_app HB.out HO.out hgrow)
      have HO1 := Lib.hid (own_one hown')
      clear hown' hgrow
      go_wp2_with fail
      go_roundw
      case rel =>
        have hd := hinv.out
        have hfu := hfuel.out
        have hs := uns_step hy hd.2.1 hd.1
        have hfs := fuel_step hy hfu.1
        exact ⟨y / 32768, os ++ [y % 32768], fuel - 1, rfl, by omega, by omega, (by simpa using HO1.out), ⟨hfs.2, by simp; omega⟩, hs, HB1.out⟩
      case measure => simp [intOf]; omega
    · obtain rfl : y = 0 := by omega
      have HD := Lib.hid (DR.of_own HO.out)
      obtain ⟨A, cap, rfl⟩ := HD.out.form
      go_wp2_with fail
      refine bodyPost_ret (v := .agg #[.bool false, .slice A os.length cap]) (by simp [results, Try.results59, go_sem, hc]) rfl ⟨_, rfl, ?_, _, give_bool HX.out.1.symm, os, ?_, hinv.out.2.2 (by first | rfl | trivial), ?_⟩
      · exact below_set (below_set (below_next (below_new (Below.refl _ _) _) HB.out) (Nat.le_refl _) _) (Nat.le_refl _) _
      · exact DR.of_own (ownsRow_setCell_below (ownsRow_setCell_below HO.out (by simp) _) (by simp) _)
      · rw [HX.out.2]; have := hinv.out.2.1; simpa using this

/-- A number's digits with its sign: what 'Of' lays in the end. -/
theorem of_neg (x : Int) (h : I64 x) (hn : x < 0) (w : World) :
    Calls Try.prog 19 #[.int .i64 x] w (GiveB x w) := by
  obtain ⟨x0, x1⟩ := h
  have HX : Hid (sgn x = true ∧ ((-x).natAbs : Int) = (x.natAbs : Int) ∧ sgn (-x) = false) := ⟨sgn_t hn, by omega, sgn_f (by omega)⟩
  have C : Hid (∀ z w, z = -x → Calls Try.prog 59 #[.int .u64 z] w (GiveB (-x) w)) := fun z w hz => by subst hz; exact uns_any (-x) ⟨by omega, by omega⟩ w
  go_enter Try.func19, Try.ntmps19
  go_wp2_with fail
  refine (C.out _ _ (by omega)).mono ?_; rintro e w1 ⟨r, rfl, hb1, s, rfl, hs⟩
  have HB := Lib.hid hb1
  have HS := Lib.hid hs
  obtain ⟨hc, hf⟩ := below_reads hb1
  have hsz : w.heap.size < w1.heap.size := by have := hb1.size; simp at this; omega
  obtain ⟨A, n, cap, rfl, _⟩ := hs.form
  rw [HX.out.2.2]
  clear hb1 hs
  go_wp2_with fail
  refine bodyPost_ret (v := .agg #[.bool true, .slice A n cap]) (by unfold results; simp only [Try.results19]; go_simp) rfl ⟨_, rfl, ?_, _, give_bool HX.out.1.symm, ?_⟩
  · exact below_new (below_set (below_set (below_next (below_new (Below.refl _ _) _) HB.out) (Nat.le_refl _) _) (Nat.le_refl _) _) _
  · have hp : w1.heap[w.heap.size]? = some (.cells _ 38 _) := (HB.out.block _ (by simp)).trans (heap_new _ _)
    have hs := HS.out
    rw [HX.out.2.1] at hs
    exact ((hs.set_ hp (by decide) _).set_ (heap_set hp _) (by decide) _).below (below_new (Below.refl _ _) _)

theorem of_pos (x : Int) (h : I64 x) (hn : 0 ≤ x) (w : World) :
    Calls Try.prog 19 #[.int .i64 x] w (GiveB x w) := by
  obtain ⟨x0, x1⟩ := h
  have C := Lib.hid (fun w => uns_any x ⟨by omega, by omega⟩ w)
  go_enter Try.func19, Try.ntmps19
  go_wp2_with fail
  refine (C.out _).mono ?_; rintro e w1 ⟨r, rfl, hb1, s, rfl, hs⟩
  have HB := Lib.hid hb1
  have HS := Lib.hid hs
  obtain ⟨hc, hf⟩ := below_reads hb1
  have hsz : w.heap.size < w1.heap.size := by have := hb1.size; simp at this; omega
  obtain ⟨A, n, cap, rfl, _⟩ := hs.form
  have HX : Hid (sgn x = false) := sgn_f hn
  rw [HX.out]
  clear hb1 hs
  go_wp2_with fail
  refine bodyPost_ret (v := .agg #[.bool false, .slice A n cap]) (by unfold results; simp only [Try.results19]; go_simp) rfl ⟨_, rfl, ?_, _, give_bool HX.out.symm, ?_⟩
  · exact below_set (below_set (below_next (below_new (Below.refl _ _) _) HB.out) (Nat.le_refl _) _) (Nat.le_refl _) _
  · have hp : w1.heap[w.heap.size]? = some (.cells _ 38 _) := (HB.out.block _ (by simp)).trans (heap_new _ _)
    exact (HS.out.set_ hp (by decide) _).set_ (heap_set hp _) (by decide) _

/-- Of. -/
theorem of_any (x : Int) (h : I64 x) (w : World) : Calls Try.prog 19 #[.int .i64 x] w (GiveB x w) := by
  by_cases hn : x < 0
  · exact of_neg x h hn w
  · exact of_pos x h (by omega) w

end Go.Proofs.Ytnklbnphiokpiaa
