/- Parts of the proof: JF. -/
import Derived.Test.YtikpobembcgbfaaGreatDoorQ04
import Derived.Deep.RegionHeld3
import Derived.Deep.OwnRows
import Derived.Deep.QuietTactic
import Derived.BigQuiet
import Derived.StillTailTactics
set_option linter.unusedVariables false
set_option linter.unusedSimpArgs false
set_option maxRecDepth 100000
set_option maxHeartbeats 40000000
namespace Go.Proofs.YtikpobembcgbfaaGreatDoor
open Go.RowKit
theorem give_bool {b c : Bool} {s : Value} (h : b = c) : Value.agg #[.bool b, s] = .agg #[.bool c, s] := by rw [h]
theorem made_any (n : Bool) (s : Value) (x z : Int) (w : World) (hs : NR w s x) (hz : z = if n then -x else x) :
 Calls Tryz.prog 127 #[.bool n, s] w (GiveB z w) := by
 have hx := hs.nonneg
 have HS := Lib.hid hs
 obtain ⟨A, m, cap, rfl, hm⟩ := hs.form
 have HA : Hid ((z.natAbs : Int) = x) := by show _ = _; cases n <;> simp at hz <;> omega
 clear hs
 cases n
 · have HZ : Hid (sgn z = false) := by show _ = _; simp at hz; exact sgn_f (by omega)
   clear hz hm
   go_enter Tryz.func127, Tryz.ntmps127
   go_wp2
   refine bodyPost_ret (v := .agg #[.bool false, .slice A m cap]) (by simp [results, Tryz.results127, go_sem]) rfl ⟨_, rfl, below_new (Below.refl _ _) _, _, give_bool HZ.out.symm, ?_⟩
   rw [HA.out]
   exact HS.out.below (below_new (Below.refl _ _) _)
 · by_cases h0 : x = 0
   · have HZ : Hid (sgn z = false) := by show _ = _; simp at hz; exact sgn_f (by omega)
     obtain rfl : m = 0 := hm.2 h0
     have H0 := Lib.hid h0
     clear hz hm h0
     go_enter Tryz.func127, Tryz.ntmps127
     go_wp2
     refine bodyPost_ret (v := .agg #[.bool false, .slice A 0 cap]) (by simp [results, Tryz.results127, go_sem]) rfl ⟨_, rfl, below_new (Below.refl _ _) _, _, give_bool HZ.out.symm, ?_⟩
     rw [HA.out]
     exact HS.out.below (below_new (Below.refl _ _) _)
   · have HZ : Hid (sgn z = true) := by show _ = _; simp at hz; exact sgn_t (by omega)
     have hm0 : 0 < m := by
      rcases Nat.eq_zero_or_pos m with h | h
      · exact absurd (hm.1 h) h0
      · exact h
     clear hz hm
     go_enter Tryz.func127, Tryz.ntmps127
     go_wp2
     refine bodyPost_ret (v := .agg #[.bool true, .slice A m cap]) (by simp [results, Tryz.results127, go_sem]) rfl ⟨_, rfl, below_new (Below.refl _ _) _, _, give_bool HZ.out.symm, ?_⟩
     rw [HA.out]
     exact HS.out.below (below_new (Below.refl _ _) _)
theorem uns_step {os : List Int} {X y : Int} (hy : 0 < y) (h : bval os + P2 os.length * y = X) (hd : Dig os) :
 Dig (os ++ [y % 32768]) ∧ bval (os ++ [y % 32768]) + P2 (os ++ [y % 32768]).length * (y / 32768) = X ∧ (y / 32768 = 0 → Canon (os ++ [y % 32768])) := by
 have e := Int.mul_ediv_add_emod y 32768
 refine ⟨hd.snoc ⟨by omega, by omega⟩, ?_, fun h0 => ⟨hd.snoc ⟨by omega, by omega⟩, fun _ => by simp; omega⟩⟩
 rw [bval_snoc, List.length_append, List.length_singleton, P2_succ, ← h]
 generalize y % 32768 = q at *
 generalize y / 32768 = r at *
 rw [← e]
 grind
theorem fuel_step {y : Int} {f : Nat} (hy : 0 < y) (h : y < P2 f) : 0 < f ∧ y / 32768 < P2 (f - 1) := by
 cases f with
 | zero => rw [P2_zero] at h; omega
 | succ f => rw [P2_succ] at h; exact ⟨by omega, by simp; omega⟩
theorem P2_5 : P2 5 = 37778931862957161709568 := by unfold P2; decide
theorem uns_any (x : Int) (hx : U64 x) (w : World) :
 Calls Tryz.prog 90 #[.int .u64 x] w (GiveB x w) := by
 obtain ⟨x0, x1⟩ := hx
 obtain ⟨i0, hi, hz0, hz1, hz2⟩ := info_parts info_int
 have HX : Hid (sgn x = false ∧ (x.natAbs : Int) = x) := ⟨sgn_f x0, by omega⟩
 go_enter Tryz.func90, Tryz.ntmps90
 go_wp2
 go_loopw [0, 3] (fun xv v wr => ∃ (y : Int) (os : List Int) (fuel : Nat), xv = .int .u64 y ∧ 0 ≤ y ∧ y ≤ 18446744073709551615 ∧
  wr.ownsRow (w.alloc (.cells #[.bool false, .slice none 0 0] 116)).heap.size 3 1 v os.length (os.map (Value.int .i64)) ∧
  Hid (y < P2 fuel ∧ os.length + fuel ≤ 1000) ∧ Hid (Dig os ∧ bval os + P2 os.length * y = x ∧ (y = 0 → Canon os)) ∧
  Below (w.alloc (.cells #[.bool false, .slice none 0 0] 116)).heap.size (w.alloc (.cells #[.bool false, .slice none 0 0] 116)) wr) (fun xv _ _ => (intOf xv).toNat)
 case atStart => exact ⟨x, [], 5, rfl, x0, x1, World.ownsRow_nil _ _ _ _, ⟨by rw [P2_5]; omega, by simp⟩, ⟨Dig.nil, by simp [bval, P2_zero], fun _ => Canon.nil⟩, Below.refl _ _⟩
 case round =>
  obtain ⟨y, os, fuel, rfl, y0, y1, hown, hfuel, hinv, hbel⟩ := hrel
  have HO := Lib.hid hown
  have HB := Lib.hid hbel
  have hsz : w.heap.size < wr.heap.size := by have := hbel.size; simp at this; omega
  obtain ⟨hc, hf⟩ := below_reads hbel
  have hos : os.length ≤ 1000 := by have := hfuel.out.2; omega
  have hns : (w.alloc (.cells #[.bool false, .slice none 0 0] 116)).heap.size ≤ wr.heap.size := hbel.size
  clear hown hbel
  by_cases hy : 0 < y
  · go_wp2_with (first | (at_builtin; refine wpList_append_own _ rfl (.tmp 6) (.tmp 10) 40 rfl (w.alloc (.cells #[.bool false, .slice none 0 0] 116)).heap.size 3 i0 (.int .i64 0) 1 8 Tryz.underlying40 hi hz0 hz1 hz2 rfl (by decide) _ _ _ rfl (HO.out.alloc _) ⟨wr.heap.size, 0, none⟩ 1 1 [.int .i64 (y % 32768)] rfl rfl (one_new _ _ _) (one_cell _ _) (by unfold maxLen; omega) (by omega) (by simp at *; omega) ?_))
    intro v' w1 hown' hgrow _
    have HB1 := Lib.hid (below_app HB.out HO.out hgrow)
    have HO1 := Lib.hid (own_one hown')
    clear hown' hgrow
    go_wp2_with fail
    go_roundw
    case rel =>
     have hd := hinv.out
     have hfu := hfuel.out
     have hs := uns_step hy hd.2.1 hd.1
     have hfs := fuel_step hy hfu.1
     exact ⟨y / 32768, os ++ [y % 32768], fuel - 1, rfl, by omega, by omega, (by simpa using HO1.out), ⟨hfs.2, by simp; omega⟩, hs, HB1.out⟩
    case measure => simp [intOf]; omega
  · obtain rfl : y = 0 := by omega
    have HD := Lib.hid (DR.of_own HO.out)
    obtain ⟨A, cap, rfl⟩ := HD.out.form
    go_wp2_with fail
    refine bodyPost_ret (v := .agg #[.bool false, .slice A os.length cap]) (by simp [results, Tryz.results90, go_sem, hc]) rfl ⟨_, rfl, ?_, _, give_bool HX.out.1.symm, os, ?_, hinv.out.2.2 (by first | rfl | trivial), ?_⟩
    · exact below_set (below_set (below_next (below_new (Below.refl _ _) _) HB.out) (Nat.le_refl _) _) (Nat.le_refl _) _
    · exact DR.of_own (ownsRow_setCell_below (ownsRow_setCell_below HO.out (by simp) _) (by simp) _)
    · rw [HX.out.2]; have := hinv.out.2.1; simpa using this
/-- A number's digits with its sign: what 'Of' lays in the end. -/
theorem of_neg (x : Int) (h : I64 x) (hn : x < 0) (w : World) :
 Calls Tryz.prog 50 #[.int .i64 x] w (GiveB x w) := by
 obtain ⟨x0, x1⟩ := h
 have HX : Hid (sgn x = true ∧ ((-x).natAbs : Int) = (x.natAbs : Int) ∧ sgn (-x) = false) := ⟨sgn_t hn, by omega, sgn_f (by omega)⟩
 have C : Hid (∀ z w, z = -x → Calls Tryz.prog 90 #[.int .u64 z] w (GiveB (-x) w)) := fun z w hz => by subst hz; exact uns_any (-x) ⟨by omega, by omega⟩ w
 go_enter Tryz.func50, Tryz.ntmps50
 go_wp2_with fail
 refine (C.out _ _ (by omega)).mono ?_; rintro e w1 ⟨r, rfl, hb1, s, rfl, hs⟩
 have HB := Lib.hid hb1
 have HS := Lib.hid hs
 obtain ⟨hc, hf⟩ := below_reads hb1
 have hsz : w.heap.size < w1.heap.size := by have := hb1.size; simp at this; omega
 obtain ⟨A, n, cap, rfl, _⟩ := hs.form
 rw [HX.out.2.2]
 clear hb1 hs
 go_wp2_with fail
 refine bodyPost_ret (v := .agg #[.bool true, .slice A n cap]) (by unfold results; simp only [Tryz.results50]; go_simp) rfl ⟨_, rfl, ?_, _, give_bool HX.out.1.symm, ?_⟩
 · exact below_new (below_set (below_set (below_next (below_new (Below.refl _ _) _) HB.out) (Nat.le_refl _) _) (Nat.le_refl _) _) _
 · have hp : w1.heap[w.heap.size]? = some (.cells _ 116 _) := (HB.out.block _ (by simp)).trans (heap_new _ _)
   have hs := HS.out
   rw [HX.out.2.1] at hs
   exact ((hs.set_ hp (by decide) _).set_ (heap_set hp _) (by decide) _).below (below_new (Below.refl _ _) _)
theorem of_pos (x : Int) (h : I64 x) (hn : 0 ≤ x) (w : World) :
 Calls Tryz.prog 50 #[.int .i64 x] w (GiveB x w) := by
 obtain ⟨x0, x1⟩ := h
 have C := Lib.hid (fun w => uns_any x ⟨by omega, by omega⟩ w)
 go_enter Tryz.func50, Tryz.ntmps50
 go_wp2_with fail
 refine (C.out _).mono ?_; rintro e w1 ⟨r, rfl, hb1, s, rfl, hs⟩
 have HB := Lib.hid hb1
 have HS := Lib.hid hs
 obtain ⟨hc, hf⟩ := below_reads hb1
 have hsz : w.heap.size < w1.heap.size := by have := hb1.size; simp at this; omega
 obtain ⟨A, n, cap, rfl, _⟩ := hs.form
 have HX : Hid (sgn x = false) := sgn_f hn
 rw [HX.out]
 clear hb1 hs
 go_wp2_with fail
 refine bodyPost_ret (v := .agg #[.bool false, .slice A n cap]) (by unfold results; simp only [Tryz.results50]; go_simp) rfl ⟨_, rfl, ?_, _, give_bool HX.out.symm, ?_⟩
 · exact below_set (below_set (below_next (below_new (Below.refl _ _) _) HB.out) (Nat.le_refl _) _) (Nat.le_refl _) _
 · have hp : w1.heap[w.heap.size]? = some (.cells _ 116 _) := (HB.out.block _ (by simp)).trans (heap_new _ _)
   exact (HS.out.set_ hp (by decide) _).set_ (heap_set hp _) (by decide) _
/-- Of. -/
theorem of_any (x : Int) (h : I64 x) (w : World) : Calls Tryz.prog 50 #[.int .i64 x] w (GiveB x w) := by
 by_cases hn : x < 0
 · exact of_neg x h hn w
 · exact of_pos x h (by omega) w
/-- A number that is no greater, without its sign, than may be. -/
def Mid (z : Int) : Prop := -HUGE < z ∧ z < HUGE
theorem BR.form {w : World} {v : Value} {z : Int} (h : BR w v z) : ∃ A n cap, v = .agg #[.bool (sgn z), .slice A n cap] ∧ NR w (.slice A n cap) (z.natAbs : Int) := by
 obtain ⟨s, rfl, h2⟩ := h
 obtain ⟨A, n, cap, rfl, _⟩ := h2.form
 exact ⟨A, n, cap, rfl, h2⟩
/-- What is made of a box that was laid, and is filled: the number that was stored there. -/
theorem give_box {z : Int} {w w1 w2 : World} {A : Option Addr} {n cap p : Nat} {c : Array Value} (hb : Below w.heap.size w w1) (hn : NR w1 (.slice A n cap) (z.natAbs : Int)) (hp : w1.heap[p]? = some (.cells c 116 (0, 0))) (hpw : w.heap.size ≤ p)
 (e2 : w2 = (w1.setCell ⟨p, 0, none⟩ (.bool (sgn z))).setCell ⟨p, 1, none⟩ (.slice A n cap)) : GiveB z w (.returned (.agg #[.bool (sgn z), .slice A n cap])) w2 := by
 subst e2
 exact ⟨_, rfl, below_set (below_set hb hpw _) hpw _, _, rfl, (hn.set_ hp (by decide) _).set_ (heap_set hp _) (by decide) _⟩
theorem neg_any (v : Value) (z : Int) (w : World) (h : BR w v z) :
 Calls Tryz.prog 134 #[v] w (GiveB (-z) w) := by
 obtain ⟨A, n, cap, rfl, hn⟩ := h.form
 clear h
 have C : Hid (∀ b w1, b = !sgn z → Below w.heap.size w w1 → Calls Tryz.prog 127 #[.bool b, .slice A n cap] w1 (GiveB (-z) w1)) := fun b w1 hb hw => made_any b _ _ _ w1 (hn.below hw) (by subst hb; rcases Int.lt_or_le z 0 with hz | hz <;> simp [sgn_t, sgn_f, hz] <;> omega)
 clear hn
 go_enter Tryz.func134, Tryz.ntmps134
 go_wp2_with fail
 refine (C.out _ _ (by first | rfl | simp) (below_new (below_new (Below.refl _ _) _) _)).mono ?_; rintro e w1 ⟨r, rfl, hb1, hr⟩
 obtain ⟨A', n', cap', rfl, hn'⟩ := hr.form
 have HB := Lib.hid hb1
 have HN := Lib.hid hn'
 obtain ⟨hc, hf⟩ := below_reads hb1
 have hsz : w.heap.size + 1 < w1.heap.size := by have := hb1.size; simp at this; omega
 clear hb1 hr hn'
 go_wp2_with fail
 refine bodyPost_ret (v := .agg #[.bool (sgn (-z)), .slice A' n' cap']) (by unfold results; simp only [Tryz.results134]; go_simp) rfl ?_
 have hp : w1.heap[w.heap.size + 1]? = some (.cells _ 116 (0, 0)) := (HB.out.block _ (by simp)).trans (by simpa using heap_new (w.alloc _) _)
 exact give_box (below_next (below_new (below_new (Below.refl _ _) _) _) HB.out) HN.out hp (by omega) rfl
/-- The four cells of two boxes. -/
theorem boxes_new (w : World) (a0 a1 b0 b1 : Value) (T : TypeId) (o : Obj) :
 (((w.alloc (.cells #[a0, a1] T)).alloc (.cells #[b0, b1] T)).alloc o).cell? ⟨w.heap.size, 0, none⟩ = some a0 ∧ (((w.alloc (.cells #[a0, a1] T)).alloc (.cells #[b0, b1] T)).alloc o).cell? ⟨w.heap.size, 1, none⟩ = some a1 ∧
 (((w.alloc (.cells #[a0, a1] T)).alloc (.cells #[b0, b1] T)).alloc o).cell? ⟨w.heap.size + 1, 0, none⟩ = some b0 ∧ (((w.alloc (.cells #[a0, a1] T)).alloc (.cells #[b0, b1] T)).alloc o).cell? ⟨w.heap.size + 1, 1, none⟩ = some b1 := by
 simp [go_sem, World.cell?_alloc_past]
/-- Behind a first call: the cells, the heap's size, what was there. -/
theorem boxes_call {w w1 : World} {a0 a1 b0 b1 : Value} {T : TypeId} {o : Obj} (hb : Below ((((w.alloc (.cells #[a0, a1] T)).alloc (.cells #[b0, b1] T)).alloc o).drew).heap.size ((((w.alloc (.cells #[a0, a1] T)).alloc (.cells #[b0, b1] T)).alloc o).drew) w1) :
 (w1.cell? ⟨w.heap.size, 0, none⟩ = some a0 ∧ w1.cell? ⟨w.heap.size, 1, none⟩ = some a1 ∧ w1.cell? ⟨w.heap.size + 1, 0, none⟩ = some b0 ∧ w1.cell? ⟨w.heap.size + 1, 1, none⟩ = some b1) ∧
 w.heap.size + 2 < w1.heap.size ∧ Below w.heap.size w w1 ∧ w1.heap[w.heap.size + 2]? = some o := by
 have hs : w.heap.size + 3 ≤ w1.heap.size := by simpa using hb.size
 obtain ⟨hc, _⟩ := below_reads hb
 refine ⟨?_, by omega, below_next (below_drew (below_new (below_new (below_new (Below.refl _ _) _) _) _)) hb, ?_⟩
 · rw [hc _ _ (by simp; omega), hc _ _ (by simp; omega), hc _ _ (by simp), hc _ _ (by simp)]
   exact boxes_new w a0 a1 b0 b1 T o
 · refine (hb.block _ (by simp)).trans ?_
   have h := heap_new ((w.alloc (.cells #[a0, a1] T)).alloc (.cells #[b0, b1] T)) o
   simp only [World.size_alloc] at h
   exact h
theorem boxes_keep {w1 w2 : World} {n : Nat} {a0 a1 b0 b1 : Value} (hb : Below w1.heap.size w1 w2) (hn : n + 1 < w1.heap.size)
 (h : w1.cell? ⟨n, 0, none⟩ = some a0 ∧ w1.cell? ⟨n, 1, none⟩ = some a1 ∧ w1.cell? ⟨n + 1, 0, none⟩ = some b0 ∧ w1.cell? ⟨n + 1, 1, none⟩ = some b1) :
 w2.cell? ⟨n, 0, none⟩ = some a0 ∧ w2.cell? ⟨n, 1, none⟩ = some a1 ∧ w2.cell? ⟨n + 1, 0, none⟩ = some b0 ∧ w2.cell? ⟨n + 1, 1, none⟩ = some b1 := by
 obtain ⟨hc, _⟩ := below_reads hb
 rw [hc _ _ (by omega), hc _ _ (by omega), hc _ _ (by omega), hc _ _ (by omega)]
 exact h
/-- Behind the store of a result into the third box. -/
theorem boxes_set {w2 : World} {n : Nat} {a0 a1 b0 b1 : Value} (u v : Value)
 (h : w2.cell? ⟨n, 0, none⟩ = some a0 ∧ w2.cell? ⟨n, 1, none⟩ = some a1 ∧ w2.cell? ⟨n + 1, 0, none⟩ = some b0 ∧ w2.cell? ⟨n + 1, 1, none⟩ = some b1) :
 ((w2.setCell ⟨n + 1 + 1, 0, none⟩ u).setCell ⟨n + 1 + 1, 1, none⟩ v).cell? ⟨n, 0, none⟩ = some a0 ∧ ((w2.setCell ⟨n + 1 + 1, 0, none⟩ u).setCell ⟨n + 1 + 1, 1, none⟩ v).cell? ⟨n, 1, none⟩ = some a1 ∧
 ((w2.setCell ⟨n + 1 + 1, 0, none⟩ u).setCell ⟨n + 1 + 1, 1, none⟩ v).cell? ⟨n + 1, 0, none⟩ = some b0 ∧ ((w2.setCell ⟨n + 1 + 1, 0, none⟩ u).setCell ⟨n + 1 + 1, 1, none⟩ v).cell? ⟨n + 1, 1, none⟩ = some b1 := by
 have far : ∀ (b o : Nat), b ≠ n + 1 + 1 → ((w2.setCell ⟨n + 1 + 1, 0, none⟩ u).setCell ⟨n + 1 + 1, 1, none⟩ v).cell? ⟨b, o, none⟩ = w2.cell? ⟨b, o, none⟩ := fun b o hb =>
  World.cell?_of_block (a := ⟨b, o, none⟩) ((Below.heap_setCell _ ⟨n + 1 + 1, 1, none⟩ v b hb).trans (Below.heap_setCell _ ⟨n + 1 + 1, 0, none⟩ u b hb))
 rw [far _ _ (by omega), far _ _ (by omega), far _ _ (by omega), far _ _ (by omega)]
 exact h
theorem add_same (u v : Value) (x y : Int) (w : World) (hu : BR w u x) (hv : BR w v y) (hx : Mid x) (hy : Mid y) (hxy : sgn x = sgn y) :
 Calls Tryz.prog 83 #[u, v] w (GiveB (x + y) w) := by
 obtain ⟨A, n, cap, rfl, hn⟩ := hu.form
 obtain ⟨B, m, cap', rfl, hm⟩ := hv.form
 clear hu hv
 have C1 : Hid (∀ w1, Below w.heap.size w w1 → Calls Tryz.prog 128 #[.slice A n cap, .slice B m cap'] w1 (GiveN ((x.natAbs : Int) + y.natAbs) w1)) :=
  fun w1 hw => sum_any _ _ _ _ w1 (hn.below hw) (hm.below hw) (by have := hx.1; have := hx.2; omega) (by have := hy.1; have := hy.2; omega)
 have HS : Hid (x + y = if sgn x then -((x.natAbs : Int) + y.natAbs) else (x.natAbs : Int) + y.natAbs) := by
  show _ = _
  rcases Int.lt_or_le x 0 with h | h
  · have h' : y < 0 := sgn_iff.1 (by rw [← hxy]; exact sgn_t h)
    rw [sgn_t h, if_pos rfl]; omega
  · have h' : 0 ≤ y := by
     rcases Int.lt_or_le y 0 with h2 | h2
     · have := sgn_t h2; rw [← hxy, sgn_f h] at this; cases this
     · exact h2
    rw [sgn_f h, if_neg (by decide)]; omega
 have e1 : (sgn x == sgn y) = true := by simp [hxy]
 clear hn hm hx hy hxy
 go_enter Tryz.func83, Tryz.ntmps83
 go_wp2_with fail
 have K0 := boxes_new w (.bool (sgn x)) (.slice A n cap) (.bool (sgn y)) (.slice B m cap') 116 (.cells #[.bool false, .slice none 0 0] 116)
 go_region_held3 (fun w' => w'.cell? ⟨w.heap.size, 0, none⟩ = some (.bool (sgn x)) ∧ w'.cell? ⟨w.heap.size, 1, none⟩ = some (.slice A n cap) ∧ w'.cell? ⟨w.heap.size + 1, 0, none⟩ = some (.bool (sgn y)) ∧ w'.cell? ⟨w.heap.size + 1, 1, none⟩ = some (.slice B m cap'))
  (first | exact K0 | exact K1 | exact K2 | exact boxes_set _ _ K2)
  (first
    | (go_at_call 128
       refine (C1.out _ ?_).mono ?_
       · repeat (first | exact Below.refl _ _ | apply below_drew | apply below_new)
       rintro e w1 ⟨r, rfl, hb1, hr⟩
       obtain ⟨K1, Z1, B1, H1⟩ := boxes_call hb1
       have B1 := Lib.hid B1
       have H1 := Lib.hid H1
       obtain ⟨hc1, hf1⟩ := below_reads hb1
       have hr := Lib.hid hr
       clear hb1)
    | (go_at_call 127
       refine (made_any _ _ _ _ _ hr.out HS.out).mono ?_
       rintro e w2 ⟨r2, rfl, hb2, hr2⟩
       obtain ⟨A', n', cap', rfl, hn'⟩ := hr2.form
       have K2 := boxes_keep hb2 (Nat.lt_of_succ_lt Z1) K1
       have B2 := Lib.hid (below_next B1.out hb2)
       have H2 := Lib.hid ((hb2.block _ Z1).trans H1.out)
       have N2 := Lib.hid hn'
       obtain ⟨hc2, hf2⟩ := below_reads hb2
       clear hb2 hr2 hn'))
 clear K0 K1 HS C1
 go_wp2_with fail
 refine bodyPost_ret (v := .agg #[.bool (sgn (x + y)), .slice A' n' cap']) (by unfold results; simp only [Tryz.results83]; go_simp) rfl ?_
 exact give_box B2.out N2.out H2.out (by omega) rfl
theorem add_ge (u v : Value) (x y : Int) (w : World) (hu : BR w u x) (hv : BR w v y) (hx : Mid x) (hy : Mid y) (hxy : sgn x ≠ sgn y) (hge : y.natAbs ≤ x.natAbs) :
 Calls Tryz.prog 83 #[u, v] w (GiveB (x + y) w) := by
 obtain ⟨A, n, cap, rfl, hn⟩ := hu.form
 obtain ⟨B, m, cap', rfl, hm⟩ := hv.form
 clear hu hv
 have C0 : Hid (∀ w1, Below w.heap.size w w1 → Calls Tryz.prog 129 #[.slice A n cap, .slice B m cap'] w1 fun e w' => e = .returned (.int .i64 (cmpI (x.natAbs : Int) y.natAbs)) ∧ w1 = w') :=
  fun w1 hw => less_any _ _ _ _ w1 (hn.below hw) (hm.below hw) (by have := hx.1; have := hx.2; omega) (by have := hy.1; have := hy.2; omega)
 have C1 : Hid (∀ w1, Below w.heap.size w w1 → Calls Tryz.prog 130 #[.slice A n cap, .slice B m cap'] w1 (GiveN ((x.natAbs : Int) - y.natAbs) w1)) :=
  fun w1 hw => rest_any _ _ _ _ w1 (hn.below hw) (hm.below hw) (by have := hx.1; have := hx.2; omega) (by omega)
 have HS : Hid (x + y = if sgn x then -((x.natAbs : Int) - y.natAbs) else (x.natAbs : Int) - y.natAbs) := by
  show _ = _
  rcases Int.lt_or_le x 0 with h | h
  · have h' : 0 ≤ y := by
     rcases Int.lt_or_le y 0 with h2 | h2
     · exact absurd ((sgn_t h).trans (sgn_t h2).symm) hxy
     · exact h2
    rw [sgn_t h, if_pos rfl]; omega
  · have h' : y < 0 := by
     rcases Int.lt_or_le y 0 with h2 | h2
     · exact h2
     · exact absurd ((sgn_f h).trans (sgn_f h2).symm) hxy
    rw [sgn_f h, if_neg (by decide)]; omega
 have hcm : 0 ≤ cmpI (x.natAbs : Int) y.natAbs := by unfold cmpI; rw [if_neg (by omega)]; split <;> omega
 have e1 : (sgn x == sgn y) = false := by simp [hxy]
 clear hn hm hx hy hxy hge
 go_enter Tryz.func83, Tryz.ntmps83
 go_wp2_with fail
 refine (C0.out _ (below_new (below_new (below_new (Below.refl _ _) _) _) _)).mono ?_; rintro e w' ⟨rfl, rfl⟩
 go_wp2_with fail
 have K0 := boxes_new w (.bool (sgn x)) (.slice A n cap) (.bool (sgn y)) (.slice B m cap') 116 (.cells #[.bool false, .slice none 0 0] 116)
 go_region_held3 (fun w' => w'.cell? ⟨w.heap.size, 0, none⟩ = some (.bool (sgn x)) ∧ w'.cell? ⟨w.heap.size, 1, none⟩ = some (.slice A n cap) ∧ w'.cell? ⟨w.heap.size + 1, 0, none⟩ = some (.bool (sgn y)) ∧ w'.cell? ⟨w.heap.size + 1, 1, none⟩ = some (.slice B m cap'))
  (first | exact K0 | exact K1 | exact K2 | exact boxes_set _ _ K2)
  (first
    | (go_at_call 130
       refine (C1.out _ ?_).mono ?_
       · repeat (first | exact Below.refl _ _ | apply below_drew | apply below_new)
       rintro e w1 ⟨r, rfl, hb1, hr⟩
       obtain ⟨K1, Z1, B1, H1⟩ := boxes_call hb1
       have B1 := Lib.hid B1
       have H1 := Lib.hid H1
       obtain ⟨hc1, hf1⟩ := below_reads hb1
       have hr := Lib.hid hr
       clear hb1)
    | (go_at_call 127
       refine (made_any _ _ _ _ _ hr.out HS.out).mono ?_
       rintro e w2 ⟨r2, rfl, hb2, hr2⟩
       obtain ⟨A', n', cap', rfl, hn'⟩ := hr2.form
       have K2 := boxes_keep hb2 (Nat.lt_of_succ_lt Z1) K1
       have B2 := Lib.hid (below_next B1.out hb2)
       have H2 := Lib.hid ((hb2.block _ Z1).trans H1.out)
       have N2 := Lib.hid hn'
       obtain ⟨hc2, hf2⟩ := below_reads hb2
       clear hb2 hr2 hn'))
 clear K0 K1 HS C1 C0
 go_wp2_with fail
 refine bodyPost_ret (v := .agg #[.bool (sgn (x + y)), .slice A' n' cap']) (by unfold results; simp only [Tryz.results83]; go_simp) rfl ?_
 exact give_box B2.out N2.out H2.out (by omega) rfl
theorem add_lt (u v : Value) (x y : Int) (w : World) (hu : BR w u x) (hv : BR w v y) (hx : Mid x) (hy : Mid y) (hxy : sgn x ≠ sgn y) (hge : x.natAbs < y.natAbs) :
 Calls Tryz.prog 83 #[u, v] w (GiveB (x + y) w) := by
 obtain ⟨A, n, cap, rfl, hn⟩ := hu.form
 obtain ⟨B, m, cap', rfl, hm⟩ := hv.form
 clear hu hv
 have C0 : Hid (∀ w1, Below w.heap.size w w1 → Calls Tryz.prog 129 #[.slice A n cap, .slice B m cap'] w1 fun e w' => e = .returned (.int .i64 (cmpI (x.natAbs : Int) y.natAbs)) ∧ w1 = w') :=
  fun w1 hw => less_any _ _ _ _ w1 (hn.below hw) (hm.below hw) (by have := hx.1; have := hx.2; omega) (by have := hy.1; have := hy.2; omega)
 have C1 : Hid (∀ w1, Below w.heap.size w w1 → Calls Tryz.prog 130 #[.slice B m cap', .slice A n cap] w1 (GiveN ((y.natAbs : Int) - x.natAbs) w1)) :=
  fun w1 hw => rest_any _ _ _ _ w1 (hm.below hw) (hn.below hw) (by have := hy.1; have := hy.2; omega) (by omega)
 have HS : Hid (x + y = if sgn y then -((y.natAbs : Int) - x.natAbs) else (y.natAbs : Int) - x.natAbs) := by
  show _ = _
  rcases Int.lt_or_le x 0 with h | h
  · have h' : 0 ≤ y := by
     rcases Int.lt_or_le y 0 with h2 | h2
     · exact absurd ((sgn_t h).trans (sgn_t h2).symm) hxy
     · exact h2
    rw [sgn_f h', if_neg (by decide)]; omega
  · have h' : y < 0 := by
     rcases Int.lt_or_le y 0 with h2 | h2
     · exact h2
     · exact absurd ((sgn_f h).trans (sgn_f h2).symm) hxy
    rw [sgn_t h', if_pos rfl]; omega
 have hcm : cmpI (x.natAbs : Int) y.natAbs < 0 := by unfold cmpI; rw [if_pos (by omega)]; omega
 have e1 : (sgn x == sgn y) = false := by simp [hxy]
 clear hn hm hx hy hxy hge
 go_enter Tryz.func83, Tryz.ntmps83
 go_wp2_with fail
 refine (C0.out _ (below_new (below_new (below_new (Below.refl _ _) _) _) _)).mono ?_; rintro e w' ⟨rfl, rfl⟩
 go_wp2_with fail
 have K0 := boxes_new w (.bool (sgn x)) (.slice A n cap) (.bool (sgn y)) (.slice B m cap') 116 (.cells #[.bool false, .slice none 0 0] 116)
 go_region_held3 (fun w' => w'.cell? ⟨w.heap.size, 0, none⟩ = some (.bool (sgn x)) ∧ w'.cell? ⟨w.heap.size, 1, none⟩ = some (.slice A n cap) ∧ w'.cell? ⟨w.heap.size + 1, 0, none⟩ = some (.bool (sgn y)) ∧ w'.cell? ⟨w.heap.size + 1, 1, none⟩ = some (.slice B m cap'))
  (first | exact K0 | exact K1 | exact K2 | exact boxes_set _ _ K2)
  (first
    | (go_at_call 130
       refine (C1.out _ ?_).mono ?_
       · repeat (first | exact Below.refl _ _ | apply below_drew | apply below_new)
       rintro e w1 ⟨r, rfl, hb1, hr⟩
       obtain ⟨K1, Z1, B1, H1⟩ := boxes_call hb1
       have B1 := Lib.hid B1
       have H1 := Lib.hid H1
       obtain ⟨hc1, hf1⟩ := below_reads hb1
       have hr := Lib.hid hr
       clear hb1)
    | (go_at_call 127
       refine (made_any _ _ _ _ _ hr.out HS.out).mono ?_
       rintro e w2 ⟨r2, rfl, hb2, hr2⟩
       obtain ⟨A', n', cap', rfl, hn'⟩ := hr2.form
       have K2 := boxes_keep hb2 (Nat.lt_of_succ_lt Z1) K1
       have B2 := Lib.hid (below_next B1.out hb2)
       have H2 := Lib.hid ((hb2.block _ Z1).trans H1.out)
       have N2 := Lib.hid hn'
       obtain ⟨hc2, hf2⟩ := below_reads hb2
       clear hb2 hr2 hn'))
 clear K0 K1 HS C1 C0
 go_wp2_with fail
 refine bodyPost_ret (v := .agg #[.bool (sgn (x + y)), .slice A' n' cap']) (by unfold results; simp only [Tryz.results83]; go_simp) rfl ?_
 exact give_box B2.out N2.out H2.out (by omega) rfl
theorem add_any (u v : Value) (x y : Int) (w : World) (hu : BR w u x) (hv : BR w v y) (hx : Mid x) (hy : Mid y) :
 Calls Tryz.prog 83 #[u, v] w (GiveB (x + y) w) := by
 by_cases h : sgn x = sgn y
 · exact add_same u v x y w hu hv hx hy h
 · by_cases h2 : y.natAbs ≤ x.natAbs
   · exact add_ge u v x y w hu hv hx hy h h2
   · exact add_lt u v x y w hu hv hx hy h (by omega)
theorem sub_any (u v : Value) (x y : Int) (w : World) (hu : BR w u x) (hv : BR w v y) (hx : Mid x) (hy : Mid y) :
 Calls Tryz.prog 89 #[u, v] w (GiveB (x - y) w) := by
 have C1 : Hid (∀ w1, Below w.heap.size w w1 → Calls Tryz.prog 134 #[v] w1 (GiveB (-y) w1)) :=
  fun w1 hw => neg_any v y w1 (hv.below hw)
 have C2 : Hid (∀ r w1, Below w.heap.size w w1 → BR w1 r (-y) → Calls Tryz.prog 83 #[u, r] w1 (GiveB (x - y) w1)) := fun r w1 hw hr => by
  have h := add_any u r x (-y) w1 (hu.below hw) hr hx ⟨by have := hy.2; omega, by have := hy.1; omega⟩
  rwa [show x + -y = x - y by omega] at h
 obtain ⟨A, n, cap, rfl, hn⟩ := hu.form
 obtain ⟨B, m, cap', rfl, hm⟩ := hv.form
 clear hu hv hn hm hx hy
 go_enter Tryz.func89, Tryz.ntmps89
 go_wp2_with fail
 have K0 := boxes_new w (.bool (sgn x)) (.slice A n cap) (.bool (sgn y)) (.slice B m cap') 116 (.cells #[.bool false, .slice none 0 0] 116)
 go_region_held3 (fun w' => w'.cell? ⟨w.heap.size, 0, none⟩ = some (.bool (sgn x)) ∧ w'.cell? ⟨w.heap.size, 1, none⟩ = some (.slice A n cap) ∧ w'.cell? ⟨w.heap.size + 1, 0, none⟩ = some (.bool (sgn y)) ∧ w'.cell? ⟨w.heap.size + 1, 1, none⟩ = some (.slice B m cap'))
  (first | exact K0 | exact K1 | exact K2 | exact boxes_set _ _ K2)
  (first
    | (go_at_call 134
       refine (C1.out _ ?_).mono ?_
       · repeat (first | exact Below.refl _ _ | apply below_drew | apply below_new)
       rintro e w1 ⟨r, rfl, hb1, hr⟩
       obtain ⟨K1, Z1, B1, H1⟩ := boxes_call hb1
       have B1 := Lib.hid B1
       have H1 := Lib.hid H1
       obtain ⟨hc1, hf1⟩ := below_reads hb1
       have hr := Lib.hid hr
       clear hb1)
    | (go_at_call 83
       refine (C2.out _ _ B1.out hr.out).mono ?_
       rintro e w2 ⟨r2, rfl, hb2, hr2⟩
       obtain ⟨A', n', cap', rfl, hn'⟩ := hr2.form
       have K2 := boxes_keep hb2 (Nat.lt_of_succ_lt Z1) K1
       have B2 := Lib.hid (below_next B1.out hb2)
       have H2 := Lib.hid ((hb2.block _ Z1).trans H1.out)
       have N2 := Lib.hid hn'
       obtain ⟨hc2, hf2⟩ := below_reads hb2
       clear hb2 hr2 hn'))
 clear K0 K1 C1 C2
 go_wp2_with fail
 refine bodyPost_ret (v := .agg #[.bool (sgn (x - y)), .slice A' n' cap']) (by unfold results; simp only [Tryz.results89]; go_simp) rfl ?_
 exact give_box B2.out N2.out H2.out (by omega) rfl
theorem cmp_any (u v : Value) (x y : Int) (w : World) (hu : BR w u x) (hv : BR w v y) (hx : Mid x) (hy : Mid y) :
 Calls Tryz.prog 85 #[u, v] w fun e w' => e = .returned (.int .i64 (cmpI x y)) ∧ Below w.heap.size w w' := by
 have C1 : Hid (∀ w1, Below w.heap.size w w1 → Calls Tryz.prog 89 #[u, v] w1 (GiveB (x - y) w1)) :=
  fun w1 hw => sub_any u v x y w1 (hu.below hw) (hv.below hw) hx hy
 obtain ⟨A, n, cap, rfl, hn⟩ := hu.form
 obtain ⟨B, m, cap', rfl, hm⟩ := hv.form
 clear hu hv hn hm hx hy
 go_enter Tryz.func85, Tryz.ntmps85
 go_wp2_with fail
 refine (C1.out _ (below_new (below_new (Below.refl _ _) _) _)).mono ?_; rintro e w1 ⟨r, rfl, hb1, hr⟩
 obtain ⟨A', n', cap', rfl, hn'⟩ := hr.form
 obtain ⟨_, _, _, hf, h0⟩ := hn'.form
 injection hf with _ hf _
 subst hf
 have HB := Lib.hid (below_next (below_new (below_new (Below.refl _ _) _) _) hb1)
 clear hr hn' hb1
 by_cases hz : x - y = 0
 · have HC : Hid (cmpI x y = 0) := by show _ = _; rw [show x = y by omega]; exact cmpI_eq y
   obtain rfl : n' = 0 := h0.2 (by omega)
   clear h0 hz
   go_wp2_with fail
   go_ret
   exact ⟨ret_int HC.out.symm, below_new HB.out _⟩
 · have hn0 : ¬ n' = 0 := fun h => hz (by have := h0.1 h; omega)
   clear h0
   by_cases hlt : x < y
   · have HC : Hid (cmpI x y = -1) := cmpI_lt hlt
     have hs : sgn (x - y) = true := sgn_t (by omega)
     go_wp2_with fail
     go_ret
     exact ⟨ret_int HC.out.symm, below_new HB.out _⟩
   · have HC : Hid (cmpI x y = 1) := cmpI_gt (by omega)
     have hs : sgn (x - y) = false := sgn_f (by omega)
     go_wp2_with fail
     go_ret
     exact ⟨ret_int HC.out.symm, below_new HB.out _⟩
/-- The digits from a place on, as the loop gathers them, have room. -/
theorem drop_le {a : List Int} (h : Dig a) (i : Nat) : 0 ≤ bval (a.drop i) ∧ bval (a.drop i) ≤ bval a := by
 have h1 := take_drop_val a i
 have h2 := bval_nonneg (h.drop i)
 have h3 := bval_nonneg (h.take i)
 refine ⟨h2, ?_⟩
 have h4 : 1 * bval (a.drop i) ≤ P2 i * bval (a.drop i) := Int.mul_le_mul_of_nonneg_right (by have := P2_pos i; omega) h2
 omega
theorem unsigned_any (v : Value) (z : Int) (w : World) (h : BR w v z) (hz : (z.natAbs : Int) ≤ 18446744073709551615) :
 Calls Tryz.prog 88 #[v] w fun e w' => e = .returned (.int .u64 (z.natAbs : Int)) ∧ Below w.heap.size w w' := by
 obtain ⟨A, n, cap, rfl, hn⟩ := h.form
 obtain ⟨ds, hd, hc, hv⟩ := hn
 rw [← hv] at hz ⊢
 have hlen : ds.length ≤ 5 := hc.length_le (by rw [P2_5]; omega)
 rcases hd with ⟨e, rfl⟩ | ⟨b, off, cap', e, h2, ⟨cur, fr, h3⟩, h4⟩
 · injection e with e1 e2 e3
   subst e1 e2 e3
   have HV : Hid (bval [] = 0) := rfl
   clear h
   go_enter Tryz.func88, Tryz.ntmps88
   go_wp2
   refine wp_loop_rounds 1 ?_
   rw [rounds_succ]
   go_wp2
   go_ret
   exact ⟨rfl, below_new (Below.refl _ _) _⟩
 · injection e with e1 e2 e3
   subst e1 e2 e3
   have hblt := heap_lt h3
   have HR : Hid (∀ j : Nat, 0 ≤ bval (ds.drop j) ∧ bval (ds.drop j) ≤ 18446744073709551615) := fun j => by have := drop_le hc.1 j; omega
   have HST : Hid (∀ j : Nat, 0 < j → bval (ds.drop (j - 1)) = ds.getD (j - 1) 0 + 32768 * bval (ds.drop j)) := fun j hj => by
    rw [drop_val ds (j - 1), show j - 1 + 1 = j by omega]
   have HD := Lib.hid (fun j : Nat => hc.1.at j)
   clear h hv hc h3
   go_enter Tryz.func88, Tryz.ntmps88
   go_wp2
   go_loop [3, 4] (fun x i => ∃ j : Nat, j ≤ ds.length ∧ i = .int .i64 ((j : Int) - 1) ∧ x = .int .u64 (bval (ds.drop j))) (fun x i => (intOf i + 1).toNat)
   case atStart => exact ⟨ds.length, Nat.le_refl _, rfl, by rw [List.drop_of_length_le (Nat.le_refl _)]; rfl⟩
   case round =>
    obtain ⟨j, hj, rfl, rfl⟩ := hrel
    by_cases hj0 : j = 0
    · subst hj0
      clear h4
      go_wp2
      go_ret
      exact ⟨by simp, below_new (Below.refl _ _) _⟩
    · have c := h4 (j - 1) (by omega)
      have d := HD.out (j - 1)
      have hst := HST.out j (by omega)
      have hr := HR.out j
      have hr' := HR.out (j - 1)
      generalize ds.getD (j - 1) 0 = x at c d hst
      generalize hq : bval (ds.drop j) = q at hst hr
      rw [hst] at hr'
      have HS := Lib.hid hst
      obtain ⟨d0, d1⟩ := d
      obtain ⟨r0, r1⟩ := hr
      obtain ⟨s0, s1⟩ := hr'
      clear hst hq h4
      go_wp2
      go_round
      case rel => exact ⟨j - 1, by omega, by go_num, by rw [HS.out]; go_num⟩
      case measure => simp [intOf]; omega
theorem small_any (v : Value) (z : Int) (w : World) (h : BR w v z) (hz : I64 z) :
 Calls Tryz.prog 86 #[v] w fun e w' => e = .returned (.int .i64 z) ∧ Below w.heap.size w w' := by
 obtain ⟨z0, z1⟩ := hz
 have C1 : Hid (∀ w1, Below w.heap.size w w1 → Calls Tryz.prog 88 #[v] w1 fun e w' => e = .returned (.int .u64 (z.natAbs : Int)) ∧ Below w1.heap.size w1 w') := fun w1 hw => unsigned_any v z w1 (h.below hw) (by omega)
 obtain ⟨A, n, cap, rfl, hn⟩ := h.form
 clear h hn
 rcases Int.lt_or_le z 0 with hneg | hneg
 · obtain ⟨m, hm⟩ : ∃ m : Int, m = (z.natAbs : Int) := ⟨_, rfl⟩
   rw [← hm] at C1
   have HS := Lib.hid (sgn_t hneg)
   have m0 : 0 ≤ m := by omega
   have m1 : m ≤ 9223372036854775808 := by omega
   have HM : Hid (-m = z ∧ I64 z) := ⟨by omega, z0, z1⟩
   clear hm hneg z0 z1
   go_enter Tryz.func86, Tryz.ntmps86
   go_wp2_with fail
   refine (C1.out _ (below_new (Below.refl _ _) _)).mono ?_; rintro e w1 ⟨rfl, hb1⟩
   have HB := Lib.hid (below_next (below_new (Below.refl _ _) _) hb1)
   obtain ⟨hc, hf⟩ := below_reads hb1
   have hs := HS.out
   clear hb1
   go_wp2_with fail
   go_ret
   exact ⟨ret_int (by show wrap64 _ = _; rw [wr_neg, HM.out.1]; exact wr_in HM.out.2.1 HM.out.2.2), HB.out⟩
 · obtain ⟨m, hm⟩ : ∃ m : Int, m = (z.natAbs : Int) := ⟨_, rfl⟩
   rw [← hm] at C1
   obtain rfl : m = z := by omega
   have HS := Lib.hid (sgn_f hneg)
   clear hm
   go_enter Tryz.func86, Tryz.ntmps86
   go_wp2_with fail
   refine (C1.out _ (below_new (Below.refl _ _) _)).mono ?_; rintro e w1 ⟨rfl, hb1⟩
   have HB := Lib.hid (below_next (below_new (Below.refl _ _) _) hb1)
   obtain ⟨hc, hf⟩ := below_reads hb1
   have hs := HS.out
   clear hb1
   go_wp2_with fail
   go_ret
   exact ⟨rfl, HB.out⟩
/-- A row of the call's own that holds these digits. -/
def DL (w : World) (g : Nat) (os : List Int) : Prop := w.rowIs g 3 os.length (fun i => .int .i64 (os.getD i 0))
theorem DL.set {w : World} {g : Nat} {os : List Int} (h : DL w g os) {i : Nat} (hi : i < os.length) (v : Int) : DL (w.setCell ⟨g, i, none⟩ (.int .i64 v)) g (os.set i v) := by
 unfold DL
 rw [List.length_set]
 refine (World.rowIs.set h i (.int .i64 v)).congr fun j hj => ?_
 simp only [List.getD_eq_getElem?_getD, List.getElem?_set]
 by_cases e : j = i
 · subst e; simp [hi]
 · rw [if_neg e, if_neg (fun h => e h.symm)]
theorem DL.of_block {w w1 : World} {g : Nat} {os : List Int} (h : DL w g os) (e : w1.heap[g]? = w.heap[g]?) : DL w1 g os := World.rowIs.of_block h e
theorem DL.cell {w : World} {g : Nat} {os : List Int} (h : DL w g os) {i : Nat} (hi : i < os.length) : w.cell? ⟨g, i, none⟩ = some (.int .i64 (os.getD i 0)) := World.rowIs.cell h hi
theorem DL.fr {w : World} {g : Nat} {os : List Int} (h : DL w g os) (i : Nat) : w.frozen? ⟨g, i, none⟩ = false := World.rowIs.frozen h i
theorem DL.lt {w : World} {g : Nat} {os : List Int} (h : DL w g os) : g < w.heap.size := World.rowIs.lt h
theorem DL.dr {w : World} {g : Nat} {os : List Int} (h : DL w g os) {n cap : Nat} (hn : n = os.length) (hc : n ≤ cap) : DR w (.slice (some ⟨g, 0, none⟩) n cap) os := by
 subst hn
 obtain ⟨c, hb, _, _⟩ := id h
 exact .inr ⟨g, 0, _, rfl, hc, ⟨c, _, hb⟩, fun i hi => by rw [Nat.zero_add]; exact h.cell hi⟩
theorem DL.made (w : World) (n : Nat) : DL (w.alloc (.cells (madeCells #[.int .i64 0] n) 3)) w.heap.size (List.replicate n 0) := by
 unfold DL
 rw [List.length_replicate]
 refine (World.rowIs_made w (.int .i64 0) n 3).congr fun i hi => ?_
 simp [List.getD_eq_getElem?_getD, hi]
def MO (a b os : List Int) (i : Nat) : Prop := os.length = a.length + b.length + 1 ∧ Dig os ∧ (∀ j, i + b.length ≤ j → os.getD j 0 = 0) ∧ bval os = bval (a.take i) * bval b
def MI (a b os : List Int) (i k : Nat) (c : Int) : Prop := os.length = a.length + b.length + 1 ∧ Dig os ∧ (∀ j, i + b.length ≤ j → os.getD j 0 = 0) ∧
 bval os + P2 (i + k) * c = bval (a.take i) * bval b + P2 i * (a.getD i 0 * bval (b.take k))
theorem MO.start (a b : List Int) : MO a b (List.replicate (a.length + b.length + 1) 0) 0 := by
 refine ⟨by simp, Dig.zeros _, fun j _ => ?_, by simp [zeros_val, bval]⟩
 simp only [List.getD_eq_getElem?_getD, List.getElem?_replicate]
 split <;> rfl
theorem MO.inner {a b os : List Int} {i : Nat} (h : MO a b os i) : MI a b os i 0 0 := ⟨h.1, h.2.1, h.2.2.1, by rw [h.2.2.2]; simp [bval]⟩
theorem MI.step {a b os : List Int} {i k : Nat} {c s : Int} (h : MI a b os i k c) (hi : i < a.length) (hk : k < b.length) (hs : s = os.getD (i + k) 0 + a.getD i 0 * b.getD k 0 + c) (h0 : 0 ≤ s) :
 MI a b (os.set (i + k) (s % 32768)) i (k + 1) (s / 32768) := by
 obtain ⟨h1, h2, h3, h4⟩ := h
 refine ⟨by simpa using h1, h2.set _ ⟨by omega, by omega⟩, fun j hj => ?_, ?_⟩
 · have h5 := h3 j hj
   simp only [List.getD_eq_getElem?_getD, List.getElem?_set] at h5 ⊢
   rw [if_neg (by omega)]; exact h5
 · rw [set_val _ _ _ (by omega), take_succ_val, ← Nat.add_assoc, P2_succ]
   have e := Int.mul_ediv_add_emod s 32768
   have e2 := P2_add i k
   generalize s % 32768 = q at *
   generalize s / 32768 = r at *
   generalize os.getD (i + k) 0 = o at *
   generalize a.getD i 0 = u at *
   generalize b.getD k 0 = v at *
   rw [e2] at h4 ⊢
   subst hs
   grind
theorem MI.outer {a b os : List Int} {i : Nat} {c : Int} (h : MI a b os i b.length c) (hi : i < a.length) (h0 : 0 ≤ c) (hc : c < 32768) : MO a b (os.set (i + b.length) c) (i + 1) := by
 obtain ⟨h1, h2, h3, h4⟩ := h
 refine ⟨by simpa using h1, h2.set _ ⟨h0, hc⟩, fun j hj => ?_, ?_⟩
 · have h5 := h3 j (by omega)
   simp only [List.getD_eq_getElem?_getD, List.getElem?_set] at h5 ⊢
   rw [if_neg (by omega)]; exact h5
 · rw [set_val _ _ _ (by omega), take_succ_val, h3 _ (Nat.le_refl _)]
   rw [List.take_length] at h4
   grind
theorem MO.end_ {a b os : List Int} (h : MO a b os a.length) : bval os = bval a * bval b := by
 have := h.2.2.2
 rwa [List.take_length] at this
theorem dig_mul {u v : Int} (hu : 0 ≤ u ∧ u < 32768) (hv : 0 ≤ v ∧ v < 32768) : 0 ≤ u * v ∧ u * v ≤ 1073676289 := by
 refine ⟨Int.mul_nonneg hu.1 hv.1, ?_⟩
 have := Int.mul_le_mul (show u ≤ 32767 by omega) (show v ≤ 32767 by omega) hv.1 (by omega)
 omega
theorem sgn_mul (x y : Int) : x * y = if (sgn x != sgn y) then -((x.natAbs : Int) * y.natAbs) else (x.natAbs : Int) * y.natAbs := by
 rcases Int.lt_or_le x 0 with hx | hx <;> rcases Int.lt_or_le y 0 with hy | hy
 · rw [sgn_t hx, sgn_t hy, if_neg (by decide), show (x.natAbs : Int) = -x by omega, show (y.natAbs : Int) = -y by omega]; grind
 · rw [sgn_t hx, sgn_f hy, if_pos (by decide), show (x.natAbs : Int) = -x by omega, show (y.natAbs : Int) = y by omega]; grind
 · rw [sgn_f hx, sgn_t hy, if_pos (by decide), show (x.natAbs : Int) = x by omega, show (y.natAbs : Int) = -y by omega]; grind
 · rw [sgn_f hx, sgn_f hy, if_neg (by decide), show (x.natAbs : Int) = x by omega, show (y.natAbs : Int) = y by omega]
theorem box_reads {w : World} {g : Nat} {a0 a1 : Value} {T : TypeId} (h : w.heap[g]? = some (.cells #[a0, a1] T (0, 0))) :
 w.cell? ⟨g, 0, none⟩ = some a0 ∧ w.cell? ⟨g, 1, none⟩ = some a1 ∧ w.frozen? ⟨g, 0, none⟩ = false ∧ w.frozen? ⟨g, 1, none⟩ = false := by
 simp [World.cell?, World.frozen?, h]
/-- The world behind the boxes of two parameters and of a result. -/
abbrev W3 (w : World) (a0 a1 b0 b1 : Value) : World := ((w.alloc (.cells #[a0, a1] 116)).alloc (.cells #[b0, b1] 116)).alloc (.cells #[.bool false, .slice none 0 0] 116)
theorem W3.size (w : World) (a0 a1 b0 b1 : Value) : (W3 w a0 a1 b0 b1).heap.size = w.heap.size + 3 := by simp
theorem W3.boxes {w wr : World} {a0 a1 b0 b1 : Value} (hb : Below (w.heap.size + 3) (W3 w a0 a1 b0 b1) wr) :
 (wr.cell? ⟨w.heap.size, 0, none⟩ = some a0 ∧ wr.cell? ⟨w.heap.size, 1, none⟩ = some a1 ∧ wr.cell? ⟨w.heap.size + 1, 0, none⟩ = some b0 ∧ wr.cell? ⟨w.heap.size + 1, 1, none⟩ = some b1) ∧
 w.heap.size + 2 < wr.heap.size ∧ Below w.heap.size w wr ∧ wr.heap[w.heap.size + 2]? = some (.cells #[.bool false, .slice none 0 0] 116 (0, 0)) := by
 refine boxes_call (w1 := wr) ⟨hb.os, hb.tape, hb.output, hb.size, fun k hk => hb.block k ?_⟩
 have e : (W3 w a0 a1 b0 b1).heap.size = w.heap.size + 3 := W3.size ..
 exact e ▸ hk
theorem mul_any (u v : Value) (x y : Int) (w : World) (hu : BR w u x) (hv : BR w v y) (hx : Mid x) (hy : Mid y) :
 Calls Tryz.prog 84 #[u, v] w (GiveB (x * y) w) := by
 obtain ⟨s, rfl, a, ha, ca, ea⟩ := hu
 obtain ⟨t, rfl, b, hb, cb, eb⟩ := hv
 have la := huge_len ca (by have := hx.1; have := hx.2; omega)
 have lb := huge_len cb (by have := hy.1; have := hy.2; omega)
 have HS := Lib.hid (sgn_mul x y)
 obtain ⟨A, capa, rfl⟩ := ha.form
 obtain ⟨B, capb, rfl⟩ := hb.form
 have HA := Lib.hid ha
 have HB := Lib.hid hb
 have HE := Lib.hid (show (x.natAbs : Int) * y.natAbs = bval a * bval b by rw [ea, eb])
 generalize sgn x = sx at *
 generalize sgn y = sy at *
 clear ha hb hx hy ea eb
 obtain ⟨i0, hi, hz0, hz1, hz2⟩ := info_parts info_int
 go_enter Tryz.func84, Tryz.ntmps84
 go_wp2_with (at_make; refine wpList_make_row _ rfl (.tmp 17) (.tmp 17) 40 rfl 3 i0 (.int .i64 0) Tryz.underlying40 hi hz0 hz1 rfl .i64 .i64 (a.length + b.length + 1) (by first | rfl | (simp [go_sem]; done)) (by first | rfl | (simp [go_sem]; done)) (by rw [hz2]; omega) (by omega) ?_)
 go_loopw [6, 7, 8, 9] (fun i cy k s wr => ∃ (p : Nat) (os : List Int), p ≤ a.length ∧ i = .int .i64 p ∧ Hid (DL wr (w.heap.size + 3) os ∧ MO a b os p) ∧ Below (w.heap.size + 3) (W3 w (.bool sx) (.slice A a.length capa) (.bool sy) (.slice B b.length capb)) wr) (fun i _ _ _ _ => 5001 - (intOf i).toNat)
 case atStart =>
  have hm := DL.made (W3 w (.bool sx) (.slice A a.length capa) (.bool sy) (.slice B b.length capb)) (a.length + b.length + 1)
  rw [W3.size] at hm
  exact ⟨0, _, by omega, rfl, ⟨hm, MO.start a b⟩, (Below.refl _ _).alloc (Nat.le_of_eq (W3.size ..).symm) _⟩
 case round =>
  obtain ⟨p, os, hp, rfl, hinv, hbel⟩ := hrel
  obtain ⟨⟨c0, c1, c2, c3⟩, hsz, HB1, HR⟩ := W3.boxes hbel
  have HB1 := Lib.hid HB1
  have HR := Lib.hid HR
  have HB2 := Lib.hid hbel
  clear hbel
  by_cases hlt : (p : Int) < a.length
  · go_wp2_with fail
    go_loopw [7, 8, 9] (fun cy k _ wi => ∃ (q : Nat) (c : Int) (os : List Int), q ≤ b.length ∧ k = .int .i64 q ∧ cy = .int .i64 c ∧ 0 ≤ c ∧ c < 32768 ∧ Hid (DL wi (w.heap.size + 3) os ∧ MI a b os p q c) ∧ Below (w.heap.size + 3) (W3 w (.bool sx) (.slice A a.length capa) (.bool sy) (.slice B b.length capb)) wi) (fun _ k _ _ => 5001 - (intOf k).toNat)
    case atStart => exact ⟨0, 0, os, by omega, rfl, rfl, by omega, by omega, ⟨hinv.out.1, hinv.out.2.inner⟩, HB2.out⟩
    case round =>
     obtain ⟨q, c, os, hq, rfl, rfl, hc0, hc1, hinv, hbel⟩ := hrel
     obtain ⟨⟨d0, d1, d2, d3⟩, hsz', HB3, HR'⟩ := W3.boxes hbel
     have HB3 := Lib.hid HB3
     have HB4 := Lib.hid hbel
     clear hbel c0 c1 c2 c3 HR'
     by_cases hlq : (q : Int) < b.length
     · obtain ⟨hD, hM⟩ := hinv.out
       have hla := hM.1
       have cO := hD.cell (i := p + q) (by omega)
       have fO := hD.fr (p + q)
       have gO := hD.lt
       rcases HA.out.below HB3.out with ⟨_, h⟩ | ⟨ba, oa, capa', e, hca, _, hcellA⟩
       · subst h; simp at hlt; omega
       rcases HB.out.below HB3.out with ⟨_, h⟩ | ⟨bb, ob, capb', e', hcb, _, hcellB⟩
       · subst h; simp at hlq; omega
       injection e with e1 e2 e3
       injection e' with e1' e2' e3'
       subst e1 e1' e3 e3'
       clear e2 e2'
       have cA := hcellA p (by omega)
       have cB := hcellB q (by omega)
       clear hcellA hcellB
       have dO := hM.2.1.at (p + q)
       have dA := ca.1.at p
       have dB := cb.1.at q
       obtain ⟨m0, m1⟩ := dig_mul dA dB
       have HM := Lib.hid (fun s hs h0 => hM.step (s := s) (by omega) (by omega) hs h0)
       have HX := Lib.hid (fun (n : Nat) (v : Int) => DL.set (w := wr.drewN n) (hD.of_block rfl) (i := p + q) (by omega) v)
       clear hinv hM hD
       generalize os.getD (p + q) 0 = o at *
       generalize a.getD p 0 = u at *
       generalize b.getD q 0 = v at *
       obtain ⟨o0, o1⟩ := dO
       clear dA dB
       go_wp2_with fail
       go_quiet (fail)
       go_wp2_with fail
       have hr0 : 0 ≤ o + u * v + c := by omega
       go_roundw
       case rel =>
        exact ⟨q + 1, (o + u * v + c) / 32768, _, by omega, rfl, rfl, by omega, by omega, ⟨HX.out _ _, HM.out _ rfl hr0⟩, (below_drawn HB4.out nq).setCell (p := ⟨_, _, none⟩) (Nat.le_refl _) _⟩
       case measure => simp [intOf]; omega
     · obtain rfl : q = b.length := by omega
       obtain ⟨hD, hM⟩ := hinv.out
       have hla := hM.1
       have cO := hD.cell (i := p + b.length) (by omega)
       have fO := hD.fr (p + b.length)
       have gO := hD.lt
       rw [hM.2.2.1 _ (Nat.le_refl _)] at cO
       have HM := Lib.hid (hM.outer (by omega) hc0 hc1)
       have HX := Lib.hid (fun (n : Nat) (v : Int) => DL.set (w := wr.drewN n) (hD.of_block rfl) (i := p + b.length) (by omega) v)
       clear hinv hM hD
       go_wp2_with fail
       go_region
       all_goals go_wp2_with fail
       go_roundw
       case rel => exact ⟨p + 1, _, by omega, rfl, ⟨(HX.out 1 _), HM.out⟩, ((HB4.out.setCell (p := ⟨_, _, none⟩) (Nat.le_refl _) _).drew)⟩
       case measure => simp [intOf]; omega
  · obtain rfl : p = a.length := by omega
    obtain ⟨hD, hM⟩ := hinv.out
    have C1 : Hid (∀ w1, Below wr.heap.size wr w1 → Calls Tryz.prog 131 #[.slice (some ⟨w.heap.size + 1 + 1 + 1, 0, none⟩) (a.length + b.length + 1) (a.length + b.length + 1)] w1 (GiveN ((x.natAbs : Int) * y.natAbs) wr)) :=
     fun w1 hw => trim_give hw ((hD.dr (n := a.length + b.length + 1) (cap := a.length + b.length + 1) hM.1.symm (Nat.le_refl _)).below hw) hM.2.1 (by have := hM.1; omega) (by rw [HE.out]; exact hM.end_)
    clear hinv hM hD
    have K0 : wr.cell? ⟨w.heap.size, 0, none⟩ = some (.bool sx) ∧ wr.cell? ⟨w.heap.size, 1, none⟩ = some (.slice A a.length capa) ∧ wr.cell? ⟨w.heap.size + 1, 0, none⟩ = some (.bool sy) ∧ wr.cell? ⟨w.heap.size + 1, 1, none⟩ = some (.slice B b.length capb) := ⟨c0, c1, c2, c3⟩
    obtain ⟨r0, r1, r2, r3⟩ := box_reads HR.out
    clear c0 c1 c2 c3 HA HB
    go_wp2_with fail
    go_region_held3 (fun w' => w'.cell? ⟨w.heap.size, 0, none⟩ = some (.bool sx) ∧ w'.cell? ⟨w.heap.size, 1, none⟩ = some (.slice A a.length capa) ∧ w'.cell? ⟨w.heap.size + 1, 0, none⟩ = some (.bool sy) ∧ w'.cell? ⟨w.heap.size + 1, 1, none⟩ = some (.slice B b.length capb))
     (first | exact K0 | exact K1 | exact K2 | exact boxes_set _ _ K2)
     (first
       | (go_at_call 131
          refine (C1.out _ ?_).mono ?_
          · repeat (first | exact Below.refl _ _ | apply below_drew | apply below_new)
          rintro e w1 ⟨r, rfl, hb1, hr⟩
          have K1 := boxes_keep hb1 (Nat.lt_of_succ_lt hsz) K0
          have Z1 : w.heap.size + 2 < w1.heap.size := Nat.lt_of_lt_of_le hsz hb1.size
          have B1 := Lib.hid (below_next HB1.out hb1)
          have H1 := Lib.hid ((hb1.block _ hsz).trans HR.out)
          obtain ⟨hc1, hf1⟩ := below_reads hb1
          have hr := Lib.hid hr
          clear hb1)
       | (go_at_call 127
          refine (made_any _ _ _ _ _ hr.out HS.out).mono ?_
          rintro e w2 ⟨r2, rfl, hb2, hr2⟩
          obtain ⟨A', n', cap', rfl, hn'⟩ := hr2.form
          have K2 := boxes_keep hb2 (Nat.lt_of_succ_lt Z1) K1
          have B2 := Lib.hid (below_next B1.out hb2)
          have H2 := Lib.hid ((hb2.block _ Z1).trans H1.out)
          have N2 := Lib.hid hn'
          obtain ⟨hc2, hf2⟩ := below_reads hb2
          clear hb2 hr2 hn'))
    clear K0 K1 HS C1
    go_wp2_with fail
    refine bodyPost_ret (v := .agg #[.bool (sgn (x * y)), .slice A' n' cap']) (by unfold results; simp only [Tryz.results84]; go_simp) rfl ?_
    exact give_box B2.out N2.out H2.out (by omega) rfl
/-- The three digits from a place down. -/
def hd3 (ds : List Int) (k : Nat) : Int := (dg ds k * 32768 + dg ds ((k : Int) - 1)) * 32768 + dg ds ((k : Int) - 2)
def scS (k : Nat) : Int := if k = 1 then 1 else P2 (k - 2)
def scT (k : Nat) : Int := if k = 1 then 32768 else 1
theorem scS_pos (k : Nat) : 0 < scS k := by unfold scS; split; omega; exact P2_pos _
theorem scT_pos (k : Nat) : 0 < scT k := by unfold scT; split <;> omega
theorem drop_none {ds : List Int} (h : Dig ds) {n : Nat} (hx : bval ds < P2 n) : bval (ds.drop n) = 0 := by
 have h1 := take_drop_val ds n
 have h2 := bval_nonneg (h.drop n)
 have h3 := bval_nonneg (h.take n)
 have h4 := P2_pos n
 rcases Int.lt_or_le 0 (bval (ds.drop n)) with h5 | h5
 · have h6 : P2 n * 1 ≤ P2 n * bval (ds.drop n) := Int.mul_le_mul_of_nonneg_left (by omega) (by omega)
   omega
 · omega
theorem hd3_spec {ds : List Int} (h : Dig ds) {k : Nat} (hk : 0 < k) (hx : bval ds < P2 (k + 1)) :
 hd3 ds k * scS k ≤ bval ds * scT k ∧ bval ds * scT k < (hd3 ds k + 1) * scS k := by
 have h0 := drop_none h hx
 by_cases h1 : k = 1
 · subst h1
   have e1 := drop_val ds 1
   have e0 := drop_val ds 0
   rw [List.drop_zero] at e0
   unfold hd3 scS scT
   rw [if_pos rfl, if_pos rfl, show ((1 : Nat) : Int) - 1 = ((0 : Nat) : Int) by omega, dg_nat, dg_nat, dg_neg ds (by omega)]
   simp only [Nat.zero_add] at *
   omega
 · obtain ⟨j, rfl⟩ : ∃ j, k = j + 2 := ⟨k - 2, by omega⟩
   unfold hd3 scS scT
   rw [if_neg h1, if_neg h1, show ((j + 2 : Nat) : Int) - 1 = ((j + 1 : Nat) : Int) by omega, show ((j + 2 : Nat) : Int) - 2 = ((j : Nat) : Int) by omega, dg_nat, dg_nat, dg_nat, show j + 2 - 2 = j by omega]
   have e2 := drop_val ds (j + 2)
   have e1 := drop_val ds (j + 1)
   have e0 := drop_val ds j
   have hv := take_drop_val ds j
   have ⟨t0, t1⟩ := take_lt h j
   have hs : (ds.getD (j + 2) 0 * 32768 + ds.getD (j + 1) 0) * 32768 + ds.getD j 0 = bval (ds.drop j) := by
    rw [show j + 2 + 1 = j + 3 by omega] at h0 e2
    rw [show j + 1 + 1 = j + 2 by omega] at e1
    omega
   rw [hs]
   generalize bval (ds.drop j) = D at *
   generalize P2 j = P at *
   rw [Int.mul_one, Int.add_mul, Int.one_mul, Int.mul_comm D P]
   omega
/-- The digit of a long division lies between what the first digits tell. -/
theorem digit_est {F t S T R B : Int} (hS : 0 < S) (hT : 0 < T) (hB : 0 < B) (hR : 0 ≤ R) (hRB : R < 32768 * B) (ht : 0 < t) (hF : 0 ≤ F)
 (f1 : F * S ≤ R * T) (f2 : R * T < (F + 1) * S) (t1 : t * S ≤ B * T) (t2 : B * T < (t + 1) * S) :
 0 ≤ F / (t + 1) ∧ F / (t + 1) ≤ R / B ∧ R / B ≤ (F + 1) / t ∧ R / B ≤ 32767 ∧ 0 ≤ R / B := by
 have l0 : 0 ≤ F / (t + 1) := Int.ediv_nonneg hF (by omega)
 have q0 : 0 ≤ R / B := Int.ediv_nonneg hR (by omega)
 refine ⟨l0, ?_, ?_, ?_, q0⟩
 · rw [Int.le_ediv_iff_mul_le hB]
   have h1 : F / (t + 1) * (t + 1) ≤ F := Int.ediv_mul_le _ (by omega)
   generalize F / (t + 1) = l at *
   refine Int.le_of_mul_le_mul_right (a := T) ?_ hT
   have h2 : l * (B * T) ≤ l * ((t + 1) * S) := Int.mul_le_mul_of_nonneg_left (by omega) l0
   have h3 : l * (t + 1) * S ≤ F * S := Int.mul_le_mul_of_nonneg_right h1 (by omega)
   rw [Int.mul_assoc]
   rw [Int.mul_assoc] at h3
   omega
 · rw [Int.le_ediv_iff_mul_le ht]
   have h1 : R / B * B ≤ R := Int.ediv_mul_le _ (by omega)
   generalize R / B = q at *
   have h2 : q * (t * S) ≤ q * (B * T) := Int.mul_le_mul_of_nonneg_left t1 q0
   have h3 : q * B * T ≤ R * T := Int.mul_le_mul_of_nonneg_right h1 (by omega)
   rw [Int.mul_assoc] at h3
   refine Int.le_of_lt (Int.lt_of_mul_lt_mul_right (a := S) ?_ (by omega))
   rw [Int.mul_assoc]
   omega
 · have : R / B < 32768 := by rw [Int.ediv_lt_iff_lt_mul hB]; omega
   omega
theorem top_pos {bd : List Int} (h : Canon bd) (hn : bd ≠ []) : 0 < hd3 bd bd.length := by
 have hl : 0 < bd.length := by cases bd with | nil => exact absurd rfl hn | cons => simp
 have h1 := (hd3_spec h.1 hl (by have := bval_lt h.1; have := P2_mono (show bd.length ≤ bd.length + 1 by omega); omega)).2
 have h2 := bval_low h hn
 have h3 : P2 (bd.length - 1) * scT bd.length ≤ bval bd * scT bd.length := Int.mul_le_mul_of_nonneg_right h2 (by have := scT_pos bd.length; omega)
 have h4 : P2 (bd.length - 1) * scT bd.length = 32768 * scS bd.length := by
  unfold scS scT
  split
  · next e => rw [e]; simp [P2_zero]
  · next e => rw [show bd.length - 1 = bd.length - 2 + 1 by omega, P2_succ]; omega
 have h5 := scS_pos bd.length
 have h6 : 32768 * scS bd.length < (hd3 bd bd.length + 1) * scS bd.length := by omega
 have h7 := Int.lt_of_mul_lt_mul_right h6 (by omega)
 omega
/-- Rounding down, by the signs and the bare quotient. -/
theorem fdiv_eq (x y : Int) (hy : y ≠ 0) : x.fdiv y = if sgn x = sgn y then (x.natAbs : Int) / y.natAbs else if (x.natAbs : Int) % y.natAbs = 0 then -((x.natAbs : Int) / y.natAbs) else -((x.natAbs : Int) / y.natAbs + 1) := by
 have key : ∀ p q : Int, 0 ≤ p → 0 < q → (-p).fdiv q = if p % q = 0 then -(p / q) else -(p / q + 1) := by
  intro p q hp hq
  rw [Int.fdiv_eq_ediv_of_nonneg _ (by omega)]
  have e := Int.mul_ediv_add_emod p q
  have m0 := Int.emod_nonneg p (show q ≠ 0 by omega)
  have m1 := Int.emod_lt_of_pos p hq
  generalize p % q = m at *
  generalize p / q = d at *
  subst e
  split
  · next h => subst h; rw [Int.add_zero, ← Int.mul_neg, Int.mul_ediv_cancel_left _ (by omega)]
  · next h =>
    refine (Int.ediv_emod_unique hq (a := -(q * d + m)) (r := q - m) (q := -(d + 1))).2 ⟨by grind, by omega, by omega⟩ |>.1
 have kneg : ∀ p q : Int, p.fdiv q = (-p).fdiv (-q) := fun p q => (Int.neg_fdiv_neg p q).symm
 rcases Int.lt_or_le x 0 with hx | hx <;> rcases Int.lt_or_le y 0 with hy' | hy'
 · rw [sgn_t hx, sgn_t hy', if_pos rfl, kneg, Int.fdiv_eq_ediv_of_nonneg _ (by omega), show (x.natAbs : Int) = -x by omega, show (y.natAbs : Int) = -y by omega]
 · rw [sgn_t hx, sgn_f hy', if_neg (by decide), show (x.natAbs : Int) = -x by omega, show (y.natAbs : Int) = y by omega]
   have := key (-x) y (by omega) (by omega)
   rwa [Int.neg_neg] at this
 · rw [sgn_f hx, sgn_t hy', if_neg (by decide), show (x.natAbs : Int) = x by omega, show (y.natAbs : Int) = -y by omega, kneg]
   exact key x (-y) (by omega) (by omega)
 · rw [sgn_f hx, sgn_f hy', if_pos rfl, Int.fdiv_eq_ediv_of_nonneg _ (by omega), show (x.natAbs : Int) = x by omega, show (y.natAbs : Int) = y by omega]
theorem field_big_1 (s : Bool) (A : Option Addr) (n cap : Nat) (w : World) : (Instr.field 116 (.agg #[.bool s, .slice A n cap]) 1).run Tryz.prog w = .ok (.slice A n cap) w := by
 kernel_rfl
theorem field_big_0 (s : Bool) (A : Option Addr) (n cap : Nat) (w : World) : (Instr.field 116 (.agg #[.bool s, .slice A n cap]) 0).run Tryz.prog w = .ok (.bool s) w := by
 kernel_rfl
attribute [go_sem] field_big_0 field_big_1
theorem NR_one {w : World} : NR (w.alloc (.cells #[.int .i64 1] 3)) (.slice (some ⟨w.heap.size, 0, none⟩) 1 1) 1 :=
 ⟨[1], .inr ⟨_, 0, 1, rfl, by simp, ⟨_, _, heap_new _ _⟩, fun i hi => by
   obtain rfl : i = 0 := by simp at hi; omega
   exact one_new w (.int .i64 1) 3 0 _ rfl⟩, ⟨Dig.mk ⟨by omega, by omega⟩ Dig.nil, fun _ => by simp⟩, rfl⟩
theorem P2_lt_of {m n : Nat} (h : m < n) : P2 m < P2 n := by
 have h1 := P2_mono (show m + 1 ≤ n by omega)
 rw [P2_succ] at h1
 have := P2_pos m
 omega
theorem short_any (u v : Value) (x y : Int) (w : World) (hu : BR w u x) (hv : BR w v y) (hx : (x.natAbs : Int) ≤ 18446744073709551615) (hy : (y.natAbs : Int) ≤ 18446744073709551615) (hy0 : y ≠ 0) :
 Calls Tryz.prog 132 #[u, v] w (GiveB (x.fdiv y) w) := by
 have CX : Hid (∀ w1, Below w.heap.size w w1 → Calls Tryz.prog 88 #[u] w1 fun e w' => e = .returned (.int .u64 (x.natAbs : Int)) ∧ Below w1.heap.size w1 w') := fun w1 hw => unsigned_any u x w1 (hu.below hw) hx
 have CY : Hid (∀ w1, Below w.heap.size w w1 → Calls Tryz.prog 88 #[v] w1 fun e w' => e = .returned (.int .u64 (y.natAbs : Int)) ∧ Below w1.heap.size w1 w') := fun w1 hw => unsigned_any v y w1 (hv.below hw) hy
 have HF := Lib.hid (fdiv_eq x y hy0)
 obtain ⟨A, n, cap, rfl, hn⟩ := hu.form
 obtain ⟨B, m, cap', rfl, hm⟩ := hv.form
 have hy1 : 0 < (y.natAbs : Int) := by omega
 have hx0 : 0 ≤ (x.natAbs : Int) := by omega
 have CU : Hid (∀ w1, Calls Tryz.prog 90 #[.int .u64 ((x.natAbs : Int) / y.natAbs)] w1 (GiveB ((x.natAbs : Int) / y.natAbs) w1)) := fun w1 => uns_any _ ⟨Int.ediv_nonneg hx0 (by omega), Int.le_trans (Int.ediv_le_self _ hx0) hx⟩ w1
 have hq0 : 0 ≤ (x.natAbs : Int) / y.natAbs := Int.ediv_nonneg hx0 (by omega)
 have hq1 : (x.natAbs : Int) / y.natAbs ≤ 18446744073709551615 := Int.le_trans (Int.ediv_le_self _ hx0) hx
 clear hu hv hn hm hy0
 generalize sgn x = sx at *
 generalize sgn y = sy at *
 generalize (x.natAbs : Int) = p at *
 generalize (y.natAbs : Int) = q at *
 generalize x.fdiv y = z at *
 go_enter Tryz.func132, Tryz.ntmps132
 go_wp2_with fail
 refine (CX.out _ (below_new (below_new (below_new (Below.refl _ _) _) _) _)).mono ?_; rintro e w1 ⟨rfl, hb1⟩
 obtain ⟨K1, Z1, B1, H1⟩ := W3.boxes (wr := w1) (W3.size .. ▸ hb1)
 have B1 := Lib.hid B1
 have H1 := Lib.hid H1
 clear hb1
 go_wp2_with fail
 refine (CY.out _ B1.out).mono ?_; rintro e w2 ⟨rfl, hb2⟩
 have K2 := boxes_keep hb2 (Nat.lt_of_succ_lt Z1) K1
 have Z2 : w.heap.size + 2 < w2.heap.size := Nat.lt_of_lt_of_le Z1 hb2.size
 have B2 := Lib.hid (below_next B1.out hb2)
 have H2 := Lib.hid ((hb2.block _ Z1).trans H1.out)
 clear hb2 K1 Z1 B1 H1
 go_wp2_with fail
 refine (CU.out w2).mono ?_; rintro e w3 ⟨r3, rfl, hb3, hr3⟩
 obtain ⟨A3, n3, cap3, rfl, hn3⟩ := hr3.form
 have K3 := boxes_keep hb3 (Nat.lt_of_succ_lt Z2) K2
 have Z3 : w.heap.size + 2 < w3.heap.size := Nat.lt_of_lt_of_le Z2 hb3.size
 have B3 := Lib.hid (below_next B2.out hb3)
 have H3 := Lib.hid ((hb3.block _ Z2).trans H2.out)
 have N3 : Hid (NR w3 (.slice A3 n3 cap3) (p / q)) := by
  have := Lib.hid hn3
  rwa [show ((p / q).natAbs : Int) = p / q by omega] at this
 clear hb3 K2 Z2 B2 H2 hr3 hn3
 generalize sgn (p / q) = s3 at *
 obtain ⟨r0, r1, r2, r3⟩ := box_reads H3.out
 have CM : Hid (∀ b t, z = (if b then -t else t) → t = p / q → Calls Tryz.prog 127 #[.bool b, .slice A3 n3 cap3] w3 (GiveB z w3)) := fun b t hz ht => made_any b _ t z w3 (by rw [ht]; exact N3.out) hz
 by_cases h1 : sx = sy
 · have HZ : Hid (z = if false then -(p / q) else p / q) := by show _ = _; rw [HF.out, if_pos h1, if_neg (by decide)]
   have e1 : (sx == sy) = true := by simp [h1]
   clear h1
   go_wp2_with fail
   refine (CM.out false _ HZ.out rfl).mono ?_; rintro e w4 ⟨r4, rfl, hb4, hr4⟩
   obtain ⟨A4, n4, cap4, rfl, hn4⟩ := hr4.form
   have H4 := Lib.hid ((hb4.block _ Z3).trans H3.out)
   have B4 := Lib.hid (below_next B3.out hb4)
   have N4 := Lib.hid hn4
   obtain ⟨hc, hf⟩ := below_reads hb4
   clear hb4 hr4 hn4
   go_wp2_with fail
   refine bodyPost_ret (v := .agg #[.bool (sgn z), .slice A4 n4 cap4]) (by unfold results; simp only [Tryz.results132]; go_simp) rfl ?_
   exact give_box B4.out N4.out H4.out (by omega) rfl
 have e1 : (sx == sy) = false := by simp [h1]
 by_cases h2 : p % q = 0
 · have HZ : Hid (z = if true then -(p / q) else p / q) := by show _ = _; rw [HF.out, if_neg h1, if_pos h2, if_pos rfl]
   clear h1
   go_wp2_with fail
   refine (CM.out true _ HZ.out rfl).mono ?_; rintro e w4 ⟨r4, rfl, hb4, hr4⟩
   obtain ⟨A4, n4, cap4, rfl, hn4⟩ := hr4.form
   have H4 := Lib.hid ((hb4.block _ Z3).trans H3.out)
   have B4 := Lib.hid (below_next B3.out hb4)
   have N4 := Lib.hid hn4
   obtain ⟨hc, hf⟩ := below_reads hb4
   clear hb4 hr4 hn4
   go_wp2_with fail
   refine bodyPost_ret (v := .agg #[.bool (sgn z), .slice A4 n4 cap4]) (by unfold results; simp only [Tryz.results132]; go_simp) rfl ?_
   exact give_box B4.out N4.out H4.out (by omega) rfl
 · have HZ : Hid (z = if true then -(p / q + 1) else p / q + 1) := by show _ = _; rw [HF.out, if_neg h1, if_neg h2, if_pos rfl]
   clear h1
   have hw3 : Hid (Below w3.heap.size w3 (w3.alloc (.cells #[.int .i64 1] 3))) := below_new (Below.refl _ _) _
   have C1 := Lib.hid (sum_any _ _ _ 1 _ (N3.out.below hw3.out) (NR_one (w := w3)) (Int.lt_trans (b := P2 5) (by rw [P2_5]; omega) (P2_lt_of (by omega))) (Int.lt_trans (b := P2 5) (by rw [P2_5]; omega) (P2_lt_of (by omega))))
   go_wp2_with fail
   refine C1.out.mono ?_; rintro e w5 ⟨r5, rfl, hb5, hr5⟩
   have B5 := Lib.hid (below_next hw3.out hb5)
   have HR5 := Lib.hid hr5
   obtain ⟨A5, n5, cap5, rfl, _⟩ := hr5.form
   clear hr5 hb5
   go_wp2_with fail
   refine (made_any _ _ _ _ _ HR5.out HZ.out).mono ?_; rintro e w4 ⟨r4, rfl, hb4', hr4⟩
   have hb4 := below_next B5.out hb4'
   clear hb4'
   obtain ⟨A4, n4, cap4, rfl, hn4⟩ := hr4.form
   have H4 := Lib.hid ((hb4.block _ Z3).trans H3.out)
   have B4 := Lib.hid (below_next B3.out hb4)
   have N4 := Lib.hid hn4
   obtain ⟨hc, hf⟩ := below_reads hb4
   clear hb4 hr4 hn4
   go_wp2_with fail
   refine bodyPost_ret (v := .agg #[.bool (sgn z), .slice A4 n4 cap4]) (by unfold results; simp only [Tryz.results132]; go_simp) rfl ?_
   exact give_box B4.out N4.out H4.out (by omega) rfl
/-- A number ahead of a slice's: 'append([]int{d}, s...)'. -/
theorem wp_front (w : World) {ops : Array Oper} {rest : List Oper} {o : Oper} {a : Act} {Q : Exit → Act → World → Prop} (hgd : o.guard = none) (s x : Operand)
 (ho : o.op = .call { callee := .builtin .append, args := #[s, x], argTypes := #[40, 40] }) (d : Int) (A : Option Addr) (m c : Nat) (ds : List Int)
 (hs : a.eval s = .slice (some ⟨w.heap.size, 0, none⟩) 1 1) (hx : a.eval x = .slice A m c) (h : DR w (.slice A m c) ds) (hl : ds.length ≤ 8192)
 (hK : ∀ v' w', Below w.heap.size w w' → DR w' v' (d :: ds) → wpList Tryz.prog ops Q rest (a.put o.dst v') w') :
 wpList Tryz.prog ops Q (o :: rest) a (w.alloc (.cells #[.int .i64 d] 3)) := by
 obtain ⟨i0, hi, hz0, hz1, hz2⟩ := info_parts info_int
 have hown : (w.alloc (.cells #[.int .i64 d] 3)).ownsRow w.heap.size 3 1 (.slice (some ⟨w.heap.size, 0, none⟩) 1 1) 1 [.int .i64 d] :=
  World.ownsRow_lit w #[.int .i64 d] 1 (Nat.le_refl _) (by unfold maxLen; omega) (by simp)
 have hb : Below w.heap.size w (w.alloc (.cells #[.int .i64 d] 3)) := below_new (Below.refl _ _) _
 rcases h with ⟨h, rfl⟩ | ⟨b, off, cap, h, hc, hty, hcell⟩
 · injection h with e1 e2 e3
   subst e1 e2 e3
   refine wpList_plain hgd fun K hK' => ?_
   have hrun := run_append_owned_none (P := Tryz.prog) (w := w.alloc (.cells #[.int .i64 d] 3)) w.heap.size 40 o.type 3 i0 1 Tryz.underlying40 hi _ 1 _ hown
   unfold Oper.wp
   simp [execOp, ho, resolve, invoke, builtin, hs, hx, hrun, Result.andThen]
   exact hK' _ _ (hK _ _ hb (DR.of_own (os := [d]) hown))
 · injection h with e1 e2 e3
   subst e1 e2 e3
   refine wpList_append_own _ hgd s x 40 ho w.heap.size 3 i0 (.int .i64 0) 1 8 Tryz.underlying40 hi hz0 hz1 hz2 rfl (by decide) _ 1 _ hs hown ⟨b, off, none⟩ ds.length c (ds.map (Value.int .i64)) hx (by simp) ?_ (ints_oneCell _ _) (by unfold maxLen; omega) (by omega) (by simp) ?_
   · intro j u hu
     have hj : j < ds.length := by have := (List.getElem?_eq_some_iff.1 hu).1; simpa using this
     have hb2 := heap_lt hty.choose_spec.choose_spec
     rw [Addr.add_lit, hb.cell (p := ⟨b, off + j, none⟩) hb2, hcell j hj]
     rw [List.getElem?_map, List.getElem?_eq_getElem hj] at hu
     rw [List.getD_eq_getElem?_getD, List.getElem?_eq_getElem hj]
     exact hu
   · intro v' w' hown' hg _
     refine hK v' w' (hb.grown hg hb.size (own_block_ge hown)) (DR.of_own (base := w.heap.size) ?_)
     have e : (d :: ds).length = 1 + ds.length := by simp; omega
     rw [e]
     exact hown'
/-- What a long division holds as j digits are left. -/
def LI (a : List Int) (B : Int) (j : Nat) (qs : List Int) (R : Int) : Prop := Dig qs ∧ qs.length + j = a.length ∧ 0 ≤ R ∧ R < B ∧ bval qs * B + R = bval (a.drop j)
theorem LI.start (a : List Int) {B : Int} (hB : 0 < B) : LI a B a.length [] 0 := ⟨Dig.nil, by simp, by omega, hB, by simp [bval, List.drop_of_length_le]⟩
theorem LI.step {a : List Int} {B : Int} {j : Nat} {qs : List Int} {R R' q : Int} (h : LI a B j qs R) (hB : 0 < B) (hj : 0 < j) (hR : R' = a.getD (j - 1) 0 + 32768 * R) (hq : q = R' / B) (q0 : 0 ≤ q) (q1 : q ≤ 32767) :
 LI a B (j - 1) (q :: qs) (R' - q * B) := by
 obtain ⟨h1, h2, h3, h4, h5⟩ := h
 have e := Int.mul_ediv_add_emod R' B
 have m0 := Int.emod_nonneg R' (show B ≠ 0 by omega)
 have m1 := Int.emod_lt_of_pos R' hB
 have hm : R' - q * B = R' % B := by rw [hq, Int.mul_comm]; omega
 refine ⟨Dig.mk ⟨q0, by omega⟩ h1, by simp; omega, by omega, by omega, ?_⟩
 rw [bval_cons, drop_val a (j - 1), show j - 1 + 1 = j by omega, ← h5, hR]
 grind
theorem LI.end_ {a : List Int} {B : Int} {qs : List Int} {R : Int} (h : LI a B 0 qs R) (hB : 0 < B) : bval qs = bval a / B ∧ R = bval a % B := by
 obtain ⟨h1, h2, h3, h4, h5⟩ := h
 rw [List.drop_zero] at h5
 have := (Int.ediv_emod_unique hB (a := bval a) (r := R) (q := bval qs)).2 ⟨by rw [← h5, Int.mul_comm B]; omega, h3, h4⟩
 exact ⟨this.1.symm, this.2.symm⟩
theorem small_mid {z : Int} (h0 : -32768 ≤ z) (h1 : z ≤ 32768) : Mid z := by
 have h : (37778931862957161709568 : Int) < HUGE := by rw [← P2_5]; exact P2_lt_of (by omega)
 exact ⟨by omega, by omega⟩
/-- A number that a long division may divide by. -/
def Low (z : Int) : Prop := -P2 4999 < z ∧ z < P2 4999
theorem huge_eq : HUGE = 32768 * P2 4999 := P2_succ 4999
theorem Low.mid {z : Int} (h : Low z) : Mid z := by
 have := huge_eq
 have := P2_pos 4999
 exact ⟨by have := h.1; omega, by have := h.2; omega⟩
end Go.Proofs.YtikpobembcgbfaaGreatDoor
