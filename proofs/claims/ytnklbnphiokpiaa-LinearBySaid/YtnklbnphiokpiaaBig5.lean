/- Walks of the document's 'Neg', 'Add', 'Sub', 'Cmp'. -/
import Derived.Test.YtnklbnphiokpiaaBig4
import Derived.Deep.RegionHeld3
set_option linter.unusedVariables false
namespace Go.Proofs.Ytnklbnphiokpiaa
open Go.RowKit

/-- A number that is no greater, without its sign, than may be. -/
def Mid (z : Int) : Prop := -HUGE < z ∧ z < HUGE

theorem BR.form {w : World} {v : Value} {z : Int} (h : BR w v z) : ∃ A n cap, v = .agg #[.bool (sgn z), .slice A n cap] ∧ NR w (.slice A n cap) (z.natAbs : Int) := by
  obtain ⟨s, rfl, h2⟩ := h
  obtain ⟨A, n, cap, rfl, _⟩ := h2.form
  exact ⟨A, n, cap, rfl, h2⟩

/-- What is made of a box that was laid, and is filled: the number that was stored there. -/
theorem give_box {z : Int} {w w1 w2 : World} {A : Option Addr} {n cap p : Nat} {c : Array Value} (hb : Below w.heap.size w w1) (hn : NR w1 (.slice A n cap) (z.natAbs : Int)) (hp : w1.heap[p]? = some (.cells c 38 (0, 0))) (hpw : w.heap.size ≤ p)
    (e2 : w2 = (w1.setCell ⟨p, 0, none⟩ (.bool (sgn z))).setCell ⟨p, 1, none⟩ (.slice A n cap)) : GiveB z w (.returned (.agg #[.bool (sgn z), .slice A n cap])) w2 := by
  subst e2
  exact ⟨_, rfl, below_set (below_set hb hpw _) hpw _, _, rfl, (hn.set_ hp (by decide) _).set_ (heap_set hp _) (by decide) _⟩

theorem neg_any (v : Value) (z : Int) (w : World) (h : BR w v z) :
    Calls Try.prog 97 #[v] w (GiveB (-z) w) := by
  obtain ⟨A, n, cap, rfl, hn⟩ := h.form
  clear h
  have C : Hid (∀ b w1, b = !sgn z → Below w.heap.size w w1 → Calls Try.prog 60 #[.bool b, .slice A n cap] w1 (GiveB (-z) w1)) := fun b w1 hb hw => made_any b _ _ _ w1 (hn.below hw) (by subst hb; rcases Int.lt_or_le z 0 with hz | hz <;> simp [sgn_t, sgn_f, hz] <;> omega)
  clear hn
  go_enter Try.func97, Try.ntmps97
  go_wp2_with fail
  refine (C.out _ _ (by first | rfl | simp) (below_new (below_new (Below.refl _ _) _) _)).mono ?_; rintro e w1 ⟨r, rfl, hb1, hr⟩
  obtain ⟨A', n', cap', rfl, hn'⟩ := hr.form
  have HB := Lib.hid hb1
  have HN := Lib.hid hn'
  obtain ⟨hc, hf⟩ := below_reads hb1
  have hsz : w.heap.size + 1 < w1.heap.size := by have := hb1.size; simp at this; omega
  clear hb1 hr hn'
  go_wp2_with fail
  refine bodyPost_ret (v := .agg #[.bool (sgn (-z)), .slice A' n' cap']) (by unfold results; simp only [Try.results97]; go_simp) rfl ?_
  have hp : w1.heap[w.heap.size + 1]? = some (.cells _ 38 (0, 0)) := (HB.out.block _ (by simp)).trans (by simpa using heap_new (w.alloc _) _)
  exact give_box (below_next (below_new (below_new (Below.refl _ _) _) _) HB.out) HN.out hp (by omega) rfl

/-- The four cells of two boxes. -/
theorem boxes_new (w : World) (a0 a1 b0 b1 : Value) (T : TypeId) (o : Obj) :
    (((w.alloc (.cells #[a0, a1] T)).alloc (.cells #[b0, b1] T)).alloc o).cell? ⟨w.heap.size, 0, none⟩ = some a0 ∧ (((w.alloc (.cells #[a0, a1] T)).alloc (.cells #[b0, b1] T)).alloc o).cell? ⟨w.heap.size, 1, none⟩ = some a1 ∧
    (((w.alloc (.cells #[a0, a1] T)).alloc (.cells #[b0, b1] T)).alloc o).cell? ⟨w.heap.size + 1, 0, none⟩ = some b0 ∧ (((w.alloc (.cells #[a0, a1] T)).alloc (.cells #[b0, b1] T)).alloc o).cell? ⟨w.heap.size + 1, 1, none⟩ = some b1 := by
  simp [go_sem, World.cell?_alloc_past]
/-- Behind a first call: the cells, the heap's size, what was there. -/
theorem boxes_call {w w1 : World} {a0 a1 b0 b1 : Value} {T : TypeId} {o : Obj} (hb : Below ((((w.alloc (.cells #[a0, a1] T)).alloc (.cells #[b0, b1] T)).alloc o).drew).heap.size ((((w.alloc (.cells #[a0, a1] T)).alloc (.cells #[b0, b1] T)).alloc o).drew) w1) :
    (w1.cell? ⟨w.heap.size, 0, none⟩ = some a0 ∧ w1.cell? ⟨w.heap.size, 1, none⟩ = some a1 ∧ w1.cell? ⟨w.heap.size + 1, 0, none⟩ = some b0 ∧ w1.cell? ⟨w.heap.size + 1, 1, none⟩ = some b1) ∧
    w.heap.size + 2 < w1.heap.size ∧ Below w.heap.size w w1 ∧ w1.heap[w.heap.size + 2]? = some o := by
  have hs : w.heap.size + 3 ≤ w1.heap.size := by simpa using hb.size
  obtain ⟨hc, _⟩ := below_reads hb
  refine ⟨?_, by omega, below_next (below_drew (below_new (below_new (below_new (Below.refl _ _) _) _) _)) hb, ?_⟩
  · rw [hc _ _ (by simp; omega), hc _ _ (by simp; omega), hc _ _ (by simp), hc _ _ (by simp)]
    exact boxes_new w a0 a1 b0 b1 T o
  · refine (hb.block _ (by simp)).trans ?_
    have h := heap_new ((w.alloc (.cells #[a0, a1] T)).alloc (.cells #[b0, b1] T)) o
    simp only [World.size_alloc] at h
    exact h
theorem boxes_keep {w1 w2 : World} {n : Nat} {a0 a1 b0 b1 : Value} (hb : Below w1.heap.size w1 w2) (hn : n + 1 < w1.heap.size)
    (h : w1.cell? ⟨n, 0, none⟩ = some a0 ∧ w1.cell? ⟨n, 1, none⟩ = some a1 ∧ w1.cell? ⟨n + 1, 0, none⟩ = some b0 ∧ w1.cell? ⟨n + 1, 1, none⟩ = some b1) :
    w2.cell? ⟨n, 0, none⟩ = some a0 ∧ w2.cell? ⟨n, 1, none⟩ = some a1 ∧ w2.cell? ⟨n + 1, 0, none⟩ = some b0 ∧ w2.cell? ⟨n + 1, 1, none⟩ = some b1 := by
  obtain ⟨hc, _⟩ := below_reads hb
  rw [hc _ _ (by omega), hc _ _ (by omega), hc _ _ (by omega), hc _ _ (by omega)]
  exact h

/-- Behind the store of a result into the third box. -/
theorem boxes_set {w2 : World} {n : Nat} {a0 a1 b0 b1 : Value} (u v : Value)
    (h : w2.cell? ⟨n, 0, none⟩ = some a0 ∧ w2.cell? ⟨n, 1, none⟩ = some a1 ∧ w2.cell? ⟨n + 1, 0, none⟩ = some b0 ∧ w2.cell? ⟨n + 1, 1, none⟩ = some b1) :
    ((w2.setCell ⟨n + 1 + 1, 0, none⟩ u).setCell ⟨n + 1 + 1, 1, none⟩ v).cell? ⟨n, 0, none⟩ = some a0 ∧ ((w2.setCell ⟨n + 1 + 1, 0, none⟩ u).setCell ⟨n + 1 + 1, 1, none⟩ v).cell? ⟨n, 1, none⟩ = some a1 ∧
    ((w2.setCell ⟨n + 1 + 1, 0, none⟩ u).setCell ⟨n + 1 + 1, 1, none⟩ v).cell? ⟨n + 1, 0, none⟩ = some b0 ∧ ((w2.setCell ⟨n + 1 + 1, 0, none⟩ u).setCell ⟨n + 1 + 1, 1, none⟩ v).cell? ⟨n + 1, 1, none⟩ = some b1 := by
  have far : ∀ (b o : Nat), b ≠ n + 1 + 1 → ((w2.setCell ⟨n + 1 + 1, 0, none⟩ u).setCell ⟨n + 1 + 1, 1, none⟩ v).cell? ⟨b, o, none⟩ = w2.cell? ⟨b, o, none⟩ := fun b o hb =>
    World.cell?_of_block (a := ⟨b, o, none⟩) ((Below.heap_setCell _ ⟨n + 1 + 1, 1, none⟩ v b hb).trans (Below.heap_setCell _ ⟨n + 1 + 1, 0, none⟩ u b hb))
  rw [far _ _ (by omega), far _ _ (by omega), far _ _ (by omega), far _ _ (by omega)]
  exact h

theorem add_same (u v : Value) (x y : Int) (w : World) (hu : BR w u x) (hv : BR w v y) (hx : Mid x) (hy : Mid y) (hxy : sgn x = sgn y) :
    Calls Try.prog 20 #[u, v] w (GiveB (x + y) w) := by
  obtain ⟨A, n, cap, rfl, hn⟩ := hu.form
  obtain ⟨B, m, cap', rfl, hm⟩ := hv.form
  clear hu hv
  have C1 : Hid (∀ w1, Below w.heap.size w w1 → Calls Try.prog 61 #[.slice A n cap, .slice B m cap'] w1 (GiveN ((x.natAbs : Int) + y.natAbs) w1)) :=
    fun w1 hw => sum_any _ _ _ _ w1 (hn.below hw) (hm.below hw) (by have := hx.1; have := hx.2; omega) (by have := hy.1; have := hy.2; omega)
  have HS : Hid (x + y = if sgn x then -((x.natAbs : Int) + y.natAbs) else (x.natAbs : Int) + y.natAbs) := by
    show _ = _
    rcases Int.lt_or_le x 0 with h | h
    · have h' : y < 0 := sgn_iff.1 (by rw [← hxy]; exact sgn_t h)
      rw [sgn_t h, if_pos rfl]; omega
    · have h' : 0 ≤ y := by
        rcases Int.lt_or_le y 0 with h2 | h2
        · have := sgn_t h2; rw [← hxy, sgn_f h] at this; cases this
        · exact h2
      rw [sgn_f h, if_neg (by decide)]; omega
  have e1 : (sgn x == sgn y) = true := by simp [hxy]
  clear hn hm hx hy hxy
  go_enter Try.func20, Try.ntmps20
  go_wp2_with fail
  have K0 := boxes_new w (.bool (sgn x)) (.slice A n cap) (.bool (sgn y)) (.slice B m cap') 38 (.cells #[.bool false, .slice none 0 0] 38)
  go_region_held3 (fun w' => w'.cell? ⟨w.heap.size, 0, none⟩ = some (.bool (sgn x)) ∧ w'.cell? ⟨w.heap.size, 1, none⟩ = some (.slice A n cap) ∧ w'.cell? ⟨w.heap.size + 1, 0, none⟩ = some (.bool (sgn y)) ∧ w'.cell? ⟨w.heap.size + 1, 1, none⟩ = some (.slice B m cap'))
    (first | exact K0 | exact K1 | exact K2 | exact boxes_set _ _ K2)
    (first
      | (go_at_call 61
         refine (C1.out _ ?_).mono ?_
         · repeat (first | exact Below.refl _ _ | apply below_drew | apply below_new)
         rintro e w1 ⟨r, rfl, hb1, hr⟩
         obtain ⟨K1, Z1, B1, H1⟩ := boxes_call hb1
         have B1 := Lib.hid B1
         have H1 := Lib.hid H1
         obtain ⟨hc1, hf1⟩ := below_reads hb1
         have hr := Lib.hid hr
         clear hb1)
      | (go_at_call 60
         refine (made_any _ _ _ _ _ hr.out HS.out).mono ?_
         rintro e w2 ⟨r2, rfl, hb2, hr2⟩
         obtain ⟨A', n', cap', rfl, hn'⟩ := hr2.form
         have K2 := boxes_keep hb2 (Nat.lt_of_succ_lt Z1) K1
         have B2 := Lib.hid (below_next B1.out hb2)
         have H2 := Lib.hid ((hb2.block _ Z1).trans H1.out)
         have N2 := Lib.hid hn'
         obtain ⟨hc2, hf2⟩ := below_reads hb2
         clear hb2 hr2 hn'))
  clear K0 K1 HS C1
  go_wp2_with fail
  refine bodyPost_ret (v := .agg #[.bool (sgn (x + y)), .slice A' n' cap']) (by unfold results; simp only [Try.results20]; go_simp) rfl ?_
  exact give_box B2.out N2.out H2.out (by omega) rfl

theorem add_ge (u v : Value) (x y : Int) (w : World) (hu : BR w u x) (hv : BR w v y) (hx : Mid x) (hy : Mid y) (hxy : sgn x ≠ sgn y) (hge : y.natAbs ≤ x.natAbs) :
    Calls Try.prog 20 #[u, v] w (GiveB (x + y) w) := by
  obtain ⟨A, n, cap, rfl, hn⟩ := hu.form
  obtain ⟨B, m, cap', rfl, hm⟩ := hv.form
  clear hu hv
  have C0 : Hid (∀ w1, Below w.heap.size w w1 → Calls Try.prog 62 #[.slice A n cap, .slice B m cap'] w1 fun e w' => e = .returned (.int .i64 (cmpI (x.natAbs : Int) y.natAbs)) ∧ w1 = w') :=
    fun w1 hw => less_any _ _ _ _ w1 (hn.below hw) (hm.below hw) (by have := hx.1; have := hx.2; omega) (by have := hy.1; have := hy.2; omega)
  have C1 : Hid (∀ w1, Below w.heap.size w w1 → Calls Try.prog 63 #[.slice A n cap, .slice B m cap'] w1 (GiveN ((x.natAbs : Int) - y.natAbs) w1)) :=
    fun w1 hw => rest_any _ _ _ _ w1 (hn.below hw) (hm.below hw) (by have := hx.1; have := hx.2; omega) (by omega)
  have HS : Hid (x + y = if sgn x then -((x.natAbs : Int) - y.natAbs) else (x.natAbs : Int) - y.natAbs) := by
    show _ = _
    rcases Int.lt_or_le x 0 with h | h
    · have h' : 0 ≤ y := by
        rcases Int.lt_or_le y 0 with h2 | h2
        · exact absurd ((sgn_t h).trans (sgn_t h2).symm) hxy
        · exact h2
      rw [sgn_t h, if_pos rfl]; omega
    · have h' : y < 0 := by
        rcases Int.lt_or_le y 0 with h2 | h2
        · exact h2
        · exact absurd ((sgn_f h).trans (sgn_f h2).symm) hxy
      rw [sgn_f h, if_neg (by decide)]; omega
  have hcm : 0 ≤ cmpI (x.natAbs : Int) y.natAbs := by unfold cmpI; rw [if_neg (by omega)]; split <;> omega
  have e1 : (sgn x == sgn y) = false := by simp [hxy]
  clear hn hm hx hy hxy hge
  go_enter Try.func20, Try.ntmps20
  go_wp2_with fail
  refine (C0.out _ (below_new (below_new (below_new (Below.refl _ _) _) _) _)).mono ?_; rintro e w' ⟨rfl, rfl⟩
  go_wp2_with fail
  have K0 := boxes_new w (.bool (sgn x)) (.slice A n cap) (.bool (sgn y)) (.slice B m cap') 38 (.cells #[.bool false, .slice none 0 0] 38)
  go_region_held3 (fun w' => w'.cell? ⟨w.heap.size, 0, none⟩ = some (.bool (sgn x)) ∧ w'.cell? ⟨w.heap.size, 1, none⟩ = some (.slice A n cap) ∧ w'.cell? ⟨w.heap.size + 1, 0, none⟩ = some (.bool (sgn y)) ∧ w'.cell? ⟨w.heap.size + 1, 1, none⟩ = some (.slice B m cap'))
    (first | exact K0 | exact K1 | exact K2 | exact boxes_set _ _ K2)
    (first
      | (go_at_call 63
         refine (C1.out _ ?_).mono ?_
         · repeat (first | exact Below.refl _ _ | apply below_drew | apply below_new)
         rintro e w1 ⟨r, rfl, hb1, hr⟩
         obtain ⟨K1, Z1, B1, H1⟩ := boxes_call hb1
         have B1 := Lib.hid B1
         have H1 := Lib.hid H1
         obtain ⟨hc1, hf1⟩ := below_reads hb1
         have hr := Lib.hid hr
         clear hb1)
      | (go_at_call 60
         refine (made_any _ _ _ _ _ hr.out HS.out).mono ?_
         rintro e w2 ⟨r2, rfl, hb2, hr2⟩
         obtain ⟨A', n', cap', rfl, hn'⟩ := hr2.form
         have K2 := boxes_keep hb2 (Nat.lt_of_succ_lt Z1) K1
         have B2 := Lib.hid (below_next B1.out hb2)
         have H2 := Lib.hid ((hb2.block _ Z1).trans H1.out)
         have N2 := Lib.hid hn'
         obtain ⟨hc2, hf2⟩ := below_reads hb2
         clear hb2 hr2 hn'))
  clear K0 K1 HS C1 C0
  go_wp2_with fail
  refine bodyPost_ret (v := .agg #[.bool (sgn (x + y)), .slice A' n' cap']) (by unfold results; simp only [Try.results20]; go_simp) rfl ?_
  exact give_box B2.out N2.out H2.out (by omega) rfl

theorem add_lt (u v : Value) (x y : Int) (w : World) (hu : BR w u x) (hv : BR w v y) (hx : Mid x) (hy : Mid y) (hxy : sgn x ≠ sgn y) (hge : x.natAbs < y.natAbs) :
    Calls Try.prog 20 #[u, v] w (GiveB (x + y) w) := by
  obtain ⟨A, n, cap, rfl, hn⟩ := hu.form
  obtain ⟨B, m, cap', rfl, hm⟩ := hv.form
  clear hu hv
  have C0 : Hid (∀ w1, Below w.heap.size w w1 → Calls Try.prog 62 #[.slice A n cap, .slice B m cap'] w1 fun e w' => e = .returned (.int .i64 (cmpI (x.natAbs : Int) y.natAbs)) ∧ w1 = w') :=
    fun w1 hw => less_any _ _ _ _ w1 (hn.below hw) (hm.below hw) (by have := hx.1; have := hx.2; omega) (by have := hy.1; have := hy.2; omega)
  have C1 : Hid (∀ w1, Below w.heap.size w w1 → Calls Try.prog 63 #[.slice B m cap', .slice A n cap] w1 (GiveN ((y.natAbs : Int) - x.natAbs) w1)) :=
    fun w1 hw => rest_any _ _ _ _ w1 (hm.below hw) (hn.below hw) (by have := hy.1; have := hy.2; omega) (by omega)
  have HS : Hid (x + y = if sgn y then -((y.natAbs : Int) - x.natAbs) else (y.natAbs : Int) - x.natAbs) := by
    show _ = _
    rcases Int.lt_or_le x 0 with h | h
    · have h' : 0 ≤ y := by
        rcases Int.lt_or_le y 0 with h2 | h2
        · exact absurd ((sgn_t h).trans (sgn_t h2).symm) hxy
        · exact h2
      rw [sgn_f h', if_neg (by decide)]; omega
    · have h' : y < 0 := by
        rcases Int.lt_or_le y 0 with h2 | h2
        · exact h2
        · exact absurd ((sgn_f h).trans (sgn_f h2).symm) hxy
      rw [sgn_t h', if_pos rfl]; omega
  have hcm : cmpI (x.natAbs : Int) y.natAbs < 0 := by unfold cmpI; rw [if_pos (by omega)]; omega
  have e1 : (sgn x == sgn y) = false := by simp [hxy]
  clear hn hm hx hy hxy hge
  go_enter Try.func20, Try.ntmps20
  go_wp2_with fail
  refine (C0.out _ (below_new (below_new (below_new (Below.refl _ _) _) _) _)).mono ?_; rintro e w' ⟨rfl, rfl⟩
  go_wp2_with fail
  have K0 := boxes_new w (.bool (sgn x)) (.slice A n cap) (.bool (sgn y)) (.slice B m cap') 38 (.cells #[.bool false, .slice none 0 0] 38)
  go_region_held3 (fun w' => w'.cell? ⟨w.heap.size, 0, none⟩ = some (.bool (sgn x)) ∧ w'.cell? ⟨w.heap.size, 1, none⟩ = some (.slice A n cap) ∧ w'.cell? ⟨w.heap.size + 1, 0, none⟩ = some (.bool (sgn y)) ∧ w'.cell? ⟨w.heap.size + 1, 1, none⟩ = some (.slice B m cap'))
    (first | exact K0 | exact K1 | exact K2 | exact boxes_set _ _ K2)
    (first
      | (go_at_call 63
         refine (C1.out _ ?_).mono ?_
         · repeat (first | exact Below.refl _ _ | apply below_drew | apply below_new)
         rintro e w1 ⟨r, rfl, hb1, hr⟩
         obtain ⟨K1, Z1, B1, H1⟩ := boxes_call hb1
         have B1 := Lib.hid B1
         have H1 := Lib.hid H1
         obtain ⟨hc1, hf1⟩ := below_reads hb1
         have hr := Lib.hid hr
         clear hb1)
      | (go_at_call 60
         refine (made_any _ _ _ _ _ hr.out HS.out).mono ?_
         rintro e w2 ⟨r2, rfl, hb2, hr2⟩
         obtain ⟨A', n', cap', rfl, hn'⟩ := hr2.form
         have K2 := boxes_keep hb2 (Nat.lt_of_succ_lt Z1) K1
         have B2 := Lib.hid (below_next B1.out hb2)
         have H2 := Lib.hid ((hb2.block _ Z1).trans H1.out)
         have N2 := Lib.hid hn'
         obtain ⟨hc2, hf2⟩ := below_reads hb2
         clear hb2 hr2 hn'))
  clear K0 K1 HS C1 C0
  go_wp2_with fail
  refine bodyPost_ret (v := .agg #[.bool (sgn (x + y)), .slice A' n' cap']) (by unfold results; simp only [Try.results20]; go_simp) rfl ?_
  exact give_box B2.out N2.out H2.out (by omega) rfl

theorem add_any (u v : Value) (x y : Int) (w : World) (hu : BR w u x) (hv : BR w v y) (hx : Mid x) (hy : Mid y) :
    Calls Try.prog 20 #[u, v] w (GiveB (x + y) w) := by
  by_cases h : sgn x = sgn y
  · exact add_same u v x y w hu hv hx hy h
  · by_cases h2 : y.natAbs ≤ x.natAbs
    · exact add_ge u v x y w hu hv hx hy h h2
    · exact add_lt u v x y w hu hv hx hy h (by omega)

theorem sub_any (u v : Value) (x y : Int) (w : World) (hu : BR w u x) (hv : BR w v y) (hx : Mid x) (hy : Mid y) :
    Calls Try.prog 65 #[u, v] w (GiveB (x - y) w) := by
  have C1 : Hid (∀ w1, Below w.heap.size w w1 → Calls Try.prog 97 #[v] w1 (GiveB (-y) w1)) :=
    fun w1 hw => neg_any v y w1 (hv.below hw)
  have C2 : Hid (∀ r w1, Below w.heap.size w w1 → BR w1 r (-y) → Calls Try.prog 20 #[u, r] w1 (GiveB (x - y) w1)) := fun r w1 hw hr => by
    have h := add_any u r x (-y) w1 (hu.below hw) hr hx ⟨by have := hy.2; omega, by have := hy.1; omega⟩
    rwa [show x + -y = x - y by omega] at h
  obtain ⟨A, n, cap, rfl, hn⟩ := hu.form
  obtain ⟨B, m, cap', rfl, hm⟩ := hv.form
  clear hu hv hn hm hx hy
  go_enter Try.func65, Try.ntmps65
  go_wp2_with fail
  have K0 := boxes_new w (.bool (sgn x)) (.slice A n cap) (.bool (sgn y)) (.slice B m cap') 38 (.cells #[.bool false, .slice none 0 0] 38)
  go_region_held3 (fun w' => w'.cell? ⟨w.heap.size, 0, none⟩ = some (.bool (sgn x)) ∧ w'.cell? ⟨w.heap.size, 1, none⟩ = some (.slice A n cap) ∧ w'.cell? ⟨w.heap.size + 1, 0, none⟩ = some (.bool (sgn y)) ∧ w'.cell? ⟨w.heap.size + 1, 1, none⟩ = some (.slice B m cap'))
    (first | exact K0 | exact K1 | exact K2 | exact boxes_set _ _ K2)
    (first
      | (go_at_call 97
         refine (C1.out _ ?_).mono ?_
         · repeat (first | exact Below.refl _ _ | apply below_drew | apply below_new)
         rintro e w1 ⟨r, rfl, hb1, hr⟩
         obtain ⟨K1, Z1, B1, H1⟩ := boxes_call hb1
         have B1 := Lib.hid B1
         have H1 := Lib.hid H1
         obtain ⟨hc1, hf1⟩ := below_reads hb1
         have hr := Lib.hid hr
         clear hb1)
      | (go_at_call 20
         refine (C2.out _ _ B1.out hr.out).mono ?_
         rintro e w2 ⟨r2, rfl, hb2, hr2⟩
         obtain ⟨A', n', cap', rfl, hn'⟩ := hr2.form
         have K2 := boxes_keep hb2 (Nat.lt_of_succ_lt Z1) K1
         have B2 := Lib.hid (below_next B1.out hb2)
         have H2 := Lib.hid ((hb2.block _ Z1).trans H1.out)
         have N2 := Lib.hid hn'
         obtain ⟨hc2, hf2⟩ := below_reads hb2
         clear hb2 hr2 hn'))
  clear K0 K1 C1 C2
  go_wp2_with fail
  refine bodyPost_ret (v := .agg #[.bool (sgn (x - y)), .slice A' n' cap']) (by unfold results; simp only [Try.results65]; go_simp) rfl ?_
  exact give_box B2.out N2.out H2.out (by omega) rfl

theorem cmp_any (u v : Value) (x y : Int) (w : World) (hu : BR w u x) (hv : BR w v y) (hx : Mid x) (hy : Mid y) :
    Calls Try.prog 22 #[u, v] w fun e w' => e = .returned (.int .i64 (cmpI x y)) ∧ Below w.heap.size w w' := by
  have C1 : Hid (∀ w1, Below w.heap.size w w1 → Calls Try.prog 65 #[u, v] w1 (GiveB (x - y) w1)) :=
    fun w1 hw => sub_any u v x y w1 (hu.below hw) (hv.below hw) hx hy
  obtain ⟨A, n, cap, rfl, hn⟩ := hu.form
  obtain ⟨B, m, cap', rfl, hm⟩ := hv.form
  clear hu hv hn hm hx hy
  go_enter Try.func22, Try.ntmps22
  go_wp2_with fail
  refine (C1.out _ (below_new (below_new (Below.refl _ _) _) _)).mono ?_; rintro e w1 ⟨r, rfl, hb1, hr⟩
  obtain ⟨A', n', cap', rfl, hn'⟩ := hr.form
  obtain ⟨_, _, _, hf, h0⟩ := hn'.form
  injection hf with _ hf _
  subst hf
  have HB := Lib.hid (below_next (below_new (below_new (Below.refl _ _) _) _) hb1)
  clear hr hn' hb1
  by_cases hz : x - y = 0
  · have HC : Hid (cmpI x y = 0) := by show _ = _; rw [show x = y by omega]; exact cmpI_eq y
    obtain rfl : n' = 0 := h0.2 (by omega)
    clear h0 hz
    go_wp2_with fail
    go_ret
    exact ⟨ret_int HC.out.symm, below_new HB.out _⟩
  · have hn0 : ¬ n' = 0 := fun h => hz (by have := h0.1 h; omega)
    clear h0
    by_cases hlt : x < y
    · have HC : Hid (cmpI x y = -1) := cmpI_lt hlt
      have hs : sgn (x - y) = true := sgn_t (by omega)
      go_wp2_with fail
      go_ret
      exact ⟨ret_int HC.out.symm, below_new HB.out _⟩
    · have HC : Hid (cmpI x y = 1) := cmpI_gt (by omega)
      have hs : sgn (x - y) = false := sgn_f (by omega)
      go_wp2_with fail
      go_ret
      exact ⟨ret_int HC.out.symm, below_new HB.out _⟩

end Go.Proofs.Ytnklbnphiokpiaa
