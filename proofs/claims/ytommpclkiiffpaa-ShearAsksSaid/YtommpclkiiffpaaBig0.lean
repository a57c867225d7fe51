/- The document's whole numbers (anamorphref01): how a list of digits, a number from 0 on, and a number with its sign lie in memory; walks of 'trim' and 'digit'. -/
import Derived.Test.YtommpclkiiffpaaBase
import Derived.Test.YtommpclkiiffpaaDig
import Derived.LoopN
set_option linter.unusedVariables false
namespace Go.Proofs.Ytommpclkiiffpaa
open Go.RowKit

/-- The slice s reads as the numbers ds. -/
def DR (w : World) (s : Value) (ds : List Int) : Prop :=
  (s = .slice none 0 0 ∧ ds = []) ∨ ∃ (b off cap : Nat), s = .slice (some ⟨b, off, none⟩) ds.length cap ∧ ds.length ≤ cap ∧ (∃ cur fr, w.heap[b]? = some (.cells cur 3 fr)) ∧
    ∀ i, i < ds.length → w.cell? ⟨b, off + i, none⟩ = some (.int .i64 (ds.getD i 0))

theorem DR.form {w : World} {s : Value} {ds : List Int} (h : DR w s ds) : ∃ A cap, s = .slice A ds.length cap := by
  rcases h with ⟨rfl, rfl⟩ | ⟨b, off, cap, rfl, _⟩
  · exact ⟨none, 0, rfl⟩
  · exact ⟨_, _, rfl⟩
theorem heap_new (w : World) (o : Obj) : (w.alloc o).heap[w.heap.size]? = some o := by
  show (w.heap.push o)[w.heap.size]? = _
  simp
theorem heap_set {w : World} {g o : Nat} {cs : Array Value} {t : TypeId} {fr : Nat × Nat} (h : w.heap[g]? = some (.cells cs t fr)) (v : Value) : (w.setCell ⟨g, o, none⟩ v).heap[g]? = some (.cells (cs.setIfInBounds o v) t fr) := by
  simp [World.setCell, Array.getElem?_modify, h]
theorem heap_lt {w : World} {b : Nat} {o : Obj} (h : w.heap[b]? = some o) : b < w.heap.size := (Array.getElem?_eq_some_iff.1 h).1
theorem DR.below {w w1 : World} {s : Value} {ds : List Int} (h : DR w s ds) (hb : Below w.heap.size w w1) : DR w1 s ds := by
  rcases h with h | ⟨b, off, cap, h1, h2, h3, h4⟩
  · exact .inl h
  · obtain ⟨cur, fr, h3⟩ := h3
    exact .inr ⟨b, off, cap, h1, h2, ⟨cur, fr, (hb.block b (heap_lt h3)).trans h3⟩, fun i hi => (hb.cell (p := ⟨b, off + i, none⟩) (heap_lt h3)).trans (h4 i hi)⟩
/-- A store into a block of another type turns no digit. -/
theorem DR.set_ {w : World} {s : Value} {ds : List Int} (h : DR w s ds) {p o : Nat} {c : Array Value} {t : TypeId} {fr : Nat × Nat} (hp : w.heap[p]? = some (.cells c t fr)) (ht : t ≠ 3) (u : Value) : DR (w.setCell ⟨p, o, none⟩ u) s ds := by
  rcases h with h | ⟨b, off, cap, h1, h2, ⟨cur, fr', h3⟩, h4⟩
  · exact .inl h
  · have hne : b ≠ p := by
      rintro rfl
      rw [h3] at hp
      injection hp with hp
      injection hp with _ e
      exact ht e.symm
    refine .inr ⟨b, off, cap, h1, h2, ⟨cur, fr', (Below.heap_setCell w ⟨p, o, none⟩ u b hne).trans h3⟩, fun i hi => ?_⟩
    rw [World.cell?_of_block (w := w) (w' := w.setCell ⟨p, o, none⟩ u) (a := ⟨b, off + i, none⟩) (Below.heap_setCell w ⟨p, o, none⟩ u b hne)]
    exact h4 i hi
theorem DR.nil (w : World) : DR w (.slice none 0 0) [] := .inl ⟨rfl, rfl⟩
theorem DR.take {w : World} {b off n cap : Nat} {ds : List Int} (h : DR w (.slice (some ⟨b, off, none⟩) n cap) ds) {k : Nat} (hk : k ≤ n) : DR w (.slice (some ⟨b, off, none⟩) k cap) (ds.take k) := by
  rcases h with ⟨h, _⟩ | ⟨b', off', cap', h1, h2, h3, h4⟩
  · injection h with h; cases h
  · injection h1 with e1 e2 e3
    injection e1 with e1
    injection e1 with e4 e5
    subst e2 e3 e4 e5
    refine .inr ⟨b, off, cap, by rw [List.length_take_of_le hk], by rw [List.length_take_of_le hk]; omega, h3, fun i hi => ?_⟩
    rw [List.length_take_of_le hk] at hi
    rw [h4 i (by omega)]
    simp only [List.getD_eq_getElem?_getD, List.getElem?_take, hi, if_true]
theorem DR.cells {w : World} {b off n cap : Nat} {ds : List Int} (h : DR w (.slice (some ⟨b, off, none⟩) n cap) ds) : n = ds.length ∧ n ≤ cap ∧ b < w.heap.size ∧ ∀ i, i < n → w.cell? ⟨b, off + i, none⟩ = some (.int .i64 (ds.getD i 0)) := by
  rcases h with ⟨h, _⟩ | ⟨b', off', cap', h1, h2, h3, h4⟩
  · injection h with h; cases h
  · injection h1 with e1 e2 e3
    injection e1 with e1
    injection e1 with e4 e5
    subst e2 e3 e4 e5
    exact ⟨rfl, h2, heap_lt h3.choose_spec.choose_spec, h4⟩

/-- What the call itself made reads so. -/
theorem DR.of_own {w : World} {base : Nat} {v : Value} {os : List Int} (h : w.ownsRow base 3 1 v os.length (os.map (Value.int .i64))) : DR w v os := by
  rcases h.2 with ⟨rfl, h0⟩ | ⟨g, cap, cur, rfl, hg, hh, hnc, _, hsz, hc⟩
  · exact .inl ⟨rfl, List.eq_nil_of_length_eq_zero h0⟩
  · refine .inr ⟨g, 0, cap, rfl, hnc, ⟨cur, (0, 0), hh⟩, fun i hi => ?_⟩
    rw [Nat.zero_add, cell_of_row w g i cur _ _ hh]
    have h1 : (cur.toList.take (os.length * 1))[i]? = some (.int .i64 (os.getD i 0)) := by
      rw [hc, List.getElem?_map, List.getD_eq_getElem?_getD, List.getElem?_eq_getElem hi]
      rfl
    rw [List.getElem?_take, if_pos (by omega)] at h1
    simpa using h1

/-- The slice s reads as the digits of x, without noughts at the end. -/
def NR (w : World) (s : Value) (x : Int) : Prop := ∃ ds, DR w s ds ∧ Canon ds ∧ bval ds = x
/-- Is it below 0? -/
def sgn (z : Int) : Bool := decide (z < 0)
theorem sgn_t {z : Int} (h : z < 0) : sgn z = true := decide_eq_true h
theorem sgn_f {z : Int} (h : 0 ≤ z) : sgn z = false := decide_eq_false (by omega)
theorem sgn_iff {z : Int} : sgn z = true ↔ z < 0 := decide_eq_true_iff
/-- The value v is the document's number z. -/
def BR (w : World) (v : Value) (z : Int) : Prop := ∃ s, v = .agg #[.bool (sgn z), s] ∧ NR w s (z.natAbs : Int)

theorem NR.below {w w1 : World} {s : Value} {x : Int} (h : NR w s x) (hb : Below w.heap.size w w1) : NR w1 s x := by
  obtain ⟨ds, h1, h2⟩ := h; exact ⟨ds, h1.below hb, h2⟩
theorem BR.below {w w1 : World} {v : Value} {z : Int} (h : BR w v z) (hb : Below w.heap.size w w1) : BR w1 v z := by
  obtain ⟨s, h1, h2⟩ := h; exact ⟨s, h1, h2.below hb⟩
theorem NR.set_ {w : World} {s : Value} {x : Int} (h : NR w s x) {p o : Nat} {c : Array Value} {t : TypeId} {fr : Nat × Nat} (hp : w.heap[p]? = some (.cells c t fr)) (ht : t ≠ 3) (u : Value) : NR (w.setCell ⟨p, o, none⟩ u) s x := by
  obtain ⟨ds, h1, h2⟩ := h; exact ⟨ds, h1.set_ hp ht u, h2⟩
theorem NR.nonneg {w : World} {s : Value} {x : Int} (h : NR w s x) : 0 ≤ x := by
  obtain ⟨ds, _, h2, rfl⟩ := h; exact bval_nonneg h2.1
theorem NR.form {w : World} {s : Value} {x : Int} (h : NR w s x) : ∃ A n cap, s = .slice A n cap ∧ (n = 0 ↔ x = 0) := by
  obtain ⟨ds, h1, h2, rfl⟩ := h
  obtain ⟨A, cap, rfl⟩ := h1.form
  exact ⟨A, _, cap, rfl, by rw [h2.zero_iff]; exact List.length_eq_zero_iff⟩

/-- No number here is as great. -/
def HUGE : Int := P2 2000
theorem huge_len {ds : List Int} (h : Canon ds) (hx : bval ds < HUGE) : ds.length ≤ 2000 := h.length_le hx

/-- What is handed back: a number's digits; the world as it was, or with new blocks. -/
def GiveN0 (x : Int) (w : World) (e : Ending) (w' : World) : Prop := ∃ r, e = .returned r ∧ w = w' ∧ NR w r x
def GiveN (x : Int) (w : World) (e : Ending) (w' : World) : Prop := ∃ r, e = .returned r ∧ Below w.heap.size w w' ∧ NR w' r x
def GiveB (z : Int) (w : World) (e : Ending) (w' : World) : Prop := ∃ r, e = .returned r ∧ Below w.heap.size w w' ∧ BR w' r z

/-! ### digit, trim -/
/-- The i-th digit; 0 beyond. -/
def dg (ds : List Int) (i : Int) : Int := if 0 ≤ i then ds.getD i.toNat 0 else 0
theorem dg_nat (ds : List Int) (i : Nat) : dg ds i = ds.getD i 0 := by unfold dg; rw [if_pos (by omega)]; rfl
theorem dg_neg (ds : List Int) {i : Int} (h : i < 0) : dg ds i = 0 := if_neg (by omega)
theorem dg_out (ds : List Int) {i : Int} (h : (ds.length : Int) ≤ i) : dg ds i = 0 := by
  unfold dg; rw [if_pos (by omega), List.getD_eq_getElem?_getD, List.getElem?_eq_none (by omega)]; rfl
theorem Dig.dg {ds : List Int} (h : Dig ds) (i : Int) : 0 ≤ dg ds i ∧ dg ds i < 32768 := by
  unfold Proofs.Ytommpclkiiffpaa.dg
  split
  · exact h.at _
  · omega

theorem digit_any (s : Value) (ds : List Int) (i : Int) (w : World) (h : DR w s ds) (hl : ds.length ≤ 4611686018427387904) :
    Calls Try.prog 93 #[s, .int .i64 i] w fun e w' => e = .returned (.int .i64 (dg ds i)) ∧ w = w' := by
  obtain ⟨A, cap, rfl⟩ := h.form
  by_cases h0 : i < 0
  · have H := Lib.hid (dg_neg ds h0)
    clear h
    go_enter Try.func93, Try.ntmps93
    go_wp2
    go_ret
    exact ⟨ret_int H.out.symm, rfl⟩
  by_cases h1 : (ds.length : Int) ≤ i
  · have H := Lib.hid (dg_out ds h1)
    clear h
    go_enter Try.func93, Try.ntmps93
    go_wp2
    go_ret
    exact ⟨ret_int H.out.symm, rfl⟩
  · obtain ⟨k, rfl⟩ := Int.eq_ofNat_of_zero_le (show 0 ≤ i by omega)
    have hk : k < ds.length := by omega
    rcases h with ⟨_, rfl⟩ | ⟨b, off, cap', h1', h2, h3, h4⟩
    · simp at hk
    · injection h1' with e1 e2 e3
      subst e1
      have c := h4 k hk
      have H := Lib.hid (dg_nat ds k)
      clear h4 e3
      go_enter Try.func93, Try.ntmps93
      go_wp2
      go_ret
      exact ⟨ret_int (by first | exact H.out.symm | (rw [H.out]; simp [hk])), rfl⟩

theorem trim_any (s : Value) (ds : List Int) (w : World) (h : DR w s ds) (hd : Dig ds) (hl : ds.length ≤ 4611686018427387904) :
    Calls Try.prog 87 #[s] w (GiveN0 (bval ds) w) := by
  rcases h with ⟨rfl, rfl⟩ | ⟨b, off, cap, rfl, h2, h3, h4⟩
  · go_enter Try.func87, Try.ntmps87
    go_wp2
    refine wp_loop_rounds 1 ?_
    rw [rounds_succ]
    go_wp2
    go_ret
    exact ⟨_, rfl, rfl, _, DR.nil _, Canon.nil, rfl⟩
  · have HD : Hid (DR w (.slice (some ⟨b, off, none⟩) ds.length cap) ds) := .inr ⟨b, off, cap, rfl, h2, h3, h4⟩
    go_enter Try.func87, Try.ntmps87
    go_wp2
    go_loop [3] (fun n => ∃ k : Nat, k ≤ ds.length ∧ n = .int .i64 k ∧ ∀ i, k ≤ i → ds.getD i 0 = 0) (fun n => (intOf n).toNat)
    case atStart => exact ⟨ds.length, Nat.le_refl _, rfl, fun i hi => by rw [List.getD_eq_getElem?_getD, List.getElem?_eq_none hi]; rfl⟩
    case round =>
      obtain ⟨k, hk, rfl, hz⟩ := hrel
      have HZ := Lib.hid hz
      clear hz
      by_cases hk0 : k = 0
      · subst hk0
        clear h4
        go_wp2
        go_ret
        exact ⟨_, rfl, rfl, _, DR.take HD.out (Nat.zero_le _), canon_take hd (Nat.zero_le _) (.inl rfl), take_val_of_zero HZ.out⟩
      · obtain ⟨x, hx⟩ : ∃ x, x = ds.getD (k - 1) 0 := ⟨_, rfl⟩
        have c := h4 (k - 1) (by omega)
        rw [← hx] at c
        have HX := Lib.hid hx
        clear h4 hx
        cases hx0 : (x == 0)
        · go_wp2
          go_ret
          exact ⟨_, rfl, rfl, _, DR.take HD.out hk, canon_take hd hk (.inr (by rw [← HX.out]; simpa using hx0)), take_val_of_zero HZ.out⟩
        · go_wp2
          go_round
          case rel =>
            refine ⟨k - 1, by omega, by go_num, fun i hi => ?_⟩
            rcases Nat.eq_or_lt_of_le hi with h5 | h5
            · rw [← h5, ← HX.out]; simpa using hx0
            · exact HZ.out i (by omega)
          case measure => simp [intOf]; omega

end Go.Proofs.Ytommpclkiiffpaa
