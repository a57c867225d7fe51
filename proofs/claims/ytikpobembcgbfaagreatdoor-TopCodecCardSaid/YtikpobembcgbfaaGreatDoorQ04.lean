/- Parts of the proof: JB. -/
import Derived.Test.YtikpobembcgbfaaGreatDoorQ02
import Derived.LoopN
set_option linter.unusedVariables false
set_option linter.unusedSimpArgs false
set_option maxRecDepth 100000
set_option maxHeartbeats 40000000
namespace Go.Proofs.YtikpobembcgbfaaGreatDoor
open Go.RowKit
/-- The slice s reads as the numbers ds. -/
def DR (w : World) (s : Value) (ds : List Int) : Prop :=
 (s = .slice none 0 0 ∧ ds = []) ∨ ∃ (b off cap : Nat), s = .slice (some ⟨b, off, none⟩) ds.length cap ∧ ds.length ≤ cap ∧ (∃ cur fr, w.heap[b]? = some (.cells cur 3 fr)) ∧
   ∀ i, i < ds.length → w.cell? ⟨b, off + i, none⟩ = some (.int .i64 (ds.getD i 0))
theorem DR.form {w : World} {s : Value} {ds : List Int} (h : DR w s ds) : ∃ A cap, s = .slice A ds.length cap := by
 rcases h with ⟨rfl, rfl⟩ | ⟨b, off, cap, rfl, _⟩
 · exact ⟨none, 0, rfl⟩
 · exact ⟨_, _, rfl⟩
theorem heap_new (w : World) (o : Obj) : (w.alloc o).heap[w.heap.size]? = some o := by
 show (w.heap.push o)[w.heap.size]? = _
 simp
theorem heap_set {w : World} {g o : Nat} {cs : Array Value} {t : TypeId} {fr : Nat × Nat} (h : w.heap[g]? = some (.cells cs t fr)) (v : Value) : (w.setCell ⟨g, o, none⟩ v).heap[g]? = some (.cells (cs.setIfInBounds o v) t fr) := by
 simp [World.setCell, Array.getElem?_modify, h]
theorem heap_lt {w : World} {b : Nat} {o : Obj} (h : w.heap[b]? = some o) : b < w.heap.size := (Array.getElem?_eq_some_iff.1 h).1
theorem DR.below {w w1 : World} {s : Value} {ds : List Int} (h : DR w s ds) (hb : Below w.heap.size w w1) : DR w1 s ds := by
 rcases h with h | ⟨b, off, cap, h1, h2, h3, h4⟩
 · exact .inl h
 · obtain ⟨cur, fr, h3⟩ := h3
   exact .inr ⟨b, off, cap, h1, h2, ⟨cur, fr, (hb.block b (heap_lt h3)).trans h3⟩, fun i hi => (hb.cell (p := ⟨b, off + i, none⟩) (heap_lt h3)).trans (h4 i hi)⟩
/-- A store into a block of another type turns no digit. -/
theorem DR.set_ {w : World} {s : Value} {ds : List Int} (h : DR w s ds) {p o : Nat} {c : Array Value} {t : TypeId} {fr : Nat × Nat} (hp : w.heap[p]? = some (.cells c t fr)) (ht : t ≠ 3) (u : Value) : DR (w.setCell ⟨p, o, none⟩ u) s ds := by
 rcases h with h | ⟨b, off, cap, h1, h2, ⟨cur, fr', h3⟩, h4⟩
 · exact .inl h
 · have hne : b ≠ p := by
    rintro rfl
    rw [h3] at hp
    injection hp with hp
    injection hp with _ e
    exact ht e.symm
   refine .inr ⟨b, off, cap, h1, h2, ⟨cur, fr', (Below.heap_setCell w ⟨p, o, none⟩ u b hne).trans h3⟩, fun i hi => ?_⟩
   rw [World.cell?_of_block (w := w) (w' := w.setCell ⟨p, o, none⟩ u) (a := ⟨b, off + i, none⟩) (Below.heap_setCell w ⟨p, o, none⟩ u b hne)]
   exact h4 i hi
theorem DR.nil (w : World) : DR w (.slice none 0 0) [] := .inl ⟨rfl, rfl⟩
theorem DR.take {w : World} {b off n cap : Nat} {ds : List Int} (h : DR w (.slice (some ⟨b, off, none⟩) n cap) ds) {k : Nat} (hk : k ≤ n) : DR w (.slice (some ⟨b, off, none⟩) k cap) (ds.take k) := by
 rcases h with ⟨h, _⟩ | ⟨b', off', cap', h1, h2, h3, h4⟩
 · injection h with h; cases h
 · injection h1 with e1 e2 e3
   injection e1 with e1
   injection e1 with e4 e5
   subst e2 e3 e4 e5
   refine .inr ⟨b, off, cap, by rw [List.length_take_of_le hk], by rw [List.length_take_of_le hk]; omega, h3, fun i hi => ?_⟩
   rw [List.length_take_of_le hk] at hi
   rw [h4 i (by omega)]
   simp only [List.getD_eq_getElem?_getD, List.getElem?_take, hi, if_true]
/-- What the call itself made reads so. -/
theorem DR.of_own {w : World} {base : Nat} {v : Value} {os : List Int} (h : w.ownsRow base 3 1 v os.length (os.map (Value.int .i64))) : DR w v os := by
 rcases h.2 with ⟨rfl, h0⟩ | ⟨g, cap, cur, rfl, hg, hh, hnc, _, hsz, hc⟩
 · exact .inl ⟨rfl, List.eq_nil_of_length_eq_zero h0⟩
 · refine .inr ⟨g, 0, cap, rfl, hnc, ⟨cur, (0, 0), hh⟩, fun i hi => ?_⟩
   rw [Nat.zero_add, cell_of_row w g i cur _ _ hh]
   have h1 : (cur.toList.take (os.length * 1))[i]? = some (.int .i64 (os.getD i 0)) := by
    rw [hc, List.getElem?_map, List.getD_eq_getElem?_getD, List.getElem?_eq_getElem hi]
    rfl
   rw [List.getElem?_take, if_pos (by omega)] at h1
   simpa using h1
/-- The slice s reads as the digits of x, without noughts at the end. -/
def NR (w : World) (s : Value) (x : Int) : Prop := ∃ ds, DR w s ds ∧ Canon ds ∧ bval ds = x
/-- Is it below 0? -/
def sgn (z : Int) : Bool := decide (z < 0)
theorem sgn_t {z : Int} (h : z < 0) : sgn z = true := decide_eq_true h
theorem sgn_f {z : Int} (h : 0 ≤ z) : sgn z = false := decide_eq_false (by omega)
theorem sgn_iff {z : Int} : sgn z = true ↔ z < 0 := decide_eq_true_iff
/-- The value v is the document's number z. -/
def BR (w : World) (v : Value) (z : Int) : Prop := ∃ s, v = .agg #[.bool (sgn z), s] ∧ NR w s (z.natAbs : Int)
theorem NR.below {w w1 : World} {s : Value} {x : Int} (h : NR w s x) (hb : Below w.heap.size w w1) : NR w1 s x := by
 obtain ⟨ds, h1, h2⟩ := h; exact ⟨ds, h1.below hb, h2⟩
theorem BR.below {w w1 : World} {v : Value} {z : Int} (h : BR w v z) (hb : Below w.heap.size w w1) : BR w1 v z := by
 obtain ⟨s, h1, h2⟩ := h; exact ⟨s, h1, h2.below hb⟩
theorem NR.set_ {w : World} {s : Value} {x : Int} (h : NR w s x) {p o : Nat} {c : Array Value} {t : TypeId} {fr : Nat × Nat} (hp : w.heap[p]? = some (.cells c t fr)) (ht : t ≠ 3) (u : Value) : NR (w.setCell ⟨p, o, none⟩ u) s x := by
 obtain ⟨ds, h1, h2⟩ := h; exact ⟨ds, h1.set_ hp ht u, h2⟩
theorem NR.nonneg {w : World} {s : Value} {x : Int} (h : NR w s x) : 0 ≤ x := by
 obtain ⟨ds, _, h2, rfl⟩ := h; exact bval_nonneg h2.1
theorem NR.form {w : World} {s : Value} {x : Int} (h : NR w s x) : ∃ A n cap, s = .slice A n cap ∧ (n = 0 ↔ x = 0) := by
 obtain ⟨ds, h1, h2, rfl⟩ := h
 obtain ⟨A, cap, rfl⟩ := h1.form
 exact ⟨A, _, cap, rfl, by rw [h2.zero_iff]; exact List.length_eq_zero_iff⟩
/-- No number here is as great. -/
def HUGE : Int := P2 5000
theorem huge_len {ds : List Int} (h : Canon ds) (hx : bval ds < HUGE) : ds.length ≤ 5000 := h.length_le hx
/-- What is handed back: a number's digits; the world as it was, or with new blocks. -/
def GiveN0 (x : Int) (w : World) (e : Ending) (w' : World) : Prop := ∃ r, e = .returned r ∧ w = w' ∧ NR w r x
def GiveN (x : Int) (w : World) (e : Ending) (w' : World) : Prop := ∃ r, e = .returned r ∧ Below w.heap.size w w' ∧ NR w' r x
def GiveB (z : Int) (w : World) (e : Ending) (w' : World) : Prop := ∃ r, e = .returned r ∧ Below w.heap.size w w' ∧ BR w' r z
/-- The i-th digit; 0 beyond. -/
def dg (ds : List Int) (i : Int) : Int := if 0 ≤ i then ds.getD i.toNat 0 else 0
theorem dg_nat (ds : List Int) (i : Nat) : dg ds i = ds.getD i 0 := by unfold dg; rw [if_pos (by omega)]; rfl
theorem dg_neg (ds : List Int) {i : Int} (h : i < 0) : dg ds i = 0 := if_neg (by omega)
theorem dg_out (ds : List Int) {i : Int} (h : (ds.length : Int) ≤ i) : dg ds i = 0 := by
 unfold dg; rw [if_pos (by omega), List.getD_eq_getElem?_getD, List.getElem?_eq_none (by omega)]; rfl
theorem Dig.dg {ds : List Int} (h : Dig ds) (i : Int) : 0 ≤ dg ds i ∧ dg ds i < 32768 := by
 unfold Proofs.YtikpobembcgbfaaGreatDoor.dg
 split
 · exact h.at _
 · omega
theorem digit_any (s : Value) (ds : List Int) (i : Int) (w : World) (h : DR w s ds) (hl : ds.length ≤ 4611686018427387904) :
 Calls Tryz.prog 133 #[s, .int .i64 i] w fun e w' => e = .returned (.int .i64 (dg ds i)) ∧ w = w' := by
 obtain ⟨A, cap, rfl⟩ := h.form
 by_cases h0 : i < 0
 · have H := Lib.hid (dg_neg ds h0)
   clear h
   go_enter Tryz.func133, Tryz.ntmps133
   go_wp2
   go_ret
   exact ⟨ret_int H.out.symm, rfl⟩
 by_cases h1 : (ds.length : Int) ≤ i
 · have H := Lib.hid (dg_out ds h1)
   clear h
   go_enter Tryz.func133, Tryz.ntmps133
   go_wp2
   go_ret
   exact ⟨ret_int H.out.symm, rfl⟩
 · obtain ⟨k, rfl⟩ := Int.eq_ofNat_of_zero_le (show 0 ≤ i by omega)
   have hk : k < ds.length := by omega
   rcases h with ⟨_, rfl⟩ | ⟨b, off, cap', h1', h2, h3, h4⟩
   · simp at hk
   · injection h1' with e1 e2 e3
     subst e1
     have c := h4 k hk
     have H := Lib.hid (dg_nat ds k)
     clear h4 e3
     go_enter Tryz.func133, Tryz.ntmps133
     go_wp2
     go_ret
     exact ⟨ret_int (by first | exact H.out.symm | (rw [H.out]; simp [hk])), rfl⟩
theorem trim_any (s : Value) (ds : List Int) (w : World) (h : DR w s ds) (hd : Dig ds) (hl : ds.length ≤ 4611686018427387904) :
 Calls Tryz.prog 131 #[s] w (GiveN0 (bval ds) w) := by
 rcases h with ⟨rfl, rfl⟩ | ⟨b, off, cap, rfl, h2, h3, h4⟩
 · go_enter Tryz.func131, Tryz.ntmps131
   go_wp2
   refine wp_loop_rounds 1 ?_
   rw [rounds_succ]
   go_wp2
   go_ret
   exact ⟨_, rfl, rfl, _, DR.nil _, Canon.nil, rfl⟩
 · have HD : Hid (DR w (.slice (some ⟨b, off, none⟩) ds.length cap) ds) := .inr ⟨b, off, cap, rfl, h2, h3, h4⟩
   go_enter Tryz.func131, Tryz.ntmps131
   go_wp2
   go_loop [3] (fun n => ∃ k : Nat, k ≤ ds.length ∧ n = .int .i64 k ∧ ∀ i, k ≤ i → ds.getD i 0 = 0) (fun n => (intOf n).toNat)
   case atStart => exact ⟨ds.length, Nat.le_refl _, rfl, fun i hi => by rw [List.getD_eq_getElem?_getD, List.getElem?_eq_none hi]; rfl⟩
   case round =>
    obtain ⟨k, hk, rfl, hz⟩ := hrel
    have HZ := Lib.hid hz
    clear hz
    by_cases hk0 : k = 0
    · subst hk0
      clear h4
      go_wp2
      go_ret
      exact ⟨_, rfl, rfl, _, DR.take HD.out (Nat.zero_le _), canon_take hd (Nat.zero_le _) (.inl rfl), take_val_of_zero HZ.out⟩
    · obtain ⟨x, hx⟩ : ∃ x, x = ds.getD (k - 1) 0 := ⟨_, rfl⟩
      have c := h4 (k - 1) (by omega)
      rw [← hx] at c
      have HX := Lib.hid hx
      clear h4 hx
      cases hx0 : (x == 0)
      · go_wp2
        go_ret
        exact ⟨_, rfl, rfl, _, DR.take HD.out hk, canon_take hd hk (.inr (by rw [← HX.out]; simpa using hx0)), take_val_of_zero HZ.out⟩
      · go_wp2
        go_round
        case rel =>
         refine ⟨k - 1, by omega, by go_num, fun i hi => ?_⟩
         rcases Nat.eq_or_lt_of_le hi with h5 | h5
         · rw [← h5, ← HX.out]; simpa using hx0
         · exact HZ.out i (by omega)
        case measure => simp [intOf]; omega
def cmpI (x y : Int) : Int := if x < y then -1 else if y < x then 1 else 0
theorem cmpI_lt {x y : Int} (h : x < y) : cmpI x y = -1 := if_pos h
theorem cmpI_gt {x y : Int} (h : y < x) : cmpI x y = 1 := by unfold cmpI; rw [if_neg (by omega), if_pos h]
theorem cmpI_eq (x : Int) : cmpI x x = 0 := by unfold cmpI; rw [if_neg (by omega), if_neg (by omega)]
theorem dg_pred (ds : List Int) (j : Nat) (hj : 0 < j) : dg ds ((j : Int) - 1) = ds.getD (j - 1) 0 := by
 rw [show (j : Int) - 1 = ((j - 1 : Nat) : Int) by omega, dg_nat]
theorem drop_step {a b : List Int} {j : Nat} (hj : 0 < j) (h : bval (a.drop j) = bval (b.drop j)) (hd : a.getD (j - 1) 0 = b.getD (j - 1) 0) : bval (a.drop (j - 1)) = bval (b.drop (j - 1)) := by
 rw [drop_val a (j - 1), drop_val b (j - 1), hd, show j - 1 + 1 = j by omega, h]
theorem drop_less {a b : List Int} {j : Nat} (ha : Dig a) (hb : Dig b) (hj : 0 < j) (h : bval (a.drop j) = bval (b.drop j)) (hd : a.getD (j - 1) 0 < b.getD (j - 1) 0) : bval a < bval b :=
 less_of_digit ha hb (i := j - 1) (by rw [show j - 1 + 1 = j by omega]; exact h) hd
theorem less_any (s t : Value) (x y : Int) (w : World) (hs : NR w s x) (ht : NR w t y) (hx : x < HUGE) (hy : y < HUGE) :
 Calls Tryz.prog 129 #[s, t] w fun e w' => e = .returned (.int .i64 (cmpI x y)) ∧ w = w' := by
 obtain ⟨a, ha, ca, rfl⟩ := hs
 obtain ⟨b, hb, cb, rfl⟩ := ht
 have la := huge_len ca hx
 have lb := huge_len cb hy
 have DA := fun i => Lib.hid (digit_any s a i w ha (by omega))
 have DB := fun i => Lib.hid (digit_any t b i w hb (by omega))
 obtain ⟨A, capa, rfl⟩ := ha.form
 obtain ⟨B, capb, rfl⟩ := hb.form
 clear ha hb hx hy
 obtain ⟨m, hm, hma, hmb⟩ : ∃ m : Nat, ((a.length : Int) < b.length ∧ m = b.length ∨ (b.length : Int) ≤ a.length ∧ m = a.length) ∧ a.length ≤ m ∧ b.length ≤ m := by
  by_cases h : (a.length : Int) < b.length
  · exact ⟨b.length, .inl ⟨h, rfl⟩, by omega, Nat.le_refl _⟩
  · exact ⟨a.length, .inr ⟨by omega, rfl⟩, Nat.le_refl _, by omega⟩
 have hE : Hid (bval (a.drop m) = bval (b.drop m)) := by
  show _ = _
  rw [List.drop_of_length_le hma, List.drop_of_length_le hmb]
 have HE0 : Hid (bval (a.drop 0) = bval (b.drop 0) → cmpI (bval a) (bval b) = 0) := fun h => by
  rw [List.drop_zero, List.drop_zero] at h; rw [h]; exact cmpI_eq _
 rcases hm with ⟨hle, rfl⟩ | ⟨hle, rfl⟩
 all_goals
  go_enter Tryz.func129, Tryz.ntmps129
  go_wp2
  go_loop [5] (fun i => ∃ j : Nat, j ≤ 5000 ∧ i = .int .i64 ((j : Int) - 1) ∧ bval (a.drop j) = bval (b.drop j)) (fun i => (intOf i + 1).toNat)
  case atStart => exact ⟨_, by omega, rfl, hE.out⟩
  case round =>
   obtain ⟨j, hj, rfl, hr⟩ := hrel
   have HR := Lib.hid hr
   clear hr
   by_cases hj0 : j = 0
   · subst hj0
     go_wp2
     go_ret
     exact ⟨ret_int (HE0.out HR.out).symm, rfl⟩
   · have HA := DA ((j : Int) - 1)
     have HB := DB ((j : Int) - 1)
     rw [dg_pred a j (by omega)] at HA
     rw [dg_pred b j (by omega)] at HB
     have HL : Hid (a.getD (j - 1) 0 < b.getD (j - 1) 0 → cmpI (bval a) (bval b) = -1) := fun h => cmpI_lt (drop_less ca.1 cb.1 (by omega) HR.out h)
     have HG : Hid (b.getD (j - 1) 0 < a.getD (j - 1) 0 → cmpI (bval a) (bval b) = 1) := fun h => cmpI_gt (drop_less cb.1 ca.1 (by omega) HR.out.symm h)
     have HQ : Hid (a.getD (j - 1) 0 = b.getD (j - 1) 0 → bval (a.drop (j - 1)) = bval (b.drop (j - 1))) := fun h => drop_step (by omega) HR.out h
     generalize a.getD (j - 1) 0 = u at HA HL HG HQ
     generalize b.getD (j - 1) 0 = v at HB HL HG HQ
     rcases Int.lt_trichotomy u v with h | h | h
     · go_wp2_with fail
       refine HA.out.mono ?_; rintro e w' ⟨rfl, rfl⟩
       go_wp2_with fail
       refine HB.out.mono ?_; rintro e w' ⟨rfl, rfl⟩
       go_wp2_with fail
       go_ret
       exact ⟨ret_int (HL.out h).symm, rfl⟩
     · subst h
       go_wp2_with fail
       refine HA.out.mono ?_; rintro e w' ⟨rfl, rfl⟩
       go_wp2_with fail
       refine HB.out.mono ?_; rintro e w' ⟨rfl, rfl⟩
       go_wp2_with fail
       refine HA.out.mono ?_; rintro e w' ⟨rfl, rfl⟩
       go_wp2_with fail
       refine HB.out.mono ?_; rintro e w' ⟨rfl, rfl⟩
       go_wp2_with fail
       go_round
       case rel => exact ⟨j - 1, by omega, by go_num, HQ.out (by first | exact rfl | trivial)⟩
       case measure => simp [intOf]; omega
     · go_wp2_with fail
       refine HA.out.mono ?_; rintro e w' ⟨rfl, rfl⟩
       go_wp2_with fail
       refine HB.out.mono ?_; rintro e w' ⟨rfl, rfl⟩
       go_wp2_with fail
       refine HA.out.mono ?_; rintro e w' ⟨rfl, rfl⟩
       go_wp2_with fail
       refine HB.out.mono ?_; rintro e w' ⟨rfl, rfl⟩
       go_wp2_with fail
       go_ret
       exact ⟨ret_int (HG.out h).symm, rfl⟩
theorem info_int : (Tryz.prog.info? 3).map (fun i => (i.zero, i.size, i.bytes)) = some (some (.int .i64 0), 1, 8) := by kernel_rfl
theorem sum_step {a b os : List Int} {k : Nat} {c : Int} (hl : os.length = k) (h : bval os + P2 k * c = bval (a.take k) + bval (b.take k)) :
 bval (os ++ [(a.getD k 0 + b.getD k 0 + c) % 32768]) + P2 (k + 1) * ((a.getD k 0 + b.getD k 0 + c) / 32768) = bval (a.take (k + 1)) + bval (b.take (k + 1)) := by
 rw [bval_snoc, take_succ_val, take_succ_val, hl, P2_succ]
 have e := Int.mul_ediv_add_emod (a.getD k 0 + b.getD k 0 + c) 32768
 generalize (a.getD k 0 + b.getD k 0 + c) % 32768 = q at *
 generalize (a.getD k 0 + b.getD k 0 + c) / 32768 = r at *
 grind
theorem one_new (w : World) (x : Value) (t : TypeId) : ∀ j u, [x][j]? = some u → (w.alloc (.cells #[x] t)).cell? ((⟨w.heap.size, 0, none⟩ : Addr).add j) = some u := by
 intro j u hj
 match j, hj with
 | 0, hj => simp at hj; subst hj; simp [Addr.add]
theorem one_cell (k : IntKind) (x : Int) : ∀ u ∈ [Value.int k x], u.oneCell' = true := by
 intro u hu; simp at hu; subst hu; rfl
theorem own_one {w1 : World} {base : Nat} {v1 : Value} {os : List Int} {x : Int} (h : w1.ownsRow base 3 1 v1 (os.length + 1) (os.map (Value.int .i64) ++ [.int .i64 x])) :
 w1.ownsRow base 3 1 v1 (os ++ [x]).length ((os ++ [x]).map (Value.int .i64)) := by
 simpa using h
theorem own_block_ge {w : World} {base : Nat} {e : TypeId} {sz n : Nat} {v : Value} {xs : List Value} (h : w.ownsRow base e sz v n xs) : ∀ k, v.ownBlock = some k → base ≤ k := by
 intro k hk
 rcases h.2 with ⟨rfl, _⟩ | ⟨g, cap, cur, rfl, hg, _⟩
 · simp [Value.ownBlock] at hk
 · simp [Value.ownBlock] at hk; omega
/-- An append onto a row of the call's own, behind the block that holds what is appended. -/
theorem below_app {w wr w1 : World} {o : Obj} {e : TypeId} {sz n : Nat} {v : Value} {xs : List Value} (hb : Below w.heap.size w wr) (hown : wr.ownsRow w.heap.size e sz v n xs) (hg : (wr.alloc o).grownBy w1 v.ownBlock) : Below w.heap.size w w1 :=
 (below_new hb o).grown hg (below_new hb o).size (own_block_ge hown)
theorem trim_give {s : Value} {ds : List Int} {x : Int} {w w1 : World} (hb : Below w.heap.size w w1) (h : DR w1 s ds) (hd : Dig ds) (hl : ds.length ≤ 4611686018427387904) (hx : bval ds = x) :
 Calls Tryz.prog 131 #[s] w1 (GiveN x w) := by
 refine (trim_any s ds w1 h hd hl).mono ?_
 rintro e w' ⟨r, rfl, rfl, hr⟩
 exact ⟨r, rfl, hb, hx ▸ hr⟩
theorem sum_any (s t : Value) (x y : Int) (w : World) (hs : NR w s x) (ht : NR w t y) (hx : x < HUGE) (hy : y < HUGE) :
 Calls Tryz.prog 128 #[s, t] w (GiveN (x + y) w) := by
 obtain ⟨a, ha, ca, rfl⟩ := hs
 obtain ⟨b, hb, cb, rfl⟩ := ht
 have la := huge_len ca hx
 have lb := huge_len cb hy
 have DA := Lib.hid (fun i wr (hw : Below w.heap.size w wr) => digit_any s a i wr (ha.below hw) (by omega))
 have DB := Lib.hid (fun i wr (hw : Below w.heap.size w wr) => digit_any t b i wr (hb.below hw) (by omega))
 obtain ⟨A, capa, rfl⟩ := ha.form
 obtain ⟨B, capb, rfl⟩ := hb.form
 clear ha hb hx hy
 obtain ⟨m, hm, hma, hmb⟩ : ∃ m : Nat, ((a.length : Int) < b.length ∧ m = b.length ∨ (b.length : Int) ≤ a.length ∧ m = a.length) ∧ a.length ≤ m ∧ b.length ≤ m := by
  by_cases h : (a.length : Int) < b.length
  · exact ⟨b.length, .inl ⟨h, rfl⟩, by omega, Nat.le_refl _⟩
  · exact ⟨a.length, .inr ⟨by omega, rfl⟩, Nat.le_refl _, by omega⟩
 have hE : Hid (a.take m = a ∧ b.take m = b) := ⟨List.take_of_length_le hma, List.take_of_length_le hmb⟩
 obtain ⟨i0, hi, hz0, hz1, hz2⟩ := info_parts info_int
 rcases hm with ⟨hle, rfl⟩ | ⟨hle, rfl⟩
 · go_enter Tryz.func128, Tryz.ntmps128
   go_wp2
   go_loopw [5, 6, 7] (fun v cy i wr => ∃ (k : Nat) (c : Int) (os : List Int), k ≤ b.length ∧ i = .int .i64 k ∧ cy = .int .i64 c ∧ 0 ≤ c ∧ c ≤ 1 ∧ wr.ownsRow w.heap.size 3 1 v os.length (os.map (Value.int .i64)) ∧
    Hid (os.length = k ∧ Dig os ∧ bval os + P2 k * c = bval (a.take k) + bval (b.take k)) ∧ Below w.heap.size w wr) (fun _ _ i _ => 5001 - (intOf i).toNat)
   case atStart => exact ⟨0, 0, [], by omega, rfl, rfl, by omega, by omega, World.ownsRow_nil _ _ _ _, ⟨rfl, Dig.nil, by simp [bval]⟩, Below.refl _ _⟩
   case round =>
    obtain ⟨k, c, os, hk, rfl, rfl, c0, c1, hown, hinv, hbel⟩ := hrel
    have HO := Lib.hid hown
    clear hown
    by_cases hlt : (k : Int) < b.length
    · have HA := DA.out (k : Int) wr hbel
      have HB := DB.out (k : Int) wr hbel
      rw [dg_nat] at HA HB
      have dA := ca.1.at k
      have dB := cb.1.at k
      have HS := Lib.hid (sum_step (a := a) (b := b) hinv.out.1 hinv.out.2.2)
      generalize a.getD k 0 = u at HA HS dA
      generalize b.getD k 0 = v at HB HS dB
      obtain ⟨dA0, dA1⟩ := dA
      obtain ⟨dB0, dB1⟩ := dB
      have HA := Lib.hid HA
      have HB := Lib.hid HB
      have hos : os.length ≤ 5001 := by have := hinv.out.1; omega
      have hns : w.heap.size ≤ wr.heap.size := hbel.size
      go_wp2_with fail
      refine HA.out.mono ?_; rintro e w' ⟨rfl, rfl⟩
      go_wp2_with fail
      refine HB.out.mono ?_; rintro e w' ⟨rfl, rfl⟩
      go_wp2_with (first | (at_builtin; refine wpList_append_own _ rfl (.tmp 27) (.tmp 30) 40 rfl w.heap.size 3 i0 (.int .i64 0) 1 8 Tryz.underlying40 hi hz0 hz1 hz2 rfl (by decide) _ _ _ rfl (HO.out.alloc _) ⟨wr.heap.size, 0, none⟩ 1 1 [.int .i64 ((u + v + c) % 32768)] rfl rfl (one_new _ _ _) (one_cell _ _) (by unfold maxLen; omega) (by omega) (by simp; omega) ?_))
      intro v' w1 hown' hgrow _
      have HB1 := Lib.hid (below_app hbel HO.out hgrow)
      have HO1 := Lib.hid (own_one hown')
      clear hown' hgrow
      go_wp2_with fail
      go_roundw
      case rel =>
       have hd := hinv.out
       refine ⟨k + 1, (u + v + c) / 32768, os ++ [(u + v + c) % 32768], by omega, by go_num, by first | rfl | go_num, by omega, by omega, HO1.out, ⟨by simp; omega, hd.2.1.snoc ⟨by omega, by omega⟩, HS.out⟩, HB1.out⟩
      case measure => simp [intOf]; omega
    · obtain rfl : k = b.length := by omega
      have hos : os.length ≤ 5001 := by have := hinv.out.1; omega
      have hns : w.heap.size ≤ wr.heap.size := hbel.size
      go_wp2_with (first | (at_builtin; refine wpList_append_own _ rfl (.tmp 34) (.tmp 36) 40 rfl w.heap.size 3 i0 (.int .i64 0) 1 8 Tryz.underlying40 hi hz0 hz1 hz2 rfl (by decide) _ _ _ rfl (HO.out.alloc _) ⟨wr.heap.size, 0, none⟩ 1 1 [.int .i64 c] rfl rfl (one_new _ _ _) (one_cell _ _) (by unfold maxLen; omega) (by omega) (by simp; omega) ?_))
      intro v' w1 hown' hgrow _
      have HB1 := Lib.hid (below_app hbel HO.out hgrow)
      have HO1 := Lib.hid (own_one hown')
      have hd := Lib.hid hinv.out
      clear hown' hgrow
      have HF : Hid (bval (os ++ [c]) = bval a + bval b) := by
       show _ = _
       have h3 := hd.out.2.2
       rw [hE.out.1, hE.out.2] at h3
       rw [bval_snoc, hd.out.1]; exact h3
      have HC := Lib.hid (trim_give HB1.out (DR.of_own HO1.out) (hd.out.2.1.snoc ⟨c0, by omega⟩) (by simp; omega) HF.out)
      go_wp2_with fail
      refine HC.out.mono ?_; rintro e w2 ⟨r, rfl, hb2, hr⟩
      have HR := Lib.hid hr
      clear hr
      go_wp2_with fail
      go_ret
      exact ⟨_, rfl, hb2, HR.out⟩
 · go_enter Tryz.func128, Tryz.ntmps128
   go_wp2
   go_loopw [5, 6, 7] (fun v cy i wr => ∃ (k : Nat) (c : Int) (os : List Int), k ≤ a.length ∧ i = .int .i64 k ∧ cy = .int .i64 c ∧ 0 ≤ c ∧ c ≤ 1 ∧ wr.ownsRow w.heap.size 3 1 v os.length (os.map (Value.int .i64)) ∧
    Hid (os.length = k ∧ Dig os ∧ bval os + P2 k * c = bval (a.take k) + bval (b.take k)) ∧ Below w.heap.size w wr) (fun _ _ i _ => 5001 - (intOf i).toNat)
   case atStart => exact ⟨0, 0, [], by omega, rfl, rfl, by omega, by omega, World.ownsRow_nil _ _ _ _, ⟨rfl, Dig.nil, by simp [bval]⟩, Below.refl _ _⟩
   case round =>
    obtain ⟨k, c, os, hk, rfl, rfl, c0, c1, hown, hinv, hbel⟩ := hrel
    have HO := Lib.hid hown
    clear hown
    by_cases hlt : (k : Int) < a.length
    · have HA := DA.out (k : Int) wr hbel
      have HB := DB.out (k : Int) wr hbel
      rw [dg_nat] at HA HB
      have dA := ca.1.at k
      have dB := cb.1.at k
      have HS := Lib.hid (sum_step (a := a) (b := b) hinv.out.1 hinv.out.2.2)
      generalize a.getD k 0 = u at HA HS dA
      generalize b.getD k 0 = v at HB HS dB
      obtain ⟨dA0, dA1⟩ := dA
      obtain ⟨dB0, dB1⟩ := dB
      have HA := Lib.hid HA
      have HB := Lib.hid HB
      have hos : os.length ≤ 5001 := by have := hinv.out.1; omega
      have hns : w.heap.size ≤ wr.heap.size := hbel.size
      go_wp2_with fail
      refine HA.out.mono ?_; rintro e w' ⟨rfl, rfl⟩
      go_wp2_with fail
      refine HB.out.mono ?_; rintro e w' ⟨rfl, rfl⟩
      go_wp2_with (first | (at_builtin; refine wpList_append_own _ rfl (.tmp 27) (.tmp 30) 40 rfl w.heap.size 3 i0 (.int .i64 0) 1 8 Tryz.underlying40 hi hz0 hz1 hz2 rfl (by decide) _ _ _ rfl (HO.out.alloc _) ⟨wr.heap.size, 0, none⟩ 1 1 [.int .i64 ((u + v + c) % 32768)] rfl rfl (one_new _ _ _) (one_cell _ _) (by unfold maxLen; omega) (by omega) (by simp; omega) ?_))
      intro v' w1 hown' hgrow _
      have HB1 := Lib.hid (below_app hbel HO.out hgrow)
      have HO1 := Lib.hid (own_one hown')
      clear hown' hgrow
      go_wp2_with fail
      go_roundw
      case rel =>
       have hd := hinv.out
       refine ⟨k + 1, (u + v + c) / 32768, os ++ [(u + v + c) % 32768], by omega, by go_num, by first | rfl | go_num, by omega, by omega, HO1.out, ⟨by simp; omega, hd.2.1.snoc ⟨by omega, by omega⟩, HS.out⟩, HB1.out⟩
      case measure => simp [intOf]; omega
    · obtain rfl : k = a.length := by omega
      have hos : os.length ≤ 5001 := by have := hinv.out.1; omega
      have hns : w.heap.size ≤ wr.heap.size := hbel.size
      go_wp2_with (first | (at_builtin; refine wpList_append_own _ rfl (.tmp 34) (.tmp 36) 40 rfl w.heap.size 3 i0 (.int .i64 0) 1 8 Tryz.underlying40 hi hz0 hz1 hz2 rfl (by decide) _ _ _ rfl (HO.out.alloc _) ⟨wr.heap.size, 0, none⟩ 1 1 [.int .i64 c] rfl rfl (one_new _ _ _) (one_cell _ _) (by unfold maxLen; omega) (by omega) (by simp; omega) ?_))
      intro v' w1 hown' hgrow _
      have HB1 := Lib.hid (below_app hbel HO.out hgrow)
      have HO1 := Lib.hid (own_one hown')
      have hd := Lib.hid hinv.out
      clear hown' hgrow
      have HF : Hid (bval (os ++ [c]) = bval a + bval b) := by
       show _ = _
       have h3 := hd.out.2.2
       rw [hE.out.1, hE.out.2] at h3
       rw [bval_snoc, hd.out.1]; exact h3
      have HC := Lib.hid (trim_give HB1.out (DR.of_own HO1.out) (hd.out.2.1.snoc ⟨c0, by omega⟩) (by simp; omega) HF.out)
      go_wp2_with fail
      refine HC.out.mono ?_; rintro e w2 ⟨r, rfl, hb2, hr⟩
      have HR := Lib.hid hr
      clear hr
      go_wp2_with fail
      go_ret
      exact ⟨_, rfl, hb2, HR.out⟩
theorem rest_step {a b os : List Int} {k : Nat} {c q r : Int} (hl : os.length = k) (h : bval os - P2 k * c = bval (a.take k) - bval (b.take k)) (hq : q - 32768 * r = a.getD k 0 - b.getD k 0 - c) :
 bval (os ++ [q]) - P2 (k + 1) * r = bval (a.take (k + 1)) - bval (b.take (k + 1)) := by
 rw [bval_snoc, take_succ_val, take_succ_val, hl, P2_succ]
 generalize P2 k = p at *
 grind
theorem rest_end {a b os : List Int} {c : Int} (ca : Canon a) (cb : Canon b) (hle : bval b ≤ bval a) (hl : os.length = a.length) (hd : Dig os) (h : bval os - P2 a.length * c = bval (a.take a.length) - bval (b.take a.length)) (c0 : 0 ≤ c) (c1 : c ≤ 1) :
 bval os = bval a - bval b := by
 have h1 := bval_lt ca.1
 have h2 := cb.length_le (show bval b < P2 a.length by omega)
 rw [List.take_of_length_le (Nat.le_refl _), List.take_of_length_le h2] at h
 have h3 := bval_lt hd
 rw [hl] at h3
 have : c = 0 ∨ c = 1 := by omega
 rcases this with rfl | rfl
 · omega
 · omega
theorem rest_any (s t : Value) (x y : Int) (w : World) (hs : NR w s x) (ht : NR w t y) (hx : x < HUGE) (hyx : y ≤ x) :
 Calls Tryz.prog 130 #[s, t] w (GiveN (x - y) w) := by
 obtain ⟨a, ha, ca, rfl⟩ := hs
 obtain ⟨b, hb, cb, rfl⟩ := ht
 have la := huge_len ca hx
 have lb := huge_len cb (show bval b < HUGE by omega)
 have DA := Lib.hid (fun i wr (hw : Below w.heap.size w wr) => digit_any s a i wr (ha.below hw) (by omega))
 have DB := Lib.hid (fun i wr (hw : Below w.heap.size w wr) => digit_any t b i wr (hb.below hw) (by omega))
 have HX := Lib.hid hyx
 obtain ⟨A, capa, rfl⟩ := ha.form
 obtain ⟨B, capb, rfl⟩ := hb.form
 clear ha hb hx hyx
 obtain ⟨i0, hi, hz0, hz1, hz2⟩ := info_parts info_int
 go_enter Tryz.func130, Tryz.ntmps130
 go_wp2
 go_loopw [5, 6, 7] (fun v cy i wr => ∃ (k : Nat) (c : Int) (os : List Int), k ≤ a.length ∧ i = .int .i64 k ∧ cy = .int .i64 c ∧ 0 ≤ c ∧ c ≤ 1 ∧ wr.ownsRow w.heap.size 3 1 v os.length (os.map (Value.int .i64)) ∧
  Hid (os.length = k ∧ Dig os ∧ bval os - P2 k * c = bval (a.take k) - bval (b.take k)) ∧ Below w.heap.size w wr) (fun _ _ i _ => 5001 - (intOf i).toNat)
 case atStart => exact ⟨0, 0, [], by omega, rfl, rfl, by omega, by omega, World.ownsRow_nil _ _ _ _, ⟨rfl, Dig.nil, by simp [bval]⟩, Below.refl _ _⟩
 case round =>
  obtain ⟨k, c, os, hk, rfl, rfl, c0, c1, hown, hinv, hbel⟩ := hrel
  have HO := Lib.hid hown
  clear hown
  have hos : os.length ≤ 5001 := by have := hinv.out.1; omega
  have hns : w.heap.size ≤ wr.heap.size := hbel.size
  by_cases hlt : (k : Int) < a.length
  · have HA := DA.out (k : Int) wr hbel
    have HB := DB.out (k : Int) wr hbel
    rw [dg_nat] at HA HB
    have dA := ca.1.at k
    have dB := cb.1.at k
    have HS : Hid (∀ q r : Int, q - 32768 * r = a.getD k 0 - b.getD k 0 - c → bval (os ++ [q]) - P2 (k + 1) * r = bval (a.take (k + 1)) - bval (b.take (k + 1))) := fun q r => rest_step hinv.out.1 hinv.out.2.2
    generalize a.getD k 0 = u at HA HS dA
    generalize b.getD k 0 = v at HB HS dB
    obtain ⟨dA0, dA1⟩ := dA
    obtain ⟨dB0, dB1⟩ := dB
    have HA := Lib.hid HA
    have HB := Lib.hid HB
    by_cases hneg : u - v - c < 0
    · go_wp2_with fail
      refine HA.out.mono ?_; rintro e w' ⟨rfl, rfl⟩
      go_wp2_with fail
      refine HB.out.mono ?_; rintro e w' ⟨rfl, rfl⟩
      go_wp2_with (first | (at_builtin; refine wpList_append_own _ rfl (.tmp 28) (.tmp 30) 40 rfl w.heap.size 3 i0 (.int .i64 0) 1 8 Tryz.underlying40 hi hz0 hz1 hz2 rfl (by decide) _ _ _ rfl (HO.out.alloc _) ⟨wr.heap.size, 0, none⟩ 1 1 [.int .i64 (u - v - c + 32768)] rfl rfl (one_new _ _ _) (one_cell _ _) (by unfold maxLen; omega) (by omega) (by simp; omega) ?_))
      intro v' w1 hown' hgrow _
      have HB1 := Lib.hid (below_app hbel HO.out hgrow)
      have HO1 := Lib.hid (own_one hown')
      clear hown' hgrow
      go_wp2_with fail
      go_roundw
      case rel =>
       have hd := hinv.out
       exact ⟨k + 1, 1, os ++ [u - v - c + 32768], by omega, by go_num, rfl, by omega, by omega, HO1.out, ⟨by simp; omega, hd.2.1.snoc ⟨by omega, by omega⟩, HS.out _ 1 (by omega)⟩, HB1.out⟩
      case measure => simp [intOf]; omega
    · go_wp2_with fail
      refine HA.out.mono ?_; rintro e w' ⟨rfl, rfl⟩
      go_wp2_with fail
      refine HB.out.mono ?_; rintro e w' ⟨rfl, rfl⟩
      go_wp2_with (first | (at_builtin; refine wpList_append_own _ rfl (.tmp 28) (.tmp 30) 40 rfl w.heap.size 3 i0 (.int .i64 0) 1 8 Tryz.underlying40 hi hz0 hz1 hz2 rfl (by decide) _ _ _ rfl (HO.out.alloc _) ⟨wr.heap.size, 0, none⟩ 1 1 [.int .i64 (u - v - c)] rfl rfl (one_new _ _ _) (one_cell _ _) (by unfold maxLen; omega) (by omega) (by simp; omega) ?_))
      intro v' w1 hown' hgrow _
      have HB1 := Lib.hid (below_app hbel HO.out hgrow)
      have HO1 := Lib.hid (own_one hown')
      clear hown' hgrow
      go_wp2_with fail
      go_roundw
      case rel =>
       have hd := hinv.out
       exact ⟨k + 1, 0, os ++ [u - v - c], by omega, by go_num, rfl, by omega, by omega, HO1.out, ⟨by simp; omega, hd.2.1.snoc ⟨by omega, by omega⟩, HS.out _ 0 (by omega)⟩, HB1.out⟩
      case measure => simp [intOf]; omega
  · obtain rfl : k = a.length := by omega
    have hd := Lib.hid hinv.out
    have HC := Lib.hid (trim_give hbel (DR.of_own HO.out) hd.out.2.1 (by omega) (rest_end ca cb HX.out hd.out.1 hd.out.2.1 hd.out.2.2 c0 c1))
    go_wp2_with fail
    refine HC.out.mono ?_; rintro e w2 ⟨r, rfl, hb2, hr⟩
    have HR := Lib.hid hr
    clear hr
    go_wp2_with fail
    go_ret
    exact ⟨_, rfl, hb2, HR.out⟩
end Go.Proofs.YtikpobembcgbfaaGreatDoor
