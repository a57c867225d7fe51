/- Rows of fractions that come in; contract of slices.Clone. -/
import Derived.Test.YthdbchghhpoadaaSoA
import Derived.Test.YthdbchghhpoadaaOwn
import Derived.Lib.SliceRun
set_option linter.unusedVariables false
set_option linter.unusedSimpArgs false
namespace Go.Proofs.Ythdbchghhpoadaa
open Go.RowKit Go.ChangeShapes Go.WideShapes Go.ChangeAt Go.Deep
abbrev PQ2 := Int × Int
abbrev QLT : TypeId := 60
/-- A slice that reads as the pairs qs. -/
def QS (w : World) (v : Value) (qs : List PQ2) : Prop := ∃ A cap, v = .slice A qs.length cap ∧ qs.length ≤ cap ∧ (cap : Int) ≤ 9223372036854775807 ∧ (∀ p ∈ qs, I64 p.1 ∧ I64 p.2) ∧
  (qs ≠ [] → ∃ b off, A = some ⟨b, off, none⟩ ∧ b < w.heap.size ∧ ∀ i, i < qs.length → w.cell? ⟨b, off + i * 2, none⟩ = some (.int .i64 (qs.getD i (0, 1)).1) ∧ w.cell? ⟨b, off + i * 2 + 1, none⟩ = some (.int .i64 (qs.getD i (0, 1)).2))
theorem QS.below {w w1 : World} {v : Value} {qs : List PQ2} (h : QS w v qs) (hb : Below w.heap.size w w1) : QS w1 v qs := by
  obtain ⟨A, cap, rfl, h1, h2, h3, h4⟩ := h
  refine ⟨A, cap, rfl, h1, h2, h3, fun hz => ?_⟩
  obtain ⟨b, off, rfl, hlt, hc⟩ := h4 hz
  refine ⟨b, off, rfl, Nat.lt_of_lt_of_le hlt hb.size, fun i hi => ?_⟩
  rw [hb.cell (p := ⟨b, off + i * 2, none⟩) hlt, hb.cell (p := ⟨b, off + i * 2 + 1, none⟩) hlt]
  exact hc i hi
theorem open_qs {P : Program} {H : Type} {enc : TypeId × Value → H} {t e : TypeId} {n : Nat} (ht : P.underlying t = some (.slice e)) (hk : intLeaves P n e = some [.i64, .i64]) (hC : P.cellsOf e = 2) {W : World} {base : Nat} {v : Value} {d : DataW H} {p : List MemPlace}
    (hval : Value.okWide P W .any base t v) (h : DataW.Trod enc P W 0 (fun _ => true) true t v d p) : ∃ qs, QS W v qs := by
  obtain ⟨a0, len, cap, rfl⟩ := okWide_slice ht hval
  obtain ⟨fuel, hf⟩ := h
  rcases open_slice ht hf with ⟨hcs, hx⟩ | ⟨a, len', cap', m, n', D, Pl, hcs, _, hl, hm, hmm, -, hx⟩
  · simp [Value.cells] at hcs
    obtain ⟨rfl, rfl, rfl⟩ := hcs
    exact ⟨[], none, 0, rfl, by simp, by simp, by simp, fun h => absurd rfl h⟩
  · simp [Value.cells] at hcs
    obtain ⟨rfl, rfl, rfl⟩ := hcs
    simp only [if_true] at hmm
    obtain ⟨f, hF⟩ := choose_lt (α := PQ2) (p := fun i q => (W.cell? (a.add (i * 2)) = some (.int .i64 q.1) ∧ W.cell? ((a.add (i * 2)).add 1) = some (.int .i64 q.2)) ∧ I64 q.1 ∧ I64 q.2) (n := m) (fun i hi => by
      obtain ⟨cs', g1, g2⟩ := hx i hi
      rw [hC] at g1
      obtain ⟨_, hlen, hat⟩ := World.cells?_some g1
      obtain ⟨ns, hn, rfl, hw⟩ := trod_ints hk (by simpa using hC) (by rw [hlen, hC]) g2
      match ns, hn with
      | [x, y], _ =>
        refine ⟨(x, y), ⟨?_, ?_⟩, i64_of_wf (hw 0 .i64 x rfl rfl), i64_of_wf (hw 1 .i64 y rfl rfl)⟩
        · have := hat 0 (by omega); simpa [Addr.add, intCells] using this
        · have := hat 1 (by omega); simpa [intCells] using this)
    have hlen : ((List.range len).map f).length = len := by simp
    refine ⟨(List.range len).map f, some a, cap, by rw [hlen], by rw [hlen]; exact hl, by unfold maxLen at hm; omega, fun q hq => ?_, fun hne => ?_⟩
    · obtain ⟨i, hi, rfl⟩ := List.mem_map.1 hq
      exact (hF i (by have := List.mem_range.1 hi; omega)).2
    · have hpos : 0 < len := by
        cases len with
        | zero => simp at hne
        | succ n => omega
      have g0 := (hF 0 (by omega)).1.1
      rw [Nat.zero_mul] at g0
      have hb : a.block < W.heap.size := by
        rcases Nat.lt_or_ge a.block W.heap.size with h | h
        · exact h
        · simp [World.cell?, Addr.add, Array.getElem?_eq_none h] at g0
      obtain ⟨b, off, spot⟩ := a
      have hspot : spot = none := by simpa [Addr.add] using World.cell?_spot g0
      subst hspot
      have ad : ∀ (o j : Nat), (⟨b, o, none⟩ : Addr).add j = ⟨b, o + j, none⟩ := fun o j => by
        unfold Addr.add; split
        · rename_i h; subst h; rfl
        · rfl
      refine ⟨b, off, rfl, hb, fun i hi => ?_⟩
      rw [hlen] at hi
      have gi := (hF i (by omega)).1
      rw [ad, ad] at gi
      have e : ((List.range len).map f).getD i (0, 1) = f i := by simp [List.getD, hi]
      rw [e]
      exact gi
theorem info_rat : (Try.prog.info? PRT).map (fun i => (i.zero, i.size, i.bytes)) = some (some (.agg #[.int .i64 0, .int .i64 0]), 2, 16) := by kernel_rfl
def qcells : List PQ2 → List Value
  | [] => []
  | p :: L => .int .i64 p.1 :: .int .i64 p.2 :: qcells L
theorem qcells_len : ∀ L : List PQ2, (qcells L).length = L.length * 2
  | [] => rfl
  | p :: L => by simp only [qcells, List.length_cons, qcells_len L]; omega
theorem qcells_at : ∀ (L : List PQ2) (j : Nat), j < L.length → (qcells L)[j * 2]? = some (.int .i64 (L.getD j (0, 1)).1) ∧ (qcells L)[j * 2 + 1]? = some (.int .i64 (L.getD j (0, 1)).2)
  | [], j, h => by simp at h
  | p :: L, 0, _ => ⟨rfl, rfl⟩
  | p :: L, j + 1, h => by
    have k := qcells_at L j (by simpa using h)
    rw [show (j + 1) * 2 = j * 2 + 2 by omega]
    simpa [qcells] using k
theorem qcells_one : ∀ (L : List PQ2), ∀ u ∈ qcells L, u.oneCell' = true
  | [], u, h => by simp [qcells] at h
  | p :: L, u, h => by
    simp only [qcells, List.mem_cons] at h
    rcases h with rfl | rfl | h
    · rfl
    · rfl
    · exact qcells_one L u h
/-- What a row holds, with the places where it stood at first. -/
def rowE (qs : List PQ2) : Nat → E3 := fun k => (qs.getD k (0, 1), k)
theorem add_spot (b o j : Nat) : (⟨b, o, none⟩ : Addr).add j = ⟨b, o + j, none⟩ := by
  unfold Addr.add; split
  · rename_i h; subst h; rfl
  · rfl
theorem QS.news {w : World} {ad : Addr} {n cap : Nat} {qs : List PQ2} (h : QS w (.slice (some ad) n cap) qs) : ∀ j u, (qcells qs)[j]? = some u → w.cell? (ad.add j) = some u := by
  intro j u hj
  obtain ⟨A, cap', hv, -, -, -, h4⟩ := h
  have hjl : j < qs.length * 2 := by
    have := (List.getElem?_eq_some_iff.1 hj).1
    rwa [qcells_len] at this
  have hne : qs ≠ [] := fun e => by subst e; simp at hjl
  obtain ⟨b', off', hA, hlt, hc⟩ := h4 hne
  simp only [Value.slice.injEq] at hv
  obtain ⟨hv1, -, -⟩ := hv
  rw [hA] at hv1
  simp only [Option.some.injEq] at hv1
  subst hv1
  rw [add_spot]
  obtain ⟨c1, c2⟩ := hc (j / 2) (by omega)
  obtain ⟨k1, k2⟩ := qcells_at qs (j / 2) (by omega)
  rcases Nat.mod_two_eq_zero_or_one j with e | e
  · have e2 : j / 2 * 2 = j := by omega
    rw [e2] at c1 k1
    rw [k1] at hj
    rw [c1]; exact hj
  · have e2 : j / 2 * 2 + 1 = j := by omega
    rw [Nat.add_assoc, e2] at c2
    rw [e2] at k2
    rw [k2] at hj
    rw [c2]; exact hj
/-- A new row. -/
def GiveRow (w : World) (n : Nat) (D : Nat → E3) (e : Ending) (w' : World) : Prop := ∃ g c, e = .returned (.slice (some ⟨g, 0, none⟩) n c) ∧ Below w.heap.size w w' ∧ w.heap.size ≤ g ∧ SR w' g n D
theorem own_sr {w : World} {base : Nat} {v : Value} {qs : List PQ2} (h : w.ownsRow base PRT 2 v qs.length (qcells qs)) (hv : v ≠ .slice none 0 0) : ∃ g c, v = .slice (some ⟨g, 0, none⟩) qs.length c ∧ base ≤ g ∧ SR w g qs.length (rowE qs) := by
  rcases h.2 with ⟨rfl, h0⟩ | ⟨g, cap, cur, rfl, hb, hh, hc, hm, -, ht⟩
  · exact absurd rfl hv
  · refine ⟨g, cap, rfl, hb, cur, hh, fun i hi => ?_⟩
    obtain ⟨k1, k2⟩ := qcells_at qs i hi
    rw [← ht, List.getElem?_take_of_lt (by omega)] at k1 k2
    unfold rowE
    exact ⟨by simpa using k1, by simpa using k2⟩
set_option maxRecDepth 100000 in
set_option maxHeartbeats 4000000 in
theorem clone_some (ad : Addr) (n cap : Nat) (qs : List PQ2) (hl : qs.length = n) (hn : n ≤ 60) (w : World) (hv : QS w (.slice (some ad) n cap) qs) :
    Calls Try.prog 52 #[.slice (some ad) n cap] w (GiveRow w n (rowE qs)) := by
  obtain ⟨i0, hi0, hz0, hz1, hz2⟩ := info_parts info_rat
  have q22 : ∀ (w : World) (a : Option Addr) (n c n' c' : Nat), (binOp .eql QLT (.slice a n c) (.slice none n' c')).run Try.prog w = .ok (.bool a.isNone) w := fun w a n c n' c' => Lib.run_eql_slice_nil w _ _ a n c n' c' Try.underlying60
  have hN := Lib.hid hv.news
  clear hv
  go_enter Try.func52, Try.ntmps52
  go_wp2_with (first | (at_builtin; refine wpList_append_own _ rfl (.tmp 5) (.tmp 6) QLT rfl w.heap.size PRT i0 (.agg #[.int .i64 0, .int .i64 0]) 2 16 Try.underlying60 hi0 hz0 hz1 hz2 rfl (by decide) _ _ _ rfl (World.ownsRow_made w #[] 0 (Nat.le_refl _) (Nat.zero_le _) rfl) ad n cap (qcells qs) rfl (by rw [qcells_len, hl]) (fun j u hj => Lib.cell?_alloc_some _ (hN.out j u hj)) (qcells_one qs) (by unfold maxLen; omega) (by omega) (by simp) ?_))
  intro v' w1 hown hgrow hnil
  have hb := Lib.hid (((Below.refl _ w).alloc (Nat.le_refl _) _).grown hgrow (by simp) (by intro k hk; simp [Value.ownBlock] at hk; omega))
  have hR : Hid (∃ g c, v' = .slice (some ⟨g, 0, none⟩) n c ∧ w.heap.size ≤ g ∧ SR w1 g n (rowE qs)) := by
    have ho : w1.ownsRow w.heap.size PRT 2 v' qs.length (qcells qs) := by rw [hl]; simpa using hown
    have := own_sr ho hnil
    rw [hl] at this; exact this
  clear hown hgrow hnil hN
  go_wp2_with fail
  go_ret
  obtain ⟨g, c, rfl, h1, h2⟩ := hR.out
  exact ⟨g, c, rfl, hb.out, h1, h2⟩
theorem clone_none (n cap : Nat) (w : World) : Calls Try.prog 52 #[.slice none n cap] w fun e w' => e = .returned (.slice none 0 0) ∧ w = w' := by
  have q22 : ∀ (w : World) (a : Option Addr) (n c n' c' : Nat), (binOp .eql QLT (.slice a n c) (.slice none n' c')).run Try.prog w = .ok (.bool a.isNone) w := fun w a n c n' c' => Lib.run_eql_slice_nil w _ _ a n c n' c' Try.underlying60
  go_enter Try.func52, Try.ntmps52
  go_wp2_with fail
  go_ret
  exact ⟨rfl, rfl⟩
end Go.Proofs.Ythdbchghhpoadaa
