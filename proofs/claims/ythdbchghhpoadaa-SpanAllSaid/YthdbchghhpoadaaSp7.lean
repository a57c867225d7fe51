/- Contracts of span.All and Count. -/
import Derived.Test.YthdbchghhpoadaaSp6
import Derived.Test.YthdbchghhpoadaaOwn
set_option linter.unusedVariables false
set_option linter.unusedSimpArgs false
namespace Go.Proofs.Ythdbchghhpoadaa
open Go.RowKit Go.ChangeShapes Go.WideShapes Go.ChangeAt Go.Deep
abbrev SLT : TypeId := 37
theorem info_span : (Try.prog.info? SPT).map (fun i => (i.zero, i.size, i.bytes)) = some (some (.agg #[.int .i64 0, .int .i64 0, .int .i64 0]), 3, 24) := by kernel_rfl
def tcells : List P3 → List Value
  | [] => []
  | p :: L => .int .i64 p.1 :: .int .i64 p.2.1 :: .int .i64 p.2.2 :: tcells L
theorem tcells_len : ∀ L : List P3, (tcells L).length = L.length * 3
  | [] => rfl
  | p :: L => by simp only [tcells, List.length_cons, tcells_len L]; omega
theorem tcells_app : ∀ (L : List P3) (p : P3), tcells (L ++ [p]) = tcells L ++ [.int .i64 p.1, .int .i64 p.2.1, .int .i64 p.2.2]
  | [], p => rfl
  | q :: L, p => by simp only [List.cons_append, tcells, tcells_app L p]
theorem tcells_at : ∀ (L : List P3) (j : Nat), j < L.length → (tcells L)[j * 3]? = some (.int .i64 (L.getD j (0, 0, 0)).1) ∧ (tcells L)[j * 3 + 1]? = some (.int .i64 (L.getD j (0, 0, 0)).2.1) ∧ (tcells L)[j * 3 + 2]? = some (.int .i64 (L.getD j (0, 0, 0)).2.2)
  | [], j, h => by simp at h
  | p :: L, 0, _ => ⟨rfl, rfl, rfl⟩
  | p :: L, j + 1, h => by
    have k := tcells_at L j (by simpa using h)
    rw [show (j + 1) * 3 = j * 3 + 3 by omega]
    simpa [tcells] using k
theorem three_new (w : World) (a b c : Value) (t : TypeId) : ∀ j u, [a, b, c][j]? = some u → (w.alloc (.cells #[a, b, c] t)).cell? ((⟨w.heap.size, 0, none⟩ : Addr).add j) = some u := by
  intro j u hj
  have h : AtB (w.alloc (.cells #[a, b, c] t)) w.heap.size #[a, b, c] t := new_at w _ _
  match j, hj with
  | 0, hj => simp at hj; subst hj; exact h.cell 0 rfl
  | 1, hj => simp at hj; subst hj; exact h.cell 1 rfl
  | 2, hj => simp at hj; subst hj; exact h.cell 2 rfl
  | n + 3, hj => simp at hj
theorem three_ints (a b c : Int) : ∀ u ∈ [Value.int .i64 a, .int .i64 b, .int .i64 c], u.oneCell' = true := by
  intro u hu
  simp only [List.mem_cons, List.not_mem_nil, or_false] at hu
  rcases hu with rfl | rfl | rfl <;> rfl
theorem own_keep3 {w w1 : World} {base n : Nat} {e : TypeId} {size : Nat} {v : Value} {xs : List Value} (h : w.ownsRow base e size v n xs) (hb : Below w.heap.size w w1) : w1.ownsRow base e size v n xs := by
  obtain ⟨h1, h2⟩ := h
  rcases h2 with h0 | ⟨g, cap, cur, hv, hg, hh, hn, hcap, hsz, htake⟩
  · exact ⟨h1, .inl h0⟩
  · exact ⟨h1, .inr ⟨g, cap, cur, hv, hg, (hb.block g (Array.getElem?_eq_some_iff.1 hh).1).trans hh, hn, hcap, hsz, htake⟩⟩
/-- A row of one's own that holds triples. -/
def OT (w : World) (base : Nat) (v : Value) (ts : List P3) : Prop := w.ownsRow base SPT 3 v ts.length (tcells ts)
theorem OT.below {w w1 : World} {base : Nat} {v : Value} {ts : List P3} (h : OT w base v ts) (hb : Below w.heap.size w w1) : OT w1 base v ts := own_keep3 h hb
theorem OT.app {w : World} {base : Nat} {v : Value} {ts : List P3} {a b c : Int} (h : w.ownsRow base SPT 3 v (ts.length + 1) (tcells ts ++ [.int .i64 a, .int .i64 b, .int .i64 c])) : OT w base v (ts ++ [(a, b, c)]) := by
  unfold OT
  rw [tcells_app, List.length_append]
  exact h
theorem OT.ps {w : World} {base : Nat} {v : Value} {ts : List P3} (h : OT w base v ts) (hz : ∀ p ∈ ts, I64 p.1 ∧ I64 p.2.1 ∧ I64 p.2.2) : PS w v ts := by
  rcases h.2 with ⟨rfl, h0⟩ | ⟨g, cap, cur, rfl, -, hh, hc, hm, -, ht⟩
  · rw [List.length_eq_zero_iff] at h0
    subst h0
    exact ⟨none, 0, rfl, by simp, by omega, hz, fun k => absurd rfl k⟩
  · have hcap : (cap : Int) ≤ 9223372036854775807 := by unfold maxLen at hm; omega
    refine ⟨_, cap, rfl, hc, hcap, hz, fun _ => ⟨g, 0, rfl, heap_lt hh, fun i hi => ?_⟩⟩
    have hA : AtB w g cur SPT := hh
    obtain ⟨k1, k2, k3⟩ := tcells_at ts i hi
    rw [← ht, List.getElem?_take_of_lt (by omega)] at k1 k2 k3
    refine ⟨hA.cell _ ?_, hA.cell _ ?_, hA.cell _ ?_⟩
    · rw [Nat.zero_add]; simpa using k1
    · rw [Nat.zero_add]; simpa using k2
    · rw [Nat.zero_add]; simpa using k3
theorem PS.atk {w : World} {A : Option Addr} {n cap : Nat} {ps : List P3} (h : PS w (.slice A n cap) ps) (hn : ps.length = n) {k : Nat} (hk : k < n) : ∃ b off, A = some ⟨b, off, none⟩ ∧ b < w.heap.size ∧
    w.cell? ⟨b, off + k * 3, none⟩ = some (.int .i64 (ps.getD k (0, 0, 0)).1) ∧ w.cell? ⟨b, off + k * 3 + 1, none⟩ = some (.int .i64 (ps.getD k (0, 0, 0)).2.1) ∧ w.cell? ⟨b, off + k * 3 + 2, none⟩ = some (.int .i64 (ps.getD k (0, 0, 0)).2.2) := by
  obtain ⟨A', cap', e, h1, h2, h3, h4⟩ := h
  injection e with e1 e2 e3
  subst e1
  obtain ⟨b, off, rfl, hb, hc⟩ := h4 (by intro h; rw [h] at hn; simp at hn; omega)
  exact ⟨b, off, rfl, hb, hc k (by omega)⟩
theorem le_bel {B : Nat} {w w1 : World} (h : B ≤ w.heap.size) (hb : Below w.heap.size w w1) : B ≤ w1.heap.size := Nat.le_trans h hb.size
/-- The rows that have pixels. -/
def spansTo (p : Nat → Nat × Nat) : Nat → List P3
  | 0 => []
  | k + 1 => if (p k).1 < (p k).2 then spansTo p k ++ [((k : Int), ((p k).1 : Int), ((p k).2 : Int))] else spansTo p k
theorem spansTo_len (p : Nat → Nat × Nat) : ∀ k, (spansTo p k).length ≤ k
  | 0 => Nat.le_refl _
  | k + 1 => by
    have := spansTo_len p k
    unfold spansTo; split
    · simp; omega
    · omega
theorem spansTo_in (p : Nat → Nat × Nat) (n : Nat) (hp : ∀ k, (p k).1 ≤ (p k).2 ∧ (p k).2 ≤ n) : ∀ k, ∀ q ∈ spansTo p k, (0 ≤ q.1 ∧ q.1 < k) ∧ (0 ≤ q.2.1 ∧ q.2.1 ≤ n) ∧ (0 ≤ q.2.2 ∧ q.2.2 ≤ n)
  | 0 => fun q h => by simp [spansTo] at h
  | k + 1 => fun q h => by
    have ih := spansTo_in p n hp k q
    unfold spansTo at h
    split at h
    · rw [List.mem_append, List.mem_singleton] at h
      rcases h with h | rfl
      · have := ih h; omega
      · have := hp k; simp; omega
    · have := ih h; omega
abbrev rowX (c0 c1 c2 c3 c4 c5 W H : Int) (n : Nat) (y : Nat) : Nat × Nat := (rowB (inB c0 c1 c2 c3 c4 c5 W H y) n).2
set_option maxRecDepth 100000 in
theorem pall_no (v : Value) (zs : List Int) (W H tu rows : Int) (hC : spC zs W H tu rows ≠ 0) (w : World) (hv : IS w v zs) :
    Calls Try.prog 15 #[v, .int .i64 W, .int .i64 H, .int .i64 tu, .int .i64 rows] w fun e w' => e = .returned (.tuple #[.slice none 0 0, .int .i64 (spC zs W H tu rows)]) ∧ Below w.heap.size w w' := by
  have CC := Lib.hid (fun w hv => spcheck v zs W H tu rows w hv)
  have hv := Lib.hid hv
  generalize spC zs W H tu rows = C at *
  have hC' : (C != 0) = true := by simpa using hC
  clear hC
  go_enter Try.func15, Try.ntmps15
  go_wp2_with fail
  have BB : Hid (Below w.heap.size w w) := Below.refl _ _
  refine (CC.out _ hv.out).mono ?_
  rintro e w1 ⟨rfl, hb⟩
  replace BB := Lib.hid (below_next BB.out hb)
  clear hb
  go_wp2_with fail
  refine bodyPost_ret (v := .tuple #[.slice none 0 0, .int .i64 C]) (by unfold results; simp only [Try.results15]; go_simp) rfl ?_
  exact ⟨rfl, BB.out⟩
set_option maxRecDepth 100000 in
set_option maxHeartbeats 8000000 in
theorem pall_ok (v : Value) (c0 c1 c2 c3 c4 c5 W H : Int) (n R : Nat) (hC : spC [c0, c1, c2, c3, c4, c5] W H n R = 0) (w : World) (hv : IS w v [c0, c1, c2, c3, c4, c5]) :
    Calls Try.prog 15 #[v, .int .i64 W, .int .i64 H, .int .i64 (n : Int), .int .i64 (R : Int)] w fun e w' => ∃ r, e = .returned (.tuple #[r, .int .i64 0]) ∧ Below w.heap.size w w' ∧ PS w' r (spansTo (rowX c0 c1 c2 c3 c4 c5 W H n) R) := by
  obtain ⟨a0, -, -, n0, R0⟩ := spC_zero hC
  obtain ⟨i0, hi0, hz0, hz1, hz2⟩ := info_parts info_span
  have CC := Lib.hid (fun w hv => spcheck v [c0, c1, c2, c3, c4, c5] W H n R w hv)
  have CN := Lib.hid (fun w hv => afnew v [c0, c1, c2, c3, c4, c5] w hv)
  unfold GiveAf at CN
  rw [hC] at CC
  rw [a0] at CN
  have CS := Lib.hid (fun g hM (k : Nat) (hk : k ≤ 32768) w hm => lspan g c0 c1 c2 c3 c4 c5 W H k n ⟨by omega, by omega⟩ hM ⟨by omega, by omega⟩ w hm)
  have HI : Hid (∀ q ∈ spansTo (rowX c0 c1 c2 c3 c4 c5 W H n) R, I64 q.1 ∧ I64 q.2.1 ∧ I64 q.2.2) := fun q hq => by
    have := spansTo_in (rowX c0 c1 c2 c3 c4 c5 W H n) n (fun k => ⟨(rowB_le _ n).1, (rowB_le _ n).2.1⟩) R q hq
    exact ⟨⟨by omega, by omega⟩, ⟨by omega, by omega⟩, ⟨by omega, by omega⟩⟩
  have hv := Lib.hid hv
  have HR := Lib.hid (show R ≤ 32768 ∧ n ≤ 32768 by omega)
  have hst : Hid (∀ k, spansTo (rowX c0 c1 c2 c3 c4 c5 W H n) (k + 1) = if ((rowB (inB c0 c1 c2 c3 c4 c5 W H k) n).2.1 < (rowB (inB c0 c1 c2 c3 c4 c5 W H k) n).2.2) then spansTo (rowX c0 c1 c2 c3 c4 c5 W H n) k ++ [((k : Int), ((rowB (inB c0 c1 c2 c3 c4 c5 W H k) n).2.1 : Int), ((rowB (inB c0 c1 c2 c3 c4 c5 W H k) n).2.2 : Int))] else spansTo (rowX c0 c1 c2 c3 c4 c5 W H n) k) := fun k => rfl
  have hsl := Lib.hid (spansTo_len (rowX c0 c1 c2 c3 c4 c5 W H n))
  have hs0 : Hid (spansTo (rowX c0 c1 c2 c3 c4 c5 W H n) 0 = []) := rfl
  generalize spansTo (rowX c0 c1 c2 c3 c4 c5 W H n) = T at *
  clear hC a0 n0 R0
  go_enter Try.func15, Try.ntmps15
  go_wp2_with fail
  have BB : Hid (Below w.heap.size w w) := Below.refl _ _
  refine (CC.out _ hv.out).mono ?_
  rintro e w1 ⟨rfl, hb⟩
  replace BB := Lib.hid (below_next BB.out hb)
  clear hb
  go_wp2_with fail
  refine (CN.out _ (hv.out.below BB.out)).mono ?_
  rintro e w2 ⟨m, rfl, hb, -, hp⟩
  replace BB := Lib.hid (below_next BB.out hb)
  clear hb
  obtain ⟨g, e0, e1, e2, e3, e4, e5, rfl, hz, hM, hA⟩ := hp trivial
  simp only [List.cons.injEq, and_true] at hz
  obtain ⟨rfl, rfl, rfl, rfl, rfl, rfl⟩ := hz
  have hA := Lib.hid hA
  have CS1 := Lib.hid (fun k hk w hm => CS.out g hM k hk w hm)
  have hge := Lib.hid BB.out.size
  clear hp hM CS CN CC
  go_wp2_with fail
  obtain ⟨B, hB⟩ : ∃ B, B = w2.heap.size := ⟨_, rfl⟩
  have hgB := Lib.hid (show g < B ∧ w.heap.size ≤ B from ⟨by rw [hB]; exact hA.out.lt, by rw [hB]; exact BB.out.size⟩)
  go_loopw [15, 33] (fun s c wr => ∃ k : Nat, k ≤ R ∧ c = .int .i64 (k : Int) ∧ Hid (OT wr B s (T k) ∧ AtB wr g (afCells c0 c1 c2 c3 c4 c5) AT ∧ B ≤ wr.heap.size ∧ Below w.heap.size w wr)) (fun _ c _ => R - (intOf c).toNat)
  case atStart => exact ⟨0, by omega, rfl, ⟨by rw [hs0.out]; exact World.ownsRow_nil _ _ _ _, hA.out, by omega, BB.out⟩⟩
  case round =>
    clear BB hA hB
    obtain ⟨k, hk, rfl, hinv⟩ := hrel
    obtain ⟨h_o, h_a, h_s, BB⟩ := hinv.out
    replace h_o := Lib.hid h_o; replace h_a := Lib.hid h_a; replace h_s := Lib.hid h_s; replace BB := Lib.hid BB
    clear hinv
    by_cases hlt : k < R
    · have hlt' : (k : Int) < (R : Int) := by omega
      have CK := Lib.hid (fun w hm => CS1.out k (by have := HR.out; omega) w hm)
      have hs := Lib.hid (hst.out k)
      have hln := hsl.out k
      have hRR := HR.out.1
      generalize (rowB (inB c0 c1 c2 c3 c4 c5 W H (k : Int)) n).2.1 = X0 at *
      generalize (rowB (inB c0 c1 c2 c3 c4 c5 W H (k : Int)) n).2.2 = X1 at *
      have hTk : Hid (T (k + 1) = T (k + 1)) := rfl
      obtain ⟨Z, hZ⟩ : ∃ Z, Z = T (k + 1) := ⟨_, rfl⟩
      rw [← hZ] at hs
      replace hZ := Lib.hid hZ
      generalize T k = L at *
      clear hTk CS1 hst hsl hs0
      go_wp2_with fail
      refine (CK.out _ h_a.out).mono ?_
      rintro e w3 ⟨rfl, hb⟩
      replace h_o := Lib.hid (OT.below h_o.out hb)
      replace h_a := Lib.hid (AtB.keep h_a.out hb)
      replace h_s := Lib.hid (le_bel h_s.out hb)
      replace BB := Lib.hid (below_next BB.out hb)
      clear hb
      go_upto_region 10 with fail
      have d_s := Lib.hid (And.intro BB.out.size (True.intro))
      obtain ⟨hb, r_s⟩ := laid w3 #[.int .i64 (Nat.cast k), .int .i64 (Nat.cast X0), .int .i64 (Nat.cast X1)] SPT
      replace h_o := Lib.hid (OT.below h_o.out hb)
      replace h_a := Lib.hid (AtB.keep h_a.out hb)
      replace h_s := Lib.hid (le_bel h_s.out hb)
      replace BB := Lib.hid (below_next BB.out hb)
      replace r_s := Lib.hid r_s
      clear hb
      generalize w3.alloc (.cells #[.int .i64 (Nat.cast k), .int .i64 (Nat.cast X0), .int .i64 (Nat.cast X1)] SPT) = w4 at *
      generalize w3.heap.size = g_s at *
      by_cases hx : X0 < X1
      · have hs' := Lib.hid (hs.out.trans (if_pos hx))
        have ho' := (show World.ownsRow _ _ _ _ _ _ _ from h_o.out)
        have hsz' := h_s.out
        obtain ⟨c_s0, c_s1, c_s2, f_s0, f_s1, f_s2⟩ := reads3 r_s.out
        have l_s := r_s.out.lt
        go_wp2_with (first | (at_builtin; refine wpList_append_own _ rfl (.tmp 48) (.tmp 50) SLT rfl B SPT i0 (.agg #[.int .i64 0, .int .i64 0, .int .i64 0]) 3 24 Try.underlying37 hi0 hz0 hz1 hz2 rfl (by decide) _ _ _ rfl (ho'.alloc _) ⟨w4.heap.size, 0, none⟩ 1 1 [.int .i64 (k : Int), .int .i64 (X0 : Int), .int .i64 (X1 : Int)] rfl rfl (three_new _ _ _ _ _) (three_ints _ _ _) (by unfold maxLen; omega) (by omega) (by simp; omega) ?_))
        intro v' w8 hown' hgrow _
        have HB1 := Lib.hid (below_app' BB.out hgB.out.2 BB.out.size ho' hgrow)
        have HO1 := Lib.hid (OT.app hown')
        have HA1 := Lib.hid (h_a.out.app hgB.out.1 ho' hgrow)
        have HZ1 := Lib.hid (show B ≤ w8.heap.size from by have := hgrow.size; simp at this; omega)
        clear hown' hgrow ho' hsz'
        clear c_s0 c_s1 c_s2 f_s0 f_s1 f_s2 l_s
        go_wp2_with fail
        go_roundw
        case rel => exact ⟨k + 1, by omega, by go_num, ⟨by rw [← hZ.out, hs'.out]; exact HO1.out, HA1.out, HZ1.out, HB1.out⟩⟩
        case measure => simp [intOf]; omega
      · have hs' := Lib.hid (hs.out.trans (if_neg hx))
        obtain ⟨c_s0, c_s1, c_s2, f_s0, f_s1, f_s2⟩ := reads3 r_s.out
        have l_s := r_s.out.lt
        go_wp2_with fail
        go_roundw
        case rel => exact ⟨k + 1, by omega, by go_num, ⟨by rw [← hZ.out, hs'.out]; exact h_o.out, h_a.out, h_s.out, BB.out⟩⟩
        case measure => simp [intOf]; omega
    · obtain rfl : k = R := by omega
      have hlt' : ¬ (k : Int) < (k : Int) := by omega
      go_wp2_with fail
      refine bodyPost_ret (v := .tuple #[u15, .int .i64 0]) (by unfold results; simp only [Try.results15]; go_simp) rfl ?_
      exact ⟨_, rfl, BB.out, h_o.out.ps HI.out⟩
end Go.Proofs.Ythdbchghhpoadaa
