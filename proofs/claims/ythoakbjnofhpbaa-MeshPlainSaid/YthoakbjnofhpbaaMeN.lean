/- Contract of mesh.New: a mesh that is right. -/
import Derived.Test.YthoakbjnofhpbaaMe1
import Derived.Test.YthoakbjnofhpbaaMeC
import Derived.Test.YthoakbjnofhpbaaMeB
import Derived.Test.YthoakbjnofhpbaaBl
import Derived.Test.YthoakbjnofhpbaaOwn
import Derived.Deep.AppendLies
import Derived.Deep.DeepCutAuto
import Derived.Deep.CutRange
import Derived.RangeFuncBound
import Derived.RangeFuncNested
set_option linter.unusedVariables false
set_option linter.unusedSimpArgs false
namespace Go.Proofs.Ythoakbjnofhpbaa
open Go.RowKit Go.Shelf
attribute [local go_sem] Oper.semAt_some
abbrev PMT : TypeId := 28
abbrev LKT : TypeId := 129
theorem is_drop4 {w : World} {b off cap : Nat} {z0 z1 z2 z3 : Int} {rest : List Int} (h : IS w (.slice (some ⟨b, off, none⟩) (rest.length + 4) cap) (z0 :: z1 :: z2 :: z3 :: rest)) : IS w (.slice (some ⟨b, off + 4, none⟩) rest.length (cap - 4)) rest := by
  obtain ⟨b', off', cap', e, h1, h2, h3, h4⟩ := h.some (by simp)
  simp only [Value.slice.injEq, Option.some.injEq, Addr.mk.injEq, and_true] at e
  obtain ⟨⟨rfl, rfl⟩, -, rfl⟩ := e
  have h5 : ∀ z ∈ rest, I64 z := fun z hz => by
    obtain ⟨-, -, -, -, -, k, -⟩ := h
    exact k z (by simp [hz])
  simp only [List.length_cons] at h1 h4
  refine ⟨_, _, rfl, by omega, by omega, h5, fun _ => ⟨b, off + 4, rfl, h3, fun i hi => ?_⟩⟩
  have := h4 (i + 4) (by omega)
  rw [show off + (i + 4) = off + 4 + i by omega] at this
  exact this
/-- The knots that numbers in twos tell. -/
def ksOf (rest : List Int) (N : Nat) : List (Int × Int) := (List.finRange N).map (fun x => (rest.getD (2 * x.1) 0, rest.getD (2 * x.1 + 1) 0))
theorem range_wrap {P : Program} {c : Code} {Q : Exit → Act → World → Prop} {T : Array Value} {w : World} (h : ∀ T', T' = T → c.wp P Q { tmps := T', defers := [] } w) : c.wp P Q { tmps := T, defers := [] } w := h T rfl
theorem info_knot : (Try.prog.info? KNT).map (fun i => (i.zero, i.size, i.bytes)) = some (some (.agg #[.int .i64 0, .int .i64 0]), 2, 16) := by kernel_rfl
def kcells : List (Int × Int) → List Value
  | [] => []
  | p :: L => .int .i64 p.1 :: .int .i64 p.2 :: kcells L
theorem kcells_len : ∀ L : List (Int × Int), (kcells L).length = L.length * 2
  | [] => rfl
  | p :: L => by simp only [kcells, List.length_cons, kcells_len L]; omega
theorem kcells_app : ∀ (L : List (Int × Int)) (p : Int × Int), kcells (L ++ [p]) = kcells L ++ [.int .i64 p.1, .int .i64 p.2]
  | [], p => rfl
  | q :: L, p => by simp only [List.cons_append, kcells, kcells_app L p]
theorem kcells_at : ∀ (L : List (Int × Int)) (j : Nat), j < L.length → (kcells L)[j * 2]? = some (.int .i64 (L.getD j (0, 0)).1) ∧ (kcells L)[j * 2 + 1]? = some (.int .i64 (L.getD j (0, 0)).2)
  | p :: L, 0, _ => ⟨rfl, rfl⟩
  | p :: L, j + 1, h => by
    have k := kcells_at L j (by simpa using h)
    rw [show (j + 1) * 2 = j * 2 + 1 + 1 by omega]
    exact k
theorem two_ints (a b : Int) : ∀ u ∈ [Value.int .i64 a, .int .i64 b], u.oneCell' = true := by
  intro u h
  simp only [List.mem_cons, List.not_mem_nil, or_false] at h
  rcases h with rfl | rfl <;> rfl
theorem kn_own {w : World} {base : Nat} {v : Value} {ks : List (Int × Int)} (h : w.ownsRow base KNT 2 v ks.length (kcells ks)) (h0 : 0 < ks.length) : ∃ b cap, v = .slice (some ⟨b, 0, none⟩) ks.length cap ∧ ks.length ≤ cap ∧ KB w b ks := by
  rcases h.2 with ⟨-, e⟩ | ⟨g, cap, cur, e, -, hh, hc, -, -, ht⟩
  · omega
  · refine ⟨g, cap, e, hc, heap_lt hh, fun j hj => ?_⟩
    obtain ⟨k1, k2⟩ := kcells_at ks j hj
    have hA : AtB w g cur KNT := hh
    refine ⟨hA.cell _ ?_, hA.cell _ ?_⟩
    · rw [← ht, List.getElem?_take_of_lt (by omega)] at k1; simpa using k1
    · rw [← ht, List.getElem?_take_of_lt (by omega)] at k2; simpa using k2
theorem ownsRow_new {w : World} {base n sz : Nat} {e : TypeId} {v : Value} {xs : List Value} (h : w.ownsRow base e sz v n xs) (o : Obj) : (w.drew.alloc o).ownsRow base e sz v n xs :=
  own_keep2 h (((Below.refl w.heap.size w).drew).alloc (Nat.le_refl _) o)
theorem AtB.app' {wr w1 : World} {base g : Nat} {cs : Array Value} {T : TypeId} {o : Obj} {e : TypeId} {sz n : Nat} {v : Value} {xs : List Value} (h : AtB wr g cs T) (hgb : g < base) (hown : wr.ownsRow base e sz v n xs) (hg : (wr.drew.alloc o).grownBy w1 v.ownBlock) : AtB w1 g cs T := by
  have hne : (g : Nat) ≠ (v.ownBlock.getD base) := by
    cases h : v.ownBlock with
    | none => simp; omega
    | some k => have := own_block_ge hown k h; simp; omega
  have h2 : AtB (wr.drew.alloc o) g cs T := h.keep (((Below.refl wr.heap.size wr).drew).alloc (Nat.le_refl _) o)
  refine (hg.block g h2.lt (fun e => ?_)).trans h2
  rw [← e] at hne
  exact hne rfl
theorem inv_from {N : Nat} {F : Fin N → Int × Int} {w wB : World} {g_p g_m : Nat} {gx nx gy ny : Int} (h1 : g_p < wB.heap.size) (h2 : g_m < wB.heap.size) (h3 : w.heap.size ≤ wB.heap.size) :
    OwnFrom wB.heap.size (fun (pre : List (Fin N)) W => (∃ v, AtB W g_p #[.pointer (some ⟨g_m, 0, none⟩)] PMT ∧ AtB W g_m #[.int .i64 gx, .int .i64 nx, .int .i64 gy, .int .i64 ny, v] MXT ∧ W.ownsRow wB.heap.size KNT 2 v pre.length (kcells (pre.map F))) ∧ Below w.heap.size w W ∧ wB.heap.size ≤ W.heap.size) := by
  refine OwnFrom.and ?_ (OwnFrom.and (ownFrom_below (Nat.le_refl _) h3) (fun s W W' row hs hg _ => Nat.le_trans hs hg.size))
  rintro s W W' row ⟨v, hp, hm, ho⟩ hg hr
  have hne : ∀ g, g < wB.heap.size → some g ≠ row := fun g hlt e => by
    have := (hr g e.symm).1; omega
  refine ⟨v, (hg.block g_p hp.lt (hne _ h1)).trans hp, (hg.block g_m hm.lt (hne _ h2)).trans hm, ho.1, ?_⟩
  rcases ho.2 with h | ⟨g, cap, cur, e, hb, hh, h4⟩
  · exact .inl h
  · refine .inr ⟨g, cap, cur, e, hb, ?_, h4⟩
    rw [hg.block g (heap_lt hh) (fun e => ?_)]
    · exact hh
    · obtain ⟨-, o, h5, h6⟩ := hr g e.symm
      rw [hh] at h5
      cases h5
      simp [Obj.isCells] at h6
theorem keeps_s {W w : World} {base g_p g_m b o1 n : Nat} {gx nx gy ny z0 z1 : Int} {vk : Value} {xs : List Value} {cs : Array Value} (hp : AtB W g_p #[.pointer (some ⟨g_m, 0, none⟩)] PMT) (hm : AtB W g_m #[.int .i64 gx, .int .i64 nx, .int .i64 gy, .int .i64 ny, vk] MXT) (ho : W.ownsRow base KNT 2 vk n xs) (hB : Below w.heap.size w W) (h1 : g_p < base) (h2 : g_m < base) (hb : w.heap.size ≤ base)
    (hz : ∀ w9, Below w.heap.size w w9 → w9.cell? ⟨b, o1, none⟩ = some (.int .i64 z0) ∧ w9.cell? ⟨b, o1 + 1, none⟩ = some (.int .i64 z1)) (w9 : World) (h9 : w9 = W.drew ∨ w9 = W.drew.alloc (.cells cs KNT) ∨ (W.drew.alloc (.cells cs KNT)).grownBy w9 vk.ownBlock) :
    w9.cell? ⟨g_p, 0, none⟩ = some (.pointer (some ⟨g_m, 0, none⟩)) ∧ w9.cell? ⟨g_m, 4, none⟩ = some vk ∧ w9.cell? ⟨b, o1, none⟩ = some (.int .i64 z0) ∧ w9.cell? ⟨b, o1 + 1, none⟩ = some (.int .i64 z1) := by
  have hs := hB.size
  rcases h9 with rfl | rfl | h9
  · exact ⟨AtB.cell (AtB.drew hp) 0 rfl, AtB.cell (AtB.drew hm) 4 rfl, hz _ hB.drew⟩
  · have k := ((Below.refl W.heap.size W).drew).alloc (Nat.le_refl _) (Obj.cells cs KNT)
    exact ⟨(hp.keep k).cell 0 rfl, (hm.keep k).cell 4 rfl, hz _ (hB.drew.alloc hs _)⟩
  · exact ⟨(hp.app' h1 ho h9).cell 0 rfl, (hm.app' h2 ho h9).cell 4 rfl, hz _ ((hB.drew.alloc hs _).grown h9 (by simp; omega) (fun k hk => Nat.le_trans hb (own_block_ge ho k hk)))⟩
theorem atB_set_n {w : World} {g : Nat} {cs : Array Value} {T : TypeId} (h : AtB w g cs T) (o : Nat) (u : Value) : AtB (w.setCell ⟨g, o, none⟩ u) g (cs.setIfInBounds o u) T := heap_set h.heap u (o := o)
theorem own_cells {w : World} {base n sz : Nat} {e : TypeId} {v : Value} {xs : List Value} (h : w.ownsRow base e sz v n xs) (j : Nat) (o : Obj) (hj : v.ownBlock = some j) (ho : w.heap[j]? = some o) : o.isCells = true := by
  rcases h.2 with ⟨rfl, -⟩ | ⟨g, cap, cur, rfl, -, hh, -⟩
  · simp [Value.ownBlock] at hj
  · simp only [Value.ownBlock, Option.some.injEq] at hj
    subst hj
    rw [hh] at ho
    cases ho
    rfl
theorem round_end {N : Nat} {F : Fin N → Int × Int} {W w wB w1 : World} {g_p g_m g_q gk ck : Nat} {gx nx gy ny z0 z1 : Int} {vk : Value} {cs : Array Value} {pre : List (Fin N)} {x : Fin N}
    (hp : AtB W g_p #[.pointer (some ⟨g_m, 0, none⟩)] PMT) (hm : AtB W g_m #[.int .i64 gx, .int .i64 nx, .int .i64 gy, .int .i64 ny, vk] MXT) (ho : W.ownsRow wB.heap.size KNT 2 vk pre.length (kcells (pre.map F))) (hB : Below w.heap.size w W) (hsz : wB.heap.size ≤ W.heap.size)
    (h1 : g_p < wB.heap.size) (h2 : g_m < wB.heap.size) (hq : g_q + 1 < wB.heap.size) (d1 : g_m ≠ g_q) (d2 : g_m ≠ g_q + 1) (d3 : g_p ≠ g_m) (hge : w.heap.size ≤ g_m) (hwb : w.heap.size ≤ wB.heap.size)
    (hown1 : w1.ownsRow wB.heap.size KNT 2 (.slice (some ⟨gk, 0, none⟩) (pre.length + 1) ck) (pre.length + 1) (kcells (pre.map F) ++ [.int .i64 z0, .int .i64 z1])) (hgrow : (W.drew.alloc (.cells cs KNT)).grownBy w1 vk.ownBlock) (hFx : F x = (z0, z1)) :
    KeepsOthers W (w1.setCell ⟨g_m, 4, none⟩ (.slice (some ⟨gk, 0, none⟩) (pre.length + 1) ck)) ∧ Kept2 g_q (g_q + 1) W (w1.setCell ⟨g_m, 4, none⟩ (.slice (some ⟨gk, 0, none⟩) (pre.length + 1) ck)) ∧
    ((∃ v, AtB (w1.setCell ⟨g_m, 4, none⟩ (.slice (some ⟨gk, 0, none⟩) (pre.length + 1) ck)) g_p #[.pointer (some ⟨g_m, 0, none⟩)] PMT ∧ AtB (w1.setCell ⟨g_m, 4, none⟩ (.slice (some ⟨gk, 0, none⟩) (pre.length + 1) ck)) g_m #[.int .i64 gx, .int .i64 nx, .int .i64 gy, .int .i64 ny, v] MXT ∧ (w1.setCell ⟨g_m, 4, none⟩ (.slice (some ⟨gk, 0, none⟩) (pre.length + 1) ck)).ownsRow wB.heap.size KNT 2 v (pre ++ [x]).length (kcells ((pre ++ [x]).map F))) ∧
      Below w.heap.size w (w1.setCell ⟨g_m, 4, none⟩ (.slice (some ⟨gk, 0, none⟩) (pre.length + 1) ck)) ∧ wB.heap.size ≤ (w1.setCell ⟨g_m, 4, none⟩ (.slice (some ⟨gk, 0, none⟩) (pre.length + 1) ck)).heap.size) := by
  have ho' := ownsRow_new ho (.cells cs KNT)
  have hs1 : (W.drew.alloc (.cells cs KNT)).heap.size = W.heap.size + 1 := by simp
  have hne : ∀ g, g < wB.heap.size → some g ≠ vk.ownBlock := fun g hg e => by have := own_block_ge ho g e.symm; omega
  have hk : ∀ g, g < wB.heap.size → w1.heap[g]? = W.heap[g]? := fun g hg => by
    rw [hgrow.block g (by omega) (hne g hg)]
    exact Below.block (((Below.refl W.heap.size W).drew).alloc (Nat.le_refl _) _) g (by omega)
  have hz := hgrow.size
  refine ⟨?_, ⟨?_, ?_⟩, ⟨.slice (some ⟨gk, 0, none⟩) (pre.length + 1) ck, ?_, ?_, ?_⟩, ?_, ?_⟩
  · exact (((KeepsOthers.drew W).trans (KeepsOthers.alloc _ _)).trans (KeepsOthers.of_grownBy hgrow (fun j o hj hh => own_cells ho' j o hj hh))).trans (KeepsOthers.setCell _ _ _)
  · exact (Below.heap_setCell w1 ⟨g_m, 4, none⟩ _ g_q (by show g_q ≠ g_m; omega)).trans (hk g_q (by omega))
  · exact (Below.heap_setCell w1 ⟨g_m, 4, none⟩ _ (g_q + 1) (by show g_q + 1 ≠ g_m; omega)).trans (hk (g_q + 1) (by omega))
  · exact (hp.app' h1 ho hgrow).far d3 4 _
  · have k := atB_set_n (hm.app' h2 ho hgrow) 4 (.slice (some ⟨gk, 0, none⟩) (pre.length + 1) ck)
    simpa using k
  · rw [List.map_append, List.map_singleton, kcells_app, hFx, List.length_append, List.length_singleton]
    refine ⟨hown1.1, ?_⟩
    rcases hown1.2 with ⟨h, -⟩ | ⟨g, cap, cur, e, hb, hh, h4⟩
    · cases h
    · exact .inr ⟨g, cap, cur, e, hb, (Below.heap_setCell w1 ⟨g_m, 4, none⟩ _ g (by show g ≠ g_m; omega)).trans hh, h4⟩
  · exact ((hB.drew.alloc hB.size _).grown hgrow (by rw [hs1]; have := hB.size; omega) (fun k hk => Nat.le_trans hwb (own_block_ge ho k hk))).setCell (p := ⟨g_m, 4, none⟩) hge _
  · simp; omega
set_option maxRecDepth 100000 in
set_option maxHeartbeats 16000000 in
theorem mnew_ok (v : Value) (gx gy nx ny W0 H0 : Int) (rest : List Int) (N : Nat) (hf : fitsM gx gy nx ny = true) (hN : (N : Int) = (nx + 1) * (ny + 1)) (hr : rest.length = 2 * N) (hfar : rest.any farM = false) (hw0 : 1 ≤ W0 ∧ W0 ≤ 32768) (hh0 : 1 ≤ H0 ∧ H0 ≤ 32768) (hw1 : W0 ≤ gx * nx) (hh1 : H0 ≤ gy * ny) (w : World) (hv : IS w v (gx :: gy :: nx :: ny :: rest)) :
    Calls Try.prog 17 #[v, .int .i64 W0, .int .i64 H0] w fun e w' => ∃ g, e = .returned (.tuple #[.pointer (some ⟨g, 0, none⟩), .int .i64 0]) ∧ Below w.heap.size w w' ∧ MX w' g gx gy nx ny (ksOf rest N) := by
  obtain ⟨b, off, cap, rfl, h1, h2, h3, h4⟩ := hv.some (by simp)
  simp only [List.length_cons] at hv h1 h4 ⊢
  have hv4 := Lib.hid (is_drop4 hv)
  obtain ⟨g1, g2, g3, g4⟩ := fitsM_iff.1 hf
  have CF := Lib.hid (fun w => mfits gx nx gy ny w)
  rw [hf] at CF
  have CK := Lib.hid (fun v w hv => kcon v farM rest w hv (fun z _ => mfar z w))
  rw [hfar] at CK
  have c0 := h4 0 (by omega)
  have c1 := h4 1 (by omega)
  have c2 := h4 2 (by omega)
  have c3 := h4 3 (by omega)
  have CT := Lib.hid (fun w9 (h9 : Below w.heap.size w w9) => And.intro ((h9.cell h3).trans c0) (And.intro ((h9.cell h3).trans c1) (And.intro ((h9.cell h3).trans c2) ((h9.cell h3).trans c3))))
  have CE := Lib.hid (fun (j : Nat) (hj : j < rest.length) w9 (h9 : Below w.heap.size w w9) => (h9.cell h3).trans (h4 (j + 4) (by omega)))
  have m1 := mul_rng g1 g3
  have m2 := mul_rng g2 g4
  have m3 : (nx + 1) * (ny + 1) ≤ 65 * 65 := Int.mul_le_mul (by omega) (by omega) (by omega) (by omega)
  have m4 : 2 * (nx + 1) * (ny + 1) = 2 * ((nx + 1) * (ny + 1)) := Int.mul_assoc _ _ _
  have hn4 : ((rest.length + 4 : Nat) : Int) = 4 + 2 * (nx + 1) * (ny + 1) := by omega
  have hN5 : N ≤ 4225 := by omega
  have hN4 : 4 ≤ N := by
    have : 2 * 2 ≤ (nx + 1) * (ny + 1) := Int.mul_le_mul (by omega) (by omega) (by omega) (by omega)
    omega
  obtain ⟨n1, hn1⟩ : ∃ v, v = nx + 1 := ⟨_, rfl⟩
  obtain ⟨n2, hn2⟩ : ∃ v, v = 2 * n1 := ⟨_, rfl⟩
  obtain ⟨n3, hn3⟩ : ∃ v, v = ny + 1 := ⟨_, rfl⟩
  obtain ⟨n5, hn5⟩ : ∃ v, v = n2 * n3 := ⟨_, rfl⟩
  have e5' : n5 = 2 * (nx + 1) * (ny + 1) := by rw [hn5, hn2, hn1, hn3]
  obtain ⟨a1, ha1⟩ : ∃ v, v = gx * nx := ⟨_, rfl⟩
  obtain ⟨a2, ha2⟩ : ∃ v, v = gy * ny := ⟨_, rfl⟩
  obtain ⟨n, hn⟩ : ∃ v, v = rest.length + 4 := ⟨_, rfl⟩
  have e1 : IntKind.i64.wrap (nx + 1) = n1 := by rw [hn1]; exact iw ⟨by omega, by omega⟩
  have e2 : IntKind.i64.wrap (2 * n1) = n2 := by rw [hn2]; exact iw ⟨by omega, by omega⟩
  have e3 : IntKind.i64.wrap (ny + 1) = n3 := by rw [hn3]; exact iw ⟨by omega, by omega⟩
  have e4 : IntKind.i64.wrap (n2 * n3) = n5 := by rw [← hn5]; exact iw ⟨by omega, by omega⟩
  have e5 : IntKind.i64.wrap (4 + n5) = (n : Int) := by rw [show 4 + n5 = (n : Int) by omega]; exact iw ⟨by omega, by omega⟩
  have e6 : IntKind.i64.wrap (gx * nx) = a1 := by rw [ha1]; exact iw ⟨by omega, by omega⟩
  have e7 : IntKind.i64.wrap (gy * ny) = a2 := by rw [ha2]; exact iw ⟨by omega, by omega⟩
  rw [← ha1] at hw1
  rw [← ha2] at hh1
  have k1 : ¬ (n : Int) < 4 := by omega
  have k2 : (4 : Int) ≤ (n : Int) := by omega
  have k3 : n ≤ cap := by omega
  have k4 : (4 : Int) ≤ (cap : Int) := by omega
  have k5 : ¬ 4 = cap := by omega
  have k6 : ¬ cap = 4 := by omega
  have k7 : (0 : Int) < (n : Int) := by omega
  have k7n : 0 < n := by omega
  have k8 : (1 : Int) < (n : Int) := by omega
  have k9 : (2 : Int) < (n : Int) := by omega
  have k10 : (3 : Int) < (n : Int) := by omega
  have l1 : ¬ W0 < 1 := by omega
  have l2 : ¬ 32768 < W0 := by omega
  have l3 : ¬ H0 < 1 := by omega
  have l4 : ¬ 32768 < H0 := by omega
  have l5 : ¬ a1 < W0 := by omega
  have l6 : ¬ a2 < H0 := by omega
  have hn4' := Lib.hid (show n - 4 = rest.length by omega)
  have hv5 : Hid (IS w (.slice (some ⟨b, off + 4, none⟩) (n - 4) (cap - 4)) rest) := by
    show IS _ _ _
    rw [hn4'.out]; exact hv4.out
  have hG : Hid (MG gx gy nx ny (ksOf rest N)) := ⟨g1, g2, g3, g4, by unfold ksOf; simp; omega⟩
  rw [← hn] at hv h1 h4 ⊢
  have hr' := Lib.hid hr
  have hh3 := Lib.hid h3
  have hN5' := Lib.hid hN5
  have hN4' := Lib.hid hN4
  have hnn := Lib.hid hn
  have hcap' := Lib.hid h1
  clear hf hN hfar hw0 hh0 hw1 hh1 c0 c1 c2 c3 m1 m2 m3 m4 hn4 hn1 hn2 hn3 hn5 e5' ha1 ha2 hn g1 g2 g3 g4 h4 hv h3 hr hN5 hN4 h1
  refine (callsIn_wide (n := 3)).1 (callsIn_of_wp_marks Try.func17 rfl trivial ?_ rfl)
  refine wpIn_wide.2 ?_
  simp only [Try.ntmps17, List.size_toArray, List.length_cons, List.length_nil, Nat.reduceAdd, Nat.reduceSub, Array.replicate_succ, Array.replicate_zero, List.push_toArray, List.append_toArray, List.nil_append, List.cons_append]
  have BB : Hid (Below w.heap.size w w) := Below.refl _ _
  go_wp2_with fail
  go_cut [8] from 13 to 28 (fun s8 wc => ∃ gp g, s8 = .pointer (some ⟨gp, 0, none⟩) ∧ Hid (AtB wc gp #[.pointer (some ⟨g, 0, none⟩)] PMT ∧ AtB wc g #[.int .i64 gx, .int .i64 nx, .int .i64 gy, .int .i64 ny, .slice none 0 0] MXT ∧ gp ≠ g ∧ Below w.heap.size w wc ∧ w.heap.size ≤ gp ∧ w.heap.size ≤ g))
  case first =>
    have KK := Lib.hid (fun (w9 : World) (h : Below w.heap.size w w9) => (CT.out _ (below_next BB.out h) : (w9.cell? ⟨b, off, none⟩ = some (.int .i64 gx) ∧ w9.cell? ⟨b, off + 1, none⟩ = some (.int .i64 gy) ∧ w9.cell? ⟨b, off + 2, none⟩ = some (.int .i64 nx) ∧ w9.cell? ⟨b, off + 3, none⟩ = some (.int .i64 ny))))
    have K0 := KK.out w (Below.refl _ _)
    have KD := KK.out w.drew (below_drew (Below.refl _ _))
    go_region_held3 (fun w9 => (w9.cell? ⟨b, off, none⟩ = some (.int .i64 gx) ∧ w9.cell? ⟨b, off + 1, none⟩ = some (.int .i64 gy) ∧ w9.cell? ⟨b, off + 2, none⟩ = some (.int .i64 nx) ∧ w9.cell? ⟨b, off + 3, none⟩ = some (.int .i64 ny)))
        (first | with_reducible exact KD | with_reducible exact K0 | (refine KK.out _ ?_; repeat' (first | with_reducible exact Below.refl _ _ | with_reducible apply below_new | with_reducible apply below_drew | with_reducible apply below_set | omega)))
        (fail)
    all_goals clear KK K0 KD
    all_goals go_wp2_with fail
    all_goals go_meet
    all_goals first
      | (refine ⟨_, w.heap.size, rfl, ⟨?_, ?_, by omega, ?_, by omega, by omega⟩⟩ <;> ((repeat (first | with_reducible exact Below.refl _ _ | with_reducible apply below_new | with_reducible apply below_drew | (refine new_at_eq (by simp; done) _ _) | (refine AtB.alloc ?_ _))); done))
      | (refine ⟨_, w.heap.size + 1, rfl, ⟨?_, ?_, by omega, ?_, by omega, by omega⟩⟩ <;> ((repeat (first | with_reducible exact Below.refl _ _ | with_reducible apply below_new | with_reducible apply below_drew | (refine new_at_eq (by simp; done) _ _) | (refine AtB.alloc ?_ _))); done))
  obtain ⟨wc1, rfl⟩ : ∃ wo : World, wo = wc := ⟨_, rfl⟩
  obtain ⟨g_p, g_m, rfl, hcut⟩ := hcut
  obtain ⟨r_p, r_m, hne, BB, hgp, hgm⟩ := hcut.out
  clear hcut
  replace r_p := Lib.hid r_p; replace r_m := Lib.hid r_m; replace BB := Lib.hid BB
  have d_p := Lib.hid (And.intro hgp (And.intro hne True.intro))
  have d_m := Lib.hid (And.intro hgm (And.intro hne True.intro))
  clear hgp hgm hne
  go_wp2_with fail
  have KK := Lib.hid (fun (w9 : World) (h : Below wc1.heap.size wc1 w9) => (⟨cells1 (r_p.out.keep h), cells5 (r_m.out.keep h)⟩ : (w9.cell? ⟨g_p, 0, none⟩ = some (.pointer (some ⟨g_m, 0, none⟩))) ∧ (w9.cell? ⟨g_m, 0, none⟩ = some (.int .i64 gx) ∧ w9.cell? ⟨g_m, 1, none⟩ = some (.int .i64 nx) ∧ w9.cell? ⟨g_m, 2, none⟩ = some (.int .i64 gy) ∧ w9.cell? ⟨g_m, 3, none⟩ = some (.int .i64 ny) ∧ w9.cell? ⟨g_m, 4, none⟩ = some (.slice none 0 0))))
  have K0 := KK.out wc1 (Below.refl _ _)
  have KD := KK.out wc1.drew (below_drew (Below.refl _ _))
  go_region_held3 (fun w9 => (w9.cell? ⟨g_p, 0, none⟩ = some (.pointer (some ⟨g_m, 0, none⟩))) ∧ (w9.cell? ⟨g_m, 0, none⟩ = some (.int .i64 gx) ∧ w9.cell? ⟨g_m, 1, none⟩ = some (.int .i64 nx) ∧ w9.cell? ⟨g_m, 2, none⟩ = some (.int .i64 gy) ∧ w9.cell? ⟨g_m, 3, none⟩ = some (.int .i64 ny) ∧ w9.cell? ⟨g_m, 4, none⟩ = some (.slice none 0 0)))
      (first | with_reducible exact KD | with_reducible exact K0 | with_reducible exact K_w1)
      (first
        | (go_at_call 74
           refine (CF.out _).mono ?_
           rintro e w1 ⟨rfl, hb⟩
           have B_w1 := Lib.hid (reg_next (w0 := wc1) (by repeat (first | with_reducible exact Below.refl _ _ | with_reducible apply below_drew | with_reducible apply below_new)) hb)
           have K_w1 := KK.out _ B_w1.out
           clear hb))
  clear KK K0 KD K_w1
  replace r_p := Lib.hid (r_p.out.keep B_w1.out)
  replace r_m := Lib.hid (r_m.out.keep B_w1.out)
  replace BB := Lib.hid (below_next BB.out B_w1.out)
  clear B_w1
  go_wp2_with fail
  obtain ⟨c_p0, f_p0⟩ := reads1 r_p.out
  have l_p := r_p.out.lt
  obtain ⟨c_m0, c_m1, c_m2, c_m3, c_m4, f_m0, f_m1, f_m2, f_m3, f_m4⟩ := reads5 r_m.out
  have l_m := r_m.out.lt
  go_quiet (fail)
  have hb := below_drawn (Below.refl w1.heap.size w1) nq
  generalize w1.drewN nq = w2 at *
  clear c_p0 f_p0 l_p c_m0 c_m1 c_m2 c_m3 c_m4 f_m0 f_m1 f_m2 f_m3 f_m4 l_m
  replace r_p := Lib.hid (r_p.out.keep hb)
  replace r_m := Lib.hid (r_m.out.keep hb)
  replace BB := Lib.hid (below_next BB.out hb)
  clear hb nq
  go_wp2_with fail
  have h_v := Lib.hid (hv5.out.below BB.out)
  refine (CK.out _ _ h_v.out).mono ?_
  rintro e w9 ⟨rfl, rfl⟩
  go_wp2_with fail
  obtain ⟨c_p0, f_p0⟩ := reads1 r_p.out
  have l_p := r_p.out.lt
  obtain ⟨c_m0, c_m1, c_m2, c_m3, c_m4, f_m0, f_m1, f_m2, f_m3, f_m4⟩ := reads5 r_m.out
  have l_m := r_m.out.lt
  go_quiet (fail)
  have hb := below_drawn (Below.refl w2.heap.size w2) nq
  generalize w2.drewN nq = w3 at *
  clear c_p0 f_p0 l_p c_m0 c_m1 c_m2 c_m3 c_m4 f_m0 f_m1 f_m2 f_m3 f_m4 l_m
  replace r_p := Lib.hid (r_p.out.keep hb)
  replace r_m := Lib.hid (r_m.out.keep hb)
  replace BB := Lib.hid (below_next BB.out hb)
  clear hb nq
  go_wp2_with fail
  refine (chunk_any _ _ _ _ _).mono ?_
  rintro e w9 ⟨rfl, rfl⟩
  have d_q := Lib.hid (And.intro BB.out.size (And.intro r_p.out.lt (And.intro r_m.out.lt (True.intro))))
  obtain ⟨hb, -, r_q, r_q2⟩ := start2 w3 #[.slice (some ⟨b, off + 4, none⟩) (n - 4) (cap - 4)] 25 #[.int .i64 2] 3
  replace r_p := Lib.hid (r_p.out.keep hb)
  replace r_m := Lib.hid (r_m.out.keep hb)
  replace BB := Lib.hid (below_next BB.out hb)
  clear hb
  replace r_q := Lib.hid r_q; replace r_q2 := Lib.hid r_q2
  generalize (w3.alloc (.cells #[.slice (some ⟨b, off + 4, none⟩) (n - 4) (cap - 4)] 25)).alloc (.cells #[.int .i64 2] 3) = w4 at *
  generalize w3.heap.size = g_q at *
  have d_q2 := d_q
  go_wp2_with fail
  obtain ⟨i0, hi0, hz0, hz1, hz2⟩ := info_parts info_knot
  have hq1 := r_q.out.lt
  have hq2 := r_q2.out.lt
  have hstops := chunk_stops g_q (g_q + 1) b (off + 4) (cap - 4) N (by have := hN5'.out; omega) (by have := hr'.out; have := hcap'.out; have := hnn.out; omega) w4 hq1 hq2 (by have h := r_q.out.cell 0 rfl; rw [show 2 * N = n - 4 by have := hr'.out; have := hnn.out; omega]; exact h) (r_q2.out.cell 0 rfl)
  have BO := BB
  generalize w4 = wB at *
  obtain ⟨F, hF⟩ : ∃ F : Fin N → Int × Int, F = fun x => (rest.getD (2 * x.1) 0, rest.getD (2 * x.1 + 1) 0) := ⟨_, rfl⟩
  refine range_wrap fun T hT => ?_
  refine (wpIn_wide (n := 4)).1 (wpIn_rangeFunc_ownF (F := Fence.wide) rfl (by omega) (gf := 133) (lb := #[.pointer (some ⟨g_q, 0, none⟩), .pointer (some ⟨g_q + 1, 0, none⟩)]) (by rw [hT]; rfl) trivial (enters_of Try.func133 (by kernel_rfl) rfl) hstops (fun h k => Kept2.trans h k) (fun W l o o' hl h _ _ => Kept2.put hq1 hq2 W l o o' hl h) (Below.refl _ _) (fun _ => rfl)
    (fun pre W => (∃ v, AtB W g_p #[.pointer (some ⟨g_m, 0, none⟩)] PMT ∧ AtB W g_m #[.int .i64 gx, .int .i64 nx, .int .i64 gy, .int .i64 ny, v] MXT ∧ W.ownsRow wB.heap.size KNT 2 v pre.length (kcells (pre.map F))) ∧ Below w.heap.size w W ∧ wB.heap.size ≤ W.heap.size)
    (fun _ _ _ => False) (inv_from (by have := r_p.out.lt; omega) (by have := r_m.out.lt; omega) BO.out.size) (fun c s W W' row hs _ _ => hs) ⟨⟨.slice none 0 0, r_p.out, r_m.out, World.ownsRow_nil _ _ _ _⟩, BB.out, Nat.le_refl _⟩
    (fun x => { tmps := (T.setIfInBounds 110 (.slice (some ⟨b, off + 4 + 2 * x.1, none⟩) 2 2)).setIfInBounds 9 (.slice (some ⟨b, off + 4 + 2 * x.1, none⟩) 2 2), defers := [] }) ?assign ?body ?done ?stop)
  case assign =>
    intro l x W K hK
    subst hT
    simp only [twoF, List.setIfInBounds_toArray, List.set_cons_zero, List.set_cons_succ] at hK ⊢
    gi_wp2
    exact hK
  case stop => rintro D c pre W hD _ h _; exact h.elim
  case body =>
    rintro l pre x W ⟨⟨vk, hp, hm, ho⟩, hB, hsz⟩ hlen
    subst hT
    simp only [List.setIfInBounds_toArray, List.set_cons_zero, List.set_cons_succ]
    refine wpIn_block ?_
    have hx := x.2
    have z00 := CE.out (2 * x.1) (by have := hr'.out; omega)
    have z01 := CE.out (2 * x.1 + 1) (by have := hr'.out; omega)
    have hFx : Hid (F x = (rest.getD (2 * x.1) 0, rest.getD (2 * x.1 + 1) 0)) := by show _ = _; rw [hF]
    rw [show off + (2 * x.1 + 4) = off + 4 + 2 * x.1 by omega] at z00
    rw [show off + (2 * x.1 + 1 + 4) = off + 4 + 2 * x.1 + 1 by omega] at z01
    simp only [List.getD_cons_succ] at z00 z01
    obtain ⟨z0, hz0'⟩ : ∃ z, z = rest.getD (2 * x.1) 0 := ⟨_, rfl⟩
    obtain ⟨z1, hz1'⟩ : ∃ z, z = rest.getD (2 * x.1 + 1) 0 := ⟨_, rfl⟩
    rw [← hz0', ← hz1'] at hFx
    rw [← hz0'] at z00
    rw [← hz1'] at z01
    clear hz0' hz1'
    generalize off + 4 + 2 * x.1 = o1 at *
    have KS := Lib.hid (keeps_s hp hm ho hB (by have := r_p.out.lt; omega) (by have := r_m.out.lt; omega) BO.out.size (fun w9 h9 => And.intro (z00 w9 h9) (z01 w9 h9)) (cs := #[.int .i64 z0, .int .i64 z1]))
    have KM := Lib.hid (fun (w1 : World) (hg : (W.drew.alloc (Obj.cells #[.int .i64 z0, .int .i64 z1] KNT)).grownBy w1 vk.ownBlock) => AtB.app' (o := Obj.cells #[.int .i64 z0, .int .i64 z1] KNT) hm (by have := r_m.out.lt; omega) ho hg)
    have hS := KS.out W.drew (Or.inl rfl)
    have hl2 : pre.length ≤ 100000 := by have := hN5'.out; omega
    refine region_round (fun w9 => w9.cell? ⟨g_p, 0, none⟩ = some (.pointer (some ⟨g_m, 0, none⟩)) ∧ w9.cell? ⟨g_m, 4, none⟩ = some vk ∧ w9.cell? ⟨b, o1, none⟩ = some (.int .i64 z0) ∧ w9.cell? ⟨b, o1 + 1, none⟩ = some (.int .i64 z1)) 16 (by kernel_rfl) (by kernel_rfl) (by rintro ⟨_, _, h⟩; exact h) ?_
    refine AnyG.take (i := 0) (v := ?_) rfl (by kernel_rfl) (by kernel_rfl) (by kernel_rfl) (fun _ _ _ h => h) (by kernel_rfl) (by kernel_rfl) (Or.inl ⟨by rfl, ?_⟩) (by assumption) ?_
    rotate_left
    · intro w9 hSw; (try dsimp only at hSw); go_simp <;> with_reducible rfl
    try simp only [Act.put, List.getElem_toArray, List.getElem_cons_zero, List.getElem_cons_succ, List.setIfInBounds_toArray, List.set_cons_zero, List.set_cons_succ]
    refine AnyG.take (i := 1) (v := ?_) rfl (by kernel_rfl) (by kernel_rfl) (by kernel_rfl) (fun _ _ _ h => h) (by kernel_rfl) (by kernel_rfl) (Or.inl ⟨by rfl, ?_⟩) (by assumption) ?_
    rotate_left
    · intro w9 hSw; (try dsimp only at hSw); go_simp <;> with_reducible rfl
    try simp only [Act.put, List.getElem_toArray, List.getElem_cons_zero, List.getElem_cons_succ, List.setIfInBounds_toArray, List.set_cons_zero, List.set_cons_succ]
    refine AnyG.take (i := 2) (v := ?_) rfl (by kernel_rfl) (by kernel_rfl) (by kernel_rfl) (fun _ _ _ h => h) (by kernel_rfl) (by kernel_rfl) (Or.inl ⟨by rfl, ?_⟩) (by assumption) ?_
    rotate_left
    · intro w9 hSw; (try dsimp only at hSw); go_simp <;> with_reducible rfl
    try simp only [Act.put, List.getElem_toArray, List.getElem_cons_zero, List.getElem_cons_succ, List.setIfInBounds_toArray, List.set_cons_zero, List.set_cons_succ]
    refine AnyG.take (i := 3) (v := ?_) rfl (by kernel_rfl) (by kernel_rfl) (by kernel_rfl) (fun _ _ _ h => h) (by kernel_rfl) (by kernel_rfl) (Or.inl ⟨by rfl, ?_⟩) (by assumption) ?_
    rotate_left
    · intro w9 hSw; (try dsimp only at hSw); go_simp <;> with_reducible rfl
    try simp only [Act.put, List.getElem_toArray, List.getElem_cons_zero, List.getElem_cons_succ, List.setIfInBounds_toArray, List.set_cons_zero, List.set_cons_succ]
    refine AnyG.take (i := 4) (v := ?_) rfl (by kernel_rfl) (by kernel_rfl) (by kernel_rfl) (fun _ _ _ h => h) (by kernel_rfl) (by kernel_rfl) (Or.inl ⟨by rfl, ?_⟩) (by assumption) ?_
    rotate_left
    · intro w9 hSw; (try dsimp only at hSw); go_simp <;> with_reducible rfl
    try simp only [Act.put, List.getElem_toArray, List.getElem_cons_zero, List.getElem_cons_succ, List.setIfInBounds_toArray, List.set_cons_zero, List.set_cons_succ]
    refine AnyG.take (i := 5) (v := ?_) rfl (by kernel_rfl) (by kernel_rfl) (by kernel_rfl) (fun _ _ _ h => h) (by kernel_rfl) (by kernel_rfl) (Or.inl ⟨by rfl, ?_⟩) (by assumption) ?_
    rotate_left
    · intro w9 hSw; (try dsimp only at hSw); go_simp <;> with_reducible rfl
    try simp only [Act.put, List.getElem_toArray, List.getElem_cons_zero, List.getElem_cons_succ, List.setIfInBounds_toArray, List.set_cons_zero, List.set_cons_succ]
    refine AnyG.take (i := 6) (v := ?_) rfl (by kernel_rfl) (by kernel_rfl) (by kernel_rfl) (fun _ _ _ h => h) (by kernel_rfl) (by kernel_rfl) (Or.inl ⟨by rfl, ?_⟩) (by assumption) ?_
    rotate_left
    · intro w9 hSw; (try dsimp only at hSw); go_simp <;> with_reducible rfl
    try simp only [Act.put, List.getElem_toArray, List.getElem_cons_zero, List.getElem_cons_succ, List.setIfInBounds_toArray, List.set_cons_zero, List.set_cons_succ]
    refine AnyG.take (i := 7) (v := ?_) rfl (by kernel_rfl) (by kernel_rfl) (by kernel_rfl) (fun _ _ _ h => h) (by kernel_rfl) (by kernel_rfl) (Or.inl ⟨by rfl, ?_⟩) (by assumption) ?_
    rotate_left
    · intro w9 hSw; (try dsimp only at hSw); go_simp <;> with_reducible rfl
    try simp only [Act.put, List.getElem_toArray, List.getElem_cons_zero, List.getElem_cons_succ, List.setIfInBounds_toArray, List.set_cons_zero, List.set_cons_succ]
    refine AnyG.take (i := 8) (v := ?_) rfl (by kernel_rfl) (by kernel_rfl) (by kernel_rfl) (fun _ _ _ h => h) (by kernel_rfl) (by kernel_rfl) (Or.inl ⟨by rfl, ?_⟩) (by assumption) ?_
    rotate_left
    · intro w9 hSw; (try dsimp only at hSw); go_simp <;> with_reducible rfl
    try simp only [Act.put, List.getElem_toArray, List.getElem_cons_zero, List.getElem_cons_succ, List.setIfInBounds_toArray, List.set_cons_zero, List.set_cons_succ]
    refine AnyG.take (i := 9) (v := ?_) rfl (by kernel_rfl) (by kernel_rfl) (by kernel_rfl) (fun _ _ _ h => h) (by kernel_rfl) (by kernel_rfl) (Or.inl ⟨by rfl, ?_⟩) (by assumption) ?_
    rotate_left
    · intro w9 hSw; (try dsimp only at hSw); go_simp <;> with_reducible rfl
    try simp only [Act.put, List.getElem_toArray, List.getElem_cons_zero, List.getElem_cons_succ, List.setIfInBounds_toArray, List.set_cons_zero, List.set_cons_succ]
    refine AnyG.take (i := 10) (v := ?_) rfl (by kernel_rfl) (by kernel_rfl) (by kernel_rfl) (fun _ _ _ h => h) (by kernel_rfl) (by kernel_rfl) (Or.inl ⟨by rfl, ?_⟩) (by assumption) ?_
    rotate_left
    · intro w9 hSw; (try dsimp only at hSw); go_simp <;> with_reducible rfl
    try simp only [Act.put, List.getElem_toArray, List.getElem_cons_zero, List.getElem_cons_succ, List.setIfInBounds_toArray, List.set_cons_zero, List.set_cons_succ]
    refine AnyG.take (i := 11) (v := ?_) rfl (by kernel_rfl) (by kernel_rfl) (by kernel_rfl) (fun _ _ _ h => h) (by kernel_rfl) (by kernel_rfl) (Or.inl ⟨by rfl, ?_⟩) (by assumption) ?_
    rotate_left
    · intro w9 hSw; (try dsimp only at hSw); go_simp <;> with_reducible rfl
    try simp only [Act.put, List.getElem_toArray, List.getElem_cons_zero, List.getElem_cons_succ, List.setIfInBounds_toArray, List.set_cons_zero, List.set_cons_succ]
    refine AnyG.step (i := 12) (by kernel_rfl) rfl (fun K hK => ?_)
    go_simp
    have HS12 := KS.out (W.drew.alloc (.cells #[.int .i64 z0, .int .i64 z1] KNT)) (Or.inr (Or.inl rfl))
    refine hK.out _ _ (fun _ => HS12) (fun hHeld => ?_)
    clear hK
    try simp only [Act.put, List.getElem_toArray, List.getElem_cons_zero, List.getElem_cons_succ, List.setIfInBounds_toArray, List.set_cons_zero, List.set_cons_succ]
    refine AnyG.step (i := 13) (by kernel_rfl) rfl (fun K hK => ?_)
    refine step_append_lies _ (by rfl) _ _ LKT (by rfl) wB.heap.size KNT i0 (.agg #[.int .i64 0, .int .i64 0]) 2 16 Try.underlying129 hi0 hz0 hz1 hz2 rfl (by decide) vk pre.length (kcells (pre.map F)) (by rfl) (ownsRow_new ho _) ⟨W.heap.size, 0, none⟩ 1 1 [.int .i64 z0, .int .i64 z1] (by rfl) (by rfl) (two_new _ _ _ _) (two_ints _ _) (by omega) (by unfold maxLen; omega) (by omega) (by simp; omega) (W.heap.size + 1) (by simp) ?_
    intro gk ck w1 hown1 hgrow hat hlt
    have HS13 := KS.out w1 (Or.inr (Or.inr hgrow))
    refine hK.out _ _ (fun _ => HS13) (fun hHeld => ?_)
    clear hK
    replace hHeld := hHeld (by decide)
    try simp only [Act.put, List.getElem_toArray, List.getElem_cons_zero, List.getElem_cons_succ, List.setIfInBounds_toArray, List.set_cons_zero, List.set_cons_succ]
    refine AnyG.take (i := 14) (v := ?_) rfl (by kernel_rfl) (by kernel_rfl) (by kernel_rfl) (fun _ _ _ h => h) (by kernel_rfl) (by kernel_rfl) (Or.inl ⟨by rfl, ?_⟩) (by assumption) ?_
    rotate_left
    · intro w9 hSw; (try dsimp only at hSw); go_simp <;> with_reducible rfl
    try simp only [Act.put, List.getElem_toArray, List.getElem_cons_zero, List.getElem_cons_succ, List.setIfInBounds_toArray, List.set_cons_zero, List.set_cons_succ]
    refine AnyG.take (i := 15) (v := ?_) rfl (by kernel_rfl) (by kernel_rfl) (by kernel_rfl) (fun _ _ _ h => h) (by kernel_rfl) (by kernel_rfl) (Or.inl ⟨by rfl, ?_⟩) (by assumption) ?_
    rotate_left
    · intro w9 hSw; (try dsimp only at hSw); go_simp <;> with_reducible rfl
    try simp only [Act.put, List.getElem_toArray, List.getElem_cons_zero, List.getElem_cons_succ, List.setIfInBounds_toArray, List.set_cons_zero, List.set_cons_succ]
    have rm1 := KM.out w1 hgrow
    obtain ⟨cq0, cq1, cq2, cq3, cq4, fq0, fq1, fq2, fq3, fq4⟩ := reads5 rm1
    have lq := rm1.lt
    refine AnyG.step (i := 16) (by kernel_rfl) rfl (fun K hK => ?_)
    go_simp
    refine hK.out _ _ (fun h => absurd h (by decide)) (fun _ => ?_)
    clear hK
    try simp only [Act.put, List.getElem_toArray, List.getElem_cons_zero, List.getElem_cons_succ, List.setIfInBounds_toArray, List.set_cons_zero, List.set_cons_succ]
    refine AnyG.done (by kernel_rfl) ?_ _
    have HR := round_end hp hm ho hB hsz (by have := r_p.out.lt; omega) (by have := r_m.out.lt; omega) hq2 (by have := d_q.out; omega) (by have := d_q.out; omega) (by have := d_p.out; omega) d_m.out.1 BO.out.size hown1 hgrow hFx.out
    exact HR
  case done =>
    rintro D xs W hD hxs hI hDef
    have hIx : OwnFrom wB.heap.size _ := inv_from (N := N) (F := F) (w := w) (wB := wB) (g_p := g_p) (g_m := g_m) (gx := gx) (nx := nx) (gy := gy) (ny := ny) (by have := r_p.out.lt; omega) (by have := r_m.out.lt; omega) BO.out.size
    have hJ := Lib.hid (hIx.putObj (.deferred none) hI hD hDef rfl)
    have hBD := Lib.hid (belowK_b (w := wB) BO.out.size W D _ (.deferred none) hD hDef rfl rfl)
    obtain ⟨⟨v, hp, hm, ho⟩, hB, hsz⟩ := hI
    have cp := hp.cell 0 rfl
    have hB' := Lib.hid hB
    subst hT
    clear hm ho hB hsz
    go_wp2_with fail
    refine ⟨by simp, .inl ⟨_, _, rfl, run_takeDeferred hDef, ?_⟩⟩
    have hks : ksOf rest N = (List.finRange N).map F := by rw [hF]; rfl
    obtain rfl : xs = List.finRange N := hxs
    obtain ⟨⟨v', hp', hm', ho'⟩, hB2, -⟩ := hJ.out
    have ho2 : World.ownsRow (W.putObj D (.deferred none)) wB.heap.size KNT 2 v' (ksOf rest N).length (kcells (ksOf rest N)) := by rw [hks, List.length_map]; exact ho'
    obtain ⟨b', cap', rfl, hc', hKB⟩ := kn_own ho2 (by rw [hks, List.length_map, List.length_finRange]; have := hN4'.out; omega)
    exact ⟨_, results_tmp2 rfl _ _ _, g_m, rfl, hB2, b', cap', hm', hc', hKB⟩
end Go.Proofs.Ythoakbjnofhpbaa
