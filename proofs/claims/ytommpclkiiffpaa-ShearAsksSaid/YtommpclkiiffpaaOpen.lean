/- How an argument of a struct's or an array's type by value (nested or not), and a slice of such, is opened into its one-cell parts: by the type's 'leaves', a closed list of offsets and types. -/
import Derived.Test.YtommpclkiiffpaaBase
import Derived.Deep.Slices
namespace Go.Proofs.Ytommpclkiiffpaa
open Go.ChangeShapes Go.WideShapes Go.ChangeAt Go.RowKit Go.Deep

/-- The one-cell parts of a type: at which offset, of which type. -/
def leaves (P : Program) : Nat → TypeId → Option (List (Nat × TypeId))
  | 0, _ => none
  | n + 1, t =>
    match P.underlying t with
    | some (.struct fs) => (fs.toList.mapM fun f => (leaves P n f.type).map fun l => l.map fun x => (f.offset + x.1, x.2)).map List.flatten
    | some (.array k e) => (leaves P n e).map fun l => (List.range k).flatMap fun i => l.map fun x => (i * P.cellsOf e + x.1, x.2)
    | some _ => some [(0, t)]
    | none => none

section
variable {H : Type} {enc : TypeId × Value → H} {P : Program} {w : World} {base : Nat} {spare : Nat → Bool} {held : Bool}

theorem mapM_mem {α β : Type} {f : α → Option β} : ∀ {l : List α} {ys : List β}, l.mapM f = some ys → ∀ (y : β), y ∈ ys → ∃ x ∈ l, f x = some y
  | [], ys, h, y, hy => by simp at h; subst h; cases hy
  | a :: l, ys, h, y, hy => by
    rw [List.mapM_cons] at h
    simp only [Option.bind_eq_bind, Option.bind_eq_some_iff, Option.pure_def, Option.some.injEq] at h
    obtain ⟨z, hz, zs, hzs, rfl⟩ := h
    rcases List.mem_cons.1 hy with rfl | hy
    · exact ⟨a, by simp, hz⟩
    · obtain ⟨x, hx, hfx⟩ := mapM_mem hzs y hy
      exact ⟨x, by simp [hx], hfx⟩

/-- A type of one cell reads one cell. -/
theorem trod_single {fuel : Nat} {t : TypeId} {cs : List Value} {x : DataW H × List MemPlace} {d : TypeDesc} (ht : P.underlying t = some d) (hs : ∀ fs, d ≠ .struct fs) (ha : ∀ k e, d ≠ .array k e)
    (h : DataW.trod enc P w base spare held fuel t cs = some x) : ∃ c, cs = [c] := by
  cases fuel with
  | zero => simp [DataW.trod] at h
  | succ n =>
    unfold DataW.trod at h
    rw [ht] at h
    split at h <;> first | exact ⟨_, rfl⟩ | (rename_i e; injection e with e; exact absurd e (hs _)) | (rename_i e; injection e with e; exact absurd e (ha _ _)) | cases h

theorem drop_take_at {cs : List Value} {o s i : Nat} {c : Value} (h : ((cs.drop o).take s)[i]? = some c) : cs[o + i]? = some c := by
  rw [List.getElem?_take] at h
  split at h
  · rwa [List.getElem?_drop] at h
  · cases h

/-- Each part has its cell, and reads. -/
theorem trod_leaves : ∀ (n : Nat) {t : TypeId} {ls : List (Nat × TypeId)} (_ : leaves P n t = some ls) {fuel : Nat} {cs : List Value} {x : DataW H × List MemPlace}
    (_ : DataW.trod enc P w base spare held fuel t cs = some x), ∀ o l, (o, l) ∈ ls → ∃ c y fuel', cs[o]? = some c ∧ DataW.trod enc P w base spare held fuel' l [c] = some y := by
  intro n
  induction n with
  | zero => intro t ls h; simp [leaves] at h
  | succ n ih =>
    intro t ls hl fuel cs x h o l hm
    unfold leaves at hl
    split at hl
    · rename_i fs hu
      simp only [Option.map_eq_some_iff] at hl
      obtain ⟨lls, hlls, rfl⟩ := hl
      obtain ⟨l1, hl1, hm⟩ := List.mem_flatten.1 hm
      obtain ⟨f, hf, hfl⟩ := mapM_mem hlls l1 hl1
      simp only [Option.map_eq_some_iff] at hfl
      obtain ⟨l2, hl2, rfl⟩ := hfl
      obtain ⟨⟨o', l'⟩, hm', he⟩ := List.mem_map.1 hm
      simp only [Prod.mk.injEq] at he
      obtain ⟨rfl, rfl⟩ := he
      obtain ⟨xs, m, _, _, _, hlen, hg⟩ := DataW.trod_struct hu h
      obtain ⟨i, hi, hfi⟩ := List.mem_iff_getElem.1 hf
      have hfi' : fs[i]? = some f := by
        rw [Array.getElem?_eq_getElem (by simpa using hi)]
        simpa using hfi
      have hg' := hg i f hfi'
      have hil : i < xs.length := by rw [hlen]; simpa using hi
      rw [List.getElem?_eq_getElem hil] at hg'
      obtain ⟨c, y, fuel', hc, hy⟩ := ih hl2 hg' _ _ hm'
      exact ⟨c, y, fuel', drop_take_at hc, hy⟩
    · rename_i k e hu
      simp only [Option.map_eq_some_iff] at hl
      obtain ⟨l2, hl2, rfl⟩ := hl
      obtain ⟨i, hi, hm⟩ := List.mem_flatMap.1 hm
      obtain ⟨⟨o', l'⟩, hm', he⟩ := List.mem_map.1 hm
      simp only [Prod.mk.injEq] at he
      obtain ⟨rfl, rfl⟩ := he
      obtain ⟨xs, m, _, _, _, hlen, hg⟩ := DataW.trod_array hu h
      have hik : i < k := by simpa using hi
      have hg' := hg i hik
      rw [List.getElem?_eq_getElem (by omega)] at hg'
      obtain ⟨c, y, fuel', hc, hy⟩ := ih hl2 hg' _ _ hm'
      exact ⟨c, y, fuel', drop_take_at hc, hy⟩
    · rename_i d hns hna hu
      injection hl with hl
      subst hl
      simp only [List.mem_singleton, Prod.mk.injEq] at hm
      obtain ⟨rfl, rfl⟩ := hm
      obtain ⟨c, rfl⟩ := trod_single hu (fun fs e => hns fs e) (fun k e he => hna k e he) h
      exact ⟨c, x, fuel, rfl, h⟩
    · cases hl

/-- A part that is an integer. -/
theorem leaf_int {k : IntKind} {l : TypeId} {c : Value} {y : DataW H × List MemPlace} {fuel : Nat} (hl : P.underlying l = some (.int k)) (h : DataW.trod enc P w base spare held fuel l [c] = some y) :
    ∃ n, c = .int k n ∧ (Lit.int k n).wf = true := by
  obtain ⟨n, hc, _, hw⟩ := DataW.trod_int hl h
  exact ⟨n, by simpa using hc, hw⟩

/-- An argument by value whose type is a struct: its cells. -/
theorem open_struct {t : TypeId} {fs : Array Field} {r : Reach} {b0 : Nat} {v : Value} (hu : P.underlying t = some (.struct fs)) (hv : Value.okWide P w r b0 t v) : ∃ cs : Array Value, v = .agg cs ∧ cs.size = P.cellsOf t := okWide_struct hu hv

theorem open_array {t e : TypeId} {k : Nat} {r : Reach} {b0 : Nat} {v : Value} (hu : P.underlying t = some (.array k e)) (hv : Value.okWide P w r b0 t v) : ∃ cs : Array Value, v = .agg cs ∧ cs.size = P.cellsOf t := by
  simp only [Value.okWide, hu] at hv
  obtain ⟨cs, h1, h2, _⟩ := hv
  exact ⟨cs, h1, h2⟩

/-- A type whose parts are integers alone, one behind the other: their kinds. -/
def intLeaves (P : Program) (n : Nat) (t : TypeId) : Option (List IntKind) :=
  (leaves P n t).bind fun ls => if ls.map (·.1) = List.range ls.length then ls.mapM fun x => match P.underlying x.2 with
    | some (.int k) => some k
    | _ => none
  else none

theorem mapM_at {α β : Type} {f : α → Option β} : ∀ {l : List α} {ys : List β}, l.mapM f = some ys → ys.length = l.length ∧ ∀ (i : Nat) (y : β), ys[i]? = some y → ∃ x, l[i]? = some x ∧ f x = some y
  | [], ys, h => by simp at h; subst h; exact ⟨rfl, fun i y hy => by simp at hy⟩
  | a :: l, ys, h => by
    rw [List.mapM_cons] at h
    simp only [Option.bind_eq_bind, Option.bind_eq_some_iff, Option.pure_def, Option.some.injEq] at h
    obtain ⟨z, hz, zs, hzs, rfl⟩ := h
    obtain ⟨h1, h2⟩ := mapM_at hzs
    refine ⟨by simp [h1], fun i y hy => ?_⟩
    cases i with
    | zero => simp at hy; subst hy; exact ⟨a, rfl, hz⟩
    | succ i => exact h2 i y (by simpa using hy)

/-- Integers as cells. -/
def intCells (ks : List IntKind) (ns : List Int) : List Value := List.zipWith Value.int ks ns

theorem cells_ints : ∀ (ks : List IntKind) (cs : List Value), cs.length = ks.length → (∀ (i : Nat) (k : IntKind), ks[i]? = some k → ∃ n : Int, cs[i]? = some (Value.int k n) ∧ (Lit.int k n).wf = true) →
    ∃ ns : List Int, ns.length = ks.length ∧ cs = intCells ks ns ∧ ∀ (i : Nat) (k : IntKind) (n : Int), ks[i]? = some k → ns[i]? = some n → (Lit.int k n).wf = true
  | [], cs, hl, _ => ⟨[], rfl, by cases cs <;> simp_all [intCells], fun i k n h => by simp at h⟩
  | k :: ks, [], hl, _ => by simp at hl
  | k :: ks, c :: cs, hl, h => by
    obtain ⟨n, hn, hw⟩ := h 0 k rfl
    obtain ⟨ns, h1, h2, h3⟩ := cells_ints ks cs (by simpa using hl) (fun i k' hk' => by simpa using h (i + 1) k' (by simpa using hk'))
    refine ⟨n :: ns, by simp [h1], ?_, ?_⟩
    · simp at hn; subst hn; rw [h2]; rfl
    · intro i k' n' hk hn'
      cases i with
      | zero => simp at hk hn'; subst hk; subst hn'; exact hw
      | succ i => exact h3 i k' n' (by simpa using hk) (by simpa using hn')

theorem trod_ints {n : Nat} {t : TypeId} {ks : List IntKind} (hk : intLeaves P n t = some ks) (hC : P.cellsOf t = ks.length) {fuel : Nat} {cs : List Value} {x : DataW H × List MemPlace} (hl : cs.length = P.cellsOf t)
    (h : DataW.trod enc P w base spare held fuel t cs = some x) :
    ∃ ns : List Int, ns.length = ks.length ∧ cs = intCells ks ns ∧ ∀ (i : Nat) (k : IntKind) (n : Int), ks[i]? = some k → ns[i]? = some n → (Lit.int k n).wf = true := by
  refine cells_ints ks cs (by omega) fun i k hik => ?_
  unfold intLeaves at hk
  simp only [Option.bind_eq_some_iff] at hk
  obtain ⟨ls, hls, hk⟩ := hk
  split at hk
  · rename_i hr
    obtain ⟨h1, h2⟩ := mapM_at hk
    obtain ⟨⟨o, l⟩, hx, hfx⟩ := h2 i k hik
    have ho : o = i := by
      have hh : (ls.map (·.1))[i]? = some o := by rw [List.getElem?_map, hx]; rfl
      rw [hr] at hh
      have := List.getElem?_eq_some_iff.1 hh
      obtain ⟨_, e⟩ := this
      simpa using e.symm
    subst ho
    obtain ⟨c, y, fuel', hc, hy⟩ := trod_leaves n hls h _ _ (List.mem_of_getElem? hx)
    split at hfx
    · rename_i k' hu
      injection hfx with hfx
      subst hfx
      obtain ⟨m, rfl, hw⟩ := leaf_int hu hy
      exact ⟨m, hc, hw⟩
    · cases hfx
  · cases hk

/-- An argument of such a type, by value. -/
theorem open_vals {n : Nat} {t : TypeId} {ks : List IntKind} (hk : intLeaves P n t = some ks) (hC : P.cellsOf t = ks.length) {v : Value} {d : DataW H} {p : List MemPlace}
    (hv : ∃ cs : Array Value, v = .agg cs ∧ cs.size = P.cellsOf t) (h : DataW.Trod enc P w base spare held t v d p) :
    ∃ ns : List Int, ns.length = ks.length ∧ v = .agg (intCells ks ns).toArray ∧ ∀ (i : Nat) (k : IntKind) (n : Int), ks[i]? = some k → ns[i]? = some n → (Lit.int k n).wf = true := by
  obtain ⟨cs, rfl, hs⟩ := hv
  obtain ⟨fuel, hf⟩ := h
  obtain ⟨ns, h1, h2, h3⟩ := trod_ints hk hC (by simpa [Value.cells] using hs) hf
  refine ⟨ns, h1, ?_, h3⟩
  rw [← h2]
  simp [Value.cells]

end
end Go.Proofs.Ytommpclkiiffpaa
