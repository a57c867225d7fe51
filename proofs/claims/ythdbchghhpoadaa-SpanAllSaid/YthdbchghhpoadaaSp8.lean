/- Contract of span.Count; the walk of the law SpanAll. -/
import Derived.Test.YthdbchghhpoadaaSp7
set_option linter.unusedVariables false
set_option linter.unusedSimpArgs false
namespace Go.Proofs.Ythdbchghhpoadaa
open Go.RowKit Go.ChangeShapes Go.WideShapes Go.ChangeAt Go.Deep
/-- How many pixels the first k spans have. -/
def cntK (ts : List P3) : Nat → Int
  | 0 => 0
  | k + 1 => cntK ts k + max ((ts.getD k (0, 0, 0)).2.2 - (ts.getD k (0, 0, 0)).2.1) 0
theorem cntK_in (ts : List P3) (h : ∀ k, k < ts.length → (0 ≤ (ts.getD k (0, 0, 0)).2.1 ∧ (ts.getD k (0, 0, 0)).2.1 ≤ 32768) ∧ (0 ≤ (ts.getD k (0, 0, 0)).2.2 ∧ (ts.getD k (0, 0, 0)).2.2 ≤ 32768)) : ∀ k, k ≤ ts.length → 0 ≤ cntK ts k ∧ cntK ts k ≤ 32768 * k
  | 0, _ => ⟨Int.le_refl _, by simp [cntK]⟩
  | k + 1, hk => by
    obtain ⟨a, b⟩ := cntK_in ts h k (by omega)
    have := h k (by omega)
    unfold cntK
    omega
set_option maxRecDepth 100000 in
set_option maxHeartbeats 4000000 in
theorem pcount (v : Value) (ts : List P3) (hl : ts.length ≤ 32768) (h : ∀ k, k < ts.length → (0 ≤ (ts.getD k (0, 0, 0)).2.1 ∧ (ts.getD k (0, 0, 0)).2.1 ≤ 32768) ∧ (0 ≤ (ts.getD k (0, 0, 0)).2.2 ∧ (ts.getD k (0, 0, 0)).2.2 ≤ 32768)) (w : World) (hv : PS w v ts) :
    Calls Try.prog 17 #[v] w fun e w' => e = .returned (.int .i64 (cntK ts ts.length)) ∧ Below w.heap.size w w' := by
  have HC := Lib.hid (cntK_in ts h)
  have HB := Lib.hid h
  obtain ⟨A, cap, rfl⟩ := hv.form
  have hv := Lib.hid hv
  have hl := Lib.hid hl
  generalize hn : ts.length = n at *
  have hn := Lib.hid hn
  have HS : Hid (∀ k, cntK ts (k + 1) = cntK ts k + max ((ts.getD k (0, 0, 0)).2.2 - (ts.getD k (0, 0, 0)).2.1) 0) := fun _ => rfl
  have H0 : Hid (cntK ts 0 = 0) := rfl
  clear h
  go_enter Try.func17, Try.ntmps17
  go_wp2_with fail
  have BB : Hid (Below w.heap.size w w) := Below.refl _ _
  go_loopw [3, 8] (fun s c wr => ∃ k : Nat, k ≤ n ∧ s = .int .i64 (cntK ts k) ∧ c = .int .i64 (k : Int) ∧ Hid (Below w.heap.size w wr)) (fun _ c _ => n - (intOf c).toNat)
  case atStart => exact ⟨0, by omega, by rw [H0.out], rfl, BB.out⟩
  case round =>
    clear BB
    obtain ⟨k, hk, rfl, rfl, BB⟩ := hrel
    by_cases hlt : k < n
    · have hlt' : (k : Int) < (n : Int) := by omega
      obtain ⟨b, off, rfl, hb, q0, q1, q2⟩ := (hv.out.below BB.out).atk hn.out hlt
      have h1 := HB.out k hlt
      have h2 := HC.out k hk
      have h3 := Lib.hid (HS.out k)
      have hkb := hl.out
      generalize (ts.getD k (0, 0, 0)).1 = y at *
      generalize (ts.getD k (0, 0, 0)).2.1 = x0 at *
      generalize (ts.getD k (0, 0, 0)).2.2 = x1 at *
      obtain ⟨Z, hZ⟩ : ∃ Z, Z = cntK ts (k + 1) := ⟨_, rfl⟩
      rw [← hZ] at h3
      replace hZ := Lib.hid hZ
      generalize cntK ts k = c at *
      obtain ⟨d, hd⟩ : ∃ d, d = x1 - x0 := ⟨_, rfl⟩
      obtain ⟨m, hm⟩ : ∃ m, m = max d 0 := ⟨_, rfl⟩
      have e1 : IntKind.i64.wrap (x1 - x0) = d := by rw [hd]; exact iw ⟨by omega, by omega⟩
      have e2 : (if d < 0 then 0 else d) = m := by rw [hm]; split <;> omega
      have e3 : IntKind.i64.wrap (c + m) = Z := by rw [show c + m = Z by rw [h3.out, hm, hd]]; exact iw ⟨by have := h3.out; omega, by have := h3.out; omega⟩
      have e4 : IntKind.i64.wrap ((k : Int) + 1) = (k : Int) + 1 := iw ⟨by omega, by omega⟩
      clear hd hm h1 h2
      go_wp2_with fail
      go_roundw
      case rel => exact ⟨k + 1, by omega, by rw [← hZ.out], by go_num, below_new BB.out _⟩
      case measure => simp [intOf]; omega
    · obtain rfl : k = n := by omega
      have hlt' : ¬ (k : Int) < (k : Int) := by omega
      go_wp2_with fail
      go_ret
      exact ⟨rfl, BB.out⟩
theorem spans_pre (p : Nat → Nat × Nat) (y : Nat) : ∀ R, y ≤ R → ∃ t, spansTo p R = spansTo p y ++ t
  | 0, h => ⟨[], by obtain rfl : y = 0 := by omega
                    simp⟩
  | R + 1, h => by
    by_cases e : y = R + 1
    · subst e; exact ⟨[], by simp⟩
    · obtain ⟨t, ht⟩ := spans_pre p y R (by omega)
      rw [show spansTo p (R + 1) = if (p R).1 < (p R).2 then spansTo p R ++ [((R : Int), ((p R).1 : Int), ((p R).2 : Int))] else spansTo p R from rfl]
      split
      · exact ⟨t ++ [((R : Int), ((p R).1 : Int), ((p R).2 : Int))], by rw [ht, List.append_assoc]⟩
      · exact ⟨t, ht⟩
theorem spans_at (p : Nat → Nat × Nat) (y R : Nat) (h : y < R) (hx : (p y).1 < (p y).2) : (spansTo p y).length < (spansTo p R).length ∧ (spansTo p R).getD (spansTo p y).length (0, 0, 0) = ((y : Int), ((p y).1 : Int), ((p y).2 : Int)) ∧ (spansTo p (y + 1)).length = (spansTo p y).length + 1 := by
  have e : spansTo p (y + 1) = spansTo p y ++ [((y : Int), ((p y).1 : Int), ((p y).2 : Int))] := if_pos hx
  obtain ⟨t, ht⟩ := spans_pre p (y + 1) R (by omega)
  rw [e] at ht
  rw [ht, e]
  refine ⟨by simp, ?_, by simp⟩
  simp [List.getD_eq_getElem?_getD]
theorem spans_no (p : Nat → Nat × Nat) (y : Nat) (hx : ¬ (p y).1 < (p y).2) : spansTo p (y + 1) = spansTo p y := if_neg hx
theorem rowB_lt (p : Int → Bool) (n : Nat) : (rowB p n).2.1 < (rowB p n).2.2 ∨ ((rowB p n).2.1 = 0 ∧ (rowB p n).2.2 = 0) := by
  induction n with
  | zero => exact .inr ⟨rfl, rfl⟩
  | succ n ih =>
    obtain ⟨s1, s2⟩ := rowB_step p n
    have hle := rowB_le p n
    cases hp : p n
    · rw [s1 hp]; exact ih
    · rw [s2 hp]
      left
      simp only
      split <;> omega
end Go.Proofs.Ythdbchghhpoadaa
