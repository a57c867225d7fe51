/- The walk of the document's 'Floor': the long division. -/
import Derived.Test.YtnklbnphiokpiaaFlo1
set_option linter.unusedVariables false
namespace Go.Proofs.Ytnklbnphiokpiaa
open Go.RowKit

/-- A number ahead of a slice's: 'append([]int{d}, s...)'. -/
theorem wp_front (w : World) {ops : Array Oper} {rest : List Oper} {o : Oper} {a : Act} {Q : Exit → Act → World → Prop} (hgd : o.guard = none) (s x : Operand)
    (ho : o.op = .call { callee := .builtin .append, args := #[s, x], argTypes := #[36, 36] }) (d : Int) (A : Option Addr) (m c : Nat) (ds : List Int)
    (hs : a.eval s = .slice (some ⟨w.heap.size, 0, none⟩) 1 1) (hx : a.eval x = .slice A m c) (h : DR w (.slice A m c) ds) (hl : ds.length ≤ 4096)
    (hK : ∀ v' w', Below w.heap.size w w' → DR w' v' (d :: ds) → wpList Try.prog ops Q rest (a.put o.dst v') w') :
    wpList Try.prog ops Q (o :: rest) a (w.alloc (.cells #[.int .i64 d] 3)) := by
  obtain ⟨i0, hi, hz0, hz1, hz2⟩ := info_parts info_int
  have hown : (w.alloc (.cells #[.int .i64 d] 3)).ownsRow w.heap.size 3 1 (.slice (some ⟨w.heap.size, 0, none⟩) 1 1) 1 [.int .i64 d] :=
    World.ownsRow_lit w #[.int .i64 d] 1 (Nat.le_refl _) (by unfold maxLen; omega) (by simp)
  have hb : Below w.heap.size w (w.alloc (.cells #[.int .i64 d] 3)) := below_new (Below.refl _ _) _
  rcases h with ⟨h, rfl⟩ | ⟨b, off, cap, h, hc, hty, hcell⟩
  · injection h with e1 e2 e3
    subst e1 e2 e3
    refine wpList_plain hgd fun K hK' => ?_
    have hrun := run_append_owned_none (P := Try.prog) (w := w.alloc (.cells #[.int .i64 d] 3)) w.heap.size 36 o.type 3 i0 1 Try.underlying36 hi _ 1 _ hown
    unfold Oper.wp
    simp [execOp, ho, resolve, invoke, builtin, hs, hx, hrun, Result.andThen]
    exact hK' _ _ (hK _ _ hb (DR.of_own (os := [d]) hown))
  · injection h with e1 e2 e3
    subst e1 e2 e3
    refine wpList_append_own _ hgd s x 36 ho w.heap.size 3 i0 (.int .i64 0) 1 8 Try.underlying36 hi hz0 hz1 hz2 rfl (by decide) _ 1 _ hs hown ⟨b, off, none⟩ ds.length c (ds.map (Value.int .i64)) hx (by simp) ?_ (ints_oneCell _ _) (by unfold maxLen; omega) (by omega) (by simp) ?_
    · intro j u hu
      have hj : j < ds.length := by have := (List.getElem?_eq_some_iff.1 hu).1; simpa using this
      have hb2 := heap_lt hty.choose_spec.choose_spec
      rw [Addr.add_lit, hb.cell (p := ⟨b, off + j, none⟩) hb2, hcell j hj]
      rw [List.getElem?_map, List.getElem?_eq_getElem hj] at hu
      rw [List.getD_eq_getElem?_getD, List.getElem?_eq_getElem hj]
      exact hu
    · intro v' w' hown' hg _
      refine hK v' w' (hb.grown hg hb.size (own_block_ge hown)) (DR.of_own (base := w.heap.size) ?_)
      have e : (d :: ds).length = 1 + ds.length := by simp; omega
      rw [e]
      exact hown'

/-- What a long division holds as j digits are left. -/
def LI (a : List Int) (B : Int) (j : Nat) (qs : List Int) (R : Int) : Prop := Dig qs ∧ qs.length + j = a.length ∧ 0 ≤ R ∧ R < B ∧ bval qs * B + R = bval (a.drop j)
theorem LI.start (a : List Int) {B : Int} (hB : 0 < B) : LI a B a.length [] 0 := ⟨Dig.nil, by simp, by omega, hB, by simp [bval, List.drop_of_length_le]⟩
theorem LI.step {a : List Int} {B : Int} {j : Nat} {qs : List Int} {R R' q : Int} (h : LI a B j qs R) (hB : 0 < B) (hj : 0 < j) (hR : R' = a.getD (j - 1) 0 + 32768 * R) (hq : q = R' / B) (q0 : 0 ≤ q) (q1 : q ≤ 32767) :
    LI a B (j - 1) (q :: qs) (R' - q * B) := by
  obtain ⟨h1, h2, h3, h4, h5⟩ := h
  have e := Int.mul_ediv_add_emod R' B
  have m0 := Int.emod_nonneg R' (show B ≠ 0 by omega)
  have m1 := Int.emod_lt_of_pos R' hB
  have hm : R' - q * B = R' % B := by rw [hq, Int.mul_comm]; omega
  refine ⟨Dig.mk ⟨q0, by omega⟩ h1, by simp; omega, by omega, by omega, ?_⟩
  rw [bval_cons, drop_val a (j - 1), show j - 1 + 1 = j by omega, ← h5, hR]
  grind
theorem LI.end_ {a : List Int} {B : Int} {qs : List Int} {R : Int} (h : LI a B 0 qs R) (hB : 0 < B) : bval qs = bval a / B ∧ R = bval a % B := by
  obtain ⟨h1, h2, h3, h4, h5⟩ := h
  rw [List.drop_zero] at h5
  have := (Int.ediv_emod_unique hB (a := bval a) (r := R) (q := bval qs)).2 ⟨by rw [← h5, Int.mul_comm B]; omega, h3, h4⟩
  exact ⟨this.1.symm, this.2.symm⟩

theorem small_mid {z : Int} (h0 : -32768 ≤ z) (h1 : z ≤ 32768) : Mid z := by
  have h : (37778931862957161709568 : Int) < HUGE := by rw [← P2_5]; exact P2_lt_of (by omega)
  exact ⟨by omega, by omega⟩

/-- A number that a long division may divide by. -/
def Low (z : Int) : Prop := -P2 1999 < z ∧ z < P2 1999
theorem huge_eq : HUGE = 32768 * P2 1999 := P2_succ 1999
theorem Low.mid {z : Int} (h : Low z) : Mid z := by
  have := huge_eq
  have := P2_pos 1999
  exact ⟨by have := h.1; omega, by have := h.2; omega⟩

end Go.Proofs.Ytnklbnphiokpiaa
