/- Plain laws of MatTurned: a matrix times its adjugate, the determinant of a product. -/
import Derived.Test.YthoakbjnofhpbaaMpP
set_option linter.unusedVariables false
set_option linter.unusedSimpArgs false
namespace Go.Proofs.Ythoakbjnofhpbaa
open Go.RowKit
def txS (ms : List Int) (F : Nat → Int) (i k : Nat) : Nat → Int
  | 0 => 0
  | q + 1 => txS ms F i k q + ms.getD (3 * i + q) 0 * F (3 * q + k)
def tyS (ms : List Int) (F : Nat → Int) (i k : Nat) : Nat → Int
  | 0 => 0
  | q + 1 => tyS ms F i k q + F (3 * i + q) * ms.getD (3 * q + k) 0
theorem txS_wd {ms : List Int} {F : Nat → Int} (h : ∀ z ∈ ms, Wd 200 z) (h2 : ∀ t, Wd 200 (F t)) (i k : Nat) : ∀ j, Wd (400 + j) (txS ms F i k j)
  | 0 => by show Wd _ 0; unfold Wd; have := two_pos (400 + 0); omega
  | j + 1 => (txS_wd h h2 i k j).add (((getD_wd h _).mul (h2 _)).up (by omega))
theorem tyS_wd {ms : List Int} {F : Nat → Int} (h : ∀ z ∈ ms, Wd 200 z) (h2 : ∀ t, Wd 200 (F t)) (i k : Nat) : ∀ j, Wd (400 + j) (tyS ms F i k j)
  | 0 => by show Wd _ 0; unfold Wd; have := two_pos (400 + 0); omega
  | j + 1 => (tyS_wd h h2 i k j).add (((h2 _).mul (getD_wd h _)).up (by omega))
theorem tx_00 (m0 m1 m2 m3 m4 m5 m6 m7 m8 : Int) : txS [m0, m1, m2, m3, m4, m5, m6, m7, m8] (fun t => cofI [m0, m1, m2, m3, m4, m5, m6, m7, m8] (t % 3) (t / 3)) 0 0 3 = detM [m0, m1, m2, m3, m4, m5, m6, m7, m8] := by
  show 0 + m0 * cofI [m0, m1, m2, m3, m4, m5, m6, m7, m8] 0 0 + m1 * cofI [m0, m1, m2, m3, m4, m5, m6, m7, m8] 0 1 + m2 * cofI [m0, m1, m2, m3, m4, m5, m6, m7, m8] 0 2 = _
  (try unfold detM); simp only [cof_00, cof_01, cof_02, cof_10, cof_11, cof_12, cof_20, cof_21, cof_22, List.getD_cons_zero, List.getD_cons_succ]; grind
theorem ty_00 (m0 m1 m2 m3 m4 m5 m6 m7 m8 : Int) : tyS [m0, m1, m2, m3, m4, m5, m6, m7, m8] (fun t => cofI [m0, m1, m2, m3, m4, m5, m6, m7, m8] (t % 3) (t / 3)) 0 0 3 = detM [m0, m1, m2, m3, m4, m5, m6, m7, m8] := by
  show 0 + cofI [m0, m1, m2, m3, m4, m5, m6, m7, m8] 0 0 * m0 + cofI [m0, m1, m2, m3, m4, m5, m6, m7, m8] 1 0 * m3 + cofI [m0, m1, m2, m3, m4, m5, m6, m7, m8] 2 0 * m6 = _
  (try unfold detM); simp only [cof_00, cof_01, cof_02, cof_10, cof_11, cof_12, cof_20, cof_21, cof_22, List.getD_cons_zero, List.getD_cons_succ]; grind
theorem tx_01 (m0 m1 m2 m3 m4 m5 m6 m7 m8 : Int) : txS [m0, m1, m2, m3, m4, m5, m6, m7, m8] (fun t => cofI [m0, m1, m2, m3, m4, m5, m6, m7, m8] (t % 3) (t / 3)) 0 1 3 = 0 := by
  show 0 + m0 * cofI [m0, m1, m2, m3, m4, m5, m6, m7, m8] 1 0 + m1 * cofI [m0, m1, m2, m3, m4, m5, m6, m7, m8] 1 1 + m2 * cofI [m0, m1, m2, m3, m4, m5, m6, m7, m8] 1 2 = _
  (try unfold detM); simp only [cof_00, cof_01, cof_02, cof_10, cof_11, cof_12, cof_20, cof_21, cof_22, List.getD_cons_zero, List.getD_cons_succ]; grind
theorem ty_01 (m0 m1 m2 m3 m4 m5 m6 m7 m8 : Int) : tyS [m0, m1, m2, m3, m4, m5, m6, m7, m8] (fun t => cofI [m0, m1, m2, m3, m4, m5, m6, m7, m8] (t % 3) (t / 3)) 0 1 3 = 0 := by
  show 0 + cofI [m0, m1, m2, m3, m4, m5, m6, m7, m8] 0 0 * m1 + cofI [m0, m1, m2, m3, m4, m5, m6, m7, m8] 1 0 * m4 + cofI [m0, m1, m2, m3, m4, m5, m6, m7, m8] 2 0 * m7 = _
  (try unfold detM); simp only [cof_00, cof_01, cof_02, cof_10, cof_11, cof_12, cof_20, cof_21, cof_22, List.getD_cons_zero, List.getD_cons_succ]; grind
theorem tx_02 (m0 m1 m2 m3 m4 m5 m6 m7 m8 : Int) : txS [m0, m1, m2, m3, m4, m5, m6, m7, m8] (fun t => cofI [m0, m1, m2, m3, m4, m5, m6, m7, m8] (t % 3) (t / 3)) 0 2 3 = 0 := by
  show 0 + m0 * cofI [m0, m1, m2, m3, m4, m5, m6, m7, m8] 2 0 + m1 * cofI [m0, m1, m2, m3, m4, m5, m6, m7, m8] 2 1 + m2 * cofI [m0, m1, m2, m3, m4, m5, m6, m7, m8] 2 2 = _
  (try unfold detM); simp only [cof_00, cof_01, cof_02, cof_10, cof_11, cof_12, cof_20, cof_21, cof_22, List.getD_cons_zero, List.getD_cons_succ]; grind
theorem ty_02 (m0 m1 m2 m3 m4 m5 m6 m7 m8 : Int) : tyS [m0, m1, m2, m3, m4, m5, m6, m7, m8] (fun t => cofI [m0, m1, m2, m3, m4, m5, m6, m7, m8] (t % 3) (t / 3)) 0 2 3 = 0 := by
  show 0 + cofI [m0, m1, m2, m3, m4, m5, m6, m7, m8] 0 0 * m2 + cofI [m0, m1, m2, m3, m4, m5, m6, m7, m8] 1 0 * m5 + cofI [m0, m1, m2, m3, m4, m5, m6, m7, m8] 2 0 * m8 = _
  (try unfold detM); simp only [cof_00, cof_01, cof_02, cof_10, cof_11, cof_12, cof_20, cof_21, cof_22, List.getD_cons_zero, List.getD_cons_succ]; grind
theorem tx_10 (m0 m1 m2 m3 m4 m5 m6 m7 m8 : Int) : txS [m0, m1, m2, m3, m4, m5, m6, m7, m8] (fun t => cofI [m0, m1, m2, m3, m4, m5, m6, m7, m8] (t % 3) (t / 3)) 1 0 3 = 0 := by
  show 0 + m3 * cofI [m0, m1, m2, m3, m4, m5, m6, m7, m8] 0 0 + m4 * cofI [m0, m1, m2, m3, m4, m5, m6, m7, m8] 0 1 + m5 * cofI [m0, m1, m2, m3, m4, m5, m6, m7, m8] 0 2 = _
  (try unfold detM); simp only [cof_00, cof_01, cof_02, cof_10, cof_11, cof_12, cof_20, cof_21, cof_22, List.getD_cons_zero, List.getD_cons_succ]; grind
theorem ty_10 (m0 m1 m2 m3 m4 m5 m6 m7 m8 : Int) : tyS [m0, m1, m2, m3, m4, m5, m6, m7, m8] (fun t => cofI [m0, m1, m2, m3, m4, m5, m6, m7, m8] (t % 3) (t / 3)) 1 0 3 = 0 := by
  show 0 + cofI [m0, m1, m2, m3, m4, m5, m6, m7, m8] 0 1 * m0 + cofI [m0, m1, m2, m3, m4, m5, m6, m7, m8] 1 1 * m3 + cofI [m0, m1, m2, m3, m4, m5, m6, m7, m8] 2 1 * m6 = _
  (try unfold detM); simp only [cof_00, cof_01, cof_02, cof_10, cof_11, cof_12, cof_20, cof_21, cof_22, List.getD_cons_zero, List.getD_cons_succ]; grind
theorem tx_11 (m0 m1 m2 m3 m4 m5 m6 m7 m8 : Int) : txS [m0, m1, m2, m3, m4, m5, m6, m7, m8] (fun t => cofI [m0, m1, m2, m3, m4, m5, m6, m7, m8] (t % 3) (t / 3)) 1 1 3 = detM [m0, m1, m2, m3, m4, m5, m6, m7, m8] := by
  show 0 + m3 * cofI [m0, m1, m2, m3, m4, m5, m6, m7, m8] 1 0 + m4 * cofI [m0, m1, m2, m3, m4, m5, m6, m7, m8] 1 1 + m5 * cofI [m0, m1, m2, m3, m4, m5, m6, m7, m8] 1 2 = _
  (try unfold detM); simp only [cof_00, cof_01, cof_02, cof_10, cof_11, cof_12, cof_20, cof_21, cof_22, List.getD_cons_zero, List.getD_cons_succ]; grind
theorem ty_11 (m0 m1 m2 m3 m4 m5 m6 m7 m8 : Int) : tyS [m0, m1, m2, m3, m4, m5, m6, m7, m8] (fun t => cofI [m0, m1, m2, m3, m4, m5, m6, m7, m8] (t % 3) (t / 3)) 1 1 3 = detM [m0, m1, m2, m3, m4, m5, m6, m7, m8] := by
  show 0 + cofI [m0, m1, m2, m3, m4, m5, m6, m7, m8] 0 1 * m1 + cofI [m0, m1, m2, m3, m4, m5, m6, m7, m8] 1 1 * m4 + cofI [m0, m1, m2, m3, m4, m5, m6, m7, m8] 2 1 * m7 = _
  (try unfold detM); simp only [cof_00, cof_01, cof_02, cof_10, cof_11, cof_12, cof_20, cof_21, cof_22, List.getD_cons_zero, List.getD_cons_succ]; grind
theorem tx_12 (m0 m1 m2 m3 m4 m5 m6 m7 m8 : Int) : txS [m0, m1, m2, m3, m4, m5, m6, m7, m8] (fun t => cofI [m0, m1, m2, m3, m4, m5, m6, m7, m8] (t % 3) (t / 3)) 1 2 3 = 0 := by
  show 0 + m3 * cofI [m0, m1, m2, m3, m4, m5, m6, m7, m8] 2 0 + m4 * cofI [m0, m1, m2, m3, m4, m5, m6, m7, m8] 2 1 + m5 * cofI [m0, m1, m2, m3, m4, m5, m6, m7, m8] 2 2 = _
  (try unfold detM); simp only [cof_00, cof_01, cof_02, cof_10, cof_11, cof_12, cof_20, cof_21, cof_22, List.getD_cons_zero, List.getD_cons_succ]; grind
theorem ty_12 (m0 m1 m2 m3 m4 m5 m6 m7 m8 : Int) : tyS [m0, m1, m2, m3, m4, m5, m6, m7, m8] (fun t => cofI [m0, m1, m2, m3, m4, m5, m6, m7, m8] (t % 3) (t / 3)) 1 2 3 = 0 := by
  show 0 + cofI [m0, m1, m2, m3, m4, m5, m6, m7, m8] 0 1 * m2 + cofI [m0, m1, m2, m3, m4, m5, m6, m7, m8] 1 1 * m5 + cofI [m0, m1, m2, m3, m4, m5, m6, m7, m8] 2 1 * m8 = _
  (try unfold detM); simp only [cof_00, cof_01, cof_02, cof_10, cof_11, cof_12, cof_20, cof_21, cof_22, List.getD_cons_zero, List.getD_cons_succ]; grind
theorem tx_20 (m0 m1 m2 m3 m4 m5 m6 m7 m8 : Int) : txS [m0, m1, m2, m3, m4, m5, m6, m7, m8] (fun t => cofI [m0, m1, m2, m3, m4, m5, m6, m7, m8] (t % 3) (t / 3)) 2 0 3 = 0 := by
  show 0 + m6 * cofI [m0, m1, m2, m3, m4, m5, m6, m7, m8] 0 0 + m7 * cofI [m0, m1, m2, m3, m4, m5, m6, m7, m8] 0 1 + m8 * cofI [m0, m1, m2, m3, m4, m5, m6, m7, m8] 0 2 = _
  (try unfold detM); simp only [cof_00, cof_01, cof_02, cof_10, cof_11, cof_12, cof_20, cof_21, cof_22, List.getD_cons_zero, List.getD_cons_succ]; grind
theorem ty_20 (m0 m1 m2 m3 m4 m5 m6 m7 m8 : Int) : tyS [m0, m1, m2, m3, m4, m5, m6, m7, m8] (fun t => cofI [m0, m1, m2, m3, m4, m5, m6, m7, m8] (t % 3) (t / 3)) 2 0 3 = 0 := by
  show 0 + cofI [m0, m1, m2, m3, m4, m5, m6, m7, m8] 0 2 * m0 + cofI [m0, m1, m2, m3, m4, m5, m6, m7, m8] 1 2 * m3 + cofI [m0, m1, m2, m3, m4, m5, m6, m7, m8] 2 2 * m6 = _
  (try unfold detM); simp only [cof_00, cof_01, cof_02, cof_10, cof_11, cof_12, cof_20, cof_21, cof_22, List.getD_cons_zero, List.getD_cons_succ]; grind
theorem tx_21 (m0 m1 m2 m3 m4 m5 m6 m7 m8 : Int) : txS [m0, m1, m2, m3, m4, m5, m6, m7, m8] (fun t => cofI [m0, m1, m2, m3, m4, m5, m6, m7, m8] (t % 3) (t / 3)) 2 1 3 = 0 := by
  show 0 + m6 * cofI [m0, m1, m2, m3, m4, m5, m6, m7, m8] 1 0 + m7 * cofI [m0, m1, m2, m3, m4, m5, m6, m7, m8] 1 1 + m8 * cofI [m0, m1, m2, m3, m4, m5, m6, m7, m8] 1 2 = _
  (try unfold detM); simp only [cof_00, cof_01, cof_02, cof_10, cof_11, cof_12, cof_20, cof_21, cof_22, List.getD_cons_zero, List.getD_cons_succ]; grind
theorem ty_21 (m0 m1 m2 m3 m4 m5 m6 m7 m8 : Int) : tyS [m0, m1, m2, m3, m4, m5, m6, m7, m8] (fun t => cofI [m0, m1, m2, m3, m4, m5, m6, m7, m8] (t % 3) (t / 3)) 2 1 3 = 0 := by
  show 0 + cofI [m0, m1, m2, m3, m4, m5, m6, m7, m8] 0 2 * m1 + cofI [m0, m1, m2, m3, m4, m5, m6, m7, m8] 1 2 * m4 + cofI [m0, m1, m2, m3, m4, m5, m6, m7, m8] 2 2 * m7 = _
  (try unfold detM); simp only [cof_00, cof_01, cof_02, cof_10, cof_11, cof_12, cof_20, cof_21, cof_22, List.getD_cons_zero, List.getD_cons_succ]; grind
theorem tx_22 (m0 m1 m2 m3 m4 m5 m6 m7 m8 : Int) : txS [m0, m1, m2, m3, m4, m5, m6, m7, m8] (fun t => cofI [m0, m1, m2, m3, m4, m5, m6, m7, m8] (t % 3) (t / 3)) 2 2 3 = detM [m0, m1, m2, m3, m4, m5, m6, m7, m8] := by
  show 0 + m6 * cofI [m0, m1, m2, m3, m4, m5, m6, m7, m8] 2 0 + m7 * cofI [m0, m1, m2, m3, m4, m5, m6, m7, m8] 2 1 + m8 * cofI [m0, m1, m2, m3, m4, m5, m6, m7, m8] 2 2 = _
  (try unfold detM); simp only [cof_00, cof_01, cof_02, cof_10, cof_11, cof_12, cof_20, cof_21, cof_22, List.getD_cons_zero, List.getD_cons_succ]; grind
theorem ty_22 (m0 m1 m2 m3 m4 m5 m6 m7 m8 : Int) : tyS [m0, m1, m2, m3, m4, m5, m6, m7, m8] (fun t => cofI [m0, m1, m2, m3, m4, m5, m6, m7, m8] (t % 3) (t / 3)) 2 2 3 = detM [m0, m1, m2, m3, m4, m5, m6, m7, m8] := by
  show 0 + cofI [m0, m1, m2, m3, m4, m5, m6, m7, m8] 0 2 * m2 + cofI [m0, m1, m2, m3, m4, m5, m6, m7, m8] 1 2 * m5 + cofI [m0, m1, m2, m3, m4, m5, m6, m7, m8] 2 2 * m8 = _
  (try unfold detM); simp only [cof_00, cof_01, cof_02, cof_10, cof_11, cof_12, cof_20, cof_21, cof_22, List.getD_cons_zero, List.getD_cons_succ]; grind
theorem txy_at (m0 m1 m2 m3 m4 m5 m6 m7 m8 : Int) {i k : Nat} (hi : i < 3) (hk : k < 3) : txS [m0, m1, m2, m3, m4, m5, m6, m7, m8] (fun t => cofI [m0, m1, m2, m3, m4, m5, m6, m7, m8] (t % 3) (t / 3)) i k 3 = (if i = k then detM [m0, m1, m2, m3, m4, m5, m6, m7, m8] else 0) ∧ tyS [m0, m1, m2, m3, m4, m5, m6, m7, m8] (fun t => cofI [m0, m1, m2, m3, m4, m5, m6, m7, m8] (t % 3) (t / 3)) i k 3 = (if i = k then detM [m0, m1, m2, m3, m4, m5, m6, m7, m8] else 0) := by
  match i, k, hi, hk with
  | 0, 0, _, _ => exact ⟨tx_00 m0 m1 m2 m3 m4 m5 m6 m7 m8, ty_00 m0 m1 m2 m3 m4 m5 m6 m7 m8⟩
  | 0, 1, _, _ => exact ⟨tx_01 m0 m1 m2 m3 m4 m5 m6 m7 m8, ty_01 m0 m1 m2 m3 m4 m5 m6 m7 m8⟩
  | 0, 2, _, _ => exact ⟨tx_02 m0 m1 m2 m3 m4 m5 m6 m7 m8, ty_02 m0 m1 m2 m3 m4 m5 m6 m7 m8⟩
  | 1, 0, _, _ => exact ⟨tx_10 m0 m1 m2 m3 m4 m5 m6 m7 m8, ty_10 m0 m1 m2 m3 m4 m5 m6 m7 m8⟩
  | 1, 1, _, _ => exact ⟨tx_11 m0 m1 m2 m3 m4 m5 m6 m7 m8, ty_11 m0 m1 m2 m3 m4 m5 m6 m7 m8⟩
  | 1, 2, _, _ => exact ⟨tx_12 m0 m1 m2 m3 m4 m5 m6 m7 m8, ty_12 m0 m1 m2 m3 m4 m5 m6 m7 m8⟩
  | 2, 0, _, _ => exact ⟨tx_20 m0 m1 m2 m3 m4 m5 m6 m7 m8, ty_20 m0 m1 m2 m3 m4 m5 m6 m7 m8⟩
  | 2, 1, _, _ => exact ⟨tx_21 m0 m1 m2 m3 m4 m5 m6 m7 m8, ty_21 m0 m1 m2 m3 m4 m5 m6 m7 m8⟩
  | 2, 2, _, _ => exact ⟨tx_22 m0 m1 m2 m3 m4 m5 m6 m7 m8, ty_22 m0 m1 m2 m3 m4 m5 m6 m7 m8⟩
theorem getD_i64 {zs : List Int} (h : ∀ z ∈ zs, I64 z) (i : Nat) : I64 (zs.getD i 0) := by
  by_cases hk : i < zs.length
  · have e : zs.getD i 0 = zs[i] := by simp [List.getD, hk]
    rw [e]; exact h _ (List.getElem_mem hk)
  · rw [List.getD_eq_getElem?_getD, List.getElem?_eq_none (by omega)]; exact ⟨by decide, by decide⟩
theorem detM_wd {zs : List Int} (h : ∀ z ∈ zs, I64 z) (h' : ∀ z ∈ zs, I32s z) : Wd 400 (detM zs) := by
  have hc : ∀ r c, Wd 64 (cofI zs r c) := fun r c => by
    have k := cof_in h' r c
    unfold Wd; exact ⟨by omega, by omega⟩
  have hm : ∀ i, Wd 64 (zs.getD i 0) := fun i => (i64_wd (getD_i64 h i)).up (by omega)
  unfold detM
  exact ((((hc 0 0).mul (hm 0)).add ((hc 0 1).mul (hm 1))).add (((hc 0 2).mul (hm 2)).up (by omega))).up (by omega)
theorem det_mul (m0 m1 m2 m3 m4 m5 m6 m7 m8 n0 n1 n2 n3 n4 n5 n6 n7 n8 : Int) : detM [(m0 * n0 + m1 * n3 + m2 * n6), (m0 * n1 + m1 * n4 + m2 * n7), (m0 * n2 + m1 * n5 + m2 * n8), (m3 * n0 + m4 * n3 + m5 * n6), (m3 * n1 + m4 * n4 + m5 * n7), (m3 * n2 + m4 * n5 + m5 * n8), (m6 * n0 + m7 * n3 + m8 * n6), (m6 * n1 + m7 * n4 + m8 * n7), (m6 * n2 + m7 * n5 + m8 * n8)] = detM [m0, m1, m2, m3, m4, m5, m6, m7, m8] * detM [n0, n1, n2, n3, n4, n5, n6, n7, n8] := by
  show cofI [(m0 * n0 + m1 * n3 + m2 * n6), (m0 * n1 + m1 * n4 + m2 * n7), (m0 * n2 + m1 * n5 + m2 * n8), (m3 * n0 + m4 * n3 + m5 * n6), (m3 * n1 + m4 * n4 + m5 * n7), (m3 * n2 + m4 * n5 + m5 * n8), (m6 * n0 + m7 * n3 + m8 * n6), (m6 * n1 + m7 * n4 + m8 * n7), (m6 * n2 + m7 * n5 + m8 * n8)] 0 0 * (m0 * n0 + m1 * n3 + m2 * n6) + cofI [(m0 * n0 + m1 * n3 + m2 * n6), (m0 * n1 + m1 * n4 + m2 * n7), (m0 * n2 + m1 * n5 + m2 * n8), (m3 * n0 + m4 * n3 + m5 * n6), (m3 * n1 + m4 * n4 + m5 * n7), (m3 * n2 + m4 * n5 + m5 * n8), (m6 * n0 + m7 * n3 + m8 * n6), (m6 * n1 + m7 * n4 + m8 * n7), (m6 * n2 + m7 * n5 + m8 * n8)] 0 1 * (m0 * n1 + m1 * n4 + m2 * n7) + cofI [(m0 * n0 + m1 * n3 + m2 * n6), (m0 * n1 + m1 * n4 + m2 * n7), (m0 * n2 + m1 * n5 + m2 * n8), (m3 * n0 + m4 * n3 + m5 * n6), (m3 * n1 + m4 * n4 + m5 * n7), (m3 * n2 + m4 * n5 + m5 * n8), (m6 * n0 + m7 * n3 + m8 * n6), (m6 * n1 + m7 * n4 + m8 * n7), (m6 * n2 + m7 * n5 + m8 * n8)] 0 2 * (m0 * n2 + m1 * n5 + m2 * n8) = (cofI [m0, m1, m2, m3, m4, m5, m6, m7, m8] 0 0 * m0 + cofI [m0, m1, m2, m3, m4, m5, m6, m7, m8] 0 1 * m1 + cofI [m0, m1, m2, m3, m4, m5, m6, m7, m8] 0 2 * m2) * (cofI [n0, n1, n2, n3, n4, n5, n6, n7, n8] 0 0 * n0 + cofI [n0, n1, n2, n3, n4, n5, n6, n7, n8] 0 1 * n1 + cofI [n0, n1, n2, n3, n4, n5, n6, n7, n8] 0 2 * n2)
  rw [cof_00 (m0 * n0 + m1 * n3 + m2 * n6) (m0 * n1 + m1 * n4 + m2 * n7) (m0 * n2 + m1 * n5 + m2 * n8) (m3 * n0 + m4 * n3 + m5 * n6) (m3 * n1 + m4 * n4 + m5 * n7) (m3 * n2 + m4 * n5 + m5 * n8) (m6 * n0 + m7 * n3 + m8 * n6) (m6 * n1 + m7 * n4 + m8 * n7) (m6 * n2 + m7 * n5 + m8 * n8), cof_01 (m0 * n0 + m1 * n3 + m2 * n6) (m0 * n1 + m1 * n4 + m2 * n7) (m0 * n2 + m1 * n5 + m2 * n8) (m3 * n0 + m4 * n3 + m5 * n6) (m3 * n1 + m4 * n4 + m5 * n7) (m3 * n2 + m4 * n5 + m5 * n8) (m6 * n0 + m7 * n3 + m8 * n6) (m6 * n1 + m7 * n4 + m8 * n7) (m6 * n2 + m7 * n5 + m8 * n8), cof_02 (m0 * n0 + m1 * n3 + m2 * n6) (m0 * n1 + m1 * n4 + m2 * n7) (m0 * n2 + m1 * n5 + m2 * n8) (m3 * n0 + m4 * n3 + m5 * n6) (m3 * n1 + m4 * n4 + m5 * n7) (m3 * n2 + m4 * n5 + m5 * n8) (m6 * n0 + m7 * n3 + m8 * n6) (m6 * n1 + m7 * n4 + m8 * n7) (m6 * n2 + m7 * n5 + m8 * n8), cof_00, cof_01, cof_02, cof_00, cof_01, cof_02]
  grind
theorem wide_cells {w : World} {g : Nat} {T : TypeId} {h0 l0 h1 l1 h2 l2 h3 l3 h4 l4 h5 l5 h6 l6 h7 l7 h8 l8 : Int} {F : Nat → Int} (ha : AtB w g #[.int .i64 h0, .int .u64 l0, .int .i64 h1, .int .u64 l1, .int .i64 h2, .int .u64 l2, .int .i64 h3, .int .u64 l3, .int .i64 h4, .int .u64 l4, .int .i64 h5, .int .u64 l5, .int .i64 h6, .int .u64 l6, .int .i64 h7, .int .u64 l7, .int .i64 h8, .int .u64 l8] T) (f0 : W128 (F 0) h0 l0) (f1 : W128 (F 1) h1 l1) (f2 : W128 (F 2) h2 l2) (f3 : W128 (F 3) h3 l3) (f4 : W128 (F 4) h4 l4) (f5 : W128 (F 5) h5 l5) (f6 : W128 (F 6) h6 l6) (f7 : W128 (F 7) h7 l7) (f8 : W128 (F 8) h8 l8) : ∀ t, t < 9 → ∃ h l, (∀ w9, Below w.heap.size w w9 → w9.cell? ⟨g, t * 2, none⟩ = some (.int .i64 h) ∧ w9.cell? ⟨g, t * 2 + 1, none⟩ = some (.int .u64 l)) ∧ W128 (F t) h l := by
  intro t ht
  match t, ht with
  | 0, _ => exact ⟨h0, l0, fun w9 h9 => ⟨(ha.keep h9).cell 0 rfl, (ha.keep h9).cell 1 rfl⟩, f0⟩
  | 1, _ => exact ⟨h1, l1, fun w9 h9 => ⟨(ha.keep h9).cell 2 rfl, (ha.keep h9).cell 3 rfl⟩, f1⟩
  | 2, _ => exact ⟨h2, l2, fun w9 h9 => ⟨(ha.keep h9).cell 4 rfl, (ha.keep h9).cell 5 rfl⟩, f2⟩
  | 3, _ => exact ⟨h3, l3, fun w9 h9 => ⟨(ha.keep h9).cell 6 rfl, (ha.keep h9).cell 7 rfl⟩, f3⟩
  | 4, _ => exact ⟨h4, l4, fun w9 h9 => ⟨(ha.keep h9).cell 8 rfl, (ha.keep h9).cell 9 rfl⟩, f4⟩
  | 5, _ => exact ⟨h5, l5, fun w9 h9 => ⟨(ha.keep h9).cell 10 rfl, (ha.keep h9).cell 11 rfl⟩, f5⟩
  | 6, _ => exact ⟨h6, l6, fun w9 h9 => ⟨(ha.keep h9).cell 12 rfl, (ha.keep h9).cell 13 rfl⟩, f6⟩
  | 7, _ => exact ⟨h7, l7, fun w9 h9 => ⟨(ha.keep h9).cell 14 rfl, (ha.keep h9).cell 15 rfl⟩, f7⟩
  | 8, _ => exact ⟨h8, l8, fun w9 h9 => ⟨(ha.keep h9).cell 16 rfl, (ha.keep h9).cell 17 rfl⟩, f8⟩
  | n + 9, h => omega
end Go.Proofs.Ythoakbjnofhpbaa
