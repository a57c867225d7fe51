/- Contract of rat.Rat's order; the order of fractions. -/
import Derived.Test.YthdbchghhpoadaaSo4
import Derived.Test.YthdbchghhpoadaaRt2
import Derived.Test.YthdbchghhpoadaaRtO
set_option linter.unusedVariables false
set_option linter.unusedSimpArgs false
namespace Go.Proofs.Ythdbchghhpoadaa
open Go.RowKit
theorem cisnan (x : Int) (w : World) : Calls Try.prog 106 #[.int .i64 x] w fun e w' => e = .returned (.bool false) ∧ w = w' := by
  go_enter Try.func106, Try.ntmps106
  go_wp2_with fail
  go_ret
  exact ⟨rfl, rfl⟩
theorem ccompare (x : Int) (w : World) : Calls Try.prog 80 #[.int .i64 x, .int .i64 0] w fun e w' => e = .returned (.int .i64 (cmpI x 0)) ∧ w = w' := by
  have CN := Lib.hid (fun x w => cisnan x w)
  go_enter Try.func80, Try.ntmps80
  go_wp2_with fail
  refine (CN.out _ _).mono ?_; rintro e w9 ⟨rfl, rfl⟩
  go_wp2_with fail
  refine (CN.out _ _).mono ?_; rintro e w9 ⟨rfl, rfl⟩
  by_cases h1 : x < 0
  · have e1 : Hid (cmpI x 0 = -1) := cmpI_lt h1
    go_wp2_with fail
    go_ret
    exact ⟨by rw [e1.out]; rfl, rfl⟩
  · by_cases h2 : 0 < x
    · have e1 : Hid (cmpI x 0 = 1) := cmpI_gt h2
      go_wp2_with fail
      go_ret
      exact ⟨by rw [e1.out]; rfl, rfl⟩
    · have h3 : x = 0 := by omega
      subst h3
      have e1 : Hid (cmpI 0 0 = 0) := cmpI_eq 0
      go_wp2_with fail
      go_ret
      exact ⟨by rw [e1.out]; rfl, rfl⟩
def OkE (x : E3) : Prop := I64 x.1.1 ∧ I64 x.1.2 ∧ 0 < x.1.2
def clE (x y : E3) : Bool := decide (x.1.1 * y.1.2 < y.1.1 * x.1.2)
def ltE (x y : E3) : Prop := x.1.1 * y.1.2 < y.1.1 * x.1.2 ∨ (x.1.1 * y.1.2 = y.1.1 * x.1.2 ∧ x.2 < y.2)
theorem cmpI_twice (a b : Int) : cmpI (cmpI a b) 0 = cmpI a b := by
  unfold cmpI
  by_cases h : a < b
  · simp [h]
  · by_cases h2 : b < a
    · simp [h, h2]
    · simp [h, h2]
theorem order_any (x y : E3) (hx : OkE x) (hy : OkE y) (w : World) : Calls Try.prog 54 #[.agg #[.int .i64 x.1.1, .int .i64 x.1.2], .agg #[.int .i64 y.1.1, .int .i64 y.1.2]] w fun e w' => (∃ z : Int, e = .returned (.int .i64 z) ∧ (clE x y = true → z < 0) ∧ (clE x y = false → ¬ z < 0)) ∧ Below w.heap.size w w' := by
  have C1 := Lib.hid (fun w => qcmp x.1.1 x.1.2 y.1.1 y.1.2 hx.1 hx.2.1 hy.1 hy.2.1 hx.2.2 hy.2.2 w)
  have C2 := Lib.hid (fun x w => ccompare x w)
  have hE : Hid ((clE x y = true → cmpI (x.1.1 * y.1.2) (y.1.1 * x.1.2) < 0) ∧ (clE x y = false → ¬ cmpI (x.1.1 * y.1.2) (y.1.1 * x.1.2) < 0)) := by
    unfold clE
    refine ⟨fun h => ?_, fun h => ?_⟩
    · rw [cmpI_lt (by simpa using h)]; omega
    · have h' : ¬ x.1.1 * y.1.2 < y.1.1 * x.1.2 := by simpa using h
      have := cmpI_ge (x := x.1.1 * y.1.2) (y := y.1.1 * x.1.2)
      omega
  have hT := Lib.hid (cmpI_twice (x.1.1 * y.1.2) (y.1.1 * x.1.2))
  unfold qv at C1
  generalize cmpI (x.1.1 * y.1.2) (y.1.1 * x.1.2) = z at *
  generalize clE x y = q at *
  generalize x.1.1 = a at *
  generalize x.1.2 = b at *
  generalize y.1.1 = c at *
  generalize y.1.2 = d at *
  clear hx hy
  go_enter Try.func54, Try.ntmps54
  go_wp2_with fail
  have BB := start2 w #[.int .i64 a, .int .i64 b] QT #[.int .i64 c, .int .i64 d] QT
  obtain ⟨BB, hsz, r_a, r_b⟩ := BB
  generalize ((w.alloc (.cells #[.int .i64 a, .int .i64 b] QT)).alloc (.cells #[.int .i64 c, .int .i64 d] QT)) = w0 at *
  replace BB := Lib.hid BB
  replace r_a := Lib.hid r_a
  replace r_b := Lib.hid r_b
  clear hsz
  obtain ⟨c_a0, c_a1, f_a0, f_a1⟩ := reads2 r_a.out
  have l_a := r_a.out.lt
  obtain ⟨c_b0, c_b1, f_b0, f_b1⟩ := reads2 r_b.out
  have l_b := r_b.out.lt
  go_wp2_with fail
  refine (C1.out _).mono ?_
  rintro e w1 ⟨rfl, hb⟩
  clear c_a0 c_a1 f_a0 f_a1 l_a c_b0 c_b1 f_b0 f_b1 l_b
  replace r_a := Lib.hid (r_a.out.keep hb)
  replace r_b := Lib.hid (r_b.out.keep hb)
  replace BB := Lib.hid (below_next BB.out hb)
  clear hb
  go_wp2_with fail
  refine (C2.out _ _).mono ?_
  rintro e w9 ⟨rfl, rfl⟩
  rw [hT.out]
  go_wp2_with fail
  go_ret
  exact ⟨⟨z, rfl, hE.out⟩, BB.out⟩
theorem ltE_tot {x y : E3} (h : clE y x = false) (ht : x.2 < y.2) : ltE x y := by
  unfold clE at h; unfold ltE
  have : ¬ y.1.1 * x.1.2 < x.1.1 * y.1.2 := by simpa using h
  omega
theorem ltE_trans {x y z : E3} (hx : OkE x) (hy : OkE y) (hz : OkE z) (h1 : ltE x y) (h2 : ltE y z) : ltE x z := by
  obtain ⟨⟨a, b⟩, s⟩ := x
  obtain ⟨⟨c, d⟩, t⟩ := y
  obtain ⟨⟨e, f⟩, u⟩ := z
  unfold ltE at *
  unfold OkE at *
  simp only at *
  obtain ⟨-, -, hb⟩ := hx
  obtain ⟨-, -, hd⟩ := hy
  obtain ⟨-, -, hf⟩ := hz
  have m1 : a * d ≤ c * b := by omega
  have m2 : c * f ≤ e * d := by omega
  have k1 : a * d * f ≤ c * b * f := Int.mul_le_mul_of_nonneg_right m1 (by omega)
  have k2 : c * f * b ≤ e * d * b := Int.mul_le_mul_of_nonneg_right m2 (by omega)
  have q1 : c * b * f = c * f * b := Int.mul_right_comm _ _ _
  have q2 : a * d * f = a * f * d := Int.mul_right_comm _ _ _
  have q3 : e * d * b = e * b * d := Int.mul_right_comm _ _ _
  have tot : a * f * d ≤ e * b * d := by omega
  by_cases hlt : a * f < e * b
  · exact .inl hlt
  · refine .inr ⟨?_, ?_⟩
    · have := Int.le_of_mul_le_mul_right tot hd
      omega
    · have heq : a * f = e * b := by have := Int.le_of_mul_le_mul_right tot hd; omega
      have : a * f * d = e * b * d := by rw [heq]
      have n1 : ¬ a * d < c * b := fun h => by
        have := Int.mul_lt_mul_of_pos_right h hf; omega
      have n2 : ¬ c * f < e * d := fun h => by
        have := Int.mul_lt_mul_of_pos_right h hb; omega
      omega
theorem stE : StO ltE (fun x : E3 => x.2) clE OkE where
  trans := fun hx hy hz h1 h2 => ltE_trans hx hy hz h1 h2
  yes := fun {x y} _ _ _ h => .inl (by unfold clE at h; simpa using h)
  no := fun {x y} _ _ ht h => ltE_tot h ht
end Go.Proofs.Ythdbchghhpoadaa
