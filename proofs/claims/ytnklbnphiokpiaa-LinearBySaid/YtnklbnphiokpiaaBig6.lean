/- Walks of the document's 'unsigned' and 'Small'. -/
import Derived.Test.YtnklbnphiokpiaaBig5
set_option linter.unusedVariables false
namespace Go.Proofs.Ytnklbnphiokpiaa
open Go.RowKit

/-- The digits from a place on, as the loop gathers them, have room. -/
theorem drop_le {a : List Int} (h : Dig a) (i : Nat) : 0 ≤ bval (a.drop i) ∧ bval (a.drop i) ≤ bval a := by
  have h1 := take_drop_val a i
  have h2 := bval_nonneg (h.drop i)
  have h3 := bval_nonneg (h.take i)
  refine ⟨h2, ?_⟩
  have h4 : 1 * bval (a.drop i) ≤ P2 i * bval (a.drop i) := Int.mul_le_mul_of_nonneg_right (by have := P2_pos i; omega) h2
  omega

theorem unsigned_any (v : Value) (z : Int) (w : World) (h : BR w v z) (hz : (z.natAbs : Int) ≤ 18446744073709551615) :
    Calls Try.prog 99 #[v] w fun e w' => e = .returned (.int .u64 (z.natAbs : Int)) ∧ Below w.heap.size w w' := by
  obtain ⟨A, n, cap, rfl, hn⟩ := h.form
  obtain ⟨ds, hd, hc, hv⟩ := hn
  rw [← hv] at hz ⊢
  have hlen : ds.length ≤ 5 := hc.length_le (by rw [P2_5]; omega)
  rcases hd with ⟨e, rfl⟩ | ⟨b, off, cap', e, h2, ⟨cur, fr, h3⟩, h4⟩
  · injection e with e1 e2 e3
    subst e1 e2 e3
    have HV : Hid (bval [] = 0) := rfl
    clear h
    go_enter Try.func99, Try.ntmps99
    go_wp2
    refine wp_loop_rounds 1 ?_
    rw [rounds_succ]
    go_wp2
    go_ret
    exact ⟨rfl, below_new (Below.refl _ _) _⟩
  · injection e with e1 e2 e3
    subst e1 e2 e3
    have hblt := heap_lt h3
    have HR : Hid (∀ j : Nat, 0 ≤ bval (ds.drop j) ∧ bval (ds.drop j) ≤ 18446744073709551615) := fun j => by have := drop_le hc.1 j; omega
    have HST : Hid (∀ j : Nat, 0 < j → bval (ds.drop (j - 1)) = ds.getD (j - 1) 0 + 32768 * bval (ds.drop j)) := fun j hj => by
      rw [drop_val ds (j - 1), show j - 1 + 1 = j by omega]
    have HD := Lib.hid (fun j : Nat => hc.1.at j)
    clear h hv hc h3
    go_enter Try.func99, Try.ntmps99
    go_wp2
    go_loop [3, 4] (fun x i => ∃ j : Nat, j ≤ ds.length ∧ i = .int .i64 ((j : Int) - 1) ∧ x = .int .u64 (bval (ds.drop j))) (fun x i => (intOf i + 1).toNat)
    case atStart => exact ⟨ds.length, Nat.le_refl _, rfl, by rw [List.drop_of_length_le (Nat.le_refl _)]; rfl⟩
    case round =>
      obtain ⟨j, hj, rfl, rfl⟩ := hrel
      by_cases hj0 : j = 0
      · subst hj0
        clear h4
        go_wp2
        go_ret
        exact ⟨by simp, below_new (Below.refl _ _) _⟩
      · have c := h4 (j - 1) (by omega)
        have d := HD.out (j - 1)
        have hst := HST.out j (by omega)
        have hr := HR.out j
        have hr' := HR.out (j - 1)
        generalize ds.getD (j - 1) 0 = x at c d hst
        generalize hq : bval (ds.drop j) = q at hst hr
        rw [hst] at hr'
        have HS := Lib.hid hst
        obtain ⟨d0, d1⟩ := d
        obtain ⟨r0, r1⟩ := hr
        obtain ⟨s0, s1⟩ := hr'
        clear hst hq h4
        go_wp2
        go_round
        case rel => exact ⟨j - 1, by omega, by go_num, by rw [HS.out]; go_num⟩
        case measure => simp [intOf]; omega

theorem small_any (v : Value) (z : Int) (w : World) (h : BR w v z) (hz : I64 z) :
    Calls Try.prog 67 #[v] w fun e w' => e = .returned (.int .i64 z) ∧ Below w.heap.size w w' := by
  obtain ⟨z0, z1⟩ := hz
  have C1 : Hid (∀ w1, Below w.heap.size w w1 → Calls Try.prog 99 #[v] w1 fun e w' => e = .returned (.int .u64 (z.natAbs : Int)) ∧ Below w1.heap.size w1 w') := fun w1 hw => unsigned_any v z w1 (h.below hw) (by omega)
  obtain ⟨A, n, cap, rfl, hn⟩ := h.form
  clear h hn
  rcases Int.lt_or_le z 0 with hneg | hneg
  · obtain ⟨m, hm⟩ : ∃ m : Int, m = (z.natAbs : Int) := ⟨_, rfl⟩
    rw [← hm] at C1
    have HS := Lib.hid (sgn_t hneg)
    have m0 : 0 ≤ m := by omega
    have m1 : m ≤ 9223372036854775808 := by omega
    have HM : Hid (-m = z ∧ I64 z) := ⟨by omega, z0, z1⟩
    clear hm hneg z0 z1
    go_enter Try.func67, Try.ntmps67
    go_wp2_with fail
    refine (C1.out _ (below_new (Below.refl _ _) _)).mono ?_; rintro e w1 ⟨rfl, hb1⟩
    have HB := Lib.hid (below_next (below_new (Below.refl _ _) _) hb1)
    obtain ⟨hc, hf⟩ := below_reads hb1
    have hs := HS.out
    clear hb1
    go_wp2_with fail
    go_ret
    exact ⟨ret_int (by show wrap64 _ = _; rw [wr_neg, HM.out.1]; exact wr_in HM.out.2.1 HM.out.2.2), HB.out⟩
  · obtain ⟨m, hm⟩ : ∃ m : Int, m = (z.natAbs : Int) := ⟨_, rfl⟩
    rw [← hm] at C1
    obtain rfl : m = z := by omega
    have HS := Lib.hid (sgn_f hneg)
    clear hm
    go_enter Try.func67, Try.ntmps67
    go_wp2_with fail
    refine (C1.out _ (below_new (Below.refl _ _) _)).mono ?_; rintro e w1 ⟨rfl, hb1⟩
    have HB := Lib.hid (below_next (below_new (Below.refl _ _) _) hb1)
    obtain ⟨hc, hf⟩ := below_reads hb1
    have hs := HS.out
    clear hb1
    go_wp2_with fail
    go_ret
    exact ⟨rfl, HB.out⟩

end Go.Proofs.Ytnklbnphiokpiaa
