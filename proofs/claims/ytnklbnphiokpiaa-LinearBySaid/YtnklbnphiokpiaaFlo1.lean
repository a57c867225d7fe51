/- The walk of the document's 'short': a small number by a small one. -/
import Derived.Test.YtnklbnphiokpiaaFld
set_option linter.unusedVariables false
namespace Go.Proofs.Ytnklbnphiokpiaa
open Go.RowKit

theorem NR_one {w : World} : NR (w.alloc (.cells #[.int .i64 1] 3)) (.slice (some ⟨w.heap.size, 0, none⟩) 1 1) 1 :=
  ⟨[1], .inr ⟨_, 0, 1, rfl, by simp, ⟨_, _, heap_new _ _⟩, fun i hi => by
    obtain rfl : i = 0 := by simp at hi; omega
    exact one_new w (.int .i64 1) 3 0 _ rfl⟩, ⟨Dig.mk ⟨by omega, by omega⟩ Dig.nil, fun _ => by simp⟩, rfl⟩

theorem P2_lt_of {m n : Nat} (h : m < n) : P2 m < P2 n := by
  have h1 := P2_mono (show m + 1 ≤ n by omega)
  rw [P2_succ] at h1
  have := P2_pos m
  omega

set_option maxRecDepth 20000 in
theorem short_any (u v : Value) (x y : Int) (w : World) (hu : BR w u x) (hv : BR w v y) (hx : (x.natAbs : Int) ≤ 18446744073709551615) (hy : (y.natAbs : Int) ≤ 18446744073709551615) (hy0 : y ≠ 0) :
    Calls Try.prog 107 #[u, v] w (GiveB (x.fdiv y) w) := by
  have CX : Hid (∀ w1, Below w.heap.size w w1 → Calls Try.prog 99 #[u] w1 fun e w' => e = .returned (.int .u64 (x.natAbs : Int)) ∧ Below w1.heap.size w1 w') := fun w1 hw => unsigned_any u x w1 (hu.below hw) hx
  have CY : Hid (∀ w1, Below w.heap.size w w1 → Calls Try.prog 99 #[v] w1 fun e w' => e = .returned (.int .u64 (y.natAbs : Int)) ∧ Below w1.heap.size w1 w') := fun w1 hw => unsigned_any v y w1 (hv.below hw) hy
  have HF := Lib.hid (fdiv_eq x y hy0)
  obtain ⟨A, n, cap, rfl, hn⟩ := hu.form
  obtain ⟨B, m, cap', rfl, hm⟩ := hv.form
  have hy1 : 0 < (y.natAbs : Int) := by omega
  have hx0 : 0 ≤ (x.natAbs : Int) := by omega
  have CU : Hid (∀ w1, Calls Try.prog 59 #[.int .u64 ((x.natAbs : Int) / y.natAbs)] w1 (GiveB ((x.natAbs : Int) / y.natAbs) w1)) := fun w1 => uns_any _ ⟨Int.ediv_nonneg hx0 (by omega), Int.le_trans (Int.ediv_le_self _ hx0) hx⟩ w1
  have hq0 : 0 ≤ (x.natAbs : Int) / y.natAbs := Int.ediv_nonneg hx0 (by omega)
  have hq1 : (x.natAbs : Int) / y.natAbs ≤ 18446744073709551615 := Int.le_trans (Int.ediv_le_self _ hx0) hx
  clear hu hv hn hm hy0
  generalize sgn x = sx at *
  generalize sgn y = sy at *
  generalize (x.natAbs : Int) = p at *
  generalize (y.natAbs : Int) = q at *
  generalize x.fdiv y = z at *
  go_enter Try.func107, Try.ntmps107
  go_wp2_with fail
  refine (CX.out _ (below_new (below_new (below_new (Below.refl _ _) _) _) _)).mono ?_; rintro e w1 ⟨rfl, hb1⟩
  obtain ⟨K1, Z1, B1, H1⟩ := W3.boxes (wr := w1) (W3.size .. ▸ hb1)
  have B1 := Lib.hid B1
  have H1 := Lib.hid H1
  clear hb1
  go_wp2_with fail
  refine (CY.out _ B1.out).mono ?_; rintro e w2 ⟨rfl, hb2⟩
  have K2 := boxes_keep hb2 (Nat.lt_of_succ_lt Z1) K1
  have Z2 : w.heap.size + 2 < w2.heap.size := Nat.lt_of_lt_of_le Z1 hb2.size
  have B2 := Lib.hid (below_next B1.out hb2)
  have H2 := Lib.hid ((hb2.block _ Z1).trans H1.out)
  clear hb2 K1 Z1 B1 H1
  go_wp2_with fail
  refine (CU.out w2).mono ?_; rintro e w3 ⟨r3, rfl, hb3, hr3⟩
  obtain ⟨A3, n3, cap3, rfl, hn3⟩ := hr3.form
  have K3 := boxes_keep hb3 (Nat.lt_of_succ_lt Z2) K2
  have Z3 : w.heap.size + 2 < w3.heap.size := Nat.lt_of_lt_of_le Z2 hb3.size
  have B3 := Lib.hid (below_next B2.out hb3)
  have H3 := Lib.hid ((hb3.block _ Z2).trans H2.out)
  have N3 : Hid (NR w3 (.slice A3 n3 cap3) (p / q)) := by
    have := Lib.hid hn3
    rwa [show ((p / q).natAbs : Int) = p / q by omega] at this
  clear hb3 K2 Z2 B2 H2 hr3 hn3
  generalize sgn (p / q) = s3 at *
  obtain ⟨r0, r1, r2, r3⟩ := box_reads H3.out
  have CM : Hid (∀ b t, z = (if b then -t else t) → t = p / q → Calls Try.prog 60 #[.bool b, .slice A3 n3 cap3] w3 (GiveB z w3)) := fun b t hz ht => made_any b _ t z w3 (by rw [ht]; exact N3.out) hz
  by_cases h1 : sx = sy
  · have HZ : Hid (z = if false then -(p / q) else p / q) := by show _ = _; rw [HF.out, if_pos h1, if_neg (by decide)]
    have e1 : (sx == sy) = true := by simp [h1]
    clear h1
    go_wp2_with fail
    refine (CM.out false _ HZ.out rfl).mono ?_; rintro e w4 ⟨r4, rfl, hb4, hr4⟩
    obtain ⟨A4, n4, cap4, rfl, hn4⟩ := hr4.form
    have H4 := Lib.hid ((hb4.block _ Z3).trans H3.out)
    have B4 := Lib.hid (below_next B3.out hb4)
    have N4 := Lib.hid hn4
    obtain ⟨hc, hf⟩ := below_reads hb4
    clear hb4 hr4 hn4
    go_wp2_with fail
    refine bodyPost_ret (v := .agg #[.bool (sgn z), .slice A4 n4 cap4]) (by unfold results; simp only [Try.results107]; go_simp) rfl ?_
    exact give_box B4.out N4.out H4.out (by omega) rfl
  have e1 : (sx == sy) = false := by simp [h1]
  by_cases h2 : p % q = 0
  · have HZ : Hid (z = if true then -(p / q) else p / q) := by show _ = _; rw [HF.out, if_neg h1, if_pos h2, if_pos rfl]
    clear h1
    go_wp2_with fail
    refine (CM.out true _ HZ.out rfl).mono ?_; rintro e w4 ⟨r4, rfl, hb4, hr4⟩
    obtain ⟨A4, n4, cap4, rfl, hn4⟩ := hr4.form
    have H4 := Lib.hid ((hb4.block _ Z3).trans H3.out)
    have B4 := Lib.hid (below_next B3.out hb4)
    have N4 := Lib.hid hn4
    obtain ⟨hc, hf⟩ := below_reads hb4
    clear hb4 hr4 hn4
    go_wp2_with fail
    refine bodyPost_ret (v := .agg #[.bool (sgn z), .slice A4 n4 cap4]) (by unfold results; simp only [Try.results107]; go_simp) rfl ?_
    exact give_box B4.out N4.out H4.out (by omega) rfl
  · have HZ : Hid (z = if true then -(p / q + 1) else p / q + 1) := by show _ = _; rw [HF.out, if_neg h1, if_neg h2, if_pos rfl]
    clear h1
    have hw3 : Hid (Below w3.heap.size w3 (w3.alloc (.cells #[.int .i64 1] 3))) := below_new (Below.refl _ _) _
    have C1 := Lib.hid (sum_any _ _ _ 1 _ (N3.out.below hw3.out) (NR_one (w := w3)) (Int.lt_trans (b := P2 5) (by rw [P2_5]; omega) (P2_lt_of (by omega))) (Int.lt_trans (b := P2 5) (by rw [P2_5]; omega) (P2_lt_of (by omega))))
    go_wp2_with fail
    refine C1.out.mono ?_; rintro e w5 ⟨r5, rfl, hb5, hr5⟩
    have B5 := Lib.hid (below_next hw3.out hb5)
    have HR5 := Lib.hid hr5
    obtain ⟨A5, n5, cap5, rfl, _⟩ := hr5.form
    clear hr5 hb5
    go_wp2_with fail
    refine (made_any _ _ _ _ _ HR5.out HZ.out).mono ?_; rintro e w4 ⟨r4, rfl, hb4', hr4⟩
    have hb4 := below_next B5.out hb4'
    clear hb4'
    obtain ⟨A4, n4, cap4, rfl, hn4⟩ := hr4.form
    have H4 := Lib.hid ((hb4.block _ Z3).trans H3.out)
    have B4 := Lib.hid (below_next B3.out hb4)
    have N4 := Lib.hid hn4
    obtain ⟨hc, hf⟩ := below_reads hb4
    clear hb4 hr4 hn4
    go_wp2_with fail
    refine bodyPost_ret (v := .agg #[.bool (sgn z), .slice A4 n4 cap4]) (by unfold results; simp only [Try.results107]; go_simp) rfl ?_
    exact give_box B4.out N4.out H4.out (by omega) rfl

end Go.Proofs.Ytnklbnphiokpiaa
