/- Walks of border.Index and border.Period: which of n things stands at a place. -/
import Derived.Test.YtnklbnphiokpiaaQuot0
set_option linter.unusedVariables false
namespace Go.Proofs.Ytnklbnphiokpiaa
open Go.RowKit

def rLast (n i : Int) : Int := if i < 0 then 0 else n - 1
def rBack (n i : Int) : Int := if i / n % 2 = 0 then i % n else n - 1 - i % n

theorem row_last (n i : Int) (hn : 1 ≤ n) (hn' : n ≤ 9223372036854775807) (w : World) :
    Calls Try.prog 109 #[.agg #[.int .i64 n], .int .i64 i] w fun e w' => e = .returned (.tuple #[.int .i64 (rLast n i), .bool true]) ∧ Below w.heap.size w w' := by
  by_cases h : i < 0
  · have H : Hid (rLast n i = 0) := if_pos h
    go_enter Try.func109, Try.ntmps109
    go_wp2
    go_ret2
    exact ⟨ret_intbool H.out.symm rfl, (Below.refl _ _).alloc (Nat.le_refl _) _⟩
  · have H : Hid (rLast n i = n - 1) := if_neg h
    go_enter Try.func109, Try.ntmps109
    go_wp2
    go_ret2
    exact ⟨ret_intbool H.out.symm rfl, (Below.refl _ _).alloc (Nat.le_refl _) _⟩

theorem row_again (n i : Int) (hn : 1 ≤ n) (hn' : n ≤ 9223372036854775807) (hi : I64 i) (w : World) :
    Calls Try.prog 110 #[.agg #[.int .i64 n], .int .i64 i] w fun e w' => e = .returned (.tuple #[.int .i64 (i % n), .bool true]) ∧ Below w.heap.size w w' := by
  go_enter Try.func110, Try.ntmps110
  go_wp2_with (go_at_call 116; refine (qmod_pos _ _ hi (by omega) (by omega) _).mono ?_; rintro e w' ⟨rfl, rfl⟩)
  go_ret2
  exact ⟨rfl, (Below.refl _ _).alloc (Nat.le_refl _) _⟩

theorem row_back (n i : Int) (hn : 1 ≤ n) (hn' : n ≤ 9223372036854775807) (hi : I64 i) (w : World) :
    Calls Try.prog 111 #[.agg #[.int .i64 n], .int .i64 i] w fun e w' => e = .returned (.tuple #[.int .i64 (rBack n i), .bool true]) ∧ Below w.heap.size w w' := by
  have hm1 := Int.emod_nonneg i (show n ≠ 0 by omega)
  have hm2 := Int.emod_lt_of_pos i (show 0 < n by omega)
  have hq := ediv_bounds hi (show 0 < n by omega)
  obtain ⟨hq1, hq2⟩ := hq
  have hz := @tmod_zero_iff (i / n) 2
  cases h : ((i / n).tmod 2 != 0)
  · have H : Hid (rBack n i = i % n) := if_pos (hz.1 (by simpa using h))
    clear hz
    go_enter Try.func111, Try.ntmps111
    go_wp2_with (first | (go_at_call 116; refine (qmod_pos _ _ hi (by omega) (by omega) _).mono ?_; rintro e w' ⟨rfl, rfl⟩) | (go_at_call 117; refine (qfloor_pos _ _ hi (by omega) (by omega) _).mono ?_; rintro e w' ⟨rfl, rfl⟩))
    go_ret2
    exact ⟨ret_intbool H.out.symm rfl, (Below.refl _ _).alloc (Nat.le_refl _) _⟩
  · have H : Hid (rBack n i = n - 1 - i % n) := if_neg (fun h0 => by have := hz.2 h0; simp [this] at h)
    clear hz
    go_enter Try.func111, Try.ntmps111
    go_wp2_with (first | (go_at_call 116; refine (qmod_pos _ _ hi (by omega) (by omega) _).mono ?_; rintro e w' ⟨rfl, rfl⟩) | (go_at_call 117; refine (qfloor_pos _ _ hi (by omega) (by omega) _).mono ?_; rintro e w' ⟨rfl, rfl⟩))
    go_ret2
    exact ⟨ret_intbool H.out.symm rfl, (Below.refl _ _).alloc (Nat.le_refl _) _⟩

/-! ### which of n things stands at a place: the number, and whether there is one -/
def bOk (mode i n : Int) : Bool := decide (1 ≤ n ∧ 0 ≤ mode ∧ mode ≤ 3 ∧ (0 ≤ i ∧ i < n ∨ mode ≠ 0))
def bI (mode i n : Int) : Int :=
  if bOk mode i n = false then 0 else if 0 ≤ i ∧ i < n then i else if mode = 1 then rLast n i else if mode = 2 then i % n else rBack n i

theorem bOk_t {mode i n : Int} (h : 1 ≤ n ∧ 0 ≤ mode ∧ mode ≤ 3 ∧ (0 ≤ i ∧ i < n ∨ mode ≠ 0)) : bOk mode i n = true := decide_eq_true h
theorem bOk_f {mode i n : Int} (h : ¬ (1 ≤ n ∧ 0 ≤ mode ∧ mode ≤ 3 ∧ (0 ≤ i ∧ i < n ∨ mode ≠ 0))) : bOk mode i n = false := decide_eq_false h
theorem bI_none {mode i n : Int} (h : bOk mode i n = false) : bI mode i n = 0 := if_pos h
theorem bI_in {mode i n : Int} (h : bOk mode i n = true) (hi : 0 ≤ i ∧ i < n) : bI mode i n = i := by unfold bI; rw [if_neg (by simp [h]), if_pos hi]
theorem bI_1 {i n : Int} (h : bOk 1 i n = true) (hi : ¬ (0 ≤ i ∧ i < n)) : bI 1 i n = rLast n i := by unfold bI; rw [if_neg (by simp [h]), if_neg hi, if_pos rfl]
theorem bI_2 {i n : Int} (h : bOk 2 i n = true) (hi : ¬ (0 ≤ i ∧ i < n)) : bI 2 i n = i % n := by unfold bI; rw [if_neg (by simp [h]), if_neg hi, if_neg (by omega), if_pos rfl]
theorem bI_3 {i n : Int} (h : bOk 3 i n = true) (hi : ¬ (0 ≤ i ∧ i < n)) : bI 3 i n = rBack n i := by unfold bI; rw [if_neg (by simp [h]), if_neg hi, if_neg (by omega), if_neg (by omega)]

/-! ### the period, and what stands behind it -/
def bP (mode n : Int) : Int := if mode = 2 then n else if mode = 3 then 2 * n else 0

theorem bOk_period (mode i t n : Int) : bOk mode (i + t * bP mode n) n = bOk mode i n := by
  by_cases c2 : mode = 2
  · subst c2; simp [bOk]
  by_cases c3 : mode = 3
  · subst c3; simp [bOk]
  · have e : bP mode n = 0 := by unfold bP; rw [if_neg c2, if_neg c3]
    rw [e, Int.mul_zero, Int.add_zero]

theorem bI_2_all {i n : Int} (hn : 1 ≤ n) : bI 2 i n = i % n := by
  have h : bOk 2 i n = true := bOk_t (by omega)
  by_cases hi : 0 ≤ i ∧ i < n
  · rw [bI_in h hi, Int.emod_eq_of_lt hi.1 hi.2]
  · exact bI_2 h hi
theorem bI_3_all {i n : Int} (hn : 1 ≤ n) : bI 3 i n = rBack n i := by
  have h : bOk 3 i n = true := bOk_t (by omega)
  by_cases hi : 0 ≤ i ∧ i < n
  · rw [bI_in h hi]
    unfold rBack
    rw [Int.ediv_eq_zero_of_lt hi.1 hi.2, Int.emod_eq_of_lt hi.1 hi.2]
    rfl
  · exact bI_3 h hi

theorem bI_period (mode i t n : Int) (hn : 1 ≤ n) : bI mode (i + t * bP mode n) n = bI mode i n := by
  by_cases c2 : mode = 2
  · subst c2
    rw [bI_2_all hn, bI_2_all hn]
    show (i + t * n) % n = i % n
    exact Int.add_mul_emod_self_right ..
  by_cases c3 : mode = 3
  · subst c3
    rw [bI_3_all hn, bI_3_all hn]
    show rBack n (i + t * (2 * n)) = rBack n i
    unfold rBack
    have e : i + t * (2 * n) = i + (t * 2) * n := by rw [Int.mul_assoc]
    rw [e, Int.add_mul_emod_self_right, Int.add_mul_ediv_right _ _ (by omega : n ≠ 0)]
    have e2 : (i / n + t * 2) % 2 = i / n % 2 := by omega
    rw [e2]
  · have e : bP mode n = 0 := by unfold bP; rw [if_neg c2, if_neg c3]
    rw [e, Int.mul_zero, Int.add_zero]

/-- A step leads to itself or to one beside it. -/
theorem bI_step (mode i n : Int) (hn : 1 ≤ n) (hm : mode = 1 ∨ mode = 3) : bI mode i n - bI mode (i + 1) n ≤ 1 ∧ bI mode (i + 1) n - bI mode i n ≤ 1 := by
  rcases hm with rfl | rfl
  · have h0 : bOk 1 i n = true := bOk_t (by omega)
    have h1 : bOk 1 (i + 1) n = true := bOk_t (by omega)
    by_cases a : 0 ≤ i ∧ i < n
    · by_cases b : 0 ≤ i + 1 ∧ i + 1 < n
      · rw [bI_in h0 a, bI_in h1 b]; omega
      · rw [bI_in h0 a, bI_1 h1 b]
        unfold rLast
        rw [if_neg (by omega)]; omega
    · by_cases b : 0 ≤ i + 1 ∧ i + 1 < n
      · rw [bI_in h1 b, bI_1 h0 a]
        unfold rLast
        split <;> omega
      · rw [bI_1 h1 b, bI_1 h0 a]
        unfold rLast
        split <;> split <;> omega
  · rw [bI_3_all hn, bI_3_all hn]
    have hm1 := Int.emod_nonneg i (show n ≠ 0 by omega)
    have hm2 := Int.emod_lt_of_pos i (show 0 < n by omega)
    have hd := Int.mul_ediv_add_emod i n
    have key : (i % n + 1 < n ∧ (i + 1) / n = i / n ∧ (i + 1) % n = i % n + 1) ∨ (i % n + 1 = n ∧ (i + 1) / n = i / n + 1 ∧ (i + 1) % n = 0) := by
      by_cases h : i % n + 1 < n
      · left
        have e : i + 1 = (i % n + 1) + n * (i / n) := by omega
        refine ⟨h, ?_, ?_⟩
        · rw [e, Int.add_mul_ediv_left _ _ (by omega), Int.ediv_eq_zero_of_lt (by omega) h]; omega
        · rw [e, Int.add_mul_emod_self_left, Int.emod_eq_of_lt (by omega) h]
      · right
        have e : i + 1 = 0 + n * (i / n + 1) := by rw [Int.mul_add, Int.mul_one]; omega
        refine ⟨by omega, ?_, ?_⟩
        · rw [e, Int.add_mul_ediv_left _ _ (by omega), Int.zero_ediv]; omega
        · rw [e, Int.add_mul_emod_self_left, Int.zero_emod]
    unfold rBack
    rcases key with ⟨h1, h2, h3⟩ | ⟨h1, h2, h3⟩
    · rw [h2, h3]
      split <;> omega
    · rw [h2, h3]
      split <;> split <;> omega

theorem bI_bounds {mode i n : Int} (hn : 1 ≤ n) : 0 ≤ bI mode i n ∧ bI mode i n < n := by
  cases h : bOk mode i n
  · rw [bI_none h]; omega
  · by_cases hi : 0 ≤ i ∧ i < n
    · rw [bI_in h hi]; exact hi
    · have hm1 := Int.emod_nonneg i (show n ≠ 0 by omega)
      have hm2 := Int.emod_lt_of_pos i (show 0 < n by omega)
      unfold bI
      rw [if_neg (by simp [h]), if_neg hi]
      unfold rLast rBack
      split
      · split <;> omega
      · split
        · omega
        · split <;> omega

theorem ways_any (w : World) :
    Calls Try.prog 101 #[] w fun e w' => e = .returned (.agg #[.func (.func 108) #[] #[], .func (.func 109) #[] #[], .func (.func 110) #[] #[], .func (.func 111) #[] #[]]) ∧ Below w.heap.size w w' := by
  go_enter Try.func101, Try.ntmps101
  go_wp2
  simp [bodyPost, results, Try.results101, go_sem]
  exact (Below.refl _ _).alloc (Nat.le_refl _) _

theorem row_none (n i : Int) (w : World) :
    Calls Try.prog 108 #[.agg #[.int .i64 n], .int .i64 i] w fun e w' => e = .returned (.tuple #[.int .i64 0, .bool false]) ∧ Below w.heap.size w w' := by
  go_enter Try.func108, Try.ntmps108
  go_wp2
  go_ret2
  exact ⟨rfl, (Below.refl _ _).alloc (Nat.le_refl _) _⟩

theorem bindex_0 (i n : Int) (hi : I64 i) (hn : 1 ≤ n) (hn' : n ≤ 9223372036854775807) (c5 : i < 0 ∨ n ≤ i) (w : World) :
    Calls Try.prog 78 #[.int .i64 0, .int .i64 i, .int .i64 n] w fun e w' => e = .returned (.tuple #[.int .i64 (bI 0 i n), .bool (bOk 0 i n)]) ∧ Below w.heap.size w w' := by
  have i0 : ∀ w, (Instr.index 134 (.agg #[.func (.func 108) #[] #[], .func (.func 109) #[] #[], .func (.func 110) #[] #[], .func (.func 111) #[] #[]]) (.int .i64 0)).run Try.prog w = .ok (.func (.func 108) #[] #[]) w := fun _ => by kernel_rfl
  have H := Lib.hid (bOk_f (mode := 0) (i := i) (n := n) (by omega))
  rcases c5 with c5 | c5
  all_goals
    go_enter Try.func78, Try.ntmps78
    go_wp2_with (first | (go_at_call 101; refine (ways_any _).mono ?_; rintro e w1 ⟨rfl, hb1⟩) | (go_at_call 108; refine (row_none _ _ _).mono ?_; rintro e w2 ⟨rfl, hb2⟩))
    go_ret2
    exact ⟨ret_intbool (bI_none H.out).symm H.out.symm, hb1.trans (hb2.mono hb1.size)⟩

theorem bindex_1 (i n : Int) (hi : I64 i) (hn : 1 ≤ n) (hn' : n ≤ 9223372036854775807) (c5 : i < 0 ∨ n ≤ i) (w : World) :
    Calls Try.prog 78 #[.int .i64 1, .int .i64 i, .int .i64 n] w fun e w' => e = .returned (.tuple #[.int .i64 (bI 1 i n), .bool (bOk 1 i n)]) ∧ Below w.heap.size w w' := by
  have i1 : ∀ w, (Instr.index 134 (.agg #[.func (.func 108) #[] #[], .func (.func 109) #[] #[], .func (.func 110) #[] #[], .func (.func 111) #[] #[]]) (.int .i64 1)).run Try.prog w = .ok (.func (.func 109) #[] #[]) w := fun _ => by kernel_rfl
  have c4 : ¬ (0 ≤ i ∧ i < n) := by omega
  have H := Lib.hid (bOk_t (mode := 1) (i := i) (n := n) (by omega))
  rcases c5 with c5 | c5
  all_goals
    go_enter Try.func78, Try.ntmps78
    go_wp2_with (first | (go_at_call 101; refine (ways_any _).mono ?_; rintro e w1 ⟨rfl, hb1⟩) | (go_at_call 109; refine (row_last _ _ (by omega) (by omega) _).mono ?_; rintro e w2 ⟨rfl, hb2⟩))
    go_ret2
    exact ⟨ret_intbool (bI_1 H.out c4).symm H.out.symm, hb1.trans (hb2.mono hb1.size)⟩

theorem bindex_2 (i n : Int) (hi : I64 i) (hn : 1 ≤ n) (hn' : n ≤ 9223372036854775807) (c5 : i < 0 ∨ n ≤ i) (w : World) :
    Calls Try.prog 78 #[.int .i64 2, .int .i64 i, .int .i64 n] w fun e w' => e = .returned (.tuple #[.int .i64 (bI 2 i n), .bool (bOk 2 i n)]) ∧ Below w.heap.size w w' := by
  have i2 : ∀ w, (Instr.index 134 (.agg #[.func (.func 108) #[] #[], .func (.func 109) #[] #[], .func (.func 110) #[] #[], .func (.func 111) #[] #[]]) (.int .i64 2)).run Try.prog w = .ok (.func (.func 110) #[] #[]) w := fun _ => by kernel_rfl
  have c4 : ¬ (0 ≤ i ∧ i < n) := by omega
  have H := Lib.hid (bOk_t (mode := 2) (i := i) (n := n) (by omega))
  rcases c5 with c5 | c5
  all_goals
    go_enter Try.func78, Try.ntmps78
    go_wp2_with (first | (go_at_call 101; refine (ways_any _).mono ?_; rintro e w1 ⟨rfl, hb1⟩) | (go_at_call 110; refine (row_again _ _ (by omega) (by omega) hi _).mono ?_; rintro e w2 ⟨rfl, hb2⟩))
    go_ret2
    exact ⟨ret_intbool (bI_2 H.out c4).symm H.out.symm, hb1.trans (hb2.mono hb1.size)⟩

theorem bindex_3 (i n : Int) (hi : I64 i) (hn : 1 ≤ n) (hn' : n ≤ 9223372036854775807) (c5 : i < 0 ∨ n ≤ i) (w : World) :
    Calls Try.prog 78 #[.int .i64 3, .int .i64 i, .int .i64 n] w fun e w' => e = .returned (.tuple #[.int .i64 (bI 3 i n), .bool (bOk 3 i n)]) ∧ Below w.heap.size w w' := by
  have i3 : ∀ w, (Instr.index 134 (.agg #[.func (.func 108) #[] #[], .func (.func 109) #[] #[], .func (.func 110) #[] #[], .func (.func 111) #[] #[]]) (.int .i64 3)).run Try.prog w = .ok (.func (.func 111) #[] #[]) w := fun _ => by kernel_rfl
  have c4 : ¬ (0 ≤ i ∧ i < n) := by omega
  have H := Lib.hid (bOk_t (mode := 3) (i := i) (n := n) (by omega))
  rcases c5 with c5 | c5
  all_goals
    go_enter Try.func78, Try.ntmps78
    go_wp2_with (first | (go_at_call 101; refine (ways_any _).mono ?_; rintro e w1 ⟨rfl, hb1⟩) | (go_at_call 111; refine (row_back _ _ (by omega) (by omega) hi _).mono ?_; rintro e w2 ⟨rfl, hb2⟩))
    go_ret2
    exact ⟨ret_intbool (bI_3 H.out c4).symm H.out.symm, hb1.trans (hb2.mono hb1.size)⟩

theorem bindex_any (mode i n : Int) (hm : I64 mode) (hi : I64 i) (hn : I64 n) (w : World) :
    Calls Try.prog 78 #[.int .i64 mode, .int .i64 i, .int .i64 n] w fun e w' => e = .returned (.tuple #[.int .i64 (bI mode i n), .bool (bOk mode i n)]) ∧ Below w.heap.size w w' := by
  have hi' := hi
  obtain ⟨m1, m2⟩ := hm
  obtain ⟨i1, i2⟩ := hi
  obtain ⟨n1, n2⟩ := hn
  by_cases c1 : n < 1
  · have H := Lib.hid (bOk_f (mode := mode) (i := i) (n := n) (by omega))
    go_enter Try.func78, Try.ntmps78
    go_wp2
    go_ret2
    exact ⟨ret_intbool (bI_none H.out).symm H.out.symm, Below.refl _ _⟩
  by_cases c2 : mode < 0
  · have H := Lib.hid (bOk_f (mode := mode) (i := i) (n := n) (by omega))
    go_enter Try.func78, Try.ntmps78
    go_wp2
    go_ret2
    exact ⟨ret_intbool (bI_none H.out).symm H.out.symm, Below.refl _ _⟩
  by_cases c3 : 3 < mode
  · have H := Lib.hid (bOk_f (mode := mode) (i := i) (n := n) (by omega))
    go_enter Try.func78, Try.ntmps78
    go_wp2
    go_ret2
    exact ⟨ret_intbool (bI_none H.out).symm H.out.symm, Below.refl _ _⟩
  by_cases c4 : 0 ≤ i ∧ i < n
  · have H := Lib.hid (bOk_t (mode := mode) (i := i) (n := n) (by omega))
    obtain ⟨c4, c5⟩ := c4
    go_enter Try.func78, Try.ntmps78
    go_wp2
    go_ret2
    exact ⟨ret_intbool (bI_in H.out ⟨c4, c5⟩).symm H.out.symm, Below.refl _ _⟩
  have hmode : mode = 0 ∨ mode = 1 ∨ mode = 2 ∨ mode = 3 := by omega
  have c5 : i < 0 ∨ n ≤ i := by omega
  rcases hmode with rfl | rfl | rfl | rfl
  · exact bindex_0 _ _ hi' (by omega) (by omega) c5 _
  · exact bindex_1 _ _ hi' (by omega) (by omega) c5 _
  · exact bindex_2 _ _ hi' (by omega) (by omega) c5 _
  · exact bindex_3 _ _ hi' (by omega) (by omega) c5 _

end Go.Proofs.Ytnklbnphiokpiaa
