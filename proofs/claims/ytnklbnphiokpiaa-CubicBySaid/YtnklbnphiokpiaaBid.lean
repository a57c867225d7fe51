/- Walks of border.Index and border.Period: which of n things stands at a place. | The walk of BorderPeriod: behind a period the same thing stands again; a step leads to the thing itself or to one beside it. | Walks of the document's border: what is left of a number, also by twice another one; which of n things stands at a place. | Walks of border.Check and of the law BorderIndex. -/
import Derived.Test.YtnklbnphiokpiaaJD
import Derived.Test.YtnklbnphiokpiaaFlo4
import Derived.Test.YtnklbnphiokpiaaJC
set_option linter.unusedVariables false
namespace Go.Proofs.Ytnklbnphiokpiaa
open Go.RowKit

def rLast (n i : Int) : Int := if i < 0 then 0 else n - 1
def rBack (n i : Int) : Int := if i / n % 2 = 0 then i % n else n - 1 - i % n

theorem row_last (n i : Int) (hn : 1 ≤ n) (hn' : n ≤ 9223372036854775807) (w : World) :
    Calls Try.prog 109 #[.agg #[.int .i64 n], .int .i64 i] w fun e w' => e = .returned (.tuple #[.int .i64 (rLast n i), .bool true]) ∧ Below w.heap.size w w' := by
  by_cases h : i < 0
  · have H : Hid (rLast n i = 0) := if_pos h
    go_enter Try.func109, Try.ntmps109
    go_wp2
    go_ret2
    exact ⟨ret_intbool H.out.symm rfl, (Below.refl _ _).alloc (Nat.le_refl _) _⟩
  · have H : Hid (rLast n i = n - 1) := if_neg h
    go_enter Try.func109, Try.ntmps109
    go_wp2
    go_ret2
    exact ⟨ret_intbool H.out.symm rfl, (Below.refl _ _).alloc (Nat.le_refl _) _⟩

theorem row_again (n i : Int) (hn : 1 ≤ n) (hn' : n ≤ 9223372036854775807) (hi : I64 i) (w : World) :
    Calls Try.prog 110 #[.agg #[.int .i64 n], .int .i64 i] w fun e w' => e = .returned (.tuple #[.int .i64 (i % n), .bool true]) ∧ Below w.heap.size w w' := by
  go_enter Try.func110, Try.ntmps110
  go_wp2_with (go_at_call 116; refine (qmod_pos _ _ hi (by omega) (by omega) _).mono ?_; rintro e w' ⟨rfl, rfl⟩)
  go_ret2
  exact ⟨rfl, (Below.refl _ _).alloc (Nat.le_refl _) _⟩

theorem row_back (n i : Int) (hn : 1 ≤ n) (hn' : n ≤ 9223372036854775807) (hi : I64 i) (w : World) :
    Calls Try.prog 111 #[.agg #[.int .i64 n], .int .i64 i] w fun e w' => e = .returned (.tuple #[.int .i64 (rBack n i), .bool true]) ∧ Below w.heap.size w w' := by
  have hm1 := Int.emod_nonneg i (show n ≠ 0 by omega)
  have hm2 := Int.emod_lt_of_pos i (show 0 < n by omega)
  have hq := ediv_bounds hi (show 0 < n by omega)
  obtain ⟨hq1, hq2⟩ := hq
  have hz := @tmod_zero_iff (i / n) 2
  cases h : ((i / n).tmod 2 != 0)
  · have H : Hid (rBack n i = i % n) := if_pos (hz.1 (by simpa using h))
    clear hz
    go_enter Try.func111, Try.ntmps111
    go_wp2_with (first | (go_at_call 116; refine (qmod_pos _ _ hi (by omega) (by omega) _).mono ?_; rintro e w' ⟨rfl, rfl⟩) | (go_at_call 117; refine (qfloor_pos _ _ hi (by omega) (by omega) _).mono ?_; rintro e w' ⟨rfl, rfl⟩))
    go_ret2
    exact ⟨ret_intbool H.out.symm rfl, (Below.refl _ _).alloc (Nat.le_refl _) _⟩
  · have H : Hid (rBack n i = n - 1 - i % n) := if_neg (fun h0 => by have := hz.2 h0; simp [this] at h)
    clear hz
    go_enter Try.func111, Try.ntmps111
    go_wp2_with (first | (go_at_call 116; refine (qmod_pos _ _ hi (by omega) (by omega) _).mono ?_; rintro e w' ⟨rfl, rfl⟩) | (go_at_call 117; refine (qfloor_pos _ _ hi (by omega) (by omega) _).mono ?_; rintro e w' ⟨rfl, rfl⟩))
    go_ret2
    exact ⟨ret_intbool H.out.symm rfl, (Below.refl _ _).alloc (Nat.le_refl _) _⟩

/-! ### which of n things stands at a place: the number, and whether there is one -/
def bOk (mode i n : Int) : Bool := decide (1 ≤ n ∧ 0 ≤ mode ∧ mode ≤ 3 ∧ (0 ≤ i ∧ i < n ∨ mode ≠ 0))
def bI (mode i n : Int) : Int :=
  if bOk mode i n = false then 0 else if 0 ≤ i ∧ i < n then i else if mode = 1 then rLast n i else if mode = 2 then i % n else rBack n i

theorem bOk_t {mode i n : Int} (h : 1 ≤ n ∧ 0 ≤ mode ∧ mode ≤ 3 ∧ (0 ≤ i ∧ i < n ∨ mode ≠ 0)) : bOk mode i n = true := decide_eq_true h
theorem bOk_f {mode i n : Int} (h : ¬ (1 ≤ n ∧ 0 ≤ mode ∧ mode ≤ 3 ∧ (0 ≤ i ∧ i < n ∨ mode ≠ 0))) : bOk mode i n = false := decide_eq_false h
theorem bI_none {mode i n : Int} (h : bOk mode i n = false) : bI mode i n = 0 := if_pos h
theorem bI_in {mode i n : Int} (h : bOk mode i n = true) (hi : 0 ≤ i ∧ i < n) : bI mode i n = i := by unfold bI; rw [if_neg (by simp [h]), if_pos hi]
theorem bI_1 {i n : Int} (h : bOk 1 i n = true) (hi : ¬ (0 ≤ i ∧ i < n)) : bI 1 i n = rLast n i := by unfold bI; rw [if_neg (by simp [h]), if_neg hi, if_pos rfl]
theorem bI_2 {i n : Int} (h : bOk 2 i n = true) (hi : ¬ (0 ≤ i ∧ i < n)) : bI 2 i n = i % n := by unfold bI; rw [if_neg (by simp [h]), if_neg hi, if_neg (by omega), if_pos rfl]
theorem bI_3 {i n : Int} (h : bOk 3 i n = true) (hi : ¬ (0 ≤ i ∧ i < n)) : bI 3 i n = rBack n i := by unfold bI; rw [if_neg (by simp [h]), if_neg hi, if_neg (by omega), if_neg (by omega)]

/-! ### the period, and what stands behind it -/
def bP (mode n : Int) : Int := if mode = 2 then n else if mode = 3 then 2 * n else 0

theorem bOk_period (mode i t n : Int) : bOk mode (i + t * bP mode n) n = bOk mode i n := by
  by_cases c2 : mode = 2
  · subst c2; simp [bOk]
  by_cases c3 : mode = 3
  · subst c3; simp [bOk]
  · have e : bP mode n = 0 := by unfold bP; rw [if_neg c2, if_neg c3]
    rw [e, Int.mul_zero, Int.add_zero]

theorem bI_2_all {i n : Int} (hn : 1 ≤ n) : bI 2 i n = i % n := by
  have h : bOk 2 i n = true := bOk_t (by omega)
  by_cases hi : 0 ≤ i ∧ i < n
  · rw [bI_in h hi, Int.emod_eq_of_lt hi.1 hi.2]
  · exact bI_2 h hi
theorem bI_3_all {i n : Int} (hn : 1 ≤ n) : bI 3 i n = rBack n i := by
  have h : bOk 3 i n = true := bOk_t (by omega)
  by_cases hi : 0 ≤ i ∧ i < n
  · rw [bI_in h hi]
    unfold rBack
    rw [Int.ediv_eq_zero_of_lt hi.1 hi.2, Int.emod_eq_of_lt hi.1 hi.2]
    rfl
  · exact bI_3 h hi

theorem bI_period (mode i t n : Int) (hn : 1 ≤ n) : bI mode (i + t * bP mode n) n = bI mode i n := by
  by_cases c2 : mode = 2
  · subst c2
    rw [bI_2_all hn, bI_2_all hn]
    show (i + t * n) % n = i % n
    exact Int.add_mul_emod_self_right ..
  by_cases c3 : mode = 3
  · subst c3
    rw [bI_3_all hn, bI_3_all hn]
    show rBack n (i + t * (2 * n)) = rBack n i
    unfold rBack
    have e : i + t * (2 * n) = i + (t * 2) * n := by rw [Int.mul_assoc]
    rw [e, Int.add_mul_emod_self_right, Int.add_mul_ediv_right _ _ (by omega : n ≠ 0)]
    have e2 : (i / n + t * 2) % 2 = i / n % 2 := by omega
    rw [e2]
  · have e : bP mode n = 0 := by unfold bP; rw [if_neg c2, if_neg c3]
    rw [e, Int.mul_zero, Int.add_zero]

/-- A step leads to itself or to one beside it. -/
theorem bI_step (mode i n : Int) (hn : 1 ≤ n) (hm : mode = 1 ∨ mode = 3) : bI mode i n - bI mode (i + 1) n ≤ 1 ∧ bI mode (i + 1) n - bI mode i n ≤ 1 := by
  rcases hm with rfl | rfl
  · have h0 : bOk 1 i n = true := bOk_t (by omega)
    have h1 : bOk 1 (i + 1) n = true := bOk_t (by omega)
    by_cases a : 0 ≤ i ∧ i < n
    · by_cases b : 0 ≤ i + 1 ∧ i + 1 < n
      · rw [bI_in h0 a, bI_in h1 b]; omega
      · rw [bI_in h0 a, bI_1 h1 b]
        unfold rLast
        rw [if_neg (by omega)]; omega
    · by_cases b : 0 ≤ i + 1 ∧ i + 1 < n
      · rw [bI_in h1 b, bI_1 h0 a]
        unfold rLast
        split <;> omega
      · rw [bI_1 h1 b, bI_1 h0 a]
        unfold rLast
        split <;> split <;> omega
  · rw [bI_3_all hn, bI_3_all hn]
    have hm1 := Int.emod_nonneg i (show n ≠ 0 by omega)
    have hm2 := Int.emod_lt_of_pos i (show 0 < n by omega)
    have hd := Int.mul_ediv_add_emod i n
    have key : (i % n + 1 < n ∧ (i + 1) / n = i / n ∧ (i + 1) % n = i % n + 1) ∨ (i % n + 1 = n ∧ (i + 1) / n = i / n + 1 ∧ (i + 1) % n = 0) := by
      by_cases h : i % n + 1 < n
      · left
        have e : i + 1 = (i % n + 1) + n * (i / n) := by omega
        refine ⟨h, ?_, ?_⟩
        · rw [e, Int.add_mul_ediv_left _ _ (by omega), Int.ediv_eq_zero_of_lt (by omega) h]; omega
        · rw [e, Int.add_mul_emod_self_left, Int.emod_eq_of_lt (by omega) h]
      · right
        have e : i + 1 = 0 + n * (i / n + 1) := by rw [Int.mul_add, Int.mul_one]; omega
        refine ⟨by omega, ?_, ?_⟩
        · rw [e, Int.add_mul_ediv_left _ _ (by omega), Int.zero_ediv]; omega
        · rw [e, Int.add_mul_emod_self_left, Int.zero_emod]
    unfold rBack
    rcases key with ⟨h1, h2, h3⟩ | ⟨h1, h2, h3⟩
    · rw [h2, h3]
      split <;> omega
    · rw [h2, h3]
      split <;> split <;> omega

theorem bI_bounds {mode i n : Int} (hn : 1 ≤ n) : 0 ≤ bI mode i n ∧ bI mode i n < n := by
  cases h : bOk mode i n
  · rw [bI_none h]; omega
  · by_cases hi : 0 ≤ i ∧ i < n
    · rw [bI_in h hi]; exact hi
    · have hm1 := Int.emod_nonneg i (show n ≠ 0 by omega)
      have hm2 := Int.emod_lt_of_pos i (show 0 < n by omega)
      unfold bI
      rw [if_neg (by simp [h]), if_neg hi]
      unfold rLast rBack
      split
      · split <;> omega
      · split
        · omega
        · split <;> omega

theorem ways_any (w : World) :
    Calls Try.prog 101 #[] w fun e w' => e = .returned (.agg #[.func (.func 108) #[] #[], .func (.func 109) #[] #[], .func (.func 110) #[] #[], .func (.func 111) #[] #[]]) ∧ Below w.heap.size w w' := by
  go_enter Try.func101, Try.ntmps101
  go_wp2
  simp [bodyPost, results, Try.results101, go_sem]
  exact (Below.refl _ _).alloc (Nat.le_refl _) _

theorem row_none (n i : Int) (w : World) :
    Calls Try.prog 108 #[.agg #[.int .i64 n], .int .i64 i] w fun e w' => e = .returned (.tuple #[.int .i64 0, .bool false]) ∧ Below w.heap.size w w' := by
  go_enter Try.func108, Try.ntmps108
  go_wp2
  go_ret2
  exact ⟨rfl, (Below.refl _ _).alloc (Nat.le_refl _) _⟩

theorem bindex_0 (i n : Int) (hi : I64 i) (hn : 1 ≤ n) (hn' : n ≤ 9223372036854775807) (c5 : i < 0 ∨ n ≤ i) (w : World) :
    Calls Try.prog 78 #[.int .i64 0, .int .i64 i, .int .i64 n] w fun e w' => e = .returned (.tuple #[.int .i64 (bI 0 i n), .bool (bOk 0 i n)]) ∧ Below w.heap.size w w' := by
  have i0 : ∀ w, (Instr.index 134 (.agg #[.func (.func 108) #[] #[], .func (.func 109) #[] #[], .func (.func 110) #[] #[], .func (.func 111) #[] #[]]) (.int .i64 0)).run Try.prog w = .ok (.func (.func 108) #[] #[]) w := fun _ => by kernel_rfl
  have H := Lib.hid (bOk_f (mode := 0) (i := i) (n := n) (by omega))
  rcases c5 with c5 | c5
  all_goals
    go_enter Try.func78, Try.ntmps78
    go_wp2_with (first | (go_at_call 101; refine (ways_any _).mono ?_; rintro e w1 ⟨rfl, hb1⟩) | (go_at_call 108; refine (row_none _ _ _).mono ?_; rintro e w2 ⟨rfl, hb2⟩))
    go_ret2
    exact ⟨ret_intbool (bI_none H.out).symm H.out.symm, hb1.trans (hb2.mono hb1.size)⟩

theorem bindex_1 (i n : Int) (hi : I64 i) (hn : 1 ≤ n) (hn' : n ≤ 9223372036854775807) (c5 : i < 0 ∨ n ≤ i) (w : World) :
    Calls Try.prog 78 #[.int .i64 1, .int .i64 i, .int .i64 n] w fun e w' => e = .returned (.tuple #[.int .i64 (bI 1 i n), .bool (bOk 1 i n)]) ∧ Below w.heap.size w w' := by
  have i1 : ∀ w, (Instr.index 134 (.agg #[.func (.func 108) #[] #[], .func (.func 109) #[] #[], .func (.func 110) #[] #[], .func (.func 111) #[] #[]]) (.int .i64 1)).run Try.prog w = .ok (.func (.func 109) #[] #[]) w := fun _ => by kernel_rfl
  have c4 : ¬ (0 ≤ i ∧ i < n) := by omega
  have H := Lib.hid (bOk_t (mode := 1) (i := i) (n := n) (by omega))
  rcases c5 with c5 | c5
  all_goals
    go_enter Try.func78, Try.ntmps78
    go_wp2_with (first | (go_at_call 101; refine (ways_any _).mono ?_; rintro e w1 ⟨rfl, hb1⟩) | (go_at_call 109; refine (row_last _ _ (by omega) (by omega) _).mono ?_; rintro e w2 ⟨rfl, hb2⟩))
    go_ret2
    exact ⟨ret_intbool (bI_1 H.out c4).symm H.out.symm, hb1.trans (hb2.mono hb1.size)⟩

theorem bindex_2 (i n : Int) (hi : I64 i) (hn : 1 ≤ n) (hn' : n ≤ 9223372036854775807) (c5 : i < 0 ∨ n ≤ i) (w : World) :
    Calls Try.prog 78 #[.int .i64 2, .int .i64 i, .int .i64 n] w fun e w' => e = .returned (.tuple #[.int .i64 (bI 2 i n), .bool (bOk 2 i n)]) ∧ Below w.heap.size w w' := by
  have i2 : ∀ w, (Instr.index 134 (.agg #[.func (.func 108) #[] #[], .func (.func 109) #[] #[], .func (.func 110) #[] #[], .func (.func 111) #[] #[]]) (.int .i64 2)).run Try.prog w = .ok (.func (.func 110) #[] #[]) w := fun _ => by kernel_rfl
  have c4 : ¬ (0 ≤ i ∧ i < n) := by omega
  have H := Lib.hid (bOk_t (mode := 2) (i := i) (n := n) (by omega))
  rcases c5 with c5 | c5
  all_goals
    go_enter Try.func78, Try.ntmps78
    go_wp2_with (first | (go_at_call 101; refine (ways_any _).mono ?_; rintro e w1 ⟨rfl, hb1⟩) | (go_at_call 110; refine (row_again _ _ (by omega) (by omega) hi _).mono ?_; rintro e w2 ⟨rfl, hb2⟩))
    go_ret2
    exact ⟨ret_intbool (bI_2 H.out c4).symm H.out.symm, hb1.trans (hb2.mono hb1.size)⟩

theorem bindex_3 (i n : Int) (hi : I64 i) (hn : 1 ≤ n) (hn' : n ≤ 9223372036854775807) (c5 : i < 0 ∨ n ≤ i) (w : World) :
    Calls Try.prog 78 #[.int .i64 3, .int .i64 i, .int .i64 n] w fun e w' => e = .returned (.tuple #[.int .i64 (bI 3 i n), .bool (bOk 3 i n)]) ∧ Below w.heap.size w w' := by
  have i3 : ∀ w, (Instr.index 134 (.agg #[.func (.func 108) #[] #[], .func (.func 109) #[] #[], .func (.func 110) #[] #[], .func (.func 111) #[] #[]]) (.int .i64 3)).run Try.prog w = .ok (.func (.func 111) #[] #[]) w := fun _ => by kernel_rfl
  have c4 : ¬ (0 ≤ i ∧ i < n) := by omega
  have H := Lib.hid (bOk_t (mode := 3) (i := i) (n := n) (by omega))
  rcases c5 with c5 | c5
  all_goals
    go_enter Try.func78, Try.ntmps78
    go_wp2_with (first | (go_at_call 101; refine (ways_any _).mono ?_; rintro e w1 ⟨rfl, hb1⟩) | (go_at_call 111; refine (row_back _ _ (by omega) (by omega) hi _).mono ?_; rintro e w2 ⟨rfl, hb2⟩))
    go_ret2
    exact ⟨ret_intbool (bI_3 H.out c4).symm H.out.symm, hb1.trans (hb2.mono hb1.size)⟩

theorem bindex_any (mode i n : Int) (hm : I64 mode) (hi : I64 i) (hn : I64 n) (w : World) :
    Calls Try.prog 78 #[.int .i64 mode, .int .i64 i, .int .i64 n] w fun e w' => e = .returned (.tuple #[.int .i64 (bI mode i n), .bool (bOk mode i n)]) ∧ Below w.heap.size w w' := by
  have hi' := hi
  obtain ⟨m1, m2⟩ := hm
  obtain ⟨i1, i2⟩ := hi
  obtain ⟨n1, n2⟩ := hn
  by_cases c1 : n < 1
  · have H := Lib.hid (bOk_f (mode := mode) (i := i) (n := n) (by omega))
    go_enter Try.func78, Try.ntmps78
    go_wp2
    go_ret2
    exact ⟨ret_intbool (bI_none H.out).symm H.out.symm, Below.refl _ _⟩
  by_cases c2 : mode < 0
  · have H := Lib.hid (bOk_f (mode := mode) (i := i) (n := n) (by omega))
    go_enter Try.func78, Try.ntmps78
    go_wp2
    go_ret2
    exact ⟨ret_intbool (bI_none H.out).symm H.out.symm, Below.refl _ _⟩
  by_cases c3 : 3 < mode
  · have H := Lib.hid (bOk_f (mode := mode) (i := i) (n := n) (by omega))
    go_enter Try.func78, Try.ntmps78
    go_wp2
    go_ret2
    exact ⟨ret_intbool (bI_none H.out).symm H.out.symm, Below.refl _ _⟩
  by_cases c4 : 0 ≤ i ∧ i < n
  · have H := Lib.hid (bOk_t (mode := mode) (i := i) (n := n) (by omega))
    obtain ⟨c4, c5⟩ := c4
    go_enter Try.func78, Try.ntmps78
    go_wp2
    go_ret2
    exact ⟨ret_intbool (bI_in H.out ⟨c4, c5⟩).symm H.out.symm, Below.refl _ _⟩
  have hmode : mode = 0 ∨ mode = 1 ∨ mode = 2 ∨ mode = 3 := by omega
  have c5 : i < 0 ∨ n ≤ i := by omega
  rcases hmode with rfl | rfl | rfl | rfl
  · exact bindex_0 _ _ hi' (by omega) (by omega) c5 _
  · exact bindex_1 _ _ hi' (by omega) (by omega) c5 _
  · exact bindex_2 _ _ hi' (by omega) (by omega) c5 _
  · exact bindex_3 _ _ hi' (by omega) (by omega) c5 _

end Go.Proofs.Ytnklbnphiokpiaa

set_option linter.unusedVariables false
namespace Go.Proofs.Ytnklbnphiokpiaa
open Go.RowKit

theorem border_alive (w : World) :
    Calls Try.prog 40 #[] w fun e w' => e = .returned (.bool true) ∧ Below w.heap.size w w' := by
  have e1 := Lib.hid (show bI 3 (-1) 3 = 0 from by decide)
  have e2 := Lib.hid (show bI 3 5 3 = 0 from by decide)
  have e3 := Lib.hid (show bI 2 (-1) 3 = 2 from by decide)
  have e4 := Lib.hid (show bOk 2 (-1) 3 = true from by decide)
  have c1 := fun w => (bindex_any 3 (-1) 3 ⟨by omega, by omega⟩ ⟨by omega, by omega⟩ ⟨by omega, by omega⟩ w)
  have c2 := fun w => (bindex_any 3 5 3 ⟨by omega, by omega⟩ ⟨by omega, by omega⟩ ⟨by omega, by omega⟩ w)
  have c3 := fun w => (bindex_any 2 (-1) 3 ⟨by omega, by omega⟩ ⟨by omega, by omega⟩ ⟨by omega, by omega⟩ w)
  simp only [e1.out, e2.out, e3.out, e4.out] at c1 c2 c3
  have C1 := Lib.hid c1; have C2 := Lib.hid c2; have C3 := Lib.hid c3
  clear c1 c2 c3 e1 e2 e3 e4
  go_enter Try.func40, Try.ntmps40
  go_wp2_with fail
  refine (C1.out _).mono ?_; rintro e w1 ⟨rfl, hb1⟩
  go_wp2_with fail
  refine (C2.out _).mono ?_; rintro e w2 ⟨rfl, hb2⟩
  go_wp2_with fail
  refine (C3.out _).mono ?_; rintro e w3 ⟨rfl, hb3⟩
  go_wp2_with fail
  go_ret
  exact ⟨rfl, hb1.trans ((hb2.mono hb1.size).trans (hb3.mono (Nat.le_trans hb1.size hb2.size)))⟩

theorem bP_bounds (mode n : Int) (h1 : 1 ≤ n) (h2 : n ≤ 2147483648) : 0 ≤ bP mode n ∧ bP mode n ≤ 4294967296 := by
  unfold bP; split
  · omega
  · split <;> omega

/-- A quarter of a million times a period has room. -/
theorem times_bounds (times p : Int) (t1 : -32768 ≤ times) (t2 : times ≤ 32767) (p1 : 0 ≤ p) (p2 : p ≤ 4294967296) : -140737488355328 ≤ times * p ∧ times * p ≤ 140737488355328 := by
  constructor
  · have h : -32768 * p ≤ times * p := Int.mul_le_mul_of_nonneg_right t1 p1
    omega
  · have h : times * p ≤ 32767 * p := Int.mul_le_mul_of_nonneg_right t2 p1
    omega

end Go.Proofs.Ytnklbnphiokpiaa

set_option linter.unusedVariables false
namespace Go.Proofs.Ytnklbnphiokpiaa
open Go.RowKit

theorem fdiv_pos {i n : Int} (hn : 1 ≤ n) : i.fdiv n = i / n := Int.fdiv_eq_ediv_of_nonneg _ (by omega)
theorem i64_emod {i n : Int} (hn : 1 ≤ n) (hn' : n ≤ 9223372036854775807) : I64 (i % n) := by
  have m0 := Int.emod_nonneg i (show n ≠ 0 by omega)
  have m1 := Int.emod_lt_of_pos i (show 0 < n by omega)
  unfold I64; omega

set_option maxHeartbeats 1000000 in
theorem left_any (i n : Int) (hi : I64 i) (hn : 1 ≤ n) (hn' : n ≤ 9223372036854775807) (w : World) :
    Calls Try.prog 102 #[.int .i64 i, .int .i64 n] w fun e w' => e = .returned (.int .i64 (i % n)) ∧ Below w.heap.size w w' := by
  have hN : I64 n := ⟨by omega, by omega⟩
  have CO := Lib.hid (fun w => of_any i hi w)
  have CN := Lib.hid (fun w => of_any n hN w)
  have CF := Lib.hid (fun (a b : Value) w1 (ha : BR w1 a i) (hb : BR w1 b n) => floor_any a b i n w1 ha hb (i64_mid' hi) ((i64_wd hN).low (by omega)) (by omega))
  have wq : Wd 64 (i.fdiv n) := (i64_wd hi).fdiv
  have CM := Lib.hid (fun (a b : Value) w1 (ha : BR w1 a (i.fdiv n)) (hb : BR w1 b n) => mul_any a b _ n w1 ha hb (wq.mid (by omega)) (i64_mid' hN))
  have CS := Lib.hid (fun (a b : Value) w1 (ha : BR w1 a i) (hb : BR w1 b (i.fdiv n * n)) => sub_any a b i _ w1 ha hb (i64_mid' hi) ((wq.mul (i64_wd hN)).mid (by omega)))
  rw [show i - i.fdiv n * n = i % n by rw [fdiv_pos hn, Int.emod_def, Int.mul_comm]] at CS
  have CI := Lib.hid (fun (a : Value) w1 (ha : BR w1 a (i % n)) => small_any a (i % n) w1 ha (i64_emod hn hn'))
  clear hN wq hi hn hn'
  generalize i % n = m at *
  generalize i.fdiv n * n = p at *
  generalize i.fdiv n = q at *
  go_enter Try.func102, Try.ntmps102
  go_wp2_with fail
  have BB : Hid (Below w.heap.size w w) := Below.refl _ _
  refine (CO.out _).mono ?_
  rintro e w1 ⟨v_a, rfl, hb, h_a⟩
  obtain ⟨A_a, n_a, cap_a, rfl, -⟩ := id h_a.form
  replace h_a := Lib.hid h_a
  replace BB := Lib.hid (below_next BB.out hb)
  clear hb
  go_wp2_with fail
  have d_a := Lib.hid (And.intro BB.out.size (True.intro))
  obtain ⟨hb, r_a⟩ := laid w1 #[.bool (sgn (i)), .slice A_a n_a cap_a] 38
  replace h_a := Lib.hid (h_a.out.below hb)
  replace BB := Lib.hid (below_next BB.out hb)
  replace r_a := Lib.hid r_a
  clear hb
  generalize w1.alloc (.cells #[.bool (sgn (i)), .slice A_a n_a cap_a] 38) = w2 at *
  generalize w1.heap.size = g_a at *
  refine (CN.out _).mono ?_
  rintro e w3 ⟨v_b, rfl, hb, h_b⟩
  obtain ⟨A_b, n_b, cap_b, rfl, -⟩ := id h_b.form
  replace h_b := Lib.hid h_b
  replace r_a := Lib.hid (r_a.out.keep hb)
  replace h_a := Lib.hid (h_a.out.below hb)
  replace BB := Lib.hid (below_next BB.out hb)
  clear hb
  go_wp2_with fail
  have d_b := Lib.hid (And.intro BB.out.size (And.intro r_a.out.lt (True.intro)))
  obtain ⟨hb, r_b⟩ := laid w3 #[.bool (sgn (n)), .slice A_b n_b cap_b] 38
  replace r_a := Lib.hid (r_a.out.keep hb)
  replace h_a := Lib.hid (h_a.out.below hb)
  replace h_b := Lib.hid (h_b.out.below hb)
  replace BB := Lib.hid (below_next BB.out hb)
  replace r_b := Lib.hid r_b
  clear hb
  generalize w3.alloc (.cells #[.bool (sgn (n)), .slice A_b n_b cap_b] 38) = w4 at *
  generalize w3.heap.size = g_b at *
  have KK := Lib.hid (fun (w9 : World) (h : Below w4.heap.size w4 w9) => (⟨cells2 (r_a.out.keep h), cells2 (r_b.out.keep h)⟩ : (w9.cell? ⟨g_a, 0, none⟩ = some (.bool (sgn (i))) ∧ w9.cell? ⟨g_a, 1, none⟩ = some (.slice A_a n_a cap_a)) ∧ (w9.cell? ⟨g_b, 0, none⟩ = some (.bool (sgn (n))) ∧ w9.cell? ⟨g_b, 1, none⟩ = some (.slice A_b n_b cap_b))))
  have K0 := KK.out w4 (Below.refl _ _)
  have KD := KK.out w4.drew (below_drew (Below.refl _ _))
  go_region_held3 (fun w9 => (w9.cell? ⟨g_a, 0, none⟩ = some (.bool (sgn (i))) ∧ w9.cell? ⟨g_a, 1, none⟩ = some (.slice A_a n_a cap_a)) ∧ (w9.cell? ⟨g_b, 0, none⟩ = some (.bool (sgn (n))) ∧ w9.cell? ⟨g_b, 1, none⟩ = some (.slice A_b n_b cap_b)))
      (first | with_reducible exact KD | with_reducible exact K0 | with_reducible exact K_w5 | with_reducible exact K_w6 | with_reducible exact K_w7 | with_reducible exact K_w8)
      (first
        | (go_at_call 98
           refine (CF.out _ _ _ (h_a.out.below ?_) (h_b.out.below ?_)).mono ?_
           · repeat (first | with_reducible exact Below.refl _ _ | with_reducible apply below_drew | with_reducible apply below_new)
           · repeat (first | with_reducible exact Below.refl _ _ | with_reducible apply below_drew | with_reducible apply below_new)
           rintro e w5 ⟨v_q, rfl, hb, h_q⟩
           obtain ⟨A_q, n_q, cap_q, rfl, -⟩ := id h_q.form
           replace h_q := Lib.hid h_q
           have B_w5 := Lib.hid (reg_next (w0 := w4) (by repeat (first | with_reducible exact Below.refl _ _ | with_reducible apply below_drew | with_reducible apply below_new)) hb)
           have K_w5 := KK.out _ B_w5.out
           clear hb)
        | (go_at_call 21
           refine (CM.out _ _ _ h_q.out (h_b.out.below B_w5.out)).mono ?_
           rintro e w6 ⟨v_p, rfl, hb, h_p⟩
           obtain ⟨A_p, n_p, cap_p, rfl, -⟩ := id h_p.form
           replace h_p := Lib.hid h_p
           replace h_q := Lib.hid (h_q.out.below hb)
           have B_w6 := Lib.hid (below_next B_w5.out hb)
           have K_w6 := KK.out _ B_w6.out
           clear hb)
        | (go_at_call 65
           refine (CS.out _ _ _ (h_a.out.below B_w6.out) h_p.out).mono ?_
           rintro e w7 ⟨v_s, rfl, hb, h_s⟩
           obtain ⟨A_s, n_s, cap_s, rfl, -⟩ := id h_s.form
           replace h_s := Lib.hid h_s
           replace h_q := Lib.hid (h_q.out.below hb)
           replace h_p := Lib.hid (h_p.out.below hb)
           have B_w7 := Lib.hid (below_next B_w6.out hb)
           have K_w7 := KK.out _ B_w7.out
           clear hb)
        | (go_at_call 67
           refine (CI.out _ _ h_s.out).mono ?_
           rintro e w8 ⟨rfl, hb⟩
           replace h_q := Lib.hid (h_q.out.below hb)
           replace h_p := Lib.hid (h_p.out.below hb)
           replace h_s := Lib.hid (h_s.out.below hb)
           have B_w8 := Lib.hid (below_next B_w7.out hb)
           have K_w8 := KK.out _ B_w8.out
           clear hb))
  clear KK K0 KD K_w5 K_w6 K_w7 K_w8
  replace r_a := Lib.hid (r_a.out.keep B_w8.out)
  replace r_b := Lib.hid (r_b.out.keep B_w8.out)
  replace h_a := Lib.hid (h_a.out.below B_w8.out)
  replace h_b := Lib.hid (h_b.out.below B_w8.out)
  replace BB := Lib.hid (below_next BB.out B_w8.out)
  clear B_w5 B_w6 B_w7 B_w8
  go_wp2_with fail
  go_ret
  exact ⟨rfl, BB.out⟩

set_option maxHeartbeats 1000000 in
theorem twice_any (i n : Int) (hi : I64 i) (hn : 1 ≤ n) (hn' : n ≤ 9223372036854775807) (w : World) :
    Calls Try.prog 103 #[.int .i64 i, .int .i64 n] w (GiveB (i % (n + n)) w) := by
  have hN : I64 n := ⟨by omega, by omega⟩
  have w2 : Wd 64 (n + n) := (i64_wd hN).add (i64_wd hN)
  have wq : Wd 64 (i.fdiv (n + n)) := (i64_wd hi).fdiv
  have CO := Lib.hid (fun w => of_any i hi w)
  have CN := Lib.hid (fun w => of_any n hN w)
  have CA := Lib.hid (fun (a b : Value) w1 (ha : BR w1 a n) (hb : BR w1 b n) => add_any a b n n w1 ha hb (i64_mid' hN) (i64_mid' hN))
  have CF := Lib.hid (fun (a b : Value) w1 (ha : BR w1 a i) (hb : BR w1 b (n + n)) => floor_any a b i (n + n) w1 ha hb (i64_mid' hi) (w2.low (by omega)) (by omega))
  have CM := Lib.hid (fun (a b : Value) w1 (ha : BR w1 a (i.fdiv (n + n))) (hb : BR w1 b (n + n)) => mul_any a b _ (n + n) w1 ha hb (wq.mid (by omega)) (w2.mid (by omega)))
  have CS := Lib.hid (fun (a b : Value) w1 (ha : BR w1 a i) (hb : BR w1 b (i.fdiv (n + n) * (n + n))) => sub_any a b i _ w1 ha hb (i64_mid' hi) ((wq.mul w2).mid (by omega)))
  rw [show i - i.fdiv (n + n) * (n + n) = i % (n + n) by rw [fdiv_pos (by omega), Int.emod_def, Int.mul_comm]] at CS
  clear hN wq w2 hi hn hn'
  generalize i % (n + n) = m at *
  generalize i.fdiv (n + n) * (n + n) = p at *
  generalize i.fdiv (n + n) = q at *
  generalize n + n = t at *
  go_enter Try.func103, Try.ntmps103
  go_wp2_with fail
  have BB := start1 w #[.bool false, .slice none 0 0] 38
  obtain ⟨BB, hsz, r_res⟩ := BB
  generalize (w.alloc (.cells #[.bool false, .slice none 0 0] 38)) = w0 at *
  replace BB := Lib.hid BB
  replace r_res := Lib.hid r_res
  clear hsz
  refine (CO.out _).mono ?_
  rintro e w1 ⟨v_a, rfl, hb, h_a⟩
  obtain ⟨A_a, n_a, cap_a, rfl, -⟩ := id h_a.form
  replace h_a := Lib.hid h_a
  replace r_res := Lib.hid (r_res.out.keep hb)
  replace BB := Lib.hid (below_next BB.out hb)
  clear hb
  go_wp2_with fail
  have d_a := Lib.hid (And.intro BB.out.size (And.intro r_res.out.lt (True.intro)))
  obtain ⟨hb, r_a⟩ := laid w1 #[.bool (sgn (i)), .slice A_a n_a cap_a] 38
  replace r_res := Lib.hid (r_res.out.keep hb)
  replace h_a := Lib.hid (h_a.out.below hb)
  replace BB := Lib.hid (below_next BB.out hb)
  replace r_a := Lib.hid r_a
  clear hb
  generalize w1.alloc (.cells #[.bool (sgn (i)), .slice A_a n_a cap_a] 38) = w2 at *
  generalize w1.heap.size = g_a at *
  refine (CN.out _).mono ?_
  rintro e w3 ⟨v_x, rfl, hb, h_x⟩
  obtain ⟨A_x, n_x, cap_x, rfl, -⟩ := id h_x.form
  replace h_x := Lib.hid h_x
  replace r_res := Lib.hid (r_res.out.keep hb)
  replace r_a := Lib.hid (r_a.out.keep hb)
  replace h_a := Lib.hid (h_a.out.below hb)
  replace BB := Lib.hid (below_next BB.out hb)
  clear hb
  go_wp2_with fail
  refine (CN.out _).mono ?_
  rintro e w4 ⟨v_y, rfl, hb, h_y⟩
  obtain ⟨A_y, n_y, cap_y, rfl, -⟩ := id h_y.form
  replace h_y := Lib.hid h_y
  replace r_res := Lib.hid (r_res.out.keep hb)
  replace r_a := Lib.hid (r_a.out.keep hb)
  replace h_a := Lib.hid (h_a.out.below hb)
  replace h_x := Lib.hid (h_x.out.below hb)
  replace BB := Lib.hid (below_next BB.out hb)
  clear hb
  go_wp2_with fail
  refine (CA.out _ _ _ h_x.out h_y.out).mono ?_
  rintro e w5 ⟨v_t, rfl, hb, h_t⟩
  obtain ⟨A_t, n_t, cap_t, rfl, -⟩ := id h_t.form
  replace h_t := Lib.hid h_t
  replace r_res := Lib.hid (r_res.out.keep hb)
  replace r_a := Lib.hid (r_a.out.keep hb)
  replace h_a := Lib.hid (h_a.out.below hb)
  replace h_x := Lib.hid (h_x.out.below hb)
  replace h_y := Lib.hid (h_y.out.below hb)
  replace BB := Lib.hid (below_next BB.out hb)
  clear hb
  clear h_x h_y
  go_wp2_with fail
  have d_t := Lib.hid (And.intro BB.out.size (And.intro r_res.out.lt (And.intro r_a.out.lt (True.intro))))
  obtain ⟨hb, r_t⟩ := laid w5 #[.bool (sgn (t)), .slice A_t n_t cap_t] 38
  replace r_res := Lib.hid (r_res.out.keep hb)
  replace r_a := Lib.hid (r_a.out.keep hb)
  replace h_a := Lib.hid (h_a.out.below hb)
  replace h_t := Lib.hid (h_t.out.below hb)
  replace BB := Lib.hid (below_next BB.out hb)
  replace r_t := Lib.hid r_t
  clear hb
  generalize w5.alloc (.cells #[.bool (sgn (t)), .slice A_t n_t cap_t] 38) = w6 at *
  generalize w5.heap.size = g_t at *
  have KK := Lib.hid (fun (w9 : World) (h : Below w6.heap.size w6 w9) => (⟨cells2 (r_a.out.keep h), cells2 (r_t.out.keep h)⟩ : (w9.cell? ⟨g_a, 0, none⟩ = some (.bool (sgn (i))) ∧ w9.cell? ⟨g_a, 1, none⟩ = some (.slice A_a n_a cap_a)) ∧ (w9.cell? ⟨g_t, 0, none⟩ = some (.bool (sgn (t))) ∧ w9.cell? ⟨g_t, 1, none⟩ = some (.slice A_t n_t cap_t))))
  have K0 := KK.out w6 (Below.refl _ _)
  have KD := KK.out w6.drew (below_drew (Below.refl _ _))
  go_region_held3 (fun w9 => (w9.cell? ⟨g_a, 0, none⟩ = some (.bool (sgn (i))) ∧ w9.cell? ⟨g_a, 1, none⟩ = some (.slice A_a n_a cap_a)) ∧ (w9.cell? ⟨g_t, 0, none⟩ = some (.bool (sgn (t))) ∧ w9.cell? ⟨g_t, 1, none⟩ = some (.slice A_t n_t cap_t)))
      (first | with_reducible exact KD | with_reducible exact K0 | with_reducible exact K_w7 | with_reducible exact K_w8 | with_reducible exact K_w9 | with_reducible exact ⟨cells2 ((r_a.out.keep B_w9.out).far2 (by have dd_a := d_a.out; omega) _ _), cells2 ((r_t.out.keep B_w9.out).far2 (by have dd_t := d_t.out; omega) _ _)⟩)
      (first
        | (go_at_call 98
           refine (CF.out _ _ _ (h_a.out.below ?_) (h_t.out.below ?_)).mono ?_
           · repeat (first | with_reducible exact Below.refl _ _ | with_reducible apply below_drew | with_reducible apply below_new)
           · repeat (first | with_reducible exact Below.refl _ _ | with_reducible apply below_drew | with_reducible apply below_new)
           rintro e w7 ⟨v_q, rfl, hb, h_q⟩
           obtain ⟨A_q, n_q, cap_q, rfl, -⟩ := id h_q.form
           replace h_q := Lib.hid h_q
           have B_w7 := Lib.hid (reg_next (w0 := w6) (by repeat (first | with_reducible exact Below.refl _ _ | with_reducible apply below_drew | with_reducible apply below_new)) hb)
           have K_w7 := KK.out _ B_w7.out
           clear hb)
        | (go_at_call 21
           refine (CM.out _ _ _ h_q.out (h_t.out.below B_w7.out)).mono ?_
           rintro e w8 ⟨v_p, rfl, hb, h_p⟩
           obtain ⟨A_p, n_p, cap_p, rfl, -⟩ := id h_p.form
           replace h_p := Lib.hid h_p
           replace h_q := Lib.hid (h_q.out.below hb)
           have B_w8 := Lib.hid (below_next B_w7.out hb)
           have K_w8 := KK.out _ B_w8.out
           clear hb)
        | (go_at_call 65
           refine (CS.out _ _ _ (h_a.out.below B_w8.out) h_p.out).mono ?_
           rintro e w9 ⟨v_s, rfl, hb, h_s⟩
           obtain ⟨A_s, n_s, cap_s, rfl, -⟩ := id h_s.form
           replace h_s := Lib.hid h_s
           replace h_q := Lib.hid (h_q.out.below hb)
           replace h_p := Lib.hid (h_p.out.below hb)
           have B_w9 := Lib.hid (below_next B_w8.out hb)
           have K_w9 := KK.out _ B_w9.out
           obtain ⟨rc_res0, rc_res1, rf_res0, rf_res1⟩ := reads2 (r_res.out.keep B_w9.out)
           have rl_res := (r_res.out.keep B_w9.out).lt
           clear hb))
  clear KK K0 KD K_w7 K_w8 K_w9
  replace r_res := Lib.hid (r_res.out.keep B_w9.out)
  replace r_a := Lib.hid (r_a.out.keep B_w9.out)
  replace r_t := Lib.hid (r_t.out.keep B_w9.out)
  replace h_a := Lib.hid (h_a.out.below B_w9.out)
  replace h_t := Lib.hid (h_t.out.below B_w9.out)
  replace BB := Lib.hid (below_next BB.out B_w9.out)
  clear B_w7 B_w8 B_w9
  go_wp2_with fail
  refine bodyPost_ret (v := .agg #[.bool (sgn m), .slice A_s n_s cap_s]) (by unfold results; simp only [Try.results103]; go_simp) rfl ?_
  exact give_res BB.out h_s.out r_res.out (by omega) rfl

theorem twice_mod (i n : Int) (hn : 1 ≤ n) : i % (n + n) = if i / n % 2 = 0 then i % n else n + i % n := by
  have e := Int.mul_ediv_add_emod i n
  have m0 := Int.emod_nonneg i (show n ≠ 0 by omega)
  have m1 := Int.emod_lt_of_pos i (show 0 < n by omega)
  have e2 := Int.mul_ediv_add_emod (i / n) 2
  generalize i % n = m at *
  generalize i / n = q at *
  generalize q / 2 = h at *
  split
  · next hq =>
    refine ((Int.ediv_emod_unique (show 0 < n + n by omega) (a := i) (r := m) (q := h)).2 ⟨?_, by omega, by omega⟩).2
    rw [hq] at e2; rw [← e, ← e2]; grind
  · next hq =>
    have hq1 : q % 2 = 1 := by omega
    refine ((Int.ediv_emod_unique (show 0 < n + n by omega) (a := i) (r := n + m) (q := h)).2 ⟨?_, by omega, by omega⟩).2
    rw [hq1] at e2; rw [← e, ← e2]; grind
theorem wrap2_of {a b c : Int} (h : wrap64 (wrap64 a - b) = c) : IntKind.i64.wrap (IntKind.i64.wrap a - b) = c := by
  simpa [IntKind.wrap_i64, wrap64] using h
theorem dec_cases' (p : Prop) [Decidable p] : (p ∧ decide p = true) ∨ (¬ p ∧ decide p = false) := by
  by_cases h : p
  · exact .inl ⟨h, decide_eq_true h⟩
  · exact .inr ⟨h, decide_eq_false h⟩

set_option maxHeartbeats 2000000 in
theorem dindex_3 (i n : Int) (hi : I64 i) (hn : 1 ≤ n) (hn' : n ≤ 9223372036854775807) (c5 : i < 0 ∨ n ≤ i) (w : World) :
    Calls Try.prog 80 #[.int .i64 3, .int .i64 i, .int .i64 n] w fun e w' => e = .returned (.tuple #[.int .i64 (bI 3 i n), .bool (bOk 3 i n)]) ∧ Below w.heap.size w w' := by
  have hN : I64 n := ⟨by omega, by omega⟩
  have c4 : ¬ (0 ≤ i ∧ i < n) := by omega
  have H := Lib.hid (bOk_t (mode := 3) (i := i) (n := n) (by omega))
  have HI := bI_3 H.out c4
  have ht := twice_mod i n hn
  have CT := Lib.hid (fun w1 => twice_any i n hi hn hn' w1)
  have t0 := Int.emod_nonneg i (show n + n ≠ 0 by omega)
  have t1 := Int.emod_lt_of_pos i (show 0 < n + n by omega)
  have m0 := Int.emod_nonneg i (show n ≠ 0 by omega)
  have m1 := Int.emod_lt_of_pos i (show 0 < n by omega)
  have HA : Hid (i % (n + n) < n → bI 3 i n = i % (n + n)) := fun h => by
    rw [HI]; have := ht; unfold rBack; split <;> rename_i hq
    · rw [if_pos hq] at this; omega
    · rw [if_neg hq] at this; omega
  have HB : Hid (¬ i % (n + n) < n → bI 3 i n = n - 1 - (i % (n + n) - n)) := fun h => by
    rw [HI]; have := ht; unfold rBack; split <;> rename_i hq
    · rw [if_pos hq] at this; omega
    · rw [if_neg hq] at this; omega
  clear HI ht m0 m1 c4
  generalize i % (n + n) = t at *
  have wt : Wd 64 t := u64_wd ⟨by omega, by omega⟩
  have CO := Lib.hid (fun w => of_any n hN w)
  have CC := Lib.hid (fun (a b : Value) w1 (ha : BR w1 a t) (hb : BR w1 b n) => cmp_any a b t n w1 ha hb (wt.mid (by omega)) (i64_mid' hN))
  have CS := Lib.hid (fun (a b : Value) w1 (ha : BR w1 a t) (hb : BR w1 b n) => sub_any a b t n w1 ha hb (wt.mid (by omega)) (i64_mid' hN))
  have CI := Lib.hid (fun (h : t < n) (a : Value) w1 (ha : BR w1 a t) => small_any a t w1 ha ⟨by omega, by omega⟩)
  have CJ := Lib.hid (fun (h : ¬ t < n) (a : Value) w1 (ha : BR w1 a (t - n)) => small_any a (t - n) w1 ha ⟨by omega, by omega⟩)
  have hc : decide (cmpI t n < 0) = decide (t < n) := by
    rcases Int.lt_trichotomy t n with h | h | h
    · rw [cmpI_lt h]; simp [h]
    · subst h; rw [cmpI_eq]; simp
    · rw [cmpI_gt h]; simp; omega
  have hz : decide (i ≥ 0) = false ∨ decide (i ≥ 0) = true ∧ decide (i < n) = false := by
    rcases c5 with h | h
    · exact .inl (decide_eq_false (by omega))
    · exact .inr ⟨decide_eq_true (by omega), decide_eq_false (by omega)⟩
  have hn1 : decide (n < 1) = false := decide_eq_false (by omega)
  have HX : Hid (¬ t < n → wrap64 (wrap64 (n - 1) - (t - n)) = n - 1 - (t - n)) := fun h => by rw [wr_sub_l, wr_in (by omega) (by omega)]
  clear wt hi hn hn' hN c5 t0 t1
  generalize cmpI t n = c at *
  generalize bI 3 i n = B at *
  generalize bOk 3 i n = Bo at *
  have K : ∀ (P : World → Ending → World → Prop), (decide (i ≥ 0) = false → Calls Try.prog 80 #[.int .i64 3, .int .i64 i, .int .i64 n] w (P w)) → (decide (i ≥ 0) = true → decide (i < n) = false → Calls Try.prog 80 #[.int .i64 3, .int .i64 i, .int .i64 n] w (P w)) → Calls Try.prog 80 #[.int .i64 3, .int .i64 i, .int .i64 n] w (P w) := fun P h1 h2 => by
    rcases hz with h | ⟨h, h'⟩
    · exact h1 h
    · exact h2 h h'
  clear hz
  rcases dec_cases' (t < n) with ⟨htn, hd⟩ | ⟨htn, hd⟩
  · rw [hd] at hc
    replace CI := Lib.hid (CI.out htn)
    replace HA := Lib.hid (HA.out htn)
    clear htn hd HB CJ HX CS
    refine K (fun w e w' => e = .returned (.tuple #[.int .i64 B, .bool Bo]) ∧ Below w.heap.size w w') (fun z1 => ?_) (fun z1 z2 => ?_)
    all_goals clear K
    · skip
      go_enter Try.func80, Try.ntmps80
      go_wp2_with fail
      have BB : Hid (Below w.heap.size w w) := Below.refl _ _
      refine (CT.out _).mono ?_
      rintro e w1 ⟨v_t, rfl, hb, h_t⟩
      obtain ⟨A_t, n_t, cap_t, rfl, -⟩ := id h_t.form
      replace h_t := Lib.hid h_t
      replace BB := Lib.hid (below_next BB.out hb)
      clear hb
      go_wp2_with fail
      have d_t := Lib.hid (And.intro BB.out.size (True.intro))
      obtain ⟨hb, r_t⟩ := laid w1 #[.bool (sgn (t)), .slice A_t n_t cap_t] 38
      replace h_t := Lib.hid (h_t.out.below hb)
      replace BB := Lib.hid (below_next BB.out hb)
      replace r_t := Lib.hid r_t
      clear hb
      generalize w1.alloc (.cells #[.bool (sgn (t)), .slice A_t n_t cap_t] 38) = w2 at *
      generalize w1.heap.size = g_t at *
      have KK := Lib.hid (fun (w9 : World) (h : Below w2.heap.size w2 w9) => (cells2 (r_t.out.keep h) : (w9.cell? ⟨g_t, 0, none⟩ = some (.bool (sgn (t))) ∧ w9.cell? ⟨g_t, 1, none⟩ = some (.slice A_t n_t cap_t))))
      have K0 := KK.out w2 (Below.refl _ _)
      have KD := KK.out w2.drew (below_drew (Below.refl _ _))
      go_region_held3 (fun w9 => (w9.cell? ⟨g_t, 0, none⟩ = some (.bool (sgn (t))) ∧ w9.cell? ⟨g_t, 1, none⟩ = some (.slice A_t n_t cap_t)))
          (first | with_reducible exact KD | with_reducible exact K0 | with_reducible exact K_w3 | with_reducible exact K_w4)
          (first
            | (go_at_call 19
               refine (CO.out _).mono ?_
               rintro e w3 ⟨v_b, rfl, hb, h_b⟩
               obtain ⟨A_b, n_b, cap_b, rfl, -⟩ := id h_b.form
               replace h_b := Lib.hid h_b
               have B_w3 := Lib.hid (reg_next (w0 := w2) (by repeat (first | with_reducible exact Below.refl _ _ | with_reducible apply below_drew | with_reducible apply below_new)) hb)
               have K_w3 := KK.out _ B_w3.out
               clear hb)
            | (go_at_call 22
               refine (CC.out _ _ _ (h_t.out.below B_w3.out) h_b.out).mono ?_
               rintro e w4 ⟨rfl, hb⟩
               replace h_b := Lib.hid (h_b.out.below hb)
               have B_w4 := Lib.hid (below_next B_w3.out hb)
               have K_w4 := KK.out _ B_w4.out
               clear hb))
      clear KK K0 KD K_w3 K_w4
      replace r_t := Lib.hid (r_t.out.keep B_w4.out)
      replace h_t := Lib.hid (h_t.out.below B_w4.out)
      replace BB := Lib.hid (below_next BB.out B_w4.out)
      clear B_w3 B_w4
      obtain ⟨c_t0, c_t1, f_t0, f_t1⟩ := reads2 r_t.out
      have l_t := r_t.out.lt
      go_wp2_with fail
      refine (CI.out _ _ h_t.out).mono ?_
      rintro e w5 ⟨rfl, hb⟩
      clear c_t0 c_t1 f_t0 f_t1 l_t
      replace r_t := Lib.hid (r_t.out.keep hb)
      replace h_t := Lib.hid (h_t.out.below hb)
      replace h_b := Lib.hid (h_b.out.below hb)
      replace BB := Lib.hid (below_next BB.out hb)
      clear hb
      go_wp2_with fail
      go_ret2
      exact ⟨ret_intbool HA.out.symm H.out.symm, BB.out⟩
    · skip
      go_enter Try.func80, Try.ntmps80
      go_wp2_with fail
      have BB : Hid (Below w.heap.size w w) := Below.refl _ _
      refine (CT.out _).mono ?_
      rintro e w1 ⟨v_t, rfl, hb, h_t⟩
      obtain ⟨A_t, n_t, cap_t, rfl, -⟩ := id h_t.form
      replace h_t := Lib.hid h_t
      replace BB := Lib.hid (below_next BB.out hb)
      clear hb
      go_wp2_with fail
      have d_t := Lib.hid (And.intro BB.out.size (True.intro))
      obtain ⟨hb, r_t⟩ := laid w1 #[.bool (sgn (t)), .slice A_t n_t cap_t] 38
      replace h_t := Lib.hid (h_t.out.below hb)
      replace BB := Lib.hid (below_next BB.out hb)
      replace r_t := Lib.hid r_t
      clear hb
      generalize w1.alloc (.cells #[.bool (sgn (t)), .slice A_t n_t cap_t] 38) = w2 at *
      generalize w1.heap.size = g_t at *
      have KK := Lib.hid (fun (w9 : World) (h : Below w2.heap.size w2 w9) => (cells2 (r_t.out.keep h) : (w9.cell? ⟨g_t, 0, none⟩ = some (.bool (sgn (t))) ∧ w9.cell? ⟨g_t, 1, none⟩ = some (.slice A_t n_t cap_t))))
      have K0 := KK.out w2 (Below.refl _ _)
      have KD := KK.out w2.drew (below_drew (Below.refl _ _))
      go_region_held3 (fun w9 => (w9.cell? ⟨g_t, 0, none⟩ = some (.bool (sgn (t))) ∧ w9.cell? ⟨g_t, 1, none⟩ = some (.slice A_t n_t cap_t)))
          (first | with_reducible exact KD | with_reducible exact K0 | with_reducible exact K_w3 | with_reducible exact K_w4)
          (first
            | (go_at_call 19
               refine (CO.out _).mono ?_
               rintro e w3 ⟨v_b, rfl, hb, h_b⟩
               obtain ⟨A_b, n_b, cap_b, rfl, -⟩ := id h_b.form
               replace h_b := Lib.hid h_b
               have B_w3 := Lib.hid (reg_next (w0 := w2) (by repeat (first | with_reducible exact Below.refl _ _ | with_reducible apply below_drew | with_reducible apply below_new)) hb)
               have K_w3 := KK.out _ B_w3.out
               clear hb)
            | (go_at_call 22
               refine (CC.out _ _ _ (h_t.out.below B_w3.out) h_b.out).mono ?_
               rintro e w4 ⟨rfl, hb⟩
               replace h_b := Lib.hid (h_b.out.below hb)
               have B_w4 := Lib.hid (below_next B_w3.out hb)
               have K_w4 := KK.out _ B_w4.out
               clear hb))
      clear KK K0 KD K_w3 K_w4
      replace r_t := Lib.hid (r_t.out.keep B_w4.out)
      replace h_t := Lib.hid (h_t.out.below B_w4.out)
      replace BB := Lib.hid (below_next BB.out B_w4.out)
      clear B_w3 B_w4
      obtain ⟨c_t0, c_t1, f_t0, f_t1⟩ := reads2 r_t.out
      have l_t := r_t.out.lt
      go_wp2_with fail
      refine (CI.out _ _ h_t.out).mono ?_
      rintro e w5 ⟨rfl, hb⟩
      clear c_t0 c_t1 f_t0 f_t1 l_t
      replace r_t := Lib.hid (r_t.out.keep hb)
      replace h_t := Lib.hid (h_t.out.below hb)
      replace h_b := Lib.hid (h_b.out.below hb)
      replace BB := Lib.hid (below_next BB.out hb)
      clear hb
      go_wp2_with fail
      go_ret2
      exact ⟨ret_intbool HA.out.symm H.out.symm, BB.out⟩
  · rw [hd] at hc
    replace CJ := Lib.hid (CJ.out htn)
    replace HB := Lib.hid (HB.out htn)
    replace HX := HX.out htn
    clear htn hd HA CI
    refine K (fun w e w' => e = .returned (.tuple #[.int .i64 B, .bool Bo]) ∧ Below w.heap.size w w') (fun z1 => ?_) (fun z1 z2 => ?_)
    all_goals clear K
    · skip
      go_enter Try.func80, Try.ntmps80
      go_wp2_with fail
      have BB : Hid (Below w.heap.size w w) := Below.refl _ _
      refine (CT.out _).mono ?_
      rintro e w1 ⟨v_t, rfl, hb, h_t⟩
      obtain ⟨A_t, n_t, cap_t, rfl, -⟩ := id h_t.form
      replace h_t := Lib.hid h_t
      replace BB := Lib.hid (below_next BB.out hb)
      clear hb
      go_wp2_with fail
      have d_t := Lib.hid (And.intro BB.out.size (True.intro))
      obtain ⟨hb, r_t⟩ := laid w1 #[.bool (sgn (t)), .slice A_t n_t cap_t] 38
      replace h_t := Lib.hid (h_t.out.below hb)
      replace BB := Lib.hid (below_next BB.out hb)
      replace r_t := Lib.hid r_t
      clear hb
      generalize w1.alloc (.cells #[.bool (sgn (t)), .slice A_t n_t cap_t] 38) = w2 at *
      generalize w1.heap.size = g_t at *
      have KK := Lib.hid (fun (w9 : World) (h : Below w2.heap.size w2 w9) => (cells2 (r_t.out.keep h) : (w9.cell? ⟨g_t, 0, none⟩ = some (.bool (sgn (t))) ∧ w9.cell? ⟨g_t, 1, none⟩ = some (.slice A_t n_t cap_t))))
      have K0 := KK.out w2 (Below.refl _ _)
      have KD := KK.out w2.drew (below_drew (Below.refl _ _))
      go_region_held3 (fun w9 => (w9.cell? ⟨g_t, 0, none⟩ = some (.bool (sgn (t))) ∧ w9.cell? ⟨g_t, 1, none⟩ = some (.slice A_t n_t cap_t)))
          (first | with_reducible exact KD | with_reducible exact K0 | with_reducible exact K_w3 | with_reducible exact K_w4)
          (first
            | (go_at_call 19
               refine (CO.out _).mono ?_
               rintro e w3 ⟨v_b, rfl, hb, h_b⟩
               obtain ⟨A_b, n_b, cap_b, rfl, -⟩ := id h_b.form
               replace h_b := Lib.hid h_b
               have B_w3 := Lib.hid (reg_next (w0 := w2) (by repeat (first | with_reducible exact Below.refl _ _ | with_reducible apply below_drew | with_reducible apply below_new)) hb)
               have K_w3 := KK.out _ B_w3.out
               clear hb)
            | (go_at_call 22
               refine (CC.out _ _ _ (h_t.out.below B_w3.out) h_b.out).mono ?_
               rintro e w4 ⟨rfl, hb⟩
               replace h_b := Lib.hid (h_b.out.below hb)
               have B_w4 := Lib.hid (below_next B_w3.out hb)
               have K_w4 := KK.out _ B_w4.out
               clear hb))
      clear KK K0 KD K_w3 K_w4
      replace r_t := Lib.hid (r_t.out.keep B_w4.out)
      replace h_t := Lib.hid (h_t.out.below B_w4.out)
      replace BB := Lib.hid (below_next BB.out B_w4.out)
      clear B_w3 B_w4
      go_wp2_with fail
      have KK := Lib.hid (fun (w9 : World) (h : Below w4.heap.size w4 w9) => (cells2 (r_t.out.keep h) : (w9.cell? ⟨g_t, 0, none⟩ = some (.bool (sgn (t))) ∧ w9.cell? ⟨g_t, 1, none⟩ = some (.slice A_t n_t cap_t))))
      have K0 := KK.out w4 (Below.refl _ _)
      have KD := KK.out w4.drew (below_drew (Below.refl _ _))
      go_region_held3 (fun w9 => (w9.cell? ⟨g_t, 0, none⟩ = some (.bool (sgn (t))) ∧ w9.cell? ⟨g_t, 1, none⟩ = some (.slice A_t n_t cap_t)))
          (first | with_reducible exact KD | with_reducible exact K0 | with_reducible exact K_w5 | with_reducible exact K_w6 | with_reducible exact K_w7)
          (first
            | (go_at_call 19
               refine (CO.out _).mono ?_
               rintro e w5 ⟨v_b, rfl, hb, h_b⟩
               obtain ⟨A_b, n_b, cap_b, rfl, -⟩ := id h_b.form
               replace h_b := Lib.hid h_b
               have B_w5 := Lib.hid (reg_next (w0 := w4) (by repeat (first | with_reducible exact Below.refl _ _ | with_reducible apply below_drew | with_reducible apply below_new)) hb)
               have K_w5 := KK.out _ B_w5.out
               clear hb)
            | (go_at_call 65
               refine (CS.out _ _ _ (h_t.out.below B_w5.out) h_b.out).mono ?_
               rintro e w6 ⟨v_s, rfl, hb, h_s⟩
               obtain ⟨A_s, n_s, cap_s, rfl, -⟩ := id h_s.form
               replace h_s := Lib.hid h_s
               replace h_b := Lib.hid (h_b.out.below hb)
               have B_w6 := Lib.hid (below_next B_w5.out hb)
               have K_w6 := KK.out _ B_w6.out
               clear hb)
            | (go_at_call 67
               refine (CJ.out _ _ h_s.out).mono ?_
               rintro e w7 ⟨rfl, hb⟩
               replace h_b := Lib.hid (h_b.out.below hb)
               replace h_s := Lib.hid (h_s.out.below hb)
               have B_w7 := Lib.hid (below_next B_w6.out hb)
               have K_w7 := KK.out _ B_w7.out
               clear hb))
      clear KK K0 KD K_w5 K_w6 K_w7
      replace r_t := Lib.hid (r_t.out.keep B_w7.out)
      replace h_t := Lib.hid (h_t.out.below B_w7.out)
      replace BB := Lib.hid (below_next BB.out B_w7.out)
      clear B_w5 B_w6 B_w7
      go_wp2_with fail
      go_ret2
      exact ⟨ret_intbool (wrap2_of (HX.trans HB.out.symm)) H.out.symm, BB.out⟩
    · skip
      go_enter Try.func80, Try.ntmps80
      go_wp2_with fail
      have BB : Hid (Below w.heap.size w w) := Below.refl _ _
      refine (CT.out _).mono ?_
      rintro e w1 ⟨v_t, rfl, hb, h_t⟩
      obtain ⟨A_t, n_t, cap_t, rfl, -⟩ := id h_t.form
      replace h_t := Lib.hid h_t
      replace BB := Lib.hid (below_next BB.out hb)
      clear hb
      go_wp2_with fail
      have d_t := Lib.hid (And.intro BB.out.size (True.intro))
      obtain ⟨hb, r_t⟩ := laid w1 #[.bool (sgn (t)), .slice A_t n_t cap_t] 38
      replace h_t := Lib.hid (h_t.out.below hb)
      replace BB := Lib.hid (below_next BB.out hb)
      replace r_t := Lib.hid r_t
      clear hb
      generalize w1.alloc (.cells #[.bool (sgn (t)), .slice A_t n_t cap_t] 38) = w2 at *
      generalize w1.heap.size = g_t at *
      have KK := Lib.hid (fun (w9 : World) (h : Below w2.heap.size w2 w9) => (cells2 (r_t.out.keep h) : (w9.cell? ⟨g_t, 0, none⟩ = some (.bool (sgn (t))) ∧ w9.cell? ⟨g_t, 1, none⟩ = some (.slice A_t n_t cap_t))))
      have K0 := KK.out w2 (Below.refl _ _)
      have KD := KK.out w2.drew (below_drew (Below.refl _ _))
      go_region_held3 (fun w9 => (w9.cell? ⟨g_t, 0, none⟩ = some (.bool (sgn (t))) ∧ w9.cell? ⟨g_t, 1, none⟩ = some (.slice A_t n_t cap_t)))
          (first | with_reducible exact KD | with_reducible exact K0 | with_reducible exact K_w3 | with_reducible exact K_w4)
          (first
            | (go_at_call 19
               refine (CO.out _).mono ?_
               rintro e w3 ⟨v_b, rfl, hb, h_b⟩
               obtain ⟨A_b, n_b, cap_b, rfl, -⟩ := id h_b.form
               replace h_b := Lib.hid h_b
               have B_w3 := Lib.hid (reg_next (w0 := w2) (by repeat (first | with_reducible exact Below.refl _ _ | with_reducible apply below_drew | with_reducible apply below_new)) hb)
               have K_w3 := KK.out _ B_w3.out
               clear hb)
            | (go_at_call 22
               refine (CC.out _ _ _ (h_t.out.below B_w3.out) h_b.out).mono ?_
               rintro e w4 ⟨rfl, hb⟩
               replace h_b := Lib.hid (h_b.out.below hb)
               have B_w4 := Lib.hid (below_next B_w3.out hb)
               have K_w4 := KK.out _ B_w4.out
               clear hb))
      clear KK K0 KD K_w3 K_w4
      replace r_t := Lib.hid (r_t.out.keep B_w4.out)
      replace h_t := Lib.hid (h_t.out.below B_w4.out)
      replace BB := Lib.hid (below_next BB.out B_w4.out)
      clear B_w3 B_w4
      go_wp2_with fail
      have KK := Lib.hid (fun (w9 : World) (h : Below w4.heap.size w4 w9) => (cells2 (r_t.out.keep h) : (w9.cell? ⟨g_t, 0, none⟩ = some (.bool (sgn (t))) ∧ w9.cell? ⟨g_t, 1, none⟩ = some (.slice A_t n_t cap_t))))
      have K0 := KK.out w4 (Below.refl _ _)
      have KD := KK.out w4.drew (below_drew (Below.refl _ _))
      go_region_held3 (fun w9 => (w9.cell? ⟨g_t, 0, none⟩ = some (.bool (sgn (t))) ∧ w9.cell? ⟨g_t, 1, none⟩ = some (.slice A_t n_t cap_t)))
          (first | with_reducible exact KD | with_reducible exact K0 | with_reducible exact K_w5 | with_reducible exact K_w6 | with_reducible exact K_w7)
          (first
            | (go_at_call 19
               refine (CO.out _).mono ?_
               rintro e w5 ⟨v_b, rfl, hb, h_b⟩
               obtain ⟨A_b, n_b, cap_b, rfl, -⟩ := id h_b.form
               replace h_b := Lib.hid h_b
               have B_w5 := Lib.hid (reg_next (w0 := w4) (by repeat (first | with_reducible exact Below.refl _ _ | with_reducible apply below_drew | with_reducible apply below_new)) hb)
               have K_w5 := KK.out _ B_w5.out
               clear hb)
            | (go_at_call 65
               refine (CS.out _ _ _ (h_t.out.below B_w5.out) h_b.out).mono ?_
               rintro e w6 ⟨v_s, rfl, hb, h_s⟩
               obtain ⟨A_s, n_s, cap_s, rfl, -⟩ := id h_s.form
               replace h_s := Lib.hid h_s
               replace h_b := Lib.hid (h_b.out.below hb)
               have B_w6 := Lib.hid (below_next B_w5.out hb)
               have K_w6 := KK.out _ B_w6.out
               clear hb)
            | (go_at_call 67
               refine (CJ.out _ _ h_s.out).mono ?_
               rintro e w7 ⟨rfl, hb⟩
               replace h_b := Lib.hid (h_b.out.below hb)
               replace h_s := Lib.hid (h_s.out.below hb)
               have B_w7 := Lib.hid (below_next B_w6.out hb)
               have K_w7 := KK.out _ B_w7.out
               clear hb))
      clear KK K0 KD K_w5 K_w6 K_w7
      replace r_t := Lib.hid (r_t.out.keep B_w7.out)
      replace h_t := Lib.hid (h_t.out.below B_w7.out)
      replace BB := Lib.hid (below_next BB.out B_w7.out)
      clear B_w5 B_w6 B_w7
      go_wp2_with fail
      go_ret2
      exact ⟨ret_intbool (wrap2_of (HX.trans HB.out.symm)) H.out.symm, BB.out⟩

theorem dindex_any (mode i n : Int) (hm : I64 mode) (hi : I64 i) (hn : I64 n) (w : World) :
    Calls Try.prog 80 #[.int .i64 mode, .int .i64 i, .int .i64 n] w fun e w' => e = .returned (.tuple #[.int .i64 (bI mode i n), .bool (bOk mode i n)]) ∧ Below w.heap.size w w' := by
  have hi' := hi
  obtain ⟨m1, m2⟩ := hm
  obtain ⟨i1, i2⟩ := hi
  obtain ⟨n1, n2⟩ := hn
  by_cases c2 : mode < 0
  · have H := Lib.hid (bOk_f (mode := mode) (i := i) (n := n) (by omega))
    go_enter Try.func80, Try.ntmps80
    go_wp2
    go_ret2
    exact ⟨ret_intbool (bI_none H.out).symm H.out.symm, Below.refl _ _⟩
  by_cases c3 : 3 < mode
  · have H := Lib.hid (bOk_f (mode := mode) (i := i) (n := n) (by omega))
    go_enter Try.func80, Try.ntmps80
    go_wp2
    go_ret2
    exact ⟨ret_intbool (bI_none H.out).symm H.out.symm, Below.refl _ _⟩
  by_cases c1 : n < 1
  · have H := Lib.hid (bOk_f (mode := mode) (i := i) (n := n) (by omega))
    go_enter Try.func80, Try.ntmps80
    go_wp2
    go_ret2
    exact ⟨ret_intbool (bI_none H.out).symm H.out.symm, Below.refl _ _⟩
  by_cases c4 : 0 ≤ i ∧ i < n
  · have H := Lib.hid (bOk_t (mode := mode) (i := i) (n := n) (by omega))
    obtain ⟨c4, c5⟩ := c4
    go_enter Try.func80, Try.ntmps80
    go_wp2
    go_ret2
    exact ⟨ret_intbool (bI_in H.out ⟨c4, c5⟩).symm H.out.symm, Below.refl _ _⟩
  have hmode : mode = 0 ∨ mode = 1 ∨ mode = 2 ∨ mode = 3 := by omega
  have c5 : i < 0 ∨ n ≤ i := by omega
  rcases hmode with rfl | rfl | rfl | rfl
  · have H := Lib.hid (bOk_f (mode := 0) (i := i) (n := n) (by omega))
    rcases c5 with c5 | c5
    all_goals
      go_enter Try.func80, Try.ntmps80
      go_wp2
      go_ret2
      exact ⟨ret_intbool (bI_none H.out).symm H.out.symm, Below.refl _ _⟩
  · have H := Lib.hid (bOk_t (mode := 1) (i := i) (n := n) (by omega))
    have HI := Lib.hid (bI_1 H.out c4)
    rcases dec_cases' (i < 0) with ⟨h, hd⟩ | ⟨h, hd⟩
    · have HL := Lib.hid (show rLast n i = 0 from if_pos h)
      go_enter Try.func80, Try.ntmps80
      go_wp2
      go_ret2
      exact ⟨ret_intbool (HI.out.trans HL.out).symm H.out.symm, Below.refl _ _⟩
    · have HL := Lib.hid (show rLast n i = n - 1 from if_neg h)
      have hx : ¬ i < n := by omega
      go_enter Try.func80, Try.ntmps80
      go_wp2
      go_ret2
      exact ⟨ret_intbool (by rw [HI.out, HL.out]; all_goals exact wr_in (by omega) (by omega)) H.out.symm, Below.refl _ _⟩
  · have H := Lib.hid (bOk_t (mode := 2) (i := i) (n := n) (by omega))
    have HI := Lib.hid (bI_2 H.out c4)
    have CL := Lib.hid (fun w => left_any i n hi' (by omega) (by omega) w)
    rcases c5 with c5 | c5
    all_goals
      go_enter Try.func80, Try.ntmps80
      go_wp2_with fail
      refine (CL.out _).mono ?_; rintro e w1 ⟨rfl, hb⟩
      go_wp2_with fail
      go_ret2
      exact ⟨ret_intbool HI.out.symm H.out.symm, hb⟩
  · exact dindex_3 _ _ hi' (by omega) (by omega) c5 _

end Go.Proofs.Ytnklbnphiokpiaa

set_option linter.unusedVariables false
namespace Go.Proofs.Ytnklbnphiokpiaa
open Go.RowKit

def bC (mode : Int) : Int := if mode < 0 ∨ 3 < mode then 10 else 0
theorem bcheck_any (mode c0 c1 c2 c3 : Int) (w : World) :
    Calls Try.prog 74 #[.agg #[.int .i64 mode, .int .u8 c0, .int .u8 c1, .int .u8 c2, .int .u8 c3]] w fun e w' => e = .returned (.int .i64 (bC mode)) ∧ Below w.heap.size w w' := by
  rcases dec_cases' (mode < 0) with ⟨h, hd⟩ | ⟨h, hd⟩
  · have H := Lib.hid (show bC mode = 10 from if_pos (.inl h))
    clear h
    go_enter Try.func74, Try.ntmps74
    go_wp2
    go_ret
    exact ⟨ret_int H.out.symm, by repeat (first | exact Below.refl _ _ | apply below_new)⟩
  · rcases dec_cases' (mode > 3) with ⟨h', hd'⟩ | ⟨h', hd'⟩
    · have H := Lib.hid (show bC mode = 10 from if_pos (.inr h'))
      clear h h'
      go_enter Try.func74, Try.ntmps74
      go_wp2
      go_ret
      exact ⟨ret_int H.out.symm, by repeat (first | exact Below.refl _ _ | apply below_new)⟩
    · have H := Lib.hid (show bC mode = 0 from if_neg (by omega))
      clear h h'
      go_enter Try.func74, Try.ntmps74
      go_wp2
      go_ret
      exact ⟨ret_int H.out.symm, by repeat (first | exact Below.refl _ _ | apply below_new)⟩

end Go.Proofs.Ytnklbnphiokpiaa
