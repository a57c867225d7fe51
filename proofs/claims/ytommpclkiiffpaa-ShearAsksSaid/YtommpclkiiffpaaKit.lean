/- Small things of many walks: 'no further from 0 than', products' bounds, wraps that do nothing, contracts of callees that turn nothing; the document's In and Down. -/
import Derived.Test.YtommpclkiiffpaaBase
import Derived.Deep.QuietTactic
set_option linter.unusedVariables false
namespace Go.Proofs.Ytommpclkiiffpaa
open Go.RowKit

/-- No further from 0 than another one. -/
def inI (x m : Int) : Bool := decide (-m ≤ x ∧ x ≤ m)
theorem inI_iff {x m : Int} : inI x m = true ↔ -m ≤ x ∧ x ≤ m := by unfold inI; simp
theorem inI_f {x m : Int} : inI x m = false ↔ ¬ (-m ≤ x ∧ x ≤ m) := by unfold inI; simp
theorem dec_both (p : Prop) [Decidable p] : (p ∧ decide p = true) ∨ (¬ p ∧ decide p = false) := by
  by_cases h : p
  · exact .inl ⟨h, decide_eq_true h⟩
  · exact .inr ⟨h, decide_eq_false h⟩
theorem mul_in {a b A B : Int} (h : -A ≤ a ∧ a ≤ A) (h' : -B ≤ b ∧ b ≤ B) : -(A * B) ≤ a * b ∧ a * b ≤ A * B := by
  have e : ((a * b).natAbs : Int) = (a.natAbs : Int) * b.natAbs := by rw [Int.natAbs_mul, Int.natCast_mul]
  have : (a.natAbs : Int) * b.natAbs ≤ A * B := Int.mul_le_mul (by omega) (by omega) (by omega) (by omega)
  omega
theorem sq_nonneg (x : Int) : 0 ≤ x * x := by
  rcases Int.le_total 0 x with h | h
  · exact Int.mul_nonneg h h
  · exact Int.mul_nonneg_of_nonpos_of_nonpos h h
theorem down_in {x A : Int} (h : -(65536 * A) ≤ x ∧ x ≤ 65536 * A) : -A ≤ x / 65536 ∧ x / 65536 ≤ A := by omega
theorem iw {x : Int} (h : -9223372036854775808 ≤ x ∧ x ≤ 9223372036854775807) : IntKind.i64.wrap x = x := by rw [IntKind.wrap_i64]; omega
theorem ww {x : Int} (h : -9223372036854775808 ≤ x ∧ x ≤ 9223372036854775807) : wrap64 x = x := wr_in h.1 h.2
theorem quiet_same {P : Program} {f : FuncId} {args : Array Value} {w : World} {n : Nat} {v : Value}
    (h : Calls P f args (w.drewN n) fun e w' => e = .returned v ∧ w.drewN n = w') : Calls P f args (w.drewN n) fun e w'' => e = .returned v ∧ ∃ m, w'' = w.drewN m :=
  h.mono fun _ _ ⟨he, hm⟩ => ⟨he, n, hm.symm⟩

theorem div_near {x y B : Int} (hy : 1 ≤ y) (h0 : -B ≤ x) (h1 : x ≤ B) (hB : 0 ≤ B) : -B ≤ x / y ∧ x / y ≤ B := by
  constructor
  · refine Int.le_ediv_of_mul_le (by omega) ?_
    have : B * 1 ≤ B * y := Int.mul_le_mul_of_nonneg_left hy hB
    rw [Int.neg_mul]; omega
  · have : x / y ≤ B := by
      by_cases h : 0 ≤ x
      · exact Int.le_trans (Int.ediv_le_self _ h) h1
      · have := Int.ediv_lt_of_lt_mul (a := x) (b := 1) (c := y) (by omega) (by omega)
        omega
    exact this

theorem rin (x m : Int) (hm : 0 ≤ m) (hm' : m ≤ 9223372036854775807) (w : World) : Calls Try.prog 34 #[.int .i64 x, .int .i64 m] w fun e w' => e = .returned (.bool (inI x m)) ∧ w = w' := by
  have E1 : wrap64 (-m) = -m := wr_in (by omega) (by omega)
  rcases dec_both (x ≥ -m) with ⟨h, hd⟩ | ⟨h, hd⟩
  · rcases dec_both (x ≤ m) with ⟨h', hd'⟩ | ⟨h', hd'⟩
    · have H := Lib.hid (show inI x m = true from decide_eq_true ⟨h, h'⟩)
      clear h h' hm hm'
      go_enter Try.func34, Try.ntmps34
      go_wp2
      go_ret
      exact ⟨ret_bool H.out.symm, rfl⟩
    · have H := Lib.hid (show inI x m = false from decide_eq_false (fun k => h' k.2))
      clear h h' hm hm'
      go_enter Try.func34, Try.ntmps34
      go_wp2
      go_ret
      exact ⟨ret_bool H.out.symm, rfl⟩
  · have H := Lib.hid (show inI x m = false from decide_eq_false (fun k => h k.1))
    clear h hm hm'
    go_enter Try.func34, Try.ntmps34
    go_wp2
    go_ret
    exact ⟨ret_bool H.out.symm, rfl⟩

theorem rdown (a b : Int) (ha : I64 a) (hb : 0 < b) (hb' : b ≤ 9223372036854775807) (w : World) : Calls Try.prog 72 #[.int .i64 a, .int .i64 b] w fun e w' => e = .returned (.int .i64 (a / b)) ∧ w = w' := by
  have HB := Lib.hid (ediv_bounds ha hb)
  obtain ⟨h1, h2⟩ := ha
  have hb1 : (b == 0) = false := by simp; omega
  have hb2 : (b == -1) = false := by simp; omega
  have hbn : decide (b < 0) = false := by simp; omega
  cases h : (a.tmod b != 0)
  · have h' : a.tmod b = 0 := by simpa using h
    have H := Lib.hid (tdiv_exact h')
    clear h'
    go_enter Try.func72, Try.ntmps72
    go_wp2
    go_ret
    exact ⟨ret_int (by first | exact H.out | rfl), rfl⟩
  · have h' : ¬ a.tmod b = 0 := by simpa using h
    rcases dec_both (a < 0) with ⟨h0, hd⟩ | ⟨h0, hd⟩
    · have H2 := Lib.hid (show a.tdiv b - 1 = a / b by rw [tdiv_neg_step h0 hb h']; omega)
      clear h' h0
      go_enter Try.func72, Try.ntmps72
      go_wp2
      go_ret
      exact ⟨ret_int (by rw [H2.out]; exact IntWalk.wrap64_in _ ⟨HB.out.1, HB.out.2⟩), rfl⟩
    · have H3 := Lib.hid (tdiv_pos (b := b) (show 0 ≤ a by omega))
      clear h' h0
      go_enter Try.func72, Try.ntmps72
      go_wp2
      go_ret
      exact ⟨ret_int (by first | exact H3.out | rfl), rfl⟩

end Go.Proofs.Ytommpclkiiffpaa
