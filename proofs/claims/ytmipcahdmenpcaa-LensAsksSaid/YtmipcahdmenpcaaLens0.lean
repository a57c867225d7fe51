/- Contracts of the small functions of the lens: in, down, axis; of the document's In and Down. -/
import Derived.Test.YtmipcahdmenpcaaQuot0
set_option linter.unusedVariables false
namespace Go.Proofs.Ytmipcahdmenpcaa
open Go.RowKit

/-- No further from 0 than another one. -/
def inI (x m : Int) : Bool := decide (-m ≤ x ∧ x ≤ m)
theorem inI_iff {x m : Int} : inI x m = true ↔ -m ≤ x ∧ x ≤ m := by unfold inI; simp
theorem inI_f {x m : Int} : inI x m = false ↔ ¬ (-m ≤ x ∧ x ≤ m) := by unfold inI; simp
theorem dec_both (p : Prop) [Decidable p] : (p ∧ decide p = true) ∨ (¬ p ∧ decide p = false) := by
  by_cases h : p
  · exact .inl ⟨h, decide_eq_true h⟩
  · exact .inr ⟨h, decide_eq_false h⟩
theorem lin (x m : Int) (hm : 0 ≤ m) (hm' : m ≤ 9223372036854775807) (w : World) : Calls Try.prog 72 #[.int .i64 x, .int .i64 m] w fun e w' => e = .returned (.bool (inI x m)) ∧ w = w' := by
  have E1 : wrap64 (-m) = -m := wr_in (by omega) (by omega)
  rcases dec_both (x ≥ -m) with ⟨h, hd⟩ | ⟨h, hd⟩
  · rcases dec_both (x ≤ m) with ⟨h', hd'⟩ | ⟨h', hd'⟩
    · have H := Lib.hid (show inI x m = true from decide_eq_true ⟨h, h'⟩)
      clear h h' hm hm'
      go_enter Try.func72, Try.ntmps72
      go_wp2
      go_ret
      exact ⟨ret_bool H.out.symm, rfl⟩
    · have H := Lib.hid (show inI x m = false from decide_eq_false (fun k => h' k.2))
      clear h h' hm hm'
      go_enter Try.func72, Try.ntmps72
      go_wp2
      go_ret
      exact ⟨ret_bool H.out.symm, rfl⟩
  · have H := Lib.hid (show inI x m = false from decide_eq_false (fun k => h k.1))
    clear h hm hm'
    go_enter Try.func72, Try.ntmps72
    go_wp2
    go_ret
    exact ⟨ret_bool H.out.symm, rfl⟩
theorem rin (x m : Int) (hm : 0 ≤ m) (hm' : m ≤ 9223372036854775807) (w : World) : Calls Try.prog 40 #[.int .i64 x, .int .i64 m] w fun e w' => e = .returned (.bool (inI x m)) ∧ w = w' := by
  have E1 : wrap64 (-m) = -m := wr_in (by omega) (by omega)
  rcases dec_both (x ≥ -m) with ⟨h, hd⟩ | ⟨h, hd⟩
  · rcases dec_both (x ≤ m) with ⟨h', hd'⟩ | ⟨h', hd'⟩
    · have H := Lib.hid (show inI x m = true from decide_eq_true ⟨h, h'⟩)
      clear h h' hm hm'
      go_enter Try.func40, Try.ntmps40
      go_wp2
      go_ret
      exact ⟨ret_bool H.out.symm, rfl⟩
    · have H := Lib.hid (show inI x m = false from decide_eq_false (fun k => h' k.2))
      clear h h' hm hm'
      go_enter Try.func40, Try.ntmps40
      go_wp2
      go_ret
      exact ⟨ret_bool H.out.symm, rfl⟩
  · have H := Lib.hid (show inI x m = false from decide_eq_false (fun k => h k.1))
    clear h hm hm'
    go_enter Try.func40, Try.ntmps40
    go_wp2
    go_ret
    exact ⟨ret_bool H.out.symm, rfl⟩

theorem ldown (x : Int) (w : World) : Calls Try.prog 103 #[.int .i64 x] w fun e w' => e = .returned (.int .i64 (x / 65536)) ∧ w = w' := by
  go_enter Try.func103, Try.ntmps103
  go_wp2
  go_ret
  exact ⟨rfl, rfl⟩

theorem rdown (a b : Int) (ha : I64 a) (hb : 0 < b) (hb' : b ≤ 9223372036854775807) (w : World) : Calls Try.prog 59 #[.int .i64 a, .int .i64 b] w fun e w' => e = .returned (.int .i64 (a / b)) ∧ w = w' := by
  have HB := Lib.hid (ediv_bounds ha hb)
  obtain ⟨h1, h2⟩ := ha
  have hb1 : (b == 0) = false := by simp; omega
  have hb2 : (b == -1) = false := by simp; omega
  have hbn : decide (b < 0) = false := by simp; omega
  cases h : (a.tmod b != 0)
  · have h' : a.tmod b = 0 := by simpa using h
    have H := Lib.hid (tdiv_exact h')
    clear h'
    go_enter Try.func59, Try.ntmps59
    go_wp2
    go_ret
    exact ⟨ret_int (by first | exact H.out | rfl), rfl⟩
  · have h' : ¬ a.tmod b = 0 := by simpa using h
    rcases dec_both (a < 0) with ⟨h0, hd⟩ | ⟨h0, hd⟩
    · have H2 := Lib.hid (show a.tdiv b - 1 = a / b by rw [tdiv_neg_step h0 hb h']; omega)
      clear h' h0
      go_enter Try.func59, Try.ntmps59
      go_wp2
      go_ret
      exact ⟨ret_int (by rw [H2.out]; exact IntWalk.wrap64_in _ ⟨HB.out.1, HB.out.2⟩), rfl⟩
    · have H3 := Lib.hid (tdiv_pos (b := b) (show 0 ≤ a by omega))
      clear h' h0
      go_enter Try.func59, Try.ntmps59
      go_wp2
      go_ret
      exact ⟨ret_int (by first | exact H3.out | rfl), rfl⟩

end Go.Proofs.Ytmipcahdmenpcaa
