/- Walks of border.Check and of the law BorderIndex. -/
import Derived.Test.YtmipcahdmenpcaaBIdx
set_option linter.unusedVariables false
namespace Go.Proofs.Ytmipcahdmenpcaa
open Go.RowKit

def bC (mode : Int) : Int := if mode < 0 ∨ 3 < mode then 10 else 0
theorem bcheck_any (mode c0 c1 c2 c3 : Int) (w : World) :
    Calls Try.prog 32 #[.agg #[.int .i64 mode, .int .u8 c0, .int .u8 c1, .int .u8 c2, .int .u8 c3]] w fun e w' => e = .returned (.int .i64 (bC mode)) ∧ Below w.heap.size w w' := by
  rcases dec_cases' (mode < 0) with ⟨h, hd⟩ | ⟨h, hd⟩
  · have H := Lib.hid (show bC mode = 10 from if_pos (.inl h))
    clear h
    go_enter Try.func32, Try.ntmps32
    go_wp2
    go_ret
    exact ⟨ret_int H.out.symm, by repeat (first | exact Below.refl _ _ | apply below_new)⟩
  · rcases dec_cases' (mode > 3) with ⟨h', hd'⟩ | ⟨h', hd'⟩
    · have H := Lib.hid (show bC mode = 10 from if_pos (.inr h'))
      clear h h'
      go_enter Try.func32, Try.ntmps32
      go_wp2
      go_ret
      exact ⟨ret_int H.out.symm, by repeat (first | exact Below.refl _ _ | apply below_new)⟩
    · have H := Lib.hid (show bC mode = 0 from if_neg (by omega))
      clear h h'
      go_enter Try.func32, Try.ntmps32
      go_wp2
      go_ret
      exact ⟨ret_int H.out.symm, by repeat (first | exact Below.refl _ _ | apply below_new)⟩

set_option maxRecDepth 100000 in
set_option maxHeartbeats 2000000 in
theorem borderIndex_any (mode i n : Int) (hm : I64 mode) (hi : I64 i) (hn : I64 n) (w : World) :
    Calls Try.prog 7 #[.int .i64 mode, .int .i64 i, .int .i64 n] w fun e w' => e = .returned (.bool true) ∧ Below w.heap.size w w' := by
  have C1 := Lib.hid (fun w => bindex_any mode i n hm hi hn w)
  have C2 := Lib.hid (fun w => dindex_any mode i n hm hi hn w)
  have C3 := Lib.hid (fun w => bcheck_any mode 0 0 0 0 w)
  have CA := Lib.hid (fun w => border_alive w)
  clear hm hi hn
  generalize bI mode i n = x at *
  generalize bOk mode i n = b at *
  have hk : (mode < 0 ∧ bC mode = 10) ∨ (¬ mode < 0 ∧ 3 < mode ∧ bC mode = 10) ∨ (0 ≤ mode ∧ mode ≤ 3 ∧ bC mode = 0) := by
    unfold bC; split <;> omega
  rcases hk with ⟨h1, h2⟩ | ⟨h0, h1, h2⟩ | ⟨h0, h1, h2⟩
  all_goals rw [h2] at C3; clear h2
  · have d1 : decide (mode ≥ 0) = false := decide_eq_false (by omega)
    have d2 : decide (mode < 0) = true := decide_eq_true (by omega)
    clear h1
    go_enter Try.func7, Try.ntmps7
    go_wp2_with fail
    have BB : Hid (Below w.heap.size w w) := Below.refl _ _
    refine (C1.out _).mono ?_
    rintro e w1 ⟨rfl, hb⟩
    replace BB := Lib.hid (below_next BB.out hb)
    clear hb
    go_wp2_with fail
    refine (C2.out _).mono ?_
    rintro e w2 ⟨rfl, hb⟩
    replace BB := Lib.hid (below_next BB.out hb)
    clear hb
    go_wp2_with fail
    refine (C3.out _).mono ?_
    rintro e w3 ⟨rfl, hb⟩
    replace BB := Lib.hid (below_next BB.out hb)
    clear hb
    go_wp2_with fail
    refine (C3.out _).mono ?_
    rintro e w4 ⟨rfl, hb⟩
    replace BB := Lib.hid (below_next BB.out hb)
    clear hb
    go_wp2_with fail
    refine (CA.out _).mono ?_
    rintro e w5 ⟨rfl, hb⟩
    replace BB := Lib.hid (below_next BB.out hb)
    clear hb
    go_wp2_with fail
    go_ret
    exact ⟨rfl, BB.out⟩
  · have d1 : decide (mode ≥ 0) = true := decide_eq_true (by omega)
    have d2 : decide (mode < 0) = false := decide_eq_false (by omega)
    have d3 : decide (mode ≤ 3) = false := decide_eq_false (by omega)
    have d4 : decide (mode > 3) = true := decide_eq_true (by omega)
    clear h1 h0
    go_enter Try.func7, Try.ntmps7
    go_wp2_with fail
    have BB : Hid (Below w.heap.size w w) := Below.refl _ _
    refine (C1.out _).mono ?_
    rintro e w1 ⟨rfl, hb⟩
    replace BB := Lib.hid (below_next BB.out hb)
    clear hb
    go_wp2_with fail
    refine (C2.out _).mono ?_
    rintro e w2 ⟨rfl, hb⟩
    replace BB := Lib.hid (below_next BB.out hb)
    clear hb
    go_wp2_with fail
    refine (C3.out _).mono ?_
    rintro e w3 ⟨rfl, hb⟩
    replace BB := Lib.hid (below_next BB.out hb)
    clear hb
    go_wp2_with fail
    refine (C3.out _).mono ?_
    rintro e w4 ⟨rfl, hb⟩
    replace BB := Lib.hid (below_next BB.out hb)
    clear hb
    go_wp2_with fail
    refine (CA.out _).mono ?_
    rintro e w5 ⟨rfl, hb⟩
    replace BB := Lib.hid (below_next BB.out hb)
    clear hb
    go_wp2_with fail
    go_ret
    exact ⟨rfl, BB.out⟩
  · have d1 : decide (mode ≥ 0) = true := decide_eq_true (by omega)
    have d2 : decide (mode < 0) = false := decide_eq_false (by omega)
    have d3 : decide (mode ≤ 3) = true := decide_eq_true (by omega)
    have d4 : decide (mode > 3) = false := decide_eq_false (by omega)
    clear h1 h0
    go_enter Try.func7, Try.ntmps7
    go_wp2_with fail
    have BB : Hid (Below w.heap.size w w) := Below.refl _ _
    refine (C1.out _).mono ?_
    rintro e w1 ⟨rfl, hb⟩
    replace BB := Lib.hid (below_next BB.out hb)
    clear hb
    go_wp2_with fail
    refine (C2.out _).mono ?_
    rintro e w2 ⟨rfl, hb⟩
    replace BB := Lib.hid (below_next BB.out hb)
    clear hb
    go_wp2_with fail
    refine (C3.out _).mono ?_
    rintro e w3 ⟨rfl, hb⟩
    replace BB := Lib.hid (below_next BB.out hb)
    clear hb
    go_wp2_with fail
    refine (C3.out _).mono ?_
    rintro e w4 ⟨rfl, hb⟩
    replace BB := Lib.hid (below_next BB.out hb)
    clear hb
    go_wp2_with fail
    refine (CA.out _).mono ?_
    rintro e w5 ⟨rfl, hb⟩
    replace BB := Lib.hid (below_next BB.out hb)
    clear hb
    go_wp2_with fail
    go_ret
    exact ⟨rfl, BB.out⟩

end Go.Proofs.Ytmipcahdmenpcaa
