/- Walk of the document's 'Pow': a power of two. -/
import Derived.Test.YtnklbnphiokpiaaBox
set_option linter.unusedVariables false
namespace Go.Proofs.Ytnklbnphiokpiaa
open Go.RowKit

theorem wd_two (n : Nat) : Wd n ((2 : Int) ^ n) := by have := two_pos n; unfold Wd; omega

/-- The loop's world: the number in its box. -/
def PowAt (w : World) (g : Nat) (z : Int) : Prop := ∃ A m cap, AtB w g #[.bool (sgn z), .slice A m cap] 38 ∧ BR w (.agg #[.bool (sgn z), .slice A m cap]) z

set_option maxHeartbeats 1000000 in
theorem pow_any (n : Nat) (hn : n ≤ 1400) (w : World) : Calls Try.prog 47 #[.int .i64 (n : Int)] w (GiveB ((2 : Int) ^ n) w) := by
  have CA := Lib.hid (fun (a : Value) (k : Nat) w1 (hk : k ≤ 1400) (h : BR w1 a ((2 : Int) ^ k)) => add_any a a _ _ w1 h h ((wd_two k).mid (by omega)) ((wd_two k).mid (by omega)))
  go_enter Try.func47, Try.ntmps47
  go_wp2_with fail
  have BB := start1 w #[.bool false, .slice none 0 0] 38
  obtain ⟨BB, hsz, r_res⟩ := BB
  generalize (w.alloc (.cells #[.bool false, .slice none 0 0] 38)) = w0 at *
  replace BB := Lib.hid BB
  replace r_res := Lib.hid r_res
  clear hsz
  refine (of_any 1 ⟨by omega, by omega⟩ _).mono ?_
  rintro e w1 ⟨v_out, rfl, hb, h_out⟩
  obtain ⟨A_out, n_out, cap_out, rfl, -⟩ := id h_out.form
  replace h_out := Lib.hid h_out
  replace r_res := Lib.hid (r_res.out.keep hb)
  replace BB := Lib.hid (below_next BB.out hb)
  clear hb
  go_wp2_with fail
  have d_out := Lib.hid (And.intro BB.out.size (And.intro r_res.out.lt (True.intro)))
  obtain ⟨hb, r_out⟩ := laid w1 #[.bool (sgn (1)), .slice A_out n_out cap_out] 38
  replace r_res := Lib.hid (r_res.out.keep hb)
  replace h_out := Lib.hid (h_out.out.below hb)
  replace BB := Lib.hid (below_next BB.out hb)
  replace r_out := Lib.hid r_out
  clear hb
  generalize w1.alloc (.cells #[.bool (sgn (1)), .slice A_out n_out cap_out] 38) = w2 at *
  generalize w1.heap.size = g_out at *
  go_wp2_with fail
  go_loopw [4] (fun i wr => ∃ k : Nat, k ≤ n ∧ i = .int .i64 k ∧ Hid (PowAt wr g_out ((2 : Int) ^ k) ∧ AtB wr w.heap.size #[.bool false, .slice none 0 0] 38 ∧ Below w.heap.size w wr)) (fun i _ => n - (intOf i).toNat)
  case atStart => exact ⟨0, by omega, rfl, ⟨⟨_, _, _, r_out.out, h_out.out⟩, r_res.out, BB.out⟩⟩
  case round =>
    obtain ⟨k, hk, rfl, hinv⟩ := hrel
    obtain ⟨⟨A, m, cap, r_out, h_out⟩, r_res, BB⟩ := hinv.out
    replace BB := Lib.hid BB
    replace r_out := Lib.hid r_out; replace r_res := Lib.hid r_res; replace h_out := Lib.hid h_out
    clear hinv
    have HP : Hid ((2 : Int) ^ k + 2 ^ k = 2 ^ (k + 1)) := by show _ = _; rw [Int.pow_succ]; omega
    have HC := Lib.hid (fun w1 h => CA.out (.agg #[.bool (sgn ((2 : Int) ^ k)), .slice A m cap]) k w1 (by omega) h)
    rw [HP.out] at HC
    generalize hz : (2 : Int) ^ k = z at *
    replace hz := Lib.hid hz
    by_cases hlt : k < n
    · clear CA
      obtain ⟨c_out0, c_out1, f_out0, f_out1⟩ := reads2 r_out.out
      have l_out := r_out.out.lt
      go_wp2_with fail
      refine (HC.out _ h_out.out).mono ?_
      rintro e w3 ⟨v_t, rfl, hb, h_t⟩
      obtain ⟨A_t, n_t, cap_t, rfl, -⟩ := id h_t.form
      replace h_t := Lib.hid h_t
      clear c_out0 c_out1 f_out0 f_out1 l_out
      replace r_out := Lib.hid (r_out.out.keep hb)
      replace r_res := Lib.hid (r_res.out.keep hb)
      replace h_out := Lib.hid (h_out.out.below hb)
      replace BB := Lib.hid (below_next BB.out hb)
      clear hb
      obtain ⟨c_out0, c_out1, f_out0, f_out1⟩ := reads2 r_out.out
      have l_out := r_out.out.lt
      go_wp2_with fail
      go_roundw
      case rel =>
        have := d_out.out
        exact ⟨k + 1, by omega, by go_num, ⟨⟨_, _, _, r_out.out.set2 _ _, h_t.out.far2 r_out.out (by decide) _ _⟩, r_res.out.far2 (by omega) _ _, below_far2 BB.out (by omega) _ _⟩⟩
      case measure => simp [intOf]; omega
    · obtain rfl : k = n := by omega
      obtain ⟨c_out0, c_out1, f_out0, f_out1⟩ := reads2 r_out.out
      have l_out := r_out.out.lt
      obtain ⟨c_res0, c_res1, f_res0, f_res1⟩ := reads2 r_res.out
      have l_res := r_res.out.lt
      go_wp2_with fail
      rw [hz.out]
      refine bodyPost_ret (v := .agg #[.bool (sgn z), .slice A m cap]) (by unfold results; simp only [Try.results47]; go_simp) rfl ?_
      exact give_res BB.out h_out.out r_res.out (Nat.le_refl _) rfl

end Go.Proofs.Ytnklbnphiokpiaa
