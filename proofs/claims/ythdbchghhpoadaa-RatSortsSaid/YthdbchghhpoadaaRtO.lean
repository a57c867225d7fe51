/- The walk of RatOrders. -/
import Derived.Test.YthdbchghhpoadaaRt2
import Derived.Test.YthdbchghhpoadaaRat1
import Derived.Test.YthdbchghhpoadaaWMixR
set_option linter.unusedVariables false
set_option linter.unusedSimpArgs false
namespace Go.Proofs.Ythdbchghhpoadaa
open Go.RowKit
abbrev RR0 : Array Value := #[.bool false, .slice none 0 0, .bool false, .slice none 0 0]
set_option maxRecDepth 100000 in
set_option maxHeartbeats 4000000 in
theorem rown (n d : Int) (hn : I64 n) (hd : I64 d) (w : World) : Calls Try.prog 28 #[qv n d] w (GiveR n d w) := by
  have CO := Lib.hid (fun w => rof n d hn hd w)
  clear hn hd
  go_enter Try.func28, Try.ntmps28
  go_wp2_with fail
  have BB := start2 w #[.int .i64 n, .int .i64 d] QT #[.bool false, .slice none 0 0, .bool false, .slice none 0 0] RT
  obtain ⟨BB, hsz, r_a, r_res⟩ := BB
  generalize ((w.alloc (.cells #[.int .i64 n, .int .i64 d] QT)).alloc (.cells #[.bool false, .slice none 0 0, .bool false, .slice none 0 0] RT)) = w0 at *
  replace BB := Lib.hid BB
  replace r_a := Lib.hid r_a
  replace r_res := Lib.hid r_res
  clear hsz
  obtain ⟨c_a0, c_a1, f_a0, f_a1⟩ := reads2 r_a.out
  have l_a := r_a.out.lt
  go_wp2_with fail
  refine (CO.out _).mono ?_
  rintro e w1 ⟨v_x, rfl, hb, h_x⟩
  obtain ⟨A_x, n_x, cap_x, B_x, m_x, cup_x, rfl, -, -⟩ := id h_x.form
  replace h_x := Lib.hid h_x
  clear c_a0 c_a1 f_a0 f_a1 l_a
  replace r_a := Lib.hid (r_a.out.keep hb)
  replace r_res := Lib.hid (r_res.out.keep hb)
  replace BB := Lib.hid (below_next BB.out hb)
  clear hb
  obtain ⟨c_res0, c_res1, c_res2, c_res3, f_res0, f_res1, f_res2, f_res3⟩ := reads4 r_res.out
  have l_res := r_res.out.lt
  go_wp2_with fail
  refine bodyPost_ret (v := .agg #[.bool (sgn n), .slice A_x n_x cap_x, .bool (sgn d), .slice B_x m_x cup_x]) (by unfold results; simp only [Try.results28]; go_simp) rfl ?_
  exact give_rat BB.out h_x.out.parts.1 h_x.out.parts.2 r_res.out (by omega)
theorem tq_in {z x : Int} {is : Bool} (hr : I64 z) (h : TQ z true x is) : x = z ∧ is = true := by
  rcases h with ⟨-, -, h1, h2⟩ | ⟨h1, -⟩
  · exact ⟨h2, h1⟩
  · exact absurd ⟨rfl, hr⟩ h1
end Go.Proofs.Ythdbchghhpoadaa
