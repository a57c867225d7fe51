/- Walk of the law FixRows. -/
import Derived.Test.YthdbchghhpoadaaDoorFxK
import Derived.Test.YthdbchghhpoadaaDoorFxE
set_option linter.unusedVariables false
set_option linter.unusedSimpArgs false
namespace Go.Proofs.YthdbchghhpoadaaDoor
open Go.RowKit
set_option maxRecDepth 100000 in
set_option maxHeartbeats 8000000 in
theorem fixRows_any (u v : Value) (xs zs : List Int) (x : Int) (w : World) (hu : IS w u xs) (hv : IS w v zs) (hx : I64 x) :
    Calls Tryd.prog 4 #[u, v, .int .i64 x] w fun e w' => e = .returned (.bool true) ∧ Below w.heap.size w w' := by
  have CL := Lib.hid (fun w => alive04 w)
  by_cases h1 : 80 < xs.length
  · obtain ⟨A, cap, rfl⟩ := hu.form
    obtain ⟨A2, cap2, rfl⟩ := hv.form
    have g1 : (80 : Int) < (xs.length : Int) := by omega
    clear hu hv hx CL
    generalize xs.length = m at *
    generalize zs.length = n at *
    go_enter Tryd.func4, Tryd.ntmps4
    go_wp2_with fail
    have BB : Hid (Below w.heap.size w w) := Below.refl _ _
    go_ret
    exact ⟨rfl, BB.out⟩
  by_cases h2 : 80 < zs.length
  · obtain ⟨A, cap, rfl⟩ := hu.form
    obtain ⟨A2, cap2, rfl⟩ := hv.form
    have g1 : ¬ (80 : Int) < (xs.length : Int) := by omega
    have g2 : (80 : Int) < (zs.length : Int) := by omega
    clear hu hv hx CL
    generalize xs.length = m at *
    generalize zs.length = n at *
    go_enter Tryd.func4, Tryd.ntmps4
    go_wp2_with fail
    have BB : Hid (Below w.heap.size w w) := Below.refl _ _
    go_ret
    exact ⟨rfl, BB.out⟩
  by_cases hL : 64 < xs.length
  · have CD : Hid (∀ w9, Below w.heap.size w w9 → Calls Tryd.prog 17 #[u, v] w9 fun e w' => e = .returned (.tuple #[.int .i64 0, .bool false]) ∧ Below w9.heap.size w9 w') := by
      intro w9 h9
      by_cases he : xs.length = zs.length
      · exact fdot_long u v xs zs w9 (hu.below h9) (hv.below h9) he hL
      · exact fdot_ne u v xs zs w9 (hu.below h9) (hv.below h9) he
    have CH := Lib.hid (fun w9 (h9 : Below w.heap.size w w9) => fhorner_long u xs x w9 (hu.below h9) hL)
    obtain ⟨A, cap, rfl⟩ := hu.form
    obtain ⟨A2, cap2, rfl⟩ := hv.form
    have g1 : ¬ (80 : Int) < (xs.length : Int) := by omega
    have g2 : ¬ (80 : Int) < (zs.length : Int) := by omega
    have g3 : (64 : Int) < (xs.length : Int) := by omega
    clear hu hv hx h1 h2 hL
    by_cases he : xs.length = zs.length
    · generalize xs.length = m at *
      generalize zs.length = n at *
      subst he
      go_enter Tryd.func4, Tryd.ntmps4
      go_wp2_with fail
      have BB : Hid (Below w.heap.size w w) := Below.refl _ _
      refine (CD.out _ BB.out).mono ?_
      rintro e w1 ⟨rfl, hb⟩
      replace BB := Lib.hid (below_next BB.out hb)
      clear hb
      go_wp2_with fail
      refine (CH.out _ BB.out).mono ?_
      rintro e w2 ⟨rfl, hb⟩
      replace BB := Lib.hid (below_next BB.out hb)
      clear hb
      go_wp2_with fail
      refine (CL.out _).mono ?_
      rintro e w3 ⟨rfl, hb⟩
      replace BB := Lib.hid (below_next BB.out hb)
      clear hb
      go_wp2_with fail
      go_ret
      exact ⟨rfl, BB.out⟩
    · have g4 : ((xs.length : Int) != (zs.length : Int)) = true := by simp; omega
      have g5 : ((xs.length : Int) == (zs.length : Int)) = false := by simp; omega
      generalize xs.length = m at *
      generalize zs.length = n at *
      clear he
      go_enter Tryd.func4, Tryd.ntmps4
      go_wp2_with fail
      have BB : Hid (Below w.heap.size w w) := Below.refl _ _
      refine (CD.out _ BB.out).mono ?_
      rintro e w1 ⟨rfl, hb⟩
      replace BB := Lib.hid (below_next BB.out hb)
      clear hb
      go_wp2_with fail
      refine (CH.out _ BB.out).mono ?_
      rintro e w2 ⟨rfl, hb⟩
      replace BB := Lib.hid (below_next BB.out hb)
      clear hb
      go_wp2_with fail
      refine (CL.out _).mono ?_
      rintro e w3 ⟨rfl, hb⟩
      replace BB := Lib.hid (below_next BB.out hb)
      clear hb
      go_wp2_with fail
      go_ret
      exact ⟨rfl, BB.out⟩
  have hL : xs.length ≤ 64 := by omega
  have CH := Lib.hid (fun w9 (h9 : Below w.heap.size w w9) => fhorner_ok u xs x w9 (hu.below h9) hx hL)
  have CR := Lib.hid (fun w9 (h9 : Below w.heap.size w w9) => r4horner u xs x w9 (hu.below h9) hx hL)
  generalize (hornI x 0 xs).getD 0 = X at *
  generalize (hornI x 0 xs).isSome = Y at *
  by_cases he : xs.length = zs.length
  · have CD := Lib.hid (fun w9 (h9 : Below w.heap.size w w9) => fdot_ok u v xs zs w9 (hu.below h9) (hv.below h9) he (by omega))
    have CE := Lib.hid (fun w9 (h9 : Below w.heap.size w w9) => r4dot u v xs zs w9 (hu.below h9) (hv.below h9) he (by omega))
    have hW : Wd 1400 (dotS (fun k => xs.getD k 0 * zs.getD k 0) zs.length / 65536) := by
      rw [← Int.fdiv_eq_ediv_of_nonneg _ (show (0 : Int) ≤ 65536 by omega)]
      exact (Wd.fdiv (dot_wd (fun k => (i64_wd (hu.i64 k)).mul (i64_wd (hv.i64 k))) zs.length)).up (by omega)
    have CT := Lib.hid (fun (t : Value) w9 (ht : BR w9 t (dotS (fun k => xs.getD k 0 * zs.getD k 0) zs.length / 65536)) => told_fit t _ hW w9 ht)
    generalize dotS (fun k => xs.getD k 0 * zs.getD k 0) zs.length / 65536 = S at *
    obtain ⟨A, cap, rfl⟩ := hu.form
    obtain ⟨A2, cap2, rfl⟩ := hv.form
    have g1 : ¬ (80 : Int) < (xs.length : Int) := by omega
    have g3 : ¬ (64 : Int) < (xs.length : Int) := by omega
    clear hu hv hx h1 h2 hL hW
    generalize xs.length = m at *
    generalize zs.length = n at *
    subst he
    go_enter Tryd.func4, Tryd.ntmps4
    go_wp2_with fail
    have BB : Hid (Below w.heap.size w w) := Below.refl _ _
    refine (CD.out _ BB.out).mono ?_
    rintro e w1 ⟨rfl, hb⟩
    replace BB := Lib.hid (below_next BB.out hb)
    clear hb
    go_wp2_with fail
    refine (CE.out _ BB.out).mono ?_
    rintro e w2 ⟨v_r, rfl, hb, h_r⟩
    obtain ⟨A_r, n_r, cap_r, rfl, -⟩ := id h_r.form
    replace h_r := Lib.hid h_r
    replace BB := Lib.hid (below_next BB.out hb)
    clear hb
    go_wp2_with fail
    refine (CT.out _ _ h_r.out).mono ?_
    rintro e w3 ⟨rfl, hb⟩
    replace h_r := Lib.hid (h_r.out.below hb)
    replace BB := Lib.hid (below_next BB.out hb)
    clear hb
    go_wp2_with fail
    refine (CH.out _ BB.out).mono ?_
    rintro e w4 ⟨rfl, hb⟩
    replace h_r := Lib.hid (h_r.out.below hb)
    replace BB := Lib.hid (below_next BB.out hb)
    clear hb
    go_wp2_with fail
    refine (CR.out _ BB.out).mono ?_
    rintro e w5 ⟨rfl, hb⟩
    replace h_r := Lib.hid (h_r.out.below hb)
    replace BB := Lib.hid (below_next BB.out hb)
    clear hb
    go_wp2_with fail
    refine (CL.out _).mono ?_
    rintro e w6 ⟨rfl, hb⟩
    replace h_r := Lib.hid (h_r.out.below hb)
    replace BB := Lib.hid (below_next BB.out hb)
    clear hb
    go_wp2_with fail
    go_ret
    exact ⟨rfl, BB.out⟩
  · have CD := Lib.hid (fun w9 (h9 : Below w.heap.size w w9) => fdot_ne u v xs zs w9 (hu.below h9) (hv.below h9) he)
    obtain ⟨A, cap, rfl⟩ := hu.form
    obtain ⟨A2, cap2, rfl⟩ := hv.form
    have g1 : ¬ (80 : Int) < (xs.length : Int) := by omega
    have g2 : ¬ (80 : Int) < (zs.length : Int) := by omega
    have g3 : ¬ (64 : Int) < (xs.length : Int) := by omega
    have g4 : ((xs.length : Int) != (zs.length : Int)) = true := by simp; omega
    have g5 : ((xs.length : Int) == (zs.length : Int)) = false := by simp; omega
    clear hu hv hx h1 h2 hL he
    generalize xs.length = m at *
    generalize zs.length = n at *
    go_enter Tryd.func4, Tryd.ntmps4
    go_wp2_with fail
    have BB : Hid (Below w.heap.size w w) := Below.refl _ _
    refine (CD.out _ BB.out).mono ?_
    rintro e w1 ⟨rfl, hb⟩
    replace BB := Lib.hid (below_next BB.out hb)
    clear hb
    go_wp2_with fail
    refine (CH.out _ BB.out).mono ?_
    rintro e w2 ⟨rfl, hb⟩
    replace BB := Lib.hid (below_next BB.out hb)
    clear hb
    go_wp2_with fail
    refine (CR.out _ BB.out).mono ?_
    rintro e w3 ⟨rfl, hb⟩
    replace BB := Lib.hid (below_next BB.out hb)
    clear hb
    go_wp2_with fail
    refine (CL.out _).mono ?_
    rintro e w4 ⟨rfl, hb⟩
    replace BB := Lib.hid (below_next BB.out hb)
    clear hb
    go_wp2_with fail
    go_ret
    exact ⟨rfl, BB.out⟩
end Go.Proofs.YthdbchghhpoadaaDoor
