/- Contracts of rat.Sort's test, slices.IndexFunc and ContainsFunc with it. -/
import Derived.Test.YthdbchghhpoadaaSoB
set_option linter.unusedVariables false
set_option linter.unusedSimpArgs false
namespace Go.Proofs.Ythdbchghhpoadaa
open Go.RowKit Go.ChangeShapes Go.WideShapes Go.ChangeAt Go.Deep
def badq (q : PQ2) : Bool := !decide (q.2 > 0)
theorem wrong_any (a d : Int) (w : World) : Calls Try.prog 49 #[.agg #[.int .i64 a, .int .i64 d]] w fun e w' => e = .returned (.bool (badq (a, d))) ∧ Below w.heap.size w w' := by
  have C := Lib.hid (fun w => qright a d w)
  unfold badq
  dsimp only
  generalize decide (d > 0) = r at *
  unfold qv at C
  go_enter Try.func49, Try.ntmps49
  go_wp2_with fail
  have BB := start1 w #[.int .i64 a, .int .i64 d] QT
  obtain ⟨BB, hsz, r_a⟩ := BB
  generalize (w.alloc (.cells #[.int .i64 a, .int .i64 d] QT)) = w0 at *
  replace BB := Lib.hid BB
  replace r_a := Lib.hid r_a
  clear hsz
  obtain ⟨c_a0, c_a1, f_a0, f_a1⟩ := reads2 r_a.out
  have l_a := r_a.out.lt
  go_wp2_with fail
  refine (C.out _).mono ?_
  rintro e w1 ⟨rfl, hb⟩
  clear c_a0 c_a1 f_a0 f_a1 l_a
  replace r_a := Lib.hid (r_a.out.keep hb)
  replace BB := Lib.hid (below_next BB.out hb)
  clear hb
  go_wp2_with fail
  go_ret
  exact ⟨rfl, BB.out⟩
theorem anyq_step {qs : List PQ2} {p : PQ2 → Bool} {k : Nat} (h : k < qs.length) : (qs.take (k + 1)).any p = ((qs.take k).any p || p (qs.getD k (0, 1))) := by
  rw [List.take_add_one, List.any_append, List.getElem?_eq_getElem h]
  simp [List.getD, List.getElem?_eq_getElem h]
theorem QS.at_ {w : World} {A : Option Addr} {n cap : Nat} {qs : List PQ2} (h : QS w (.slice A n cap) qs) (hl : qs.length = n) {k : Nat} (hk : k < n) : ∃ b off, A = some ⟨b, off, none⟩ ∧ w.cell? ⟨b, off + k * 2, none⟩ = some (.int .i64 (qs.getD k (0, 1)).1) ∧ w.cell? ⟨b, off + k * 2 + 1, none⟩ = some (.int .i64 (qs.getD k (0, 1)).2) := by
  obtain ⟨A', cap', hv, -, -, -, h4⟩ := h
  obtain ⟨b', off', hA, hlt, hc⟩ := h4 (fun e => by subst e; simp at hl; omega)
  simp only [Value.slice.injEq] at hv
  obtain ⟨rfl, -, -⟩ := hv
  exact ⟨b', off', hA, hc k (by omega)⟩
def GiveI (b : Bool) (w : World) (e : Ending) (w' : World) : Prop := ∃ r : Int, e = .returned (.int .i64 r) ∧ Below w.heap.size w w' ∧ decide (0 ≤ r) = b
set_option maxRecDepth 100000 in
set_option maxHeartbeats 4000000 in
theorem indexq (A : Option Addr) (n cap : Nat) (qs : List PQ2) (hl : qs.length = n) (hn : n ≤ 60) (w : World) (hv : QS w (.slice A n cap) qs) :
    Calls Try.prog 78 #[.slice A n cap, .func (.func 49) #[] #[]] w (GiveI (qs.any badq) w) := by
  replace hv := Lib.hid hv
  replace hl := Lib.hid hl
  go_enter Try.func78, Try.ntmps78
  go_wp2_with fail
  have BB : Hid (Below w.heap.size w w) := Below.refl _ _
  have hI0 : Hid (Below w.heap.size w w ∧ (qs.take 0).any badq = false) := ⟨BB.out, rfl⟩
  clear BB
  go_loopw [5, 8] (fun _ i wr => ∃ k : Nat, k ≤ n ∧ i = .int .i64 (k : Int) ∧ Hid (Below w.heap.size w wr ∧ (qs.take k).any badq = false)) (fun _ i _ => n - (intOf i).toNat)
  case atStart => exact ⟨0, by omega, rfl, hI0⟩
  case round =>
    clear hI0
    obtain ⟨k, hk, rfl, hI⟩ := hrel
    obtain ⟨BB, hF⟩ := hI.out
    replace BB := Lib.hid BB
    by_cases hkn : k < n
    · have hstep := anyq_step (qs := qs) (p := badq) (k := k) (by rw [hl.out]; exact hkn)
      rw [hF, Bool.false_or] at hstep
      obtain ⟨b, off, rfl, c1, c2⟩ := (hv.out.below BB.out).at_ hl.out hkn
      have CW := Lib.hid (fun w => wrong_any (qs.getD k (0, 1)).1 (qs.getD k (0, 1)).2 w)
      have hP := Lib.hid (show badq ((qs.getD k (0, 1)).1, (qs.getD k (0, 1)).2) = badq (qs.getD k (0, 1)) from rfl)
      generalize (qs.getD k (0, 1)).1 = z1 at *
      generalize (qs.getD k (0, 1)).2 = z2 at *
      clear hF hI
      have e1 : IntKind.i64.wrap ((k : Int) + 1) = ((k + 1 : Nat) : Int) := by rw [show ((k + 1 : Nat) : Int) = (k : Int) + 1 by omega]; exact iw ⟨by omega, by omega⟩
      cases hz : badq (z1, z2)
      · rw [hz] at CW hP
        have hN : Hid ((qs.take (k + 1)).any badq = false) := by show _ = _; rw [hstep]; exact hP.out.symm
        clear hstep hz hP
        go_wp2_with fail
        refine (CW.out _).mono ?_
        rintro e w1 ⟨rfl, hb⟩
        replace BB := Lib.hid (below_next BB.out hb)
        clear hb
        go_wp2_with fail
        go_roundw
        case rel => exact ⟨k + 1, by omega, by go_num, ⟨BB.out, hN.out⟩⟩
        case measure => simp [intOf]; omega
      · rw [hz] at CW hP
        have hN : Hid (qs.any badq = true) := by
          show _ = _
          have : qs.any badq = ((qs.take (k + 1)) ++ qs.drop (k + 1)).any badq := by rw [List.take_append_drop]
          rw [this, List.any_append, hstep, ← hP.out]; rfl
        clear hstep hz hP
        go_wp2_with fail
        refine (CW.out _).mono ?_
        rintro e w2 ⟨rfl, hb⟩
        replace BB := Lib.hid (below_next BB.out hb)
        clear hb
        go_wp2_with fail
        go_ret
        exact ⟨_, rfl, BB.out, by rw [hN.out]; simp⟩
    · have hN : Hid (qs.any badq = false) := by
        rw [List.take_of_length_le (by rw [hl.out]; omega)] at hF
        exact hF
      obtain rfl : k = n := by omega
      clear hF hI
      go_wp2_with fail
      go_ret
      exact ⟨_, rfl, BB.out, by rw [hN.out]; rfl⟩
theorem containsq (A : Option Addr) (n cap : Nat) (qs : List PQ2) (hl : qs.length = n) (hn : n ≤ 60) (w : World) (hv : QS w (.slice A n cap) qs) :
    Calls Try.prog 51 #[.slice A n cap, .func (.func 49) #[] #[]] w fun e w' => e = .returned (.bool (qs.any badq)) ∧ Below w.heap.size w w' := by
  have C := Lib.hid (indexq A n cap qs hl hn w hv)
  clear hv hl hn
  generalize qs.any badq = R at *
  go_enter Try.func51, Try.ntmps51
  go_wp2_with fail
  have BB : Hid (Below w.heap.size w w) := Below.refl _ _
  refine (C.out).mono ?_
  rintro e w1 ⟨r, rfl, hb, hr⟩
  replace BB := Lib.hid (below_next BB.out hb)
  clear hb
  go_wp2_with fail
  go_ret
  exact ⟨by rw [← hr]; rfl, BB.out⟩
end Go.Proofs.Ythdbchghhpoadaa
