/- The walk of the law RatSorts. -/
import Derived.Test.YthdbchghhpoadaaSoD
set_option linter.unusedVariables false
set_option linter.unusedSimpArgs false
namespace Go.Proofs.Ythdbchghhpoadaa
open Go.RowKit Go.ChangeShapes Go.WideShapes Go.ChangeAt Go.Deep
def ltB (x y : E3) : Bool := decide (x.1.1 * y.1.2 < y.1.1 * x.1.2) || (decide (x.1.1 * y.1.2 = y.1.1 * x.1.2) && decide (x.2 < y.2))
theorem ltB_iff {x y : E3} : ltB x y = true ↔ ltE x y := by
  unfold ltB ltE; simp
theorem ltE_asym {x y : E3} (h : ltE x y) (h' : ltE y x) : False := by
  unfold ltE at h h'
  generalize x.1.1 * y.1.2 = a at *
  generalize y.1.1 * x.1.2 = b at *
  omega
theorem ltE_irr {x : E3} (h : ltE x x) : False := ltE_asym h h
theorem cnt_le {P : E3 → Bool} {D : Nat → E3} : ∀ n, cntP P D n ≤ n
  | 0 => Nat.le_refl _
  | n + 1 => by
    have := cnt_le (P := P) (D := D) n
    unfold cntP; split <;> omega
/-- Where a thing stands in the end: behind all that come ahead of it. -/
theorem place_of {n i : Nat} {D E : Nat → E3} (hi : i < n) (hS : Sb D E 0 n) (hO : Srt ltE E 0 n) : ∃ p, p < n ∧ E p = D i ∧ cntP (fun z => ltB z (D i)) D n = p := by
  have h1 : 0 < cntP (fun z => decide (z = D i)) D n := cnt_has n i hi (by simp)
  rw [← hS.cnt _ n (Nat.le_refl _)] at h1
  obtain ⟨p, hp, he⟩ := cnt_pos n h1
  have he : E p = D i := by simpa using he
  refine ⟨p, hp, he, ?_⟩
  rw [← hS.cnt _ n (Nat.le_refl _)]
  refine cnt_sorted (by omega) (fun k hk => ?_) (fun k k1 k2 => ?_)
  · rw [← he]; exact ltB_iff.2 (hO k p (by omega) hk hp)
  · rw [← he]
    by_cases e : k = p
    · subst e
      cases hb : ltB (E k) (E k)
      · rfl
      · exact (ltE_irr (ltB_iff.1 hb)).elim
    · cases hb : ltB (E k) (E p)
      · rfl
      · exact (ltE_asym (ltB_iff.1 hb) (hO p k (by omega) (by omega) k2)).elim
theorem QS.i64 {w : World} {v : Value} {qs : List PQ2} (h : QS w v qs) (k : Nat) : I64 (qs.getD k (0, 1)).1 ∧ I64 (qs.getD k (0, 1)).2 := by
  obtain ⟨_, _, _, _, _, hi, _⟩ := h
  by_cases hk : k < qs.length
  · have e : qs.getD k (0, 1) = qs[k] := by simp [List.getD, List.getElem?_eq_getElem hk]
    rw [e]; exact hi _ (List.getElem_mem hk)
  · have e : qs.getD k (0, 1) = (0, 1) := by simp [List.getD, List.getElem?_eq_none (show qs.length ≤ k by omega)]
    rw [e]; exact ⟨show I64 0 by unfold I64; omega, show I64 1 by unfold I64; omega⟩
theorem ratSorts_long (A : Option Addr) (n cap : Nat) (hn : ¬ n ≤ 60) (w : World) :
    Calls Try.prog 7 #[.slice A n cap] w fun e w' => e = .returned (.bool true) ∧ Below w.heap.size w w' := by
  have h60 : (60 : Int) < (n : Int) := by omega
  go_enter Try.func7, Try.ntmps7
  go_wp2_with fail
  go_ret
  exact ⟨rfl, Below.refl _ _⟩
set_option maxRecDepth 100000 in
set_option maxHeartbeats 4000000 in
theorem ratSorts_bad (A : Option Addr) (n cap : Nat) (qs : List PQ2) (hl : qs.length = n) (hn : n ≤ 60) (hbad : qs.any badq = true) (w : World) (hv : QS w (.slice A n cap) qs) :
    Calls Try.prog 7 #[.slice A n cap] w fun e w' => e = .returned (.bool true) ∧ Below w.heap.size w w' := by
  have CS := Lib.hid (fun w hv => rsort_no A n cap qs hl hn hbad w hv)
  have CA := Lib.hid (fun w => alive03 w)
  replace hv := Lib.hid hv
  replace hl := Lib.hid hl
  replace hbad := Lib.hid hbad
  have h60 : ¬ ((60 : Int) < (n : Int)) := by omega
  go_enter Try.func7, Try.ntmps7
  go_wp2_with fail
  have BB : Hid (Below w.heap.size w w) := Below.refl _ _
  refine (CS.out _ hv.out).mono ?_
  rintro e w1 ⟨rfl, hb⟩
  replace BB := Lib.hid (below_next BB.out hb)
  clear hb
  clear CS
  go_wp2_with fail
  have hI0 : Hid (Below w.heap.size w w1 ∧ (qs.take 0).any badq = false) := ⟨BB.out, rfl⟩
  clear BB
  go_loopw [4] (fun a wr => ∃ k : Nat, k ≤ n ∧ a = .int .i64 (k : Int) ∧ Hid (Below w.heap.size w wr ∧ (qs.take k).any badq = false)) (fun a _ => n - (intOf a).toNat)
  case atStart => exact ⟨0, by omega, rfl, hI0⟩
  case round =>
    clear hI0
    obtain ⟨k, hk, rfl, hI⟩ := hrel
    obtain ⟨BB, hF⟩ := hI.out
    replace BB := Lib.hid BB
    clear hI
    by_cases hkn : k < n
    · have hstep := anyq_step (qs := qs) (p := badq) (k := k) (by rw [hl.out]; exact hkn)
      rw [hF, Bool.false_or] at hstep
      obtain ⟨b, off, rfl, c1, c2⟩ := (hv.out.below BB.out).at_ hl.out hkn
      have hP := Lib.hid (show badq (qs.getD k (0, 1)) = !decide ((qs.getD k (0, 1)).2 > 0) from rfl)
      generalize (qs.getD k (0, 1)).1 = z1 at *
      generalize (qs.getD k (0, 1)).2 = z2 at *
      clear hF
      have e1 : IntKind.i64.wrap ((k : Int) + 1) = ((k + 1 : Nat) : Int) := by rw [show ((k + 1 : Nat) : Int) = (k : Int) + 1 by omega]; exact iw ⟨by omega, by omega⟩
      by_cases hz : 0 < z2
      · have f1 : ¬ z2 < 1 := by omega
        have f2 : decide (z2 < 1) = false := decide_eq_false f1
        have hN : Hid ((qs.take (k + 1)).any badq = false) := by show _ = _; rw [hstep, hP.out]; simpa using hz
        clear hstep hP
        go_wp2_with fail
        go_roundw
        case rel => exact ⟨k + 1, by omega, by go_num, ⟨BB.out, hN.out⟩⟩
        case measure => simp [intOf]; omega
      · have f1 : z2 < 1 := by omega
        have f2 : decide (z2 < 1) = true := decide_eq_true f1
        clear hstep hP
        go_wp2_with fail
        refine (CA.out _).mono ?_
        rintro e w2 ⟨rfl, hb⟩
        replace BB := Lib.hid (below_next BB.out hb)
        clear hb
        go_wp2_with fail
        go_ret
        exact ⟨rfl, BB.out⟩
    · rw [List.take_of_length_le (by rw [hl.out]; omega), hbad.out] at hF
      cases hF
end Go.Proofs.Ythdbchghhpoadaa
