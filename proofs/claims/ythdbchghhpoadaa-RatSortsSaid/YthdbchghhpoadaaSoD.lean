/- Contract of rat.Sort. -/
import Derived.Test.YthdbchghhpoadaaSoC
set_option linter.unusedVariables false
set_option linter.unusedSimpArgs false
namespace Go.Proofs.Ythdbchghhpoadaa
open Go.RowKit Go.ChangeShapes Go.WideShapes Go.ChangeAt Go.Deep
theorem insertion_nil (w : World) : Calls Try.prog 104 #[.slice none 0 0, .int .i64 0, .int .i64 0, ORD] w fun e w' => e = .returned (.tuple #[]) ∧ w = w' := by
  go_enter Try.func104, Try.ntmps104
  go_wp2_with fail
  go_loopw [8, 9] (fun a _ wr => a = .int .i64 1 ∧ wr = w) (fun _ _ _ => 0)
  case atStart => exact ⟨rfl, rfl⟩
  case round =>
    obtain ⟨rfl, rfl⟩ := hrel
    go_wp2_with fail
    go_end0
    exact ⟨rfl, rfl⟩
theorem stable_nil (w : World) : Calls Try.prog 79 #[.slice none 0 0, .int .i64 0, ORD] w fun e w' => e = .returned (.tuple #[]) ∧ w = w' := by
  have CI := Lib.hid (fun w => insertion_nil w)
  go_enter Try.func79, Try.ntmps79
  go_wp2_with fail
  go_loopw [7, 8] (fun a d wr => a = .int .i64 0 ∧ d = .int .i64 20 ∧ wr = w) (fun _ _ _ => 0)
  case atStart => exact ⟨rfl, rfl, rfl⟩
  case round =>
    obtain ⟨rfl, rfl, rfl⟩ := hrel
    go_wp2_with fail
    refine (CI.out _).mono ?_; rintro e w9 ⟨rfl, rfl⟩
    go_wp2_with fail
    go_loopw [6, 7, 8, 9] (fun a _ _ _ w9 => a = .int .i64 20 ∧ w9 = wr) (fun _ _ _ _ _ => 0)
    case atStart => exact ⟨rfl, rfl⟩
    case round =>
      obtain ⟨rfl, rfl⟩ := hrel
      go_wp2_with fail
      go_end0
      exact ⟨rfl, rfl⟩
theorem sortStable_nil (w : World) : Calls Try.prog 53 #[.slice none 0 0, ORD] w fun e w' => e = .returned (.tuple #[]) ∧ w = w' := by
  have CI := Lib.hid (fun w => stable_nil w)
  go_enter Try.func53, Try.ntmps53
  go_wp2_with fail
  refine (CI.out _).mono ?_; rintro e w9 ⟨rfl, rfl⟩
  go_wp2_with fail
  go_end0
  exact ⟨rfl, rfl⟩
theorem rsort_no (A : Option Addr) (n cap : Nat) (qs : List PQ2) (hl : qs.length = n) (hn : n ≤ 60) (hbad : qs.any badq = true) (w : World) (hv : QS w (.slice A n cap) qs) :
    Calls Try.prog 25 #[.slice A n cap] w fun e w' => e = .returned (.slice none 0 0) ∧ Below w.heap.size w w' := by
  have C := Lib.hid (containsq A n cap qs hl hn w hv)
  rw [hbad] at C
  clear hv hl hn hbad
  go_enter Try.func25, Try.ntmps25
  go_wp2_with fail
  have BB : Hid (Below w.heap.size w w) := Below.refl _ _
  refine (C.out).mono ?_
  rintro e w1 ⟨rfl, hb⟩
  replace BB := Lib.hid (below_next BB.out hb)
  clear hb
  go_wp2_with fail
  go_ret
  exact ⟨rfl, BB.out⟩
/-- The fractions in order. -/
def GiveSort (n : Nat) (D : Nat → E3) (w : World) (e : Ending) (w' : World) : Prop := ∃ A c, e = .returned (.slice A n c) ∧ Below w.heap.size w w' ∧ (n ≠ 0 → ∃ g E, A = some ⟨g, 0, none⟩ ∧ SR w' g n E ∧ Sb D E 0 n ∧ Srt ltE E 0 n)
theorem rowE_ok {qs : List PQ2} (hi : ∀ p ∈ qs, I64 p.1 ∧ I64 p.2) (h : qs.any badq = false) : ∀ k, OkE (rowE qs k) := by
  intro k
  unfold rowE OkE
  by_cases hk : k < qs.length
  · have e : qs.getD k (0, 1) = qs[k] := by simp [List.getD, List.getElem?_eq_getElem hk]
    have hm : qs[k] ∈ qs := List.getElem_mem hk
    rw [e]
    have hb := List.any_eq_false.1 h _ hm
    unfold badq at hb
    exact ⟨(hi _ hm).1, (hi _ hm).2, by simpa using hb⟩
  · have e : qs.getD k (0, 1) = (0, 1) := by simp [List.getD, List.getElem?_eq_none (show qs.length ≤ k by omega)]
    rw [e]
    exact ⟨show I64 0 by unfold I64; omega, show I64 1 by unfold I64; omega, show (0 : Int) < 1 by omega⟩
set_option maxRecDepth 100000 in
set_option maxHeartbeats 2000000 in
theorem rsort_ok (A : Option Addr) (n cap : Nat) (qs : List PQ2) (hl : qs.length = n) (hn : n ≤ 60) (hgood : qs.any badq = false) (w : World) (hv : QS w (.slice A n cap) qs) :
    Calls Try.prog 25 #[.slice A n cap] w (GiveSort n (rowE qs) w) := by
  have C := Lib.hid (containsq A n cap qs hl hn w hv)
  have hOk := Lib.hid (rowE_ok (by obtain ⟨_, _, _, _, _, h, _⟩ := hv; exact h) hgood)
  rw [hgood] at C
  cases A with
  | none =>
    obtain rfl : n = 0 := by
      by_cases e : n = 0
      · exact e
      · obtain ⟨b, off, h, -⟩ := hv.at_ hl (k := 0) (by omega)
        cases h
    have CN := Lib.hid (fun w => clone_none 0 cap w)
    have CS := Lib.hid (fun w => sortStable_nil w)
    clear hv hl hn hgood hOk
    go_enter Try.func25, Try.ntmps25
    go_wp2_with fail
    have BB : Hid (Below w.heap.size w w) := Below.refl _ _
    refine (C.out).mono ?_
    rintro e w1 ⟨rfl, hb⟩
    replace BB := Lib.hid (below_next BB.out hb)
    clear hb
    go_wp2_with fail
    refine (CN.out _).mono ?_
    rintro e w9 ⟨rfl, rfl⟩
    go_wp2_with fail
    refine (CS.out _).mono ?_
    rintro e w9 ⟨rfl, rfl⟩
    go_wp2_with fail
    go_ret
    exact ⟨none, 0, rfl, BB.out, fun h => absurd rfl h⟩
  | some ad =>
    have CN := Lib.hid (fun w hv => clone_some ad n cap qs hl hn w hv)
    have CS := Lib.hid (fun W0 g c w h => sortStable_any W0 g c n (by omega) (rowE qs) hOk.out (fun i _ => rfl) w h)
    replace hv := Lib.hid hv
    clear hl hn hgood hOk
    go_enter Try.func25, Try.ntmps25
    go_wp2_with fail
    have BB : Hid (Below w.heap.size w w) := Below.refl _ _
    refine (C.out).mono ?_
    rintro e w1 ⟨rfl, hb⟩
    replace BB := Lib.hid (below_next BB.out hb)
    clear hb
    have h_v := Lib.hid (hv.out.below BB.out)
    clear hv
    go_wp2_with fail
    have HB := BB
    refine (CN.out _ h_v.out).mono ?_
    rintro e w2 ⟨g, c, rfl, hb, hg, hR⟩
    replace h_v := Lib.hid (QS.below h_v.out hb)
    replace BB := Lib.hid (below_next BB.out hb)
    clear hb
    have hR := Lib.hid (SRw.mk hR BB.out (Nat.le_trans HB.out.size hg))
    go_wp2_with fail
    refine (CS.out w g c _ hR.out).mono ?_
    rintro e w5 ⟨rfl, E, k1, k2, k3⟩
    replace k1 := Lib.hid k1
    replace k2 := Lib.hid k2
    replace k3 := Lib.hid k3
    go_wp2_with fail
    go_ret
    exact ⟨_, c, rfl, k1.out.bl, fun _ => ⟨g, E, rfl, k1.out.sr, k2.out, k3.out⟩⟩
end Go.Proofs.Ythdbchghhpoadaa
