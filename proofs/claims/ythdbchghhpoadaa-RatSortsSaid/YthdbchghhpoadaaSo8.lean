/- slices.symMergeCmpFunc: a range is merged with one thing behind it. -/
import Derived.Test.YthdbchghhpoadaaSo7
set_option linter.unusedVariables false
set_option linter.unusedSimpArgs false
namespace Go.Proofs.Ythdbchghhpoadaa
open Go.RowKit
set_option maxRecDepth 100000 in
set_option maxHeartbeats 4000000 in
theorem symB (W0 : World) (b c n : Nat) (hn : n ≤ 1000) (x m y : Nat) (hxm : x + 1 < m) (hy : y = m + 1) (hyn : y ≤ n) (D : Nat → E3) (hOk : ∀ k, OkE (D k)) (hs1 : Srt ltE D x m) (hT : TagLt (fun z : E3 => z.2) D x m y) (w : World) (h : SRw W0 b n D w) :
    Calls Try.prog 105 #[.slice (some ⟨b, 0, none⟩) n c, .int .i64 (x : Int), .int .i64 (m : Int), .int .i64 (y : Int), ORD] w (Merged W0 b n D x y) := by
  have e0 : IntKind.i64.wrap ((m : Int) - (x : Int)) = ((m - x : Nat) : Int) := by rw [show ((m - x : Nat) : Int) = (m : Int) - (x : Int) by omega]; exact iw ⟨by omega, by omega⟩
  have e9 : IntKind.i64.wrap ((y : Int) - (m : Int)) = 1 := by rw [show (y : Int) - (m : Int) = 1 by omega]; rfl
  have hn := Lib.hid hn
  have hOk := Lib.hid hOk
  have hT := Lib.hid (fun k h1 h2 => hT k m h1 h2 (by omega) (by omega))
  have hs1 := Lib.hid hs1
  have h_s := Lib.hid h
  have hy := Lib.hid hy
  obtain ⟨z, hz⟩ : ∃ z, z = m - x := ⟨_, rfl⟩
  rw [← hz] at e0
  have z1 : ¬ ((z : Int) = 1) := by omega
  have hmn : m < n := by have := hy.out; omega
  clear h hz
  go_enter Try.func105, Try.ntmps105
  go_wp2_with fail
  go_loopw [14, 15, 16] (fun a d _ wr => ∃ i j : Nat, x ≤ i ∧ i ≤ j ∧ j ≤ m ∧ a = .int .i64 (i : Int) ∧ d = .int .i64 (j : Int) ∧ Hid (SRw W0 b n D wr ∧ (∀ k, x ≤ k → k < i → ltE (D k) (D m)) ∧ ∀ k, j ≤ k → k < m → ltE (D m) (D k))) (fun a d _ _ => (intOf d).toNat - (intOf a).toNat)
  case atStart => exact ⟨x, m, by omega, by omega, by omega, rfl, rfl, h_s.out, fun k h1 h2 => by omega, fun k h1 h2 => by omega⟩
  case round =>
    clear h_s e0 e9 z1
    obtain ⟨i, j, hmi, hij, hjy, rfl, rfl, hI⟩ := hrel
    obtain ⟨h_s, h1, h2⟩ := hI.out
    replace h_s := Lib.hid h_s
    replace h1 := Lib.hid h1
    replace h2 := Lib.hid h2
    clear hI
    by_cases hlt : i < j
    · skip
      have hn' := hn.out
      have hij' : ((i : Nat) : Int) < ((j : Nat) : Int) := by omega
      obtain ⟨f0, hh⟩ : ∃ f0, f0 = (i + j) / 2 := ⟨_, rfl⟩
      have hhi : i ≤ f0 := by omega
      have hhj : f0 < j := by omega
      obtain ⟨s, hs⟩ : ∃ s, s = (i : Int) + (j : Int) := ⟨_, rfl⟩
      have e1 : IntKind.i64.wrap ((i : Int) + (j : Int)) = s := by rw [hs]; exact iw ⟨by omega, by omega⟩
      have e2 : IntKind.u64.wrap s = s := by rw [hs]; simp [IntKind.wrap, IntKind.bits, IntKind.signed]; omega
      have e3 : s / 2 = (f0 : Int) := by omega
      have e4 : IntKind.i64.wrap (f0 : Int) = (f0 : Int) := iw ⟨by omega, by omega⟩
      have e5 : IntKind.i64.wrap ((f0 : Int) + 1) = ((f0 + 1 : Nat) : Int) := by rw [show ((f0 + 1 : Nat) : Int) = (f0 : Int) + 1 by omega]; exact iw ⟨by omega, by omega⟩
      clear hh hs hn'
      have hst := sr_step2 stE hOk.out hs1.out hT.out hmi hhi hhj hjy h1.out h2.out
      have BB : Hid (Below wr.heap.size wr wr) := Below.refl _ _
      cases hc : clE (D m) (D f0)
      · have CO := Lib.hid (fun w => order_not (D m) (D f0) (hOk.out _) (hOk.out _) hc w)
        replace hst := Lib.hid (hst.1 hc)
        clear hc
        have nn1 : m < n := by omega
        have nn2 : f0 < n := by omega
        have KC := Lib.hid (fun (w9 : World) (hb : Below wr.heap.size wr w9) => (h_s.out.below hb).two (i := m) (j := f0) (by omega) (by omega))
        generalize (D m).1.1 = u1 at *
        generalize (D m).1.2 = u2 at *
        generalize (D f0).1.1 = v1 at *
        generalize (D f0).1.2 = v2 at *
        go_wp2_with fail
        have KK := Lib.hid (fun (w9 : World) (h : Below wr.heap.size wr w9) => (KC.out _ h : (w9.cell? ⟨b, m * 2, none⟩ = some (.int .i64 u1) ∧ w9.cell? ⟨b, m * 2 + 1, none⟩ = some (.int .i64 u2) ∧ w9.cell? ⟨b, f0 * 2, none⟩ = some (.int .i64 v1) ∧ w9.cell? ⟨b, f0 * 2 + 1, none⟩ = some (.int .i64 v2))))
        have K0 := KK.out wr (Below.refl _ _)
        have KD := KK.out wr.drew (below_drew (Below.refl _ _))
        go_region_held3 (fun w9 => (w9.cell? ⟨b, m * 2, none⟩ = some (.int .i64 u1) ∧ w9.cell? ⟨b, m * 2 + 1, none⟩ = some (.int .i64 u2) ∧ w9.cell? ⟨b, f0 * 2, none⟩ = some (.int .i64 v1) ∧ w9.cell? ⟨b, f0 * 2 + 1, none⟩ = some (.int .i64 v2)))
            (first | with_reducible exact KD | with_reducible exact K0 | with_reducible exact K_w1)
            (first
              | (go_at_call 54
                 refine (CO.out _).mono ?_
                 rintro e w1 ⟨z, rfl, hb, hz⟩
                 have B_w1 := Lib.hid (reg_next (w0 := wr) (by repeat (first | with_reducible exact Below.refl _ _ | with_reducible apply below_drew | with_reducible apply below_new)) hb)
                 have K_w1 := KK.out _ B_w1.out
                 have hz2 : decide (z < 0) = false := decide_eq_false (by omega)
                 clear hb))
        clear KK K0 KD K_w1
        replace h_s := Lib.hid (SRw.below h_s.out B_w1.out)
        replace BB := Lib.hid (below_next BB.out B_w1.out)
        clear B_w1
        go_wp2_with fail
        go_roundw
        case rel => exact ⟨f0 + 1, j, by omega, by omega, hjy, by go_num, rfl, h_s.out, hst.out, h2.out⟩
        case measure => simp [intOf]; omega
      · have CO := Lib.hid (fun w => order_yes (D m) (D f0) (hOk.out _) (hOk.out _) hc w)
        replace hst := Lib.hid (hst.2 hc)
        clear hc
        have nn1 : m < n := by omega
        have nn2 : f0 < n := by omega
        have KC := Lib.hid (fun (w9 : World) (hb : Below wr.heap.size wr w9) => (h_s.out.below hb).two (i := m) (j := f0) (by omega) (by omega))
        generalize (D m).1.1 = u1 at *
        generalize (D m).1.2 = u2 at *
        generalize (D f0).1.1 = v1 at *
        generalize (D f0).1.2 = v2 at *
        go_wp2_with fail
        have KK := Lib.hid (fun (w9 : World) (h : Below wr.heap.size wr w9) => (KC.out _ h : (w9.cell? ⟨b, m * 2, none⟩ = some (.int .i64 u1) ∧ w9.cell? ⟨b, m * 2 + 1, none⟩ = some (.int .i64 u2) ∧ w9.cell? ⟨b, f0 * 2, none⟩ = some (.int .i64 v1) ∧ w9.cell? ⟨b, f0 * 2 + 1, none⟩ = some (.int .i64 v2))))
        have K0 := KK.out wr (Below.refl _ _)
        have KD := KK.out wr.drew (below_drew (Below.refl _ _))
        go_region_held3 (fun w9 => (w9.cell? ⟨b, m * 2, none⟩ = some (.int .i64 u1) ∧ w9.cell? ⟨b, m * 2 + 1, none⟩ = some (.int .i64 u2) ∧ w9.cell? ⟨b, f0 * 2, none⟩ = some (.int .i64 v1) ∧ w9.cell? ⟨b, f0 * 2 + 1, none⟩ = some (.int .i64 v2)))
            (first | with_reducible exact KD | with_reducible exact K0 | with_reducible exact K_w1)
            (first
              | (go_at_call 54
                 refine (CO.out _).mono ?_
                 rintro e w1 ⟨z, rfl, hb, hz⟩
                 have B_w1 := Lib.hid (reg_next (w0 := wr) (by repeat (first | with_reducible exact Below.refl _ _ | with_reducible apply below_drew | with_reducible apply below_new)) hb)
                 have K_w1 := KK.out _ B_w1.out
                 have hz2 : decide (z < 0) = true := decide_eq_true hz
                 clear hb))
        clear KK K0 KD K_w1
        replace h_s := Lib.hid (SRw.below h_s.out B_w1.out)
        replace BB := Lib.hid (below_next BB.out B_w1.out)
        clear B_w1
        go_wp2_with fail
        go_roundw
        case rel => exact ⟨i, f0, hmi, hhi, by omega, rfl, rfl, h_s.out, h1.out, hst.out⟩
        case measure => simp [intOf]; omega
    · obtain rfl : i = j := by omega
      have hM : Hid (Srt ltE (ins D m i) x y) := by
        show Srt _ _ _ _
        rw [hy.out]; exact ins_sorted hs1.out hmi hjy h1.out h2.out
      have hB : Hid (Sb D (ins D m i) x y) := by
        have := Sb.ins (D := D) (a := x) (i := m) (m - i) (by omega) (by omega)
        rw [show m - (m - i) = i by omega] at this
        show Sb _ _ _ _
        rw [hy.out]; exact this
      have him := Lib.hid hjy
      clear h1 h2
      have hJ : Hid (SRw W0 b n (ins D m m) wr) := by rw [ins_self]; exact h_s
      clear h_s
      go_wp2_with fail
      go_loopw [17] (fun a wr => ∃ t : Nat, i ≤ t ∧ t ≤ m ∧ a = .int .i64 (t : Int) ∧ Hid (SRw W0 b n (ins D m t) wr)) (fun a _ => (intOf a).toNat)
      case atStart => exact ⟨m, him.out, by omega, rfl, hJ⟩
      case round =>
        clear hJ
        obtain ⟨t, hit, htm, rfl, h_s⟩ := hrel
        by_cases hlt' : i < t
        · obtain ⟨q, hq⟩ : ∃ q, q = t - 1 := ⟨_, rfl⟩
          have e1 : IntKind.i64.wrap ((t : Int) - 1) = (q : Int) := by have := hn.out; rw [show (q : Int) = (t : Int) - 1 by omega]; exact iw ⟨by omega, by omega⟩
          have htn : t < n := by omega
          have hqn : q < n := by omega
          have hqt : q < t := by omega
          have hS := Lib.hid (h_s.out.swp htn hqn)
          have hE := Lib.hid (show swp (ins D m t) t q = ins D m q by rw [hq]; exact ins_step D (by omega) htm)
          have hql := Lib.hid (show i ≤ q ∧ q ≤ m by omega)
          clear hq
          obtain ⟨a1, a2, a3, a4⟩ := h_s.out.sr.cells htn
          obtain ⟨b1, b2, b3, b4⟩ := h_s.out.sr.cells hqn
          generalize (ins D m t t).1.1 = u1 at *
          generalize (ins D m t t).1.2 = u2 at *
          generalize (ins D m t q).1.1 = v1 at *
          generalize (ins D m t q).1.2 = v2 at *
          go_wp2_with fail
          go_region
          all_goals (
            have hS2 := hS.out.drew
            rw [hE.out] at hS2
            replace hS := Lib.hid hS2
            clear hS2 h_s a1 a2 a3 a4 b1 b2 b3 b4
            go_wp2_with fail
            go_roundw
            case rel => exact ⟨q, hql.out.1, hql.out.2, rfl, hS⟩
            case measure => simp [intOf]; omega)
        · obtain rfl : i = t := by omega
          go_wp2_with fail
          go_end0
          exact ⟨rfl, _, h_s.out, hB.out, hM.out⟩
end Go.Proofs.Ythdbchghhpoadaa
