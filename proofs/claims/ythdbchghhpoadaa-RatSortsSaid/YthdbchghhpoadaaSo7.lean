/- slices.symMergeCmpFunc: a range of one thing is merged with another. -/
import Derived.Test.YthdbchghhpoadaaSo6
set_option linter.unusedVariables false
set_option linter.unusedSimpArgs false
namespace Go.Proofs.Ythdbchghhpoadaa
open Go.RowKit
def Merged (W0 : World) (b n : Nat) (D : Nat → E3) (x y : Nat) (e : Ending) (w' : World) : Prop := e = .returned (.tuple #[]) ∧ ∃ E, SRw W0 b n E w' ∧ Sb D E x y ∧ Srt ltE E x y
set_option maxRecDepth 100000 in
set_option maxHeartbeats 4000000 in
theorem symA (W0 : World) (b c n : Nat) (hn : n ≤ 1000) (x m y : Nat) (hm : m = x + 1) (hy : m < y) (hyn : y ≤ n) (D : Nat → E3) (hOk : ∀ k, OkE (D k)) (hs2 : Srt ltE D m y) (hT : TagLt (fun z : E3 => z.2) D x m y) (w : World) (h : SRw W0 b n D w) :
    Calls Try.prog 105 #[.slice (some ⟨b, 0, none⟩) n c, .int .i64 (x : Int), .int .i64 (m : Int), .int .i64 (y : Int), ORD] w (Merged W0 b n D x y) := by
  have hn := Lib.hid hn
  have hOk := Lib.hid hOk
  have hT := Lib.hid (fun k h1 h2 => hT x k (by omega) (by omega) h1 h2)
  have hs2 := Lib.hid hs2
  have h_s := Lib.hid h
  have e0 : IntKind.i64.wrap ((m : Int) - (x : Int)) = 1 := by rw [show (m : Int) - (x : Int) = 1 by omega]; rfl
  have hm := Lib.hid hm
  clear h
  have hxm : x < m := by have := hm.out; omega
  go_enter Try.func105, Try.ntmps105
  go_wp2_with fail
  go_loopw [10, 11, 12] (fun a d _ wr => ∃ i j : Nat, m ≤ i ∧ i ≤ j ∧ j ≤ y ∧ a = .int .i64 (i : Int) ∧ d = .int .i64 (j : Int) ∧ Hid (SRw W0 b n D wr ∧ (∀ k, m ≤ k → k < i → ltE (D k) (D x)) ∧ ∀ k, j ≤ k → k < y → ltE (D x) (D k))) (fun a d _ _ => (intOf d).toNat - (intOf a).toNat)
  case atStart => exact ⟨m, y, by omega, by omega, by omega, by first | rfl | (rw [show (m : Int) = (x : Int) + 1 by have := hm.out; omega]), rfl, h_s.out, fun k h1 h2 => by omega, fun k h1 h2 => by omega⟩
  case round =>
    clear h_s e0
    obtain ⟨i, j, hmi, hij, hjy, rfl, rfl, hI⟩ := hrel
    obtain ⟨h_s, h1, h2⟩ := hI.out
    replace h_s := Lib.hid h_s
    replace h1 := Lib.hid h1
    replace h2 := Lib.hid h2
    clear hI
    by_cases hlt : i < j
    · skip
      have hn' := hn.out
      have hij' : ((i : Nat) : Int) < ((j : Nat) : Int) := by omega
      obtain ⟨f0, hh⟩ : ∃ f0, f0 = (i + j) / 2 := ⟨_, rfl⟩
      have hhi : i ≤ f0 := by omega
      have hhj : f0 < j := by omega
      obtain ⟨s, hs⟩ : ∃ s, s = (i : Int) + (j : Int) := ⟨_, rfl⟩
      have e1 : IntKind.i64.wrap ((i : Int) + (j : Int)) = s := by rw [hs]; exact iw ⟨by omega, by omega⟩
      have e2 : IntKind.u64.wrap s = s := by rw [hs]; simp [IntKind.wrap, IntKind.bits, IntKind.signed]; omega
      have e3 : s / 2 = (f0 : Int) := by omega
      have e4 : IntKind.i64.wrap (f0 : Int) = (f0 : Int) := iw ⟨by omega, by omega⟩
      have e5 : IntKind.i64.wrap ((f0 : Int) + 1) = ((f0 + 1 : Nat) : Int) := by rw [show ((f0 + 1 : Nat) : Int) = (f0 : Int) + 1 by omega]; exact iw ⟨by omega, by omega⟩
      clear hh hs hn'
      have hst := sr_step1 stE hOk.out hs2.out hT.out hmi hhi hhj hjy h1.out h2.out
      have BB : Hid (Below wr.heap.size wr wr) := Below.refl _ _
      cases hc : clE (D f0) (D x)
      · have CO := Lib.hid (fun w => order_not (D f0) (D x) (hOk.out _) (hOk.out _) hc w)
        replace hst := Lib.hid (hst.2 hc)
        clear hc
        have nn1 : f0 < n := by omega
        have nn2 : x < n := by omega
        have KC := Lib.hid (fun (w9 : World) (hb : Below wr.heap.size wr w9) => (h_s.out.below hb).two (i := f0) (j := x) (by omega) (by omega))
        generalize (D f0).1.1 = u1 at *
        generalize (D f0).1.2 = u2 at *
        generalize (D x).1.1 = v1 at *
        generalize (D x).1.2 = v2 at *
        go_wp2_with fail
        have KK := Lib.hid (fun (w9 : World) (h : Below wr.heap.size wr w9) => (KC.out _ h : (w9.cell? ⟨b, f0 * 2, none⟩ = some (.int .i64 u1) ∧ w9.cell? ⟨b, f0 * 2 + 1, none⟩ = some (.int .i64 u2) ∧ w9.cell? ⟨b, x * 2, none⟩ = some (.int .i64 v1) ∧ w9.cell? ⟨b, x * 2 + 1, none⟩ = some (.int .i64 v2))))
        have K0 := KK.out wr (Below.refl _ _)
        have KD := KK.out wr.drew (below_drew (Below.refl _ _))
        go_region_held3 (fun w9 => (w9.cell? ⟨b, f0 * 2, none⟩ = some (.int .i64 u1) ∧ w9.cell? ⟨b, f0 * 2 + 1, none⟩ = some (.int .i64 u2) ∧ w9.cell? ⟨b, x * 2, none⟩ = some (.int .i64 v1) ∧ w9.cell? ⟨b, x * 2 + 1, none⟩ = some (.int .i64 v2)))
            (first | with_reducible exact KD | with_reducible exact K0 | with_reducible exact K_w1)
            (first
              | (go_at_call 54
                 refine (CO.out _).mono ?_
                 rintro e w1 ⟨z, rfl, hb, hz⟩
                 have B_w1 := Lib.hid (reg_next (w0 := wr) (by repeat (first | with_reducible exact Below.refl _ _ | with_reducible apply below_drew | with_reducible apply below_new)) hb)
                 have K_w1 := KK.out _ B_w1.out
                 clear hb))
        clear KK K0 KD K_w1
        replace h_s := Lib.hid (SRw.below h_s.out B_w1.out)
        replace BB := Lib.hid (below_next BB.out B_w1.out)
        clear B_w1
        go_wp2_with fail
        go_roundw
        case rel => exact ⟨i, f0, hmi, hhi, by omega, rfl, rfl, h_s.out, h1.out, hst.out⟩
        case measure => simp [intOf]; omega
      · have CO := Lib.hid (fun w => order_yes (D f0) (D x) (hOk.out _) (hOk.out _) hc w)
        replace hst := Lib.hid (hst.1 hc)
        clear hc
        have nn1 : f0 < n := by omega
        have nn2 : x < n := by omega
        have KC := Lib.hid (fun (w9 : World) (hb : Below wr.heap.size wr w9) => (h_s.out.below hb).two (i := f0) (j := x) (by omega) (by omega))
        generalize (D f0).1.1 = u1 at *
        generalize (D f0).1.2 = u2 at *
        generalize (D x).1.1 = v1 at *
        generalize (D x).1.2 = v2 at *
        go_wp2_with fail
        have KK := Lib.hid (fun (w9 : World) (h : Below wr.heap.size wr w9) => (KC.out _ h : (w9.cell? ⟨b, f0 * 2, none⟩ = some (.int .i64 u1) ∧ w9.cell? ⟨b, f0 * 2 + 1, none⟩ = some (.int .i64 u2) ∧ w9.cell? ⟨b, x * 2, none⟩ = some (.int .i64 v1) ∧ w9.cell? ⟨b, x * 2 + 1, none⟩ = some (.int .i64 v2))))
        have K0 := KK.out wr (Below.refl _ _)
        have KD := KK.out wr.drew (below_drew (Below.refl _ _))
        go_region_held3 (fun w9 => (w9.cell? ⟨b, f0 * 2, none⟩ = some (.int .i64 u1) ∧ w9.cell? ⟨b, f0 * 2 + 1, none⟩ = some (.int .i64 u2) ∧ w9.cell? ⟨b, x * 2, none⟩ = some (.int .i64 v1) ∧ w9.cell? ⟨b, x * 2 + 1, none⟩ = some (.int .i64 v2)))
            (first | with_reducible exact KD | with_reducible exact K0 | with_reducible exact K_w1)
            (first
              | (go_at_call 54
                 refine (CO.out _).mono ?_
                 rintro e w1 ⟨z, rfl, hb, hz⟩
                 have B_w1 := Lib.hid (reg_next (w0 := wr) (by repeat (first | with_reducible exact Below.refl _ _ | with_reducible apply below_drew | with_reducible apply below_new)) hb)
                 have K_w1 := KK.out _ B_w1.out
                 clear hb))
        clear KK K0 KD K_w1
        replace h_s := Lib.hid (SRw.below h_s.out B_w1.out)
        replace BB := Lib.hid (below_next BB.out B_w1.out)
        clear B_w1
        go_wp2_with fail
        go_roundw
        case rel => exact ⟨f0 + 1, j, by omega, by omega, hjy, by go_num, rfl, h_s.out, hst.out, h2.out⟩
        case measure => simp [intOf]; omega
    · obtain rfl : i = j := by omega
      have hM : Hid (Srt ltE (mvr D x (i - 1)) x y) := mvr_sorted (by rw [← hm.out]; exact hs2.out) (by have := hm.out; omega) hjy (fun k k1 k2 => h1.out k (by have := hm.out; omega) k2) h2.out
      have hB : Hid (Sb D (mvr D x (i - 1)) x y) := by
        have := Sb.mvr (D := D) (a := x) (b := y) (i - 1 - x) (by omega)
        rwa [show x + (i - 1 - x) = i - 1 by omega] at this
      obtain ⟨l, hl⟩ : ∃ l, l = i - 1 := ⟨_, rfl⟩
      have e1 : IntKind.i64.wrap ((i : Int) - 1) = (l : Int) := by have := hn.out; rw [show (l : Int) = (i : Int) - 1 by omega]; exact iw ⟨by omega, by omega⟩
      have hll := Lib.hid (show x ≤ l ∧ l < y by omega)
      rw [← hl] at hM hB
      clear hl h1 h2 hmi
      have hJ : Hid (SRw W0 b n (mvr D x x) wr) := by rw [mvr_self]; exact h_s
      clear h_s
      go_wp2_with fail
      go_loopw [13] (fun a wr => ∃ t : Nat, x ≤ t ∧ t ≤ l ∧ a = .int .i64 (t : Int) ∧ Hid (SRw W0 b n (mvr D x t) wr)) (fun a _ => l - (intOf a).toNat)
      case atStart => exact ⟨x, by omega, hll.out.1, rfl, hJ⟩
      case round =>
        clear hJ
        obtain ⟨t, hxt, htl, rfl, h_s⟩ := hrel
        by_cases htl' : t < l
        · have e3 : IntKind.i64.wrap ((t : Int) + 1) = (t : Int) + 1 := by have := hn.out; have := hll.out; exact iw ⟨by omega, by omega⟩
          have htn : t < n := by have := hll.out; omega
          have hqn : t + 1 < n := by have := hll.out; omega
          have b0 : (0 : Int) ≤ (t : Int) + 1 := by omega
          have b1 : (t : Int) + 1 < (n : Int) := by omega
          have hS := Lib.hid (h_s.out.swp htn hqn)
          have hE := Lib.hid (show swp (mvr D x t) t (t + 1) = mvr D x (t + 1) by exact mvr_step D hxt)
          have hql := Lib.hid (show t + 1 ≤ l by omega)
          obtain ⟨a1, a2, a3, a4⟩ := h_s.out.sr.cells htn
          obtain ⟨b1', b2, b3, b4⟩ := h_s.out.sr.cells hqn
          generalize (mvr D x t t).1.1 = u1 at *
          generalize (mvr D x t t).1.2 = u2 at *
          generalize (mvr D x t (t + 1)).1.1 = v1 at *
          generalize (mvr D x t (t + 1)).1.2 = v2 at *
          go_wp2_with fail
          go_region
          all_goals (
            have hS2 := hS.out.drew
            rw [hE.out] at hS2
            replace hS := Lib.hid hS2
            clear hS2 h_s a1 a2 a3 a4 b1' b2 b3 b4
            go_wp2_with fail
            go_roundw
            case rel => exact ⟨t + 1, by omega, hql.out, by go_num, hS⟩
            case measure => have := hql.out; simp [intOf]; omega)
        · obtain rfl : t = l := by omega
          go_wp2_with fail
          go_end0
          exact ⟨rfl, _, h_s.out, hB.out, hM.out⟩
end Go.Proofs.Ythdbchghhpoadaa
