/- Contract of slices.insertionSortCmpFunc. -/
import Derived.Test.YthdbchghhpoadaaSo5
import Derived.Test.YthdbchghhpoadaaSo1
set_option linter.unusedVariables false
set_option linter.unusedSimpArgs false
namespace Go.Proofs.Ythdbchghhpoadaa
open Go.RowKit
abbrev ORD : Value := .func (.func 54) #[] #[]
theorem SRw.two {W0 w : World} {b n : Nat} {D : Nat → E3} (h : SRw W0 b n D w) {i j : Nat} (hi : i < n) (hj : j < n) :
    w.cell? ⟨b, i * 2, none⟩ = some (.int .i64 (D i).1.1) ∧ w.cell? ⟨b, i * 2 + 1, none⟩ = some (.int .i64 (D i).1.2) ∧ w.cell? ⟨b, j * 2, none⟩ = some (.int .i64 (D j).1.1) ∧ w.cell? ⟨b, j * 2 + 1, none⟩ = some (.int .i64 (D j).1.2) := by
  obtain ⟨a1, a2, -, -⟩ := h.sr.cells hi
  obtain ⟨b1, b2, -, -⟩ := h.sr.cells hj
  exact ⟨a1, a2, b1, b2⟩
theorem order_yes (x y : E3) (hx : OkE x) (hy : OkE y) (h : clE x y = true) (w : World) : Calls Try.prog 54 #[.agg #[.int .i64 x.1.1, .int .i64 x.1.2], .agg #[.int .i64 y.1.1, .int .i64 y.1.2]] w fun e w' => ∃ z : Int, e = .returned (.int .i64 z) ∧ Below w.heap.size w w' ∧ z < 0 := by
  refine (order_any x y hx hy w).mono ?_
  rintro e w' ⟨⟨z, rfl, h1, -⟩, hb⟩
  exact ⟨z, rfl, hb, h1 h⟩
theorem order_not (x y : E3) (hx : OkE x) (hy : OkE y) (h : clE x y = false) (w : World) : Calls Try.prog 54 #[.agg #[.int .i64 x.1.1, .int .i64 x.1.2], .agg #[.int .i64 y.1.1, .int .i64 y.1.2]] w fun e w' => ∃ z : Int, e = .returned (.int .i64 z) ∧ Below w.heap.size w w' ∧ ¬ z < 0 := by
  refine (order_any x y hx hy w).mono ?_
  rintro e w' ⟨⟨z, rfl, -, h1⟩, hb⟩
  exact ⟨z, rfl, hb, h1 h⟩
theorem ins_place {D : Nat → E3} {i j : Nat} (h : j ≤ i) (hx : 0 < j) : ins D i j j = D i ∧ ins D i j (j - 1) = D (j - 1) := by
  unfold ins
  exact ⟨if_pos rfl, by rw [if_neg (by omega), if_neg (by omega)]⟩
set_option maxRecDepth 100000 in
set_option maxHeartbeats 4000000 in
theorem insertion_any (W0 : World) (b c n : Nat) (hn : n ≤ 1000) (x y : Nat) (hx : x ≤ y) (hy : y ≤ n) (D : Nat → E3) (hOk : ∀ k, OkE (D k)) (hT : ∀ i j, x ≤ i → i < j → j < y → (D i).2 < (D j).2) (w : World) (h : SRw W0 b n D w) :
    Calls Try.prog 104 #[.slice (some ⟨b, 0, none⟩) n c, .int .i64 (x : Int), .int .i64 (y : Int), ORD] w fun e w' => e = .returned (.tuple #[]) ∧ ∃ E, SRw W0 b n E w' ∧ Sb D E x y ∧ Srt ltE E x y := by
  have hOk := Lib.hid hOk
  have hT := Lib.hid hT
  have e0 : IntKind.i64.wrap ((x : Int) + 1) = ((x + 1 : Nat) : Int) := by rw [show ((x + 1 : Nat) : Int) = (x : Int) + 1 by omega]; exact iw ⟨by omega, by omega⟩
  obtain ⟨x1, hx1⟩ : ∃ p, p = x + 1 := ⟨_, rfl⟩
  rw [← hx1] at e0
  have hI : Hid (∃ E, SRw W0 b n E w ∧ Sb D E x (min x1 y) ∧ Srt ltE E x (min x1 y)) := ⟨D, h, Sb.refl _ _ _, fun i j h1 h2 h3 => by omega⟩
  have hx1 := Lib.hid hx1
  clear h
  go_enter Try.func104, Try.ntmps104
  go_wp2_with fail
  go_loopw [8, 9] (fun a _ wr => ∃ i : Nat, x < i ∧ i ≤ n + 1 ∧ a = .int .i64 (i : Int) ∧ Hid (∃ E, SRw W0 b n E wr ∧ Sb D E x (min i y) ∧ Srt ltE E x (min i y))) (fun a _ _ => y - (intOf a).toNat)
  case atStart => exact ⟨x1, by have := hx1.out; omega, by have := hx1.out; omega, by rw [show (x1 : Int) = (x : Int) + 1 by have := hx1.out; omega], hI⟩
  case round =>
    clear hI e0 hx1
    obtain ⟨i, hi, hin, rfl, hI⟩ := hrel
    by_cases hlt : i < y
    · obtain ⟨E, hE, hS, hO⟩ := hI.out
      rw [Nat.min_eq_left (by omega)] at hS hO
      have hOkE := Lib.hid (hS.every hOk.out)
      have hTg : Hid (∀ k, x ≤ k → k < i → (E k).2 < (E i).2) := fun k k1 k2 => by
        rw [hS.out i (.inr (Nat.le_refl _))]
        exact hS.all (fun z => z.2 < (D i).2) (fun j j1 j2 => hT.out j i j1 j2 hlt) k k1 k2
      have hS := Lib.hid hS; have hO := Lib.hid hO
      have hJ : Hid (SRw W0 b n (ins E i i) wr ∧ ∀ k, i ≤ k → k < i → ltE (E i) (E k)) := ⟨by rw [ins_self]; exact hE, fun k k1 k2 => by omega⟩
      have e3 : IntKind.i64.wrap ((i : Int) + 1) = ((i + 1 : Nat) : Int) := by rw [show ((i + 1 : Nat) : Int) = (i : Int) + 1 by omega]; exact iw ⟨by omega, by omega⟩
      clear hE hI
      go_wp2_with fail
      go_loopw [9] (fun a wr => ∃ j : Nat, x ≤ j ∧ j ≤ i ∧ a = .int .i64 (j : Int) ∧ Hid (SRw W0 b n (ins E i j) wr ∧ ∀ k, j ≤ k → k < i → ltE (E i) (E k))) (fun a _ => (intOf a).toNat)
      case atStart => exact ⟨i, by omega, by omega, rfl, hJ⟩
      case round =>
        clear hJ
        obtain ⟨j, hxj, hji, rfl, hJ⟩ := hrel
        obtain ⟨h_s, hL⟩ := hJ.out
        replace h_s := Lib.hid h_s; replace hL := Lib.hid hL
        clear hJ
        by_cases hxj' : x < j
        · obtain ⟨q, hq⟩ : ∃ q, q = j - 1 := ⟨_, rfl⟩
          have e1 : IntKind.i64.wrap ((j : Int) - 1) = (q : Int) := by rw [show (q : Int) = (j : Int) - 1 by omega]; exact iw ⟨by omega, by omega⟩
          have hP := ins_place (D := E) hji (show 0 < j by omega)
          rw [← hq] at hP
          have hjn : j < n := by omega
          have hqn : q < n := by omega
          have hqj : q < j := by omega
          have hq' := Lib.hid (show x ≤ q ∧ q ≤ i ∧ q = j - 1 by omega)
          have tq := hTg.out q (by omega) (by omega)
          clear hq
          have BB : Hid (Below wr.heap.size wr wr) := Below.refl _ _
          cases hc : clE (E i) (E q)
          · have hno := stE.no (hOkE.out q) (hOkE.out i) tq hc
            have CO := Lib.hid (fun w => order_not (ins E i j j) (ins E i j q) (by rw [hP.1]; exact hOkE.out _) (by rw [hP.2]; exact hOkE.out _) (by rw [hP.1, hP.2]; exact hc) w)
            have hF : Hid (Sb D (ins E i j) x (i + 1) ∧ Srt ltE (ins E i j) x (i + 1)) := by
              refine ⟨?_, ins_sorted hO.out hxj hji (fun k k1 k2 => ?_) hL.out⟩
              · have := Sb.ins (D := E) (a := x) (i := i) (i - j) (by omega) (by omega)
                rw [show i - (i - j) = j by omega] at this
                exact (hS.out.mono (Nat.le_refl _) (by omega)).trans this
              · have hq2 := hq'.out
                by_cases e : k = q
                · subst e; exact hno
                · exact stE.trans (hOkE.out _) (hOkE.out _) (hOkE.out _) (hO.out k q k1 (by omega) (by omega)) hno
            clear tq hno hP hc
            have KC := Lib.hid (fun (w9 : World) (hb : Below wr.heap.size wr w9) => (h_s.out.below hb).two hjn hqn)
            generalize (ins E i j j).1.1 = u1 at *
            generalize (ins E i j j).1.2 = u2 at *
            generalize (ins E i j q).1.1 = v1 at *
            generalize (ins E i j q).1.2 = v2 at *
            go_wp2_with fail
            have KK := Lib.hid (fun (w9 : World) (h : Below wr.heap.size wr w9) => (KC.out _ h : (w9.cell? ⟨b, j * 2, none⟩ = some (.int .i64 u1) ∧ w9.cell? ⟨b, j * 2 + 1, none⟩ = some (.int .i64 u2) ∧ w9.cell? ⟨b, q * 2, none⟩ = some (.int .i64 v1) ∧ w9.cell? ⟨b, q * 2 + 1, none⟩ = some (.int .i64 v2))))
            have K0 := KK.out wr (Below.refl _ _)
            have KD := KK.out wr.drew (below_drew (Below.refl _ _))
            go_region_held3 (fun w9 => (w9.cell? ⟨b, j * 2, none⟩ = some (.int .i64 u1) ∧ w9.cell? ⟨b, j * 2 + 1, none⟩ = some (.int .i64 u2) ∧ w9.cell? ⟨b, q * 2, none⟩ = some (.int .i64 v1) ∧ w9.cell? ⟨b, q * 2 + 1, none⟩ = some (.int .i64 v2)))
                (first | with_reducible exact KD | with_reducible exact K0 | with_reducible exact K_w1)
                (first
                  | (go_at_call 54
                     refine (CO.out _).mono ?_
                     rintro e w1 ⟨z, rfl, hb, hz⟩
                     have B_w1 := Lib.hid (reg_next (w0 := wr) (by repeat (first | with_reducible exact Below.refl _ _ | with_reducible apply below_drew | with_reducible apply below_new)) hb)
                     have K_w1 := KK.out _ B_w1.out
                     clear hb))
            clear KK K0 KD K_w1
            replace h_s := Lib.hid (SRw.below h_s.out B_w1.out)
            replace BB := Lib.hid (below_next BB.out B_w1.out)
            clear B_w1
            go_wp2_with fail
            go_roundw
            case rel => exact ⟨i + 1, by omega, by omega, by go_num, _, h_s.out, by rw [Nat.min_eq_left (by omega)]; exact hF.out⟩
            case measure => simp [intOf]; omega
          · have hyes := stE.yes (hOkE.out q) (hOkE.out i) tq hc
            have CO := Lib.hid (fun w => order_yes (ins E i j j) (ins E i j q) (by rw [hP.1]; exact hOkE.out _) (by rw [hP.2]; exact hOkE.out _) (by rw [hP.1, hP.2]; exact hc) w)
            have hN : Hid (∀ k, q ≤ k → k < i → ltE (E i) (E k)) := fun k k1 k2 => by
              have hq2 := hq'.out
              by_cases e : k = q
              · subst e; exact hyes
              · exact hL.out k (by omega) k2
            have hE2 := Lib.hid (show swp (ins E i j) j q = ins E i q by rw [hq'.out.2.2]; exact ins_step E (by omega) hji)
            clear tq hyes hP hc
            have KW := Lib.hid (fun (w9 : World) (hb : Below wr.heap.size wr w9) => (h_s.out.below hb).swp hjn hqn)
            have KF := Lib.hid (fun (w9 : World) (hb : Below wr.heap.size wr w9) => And.intro ((h_s.out.below hb).sr.cells hjn) ((h_s.out.below hb).sr.cells hqn))
            have KC := Lib.hid (fun (w9 : World) (hb : Below wr.heap.size wr w9) => (h_s.out.below hb).two hjn hqn)
            generalize (ins E i j j).1.1 = u1 at *
            generalize (ins E i j j).1.2 = u2 at *
            generalize (ins E i j q).1.1 = v1 at *
            generalize (ins E i j q).1.2 = v2 at *
            go_wp2_with fail
            have KK := Lib.hid (fun (w9 : World) (h : Below wr.heap.size wr w9) => (KC.out _ h : (w9.cell? ⟨b, j * 2, none⟩ = some (.int .i64 u1) ∧ w9.cell? ⟨b, j * 2 + 1, none⟩ = some (.int .i64 u2) ∧ w9.cell? ⟨b, q * 2, none⟩ = some (.int .i64 v1) ∧ w9.cell? ⟨b, q * 2 + 1, none⟩ = some (.int .i64 v2))))
            have K0 := KK.out wr (Below.refl _ _)
            have KD := KK.out wr.drew (below_drew (Below.refl _ _))
            go_region_held3 (fun w9 => (w9.cell? ⟨b, j * 2, none⟩ = some (.int .i64 u1) ∧ w9.cell? ⟨b, j * 2 + 1, none⟩ = some (.int .i64 u2) ∧ w9.cell? ⟨b, q * 2, none⟩ = some (.int .i64 v1) ∧ w9.cell? ⟨b, q * 2 + 1, none⟩ = some (.int .i64 v2)))
                (first | with_reducible exact KD | with_reducible exact K0 | with_reducible exact K_w1)
                (first
                  | (go_at_call 54
                     refine (CO.out _).mono ?_
                     rintro e w1 ⟨z, rfl, hb, hz⟩
                     have B_w1 := Lib.hid (reg_next (w0 := wr) (by repeat (first | with_reducible exact Below.refl _ _ | with_reducible apply below_drew | with_reducible apply below_new)) hb)
                     have K_w1 := KK.out _ B_w1.out
                     clear hb))
            clear KK K0 KD K_w1
            replace h_s := Lib.hid (SRw.below h_s.out B_w1.out)
            replace BB := Lib.hid (below_next BB.out B_w1.out)
            clear B_w1
            have hS2 := Lib.hid (KW.out _ BB.out)
            obtain ⟨⟨a1, a2, a3, a4⟩, ⟨b1, b2, b3, b4⟩⟩ := KF.out _ BB.out
            clear KW KF KC
            go_wp2_with fail
            go_region
            all_goals (
              have hS3 := hS2.out.drew
              rw [hE2.out] at hS3
              replace hS3 := Lib.hid hS3
              clear hS2 h_s a1 a2 a3 a4 b1 b2 b3 b4
              go_wp2_with fail
              go_roundw
              case rel => exact ⟨q, hq'.out.1, hq'.out.2.1, rfl, hS3.out, hN.out⟩
              case measure => simp [intOf]; omega)
        · obtain rfl : x = j := by omega
          have hF : Hid (Sb D (ins E i x) x (i + 1) ∧ Srt ltE (ins E i x) x (i + 1)) := by
            refine ⟨?_, ins_sorted hO.out (Nat.le_refl _) hji (fun k k1 k2 => by omega) hL.out⟩
            have := Sb.ins (D := E) (a := x) (i := i) (i - x) (by omega) (by omega)
            rw [show i - (i - x) = x by omega] at this
            exact (hS.out.mono (Nat.le_refl _) (by omega)).trans this
          go_wp2_with fail
          go_quiet (fail)
          go_wp2_with fail
          go_roundw
          case rel => exact ⟨i + 1, by omega, by omega, by go_num, _, h_s.out.below (below_drawn (Below.refl _ _) _), by rw [Nat.min_eq_left (by omega)]; exact hF.out⟩
          case measure => simp [intOf]; omega
    · obtain ⟨E, hE, hS, hO⟩ := hI.out
      rw [Nat.min_eq_right (by omega)] at hS hO
      have hS := Lib.hid hS; have hO := Lib.hid hO; have hE := Lib.hid hE
      clear hI
      go_wp2_with fail
      go_end0
      exact ⟨rfl, E, hE.out, hS.out, hO.out⟩
end Go.Proofs.Ythdbchghhpoadaa
