/- The walk of the law RatSorts where all fractions are right. -/
import Derived.Test.YthdbchghhpoadaaSoE
set_option linter.unusedVariables false
set_option linter.unusedSimpArgs false
namespace Go.Proofs.Ythdbchghhpoadaa
open Go.RowKit Go.ChangeShapes Go.WideShapes Go.ChangeAt Go.Deep
theorem QS.keepB {w w1 : World} {v : Value} {qs : List PQ2} (h : QS w v qs) {w9 : World} (hb : Below w.heap.size w w1) (hb' : Below w1.heap.size w1 w9) : QS w9 v qs := (h.below hb).below hb'
theorem ltB_lt {x y : E3} (h : x.1.1 * y.1.2 < y.1.1 * x.1.2) : ltB x y = true := ltB_iff.2 (.inl h)
theorem ltB_eq {x y : E3} (h : x.1.1 * y.1.2 = y.1.1 * x.1.2) : ltB x y = decide (x.2 < y.2) := by
  unfold ltB; rw [h]; simp
theorem ltB_gt {x y : E3} (h : y.1.1 * x.1.2 < x.1.1 * y.1.2) : ltB x y = false := by
  unfold ltB
  generalize x.1.1 * y.1.2 = a at *
  generalize y.1.1 * x.1.2 = b at *
  rw [decide_eq_false (show ¬ a < b by omega), decide_eq_false (show ¬ a = b by omega)]; rfl
theorem QS.at2 {w : World} {b off n cap : Nat} {qs : List PQ2} (h : QS w (.slice (some ⟨b, off, none⟩) n cap) qs) (hl : qs.length = n) {k : Nat} (hk : k < n) : w.cell? ⟨b, off + k * 2, none⟩ = some (.int .i64 (qs.getD k (0, 1)).1) ∧ w.cell? ⟨b, off + k * 2 + 1, none⟩ = some (.int .i64 (qs.getD k (0, 1)).2) := by
  obtain ⟨b', off', hA, c1, c2⟩ := h.at_ hl hk
  simp only [Option.some.injEq, Addr.mk.injEq] at hA
  obtain ⟨rfl, rfl, -⟩ := hA
  exact ⟨c1, c2⟩
set_option maxRecDepth 100000 in
set_option maxHeartbeats 8000000 in
theorem ratSorts_good (A : Option Addr) (n cap : Nat) (qs : List PQ2) (hl : qs.length = n) (hn : n ≤ 60) (hgood : qs.any badq = false) (w : World) (hv : QS w (.slice A n cap) qs) :
    Calls Try.prog 7 #[.slice A n cap] w fun e w' => e = .returned (.bool true) ∧ Below w.heap.size w w' := by
  have CS := Lib.hid (fun w hv => rsort_ok A n cap qs hl hn hgood w hv)
  have CA := Lib.hid (fun w => alive03 w)
  have hOk := Lib.hid (rowE_ok (by obtain ⟨_, _, _, _, _, h, _⟩ := hv; exact h) hgood)
  have hI64 := Lib.hid (fun k => hv.i64 k)
  replace hv := Lib.hid hv
  replace hl := Lib.hid hl
  have h60 : ¬ ((60 : Int) < (n : Int)) := by omega
  replace hn := Lib.hid hn
  clear hgood
  go_enter Try.func7, Try.ntmps7
  go_wp2_with fail
  have BB : Hid (Below w.heap.size w w) := Below.refl _ _
  refine (CS.out _ hv.out).mono ?_
  rintro e w1 ⟨A', c, rfl, hb, hG⟩
  replace BB := Lib.hid (below_next BB.out hb)
  clear hb
  replace hG := Lib.hid hG
  clear CS h60
  have h_v := Lib.hid (hv.out.below BB.out)
  have BW := BB
  clear hv BB
  go_wp2_with fail
  have hI0 : Hid (Below w1.heap.size w1 w1) := Below.refl _ _
  go_loopw [4] (fun a wr => ∃ k : Nat, k ≤ n ∧ a = .int .i64 (k : Int) ∧ Hid (Below w1.heap.size w1 wr)) (fun a _ => n - (intOf a).toNat)
  case atStart => exact ⟨0, by omega, rfl, hI0⟩
  case round =>
    clear hI0
    obtain ⟨k, hk, rfl, BB⟩ := hrel
    by_cases hkn : k < n
    · obtain ⟨b, off, rfl, c1, c2⟩ := (h_v.out.below BB.out).at_ hl.out hkn
      have hz := (hOk.out k).2.2
      have hz : 0 < (qs.getD k (0, 1)).2 := hz
      generalize (qs.getD k (0, 1)).1 = z1 at *
      generalize (qs.getD k (0, 1)).2 = z2 at *
      have f1 : ¬ z2 < 1 := by omega
      have f2 : decide (z2 < 1) = false := decide_eq_false f1
      have e1 : IntKind.i64.wrap ((k : Int) + 1) = ((k + 1 : Nat) : Int) := by have := hn.out; rw [show ((k + 1 : Nat) : Int) = (k : Int) + 1 by omega]; exact iw ⟨by omega, by omega⟩
      go_wp2_with fail
      go_roundw
      case rel => exact ⟨k + 1, by omega, by go_num, BB⟩
      case measure => simp [intOf]; omega
    · obtain rfl : k = n := by omega
      have hI0 : Hid (Below w1.heap.size w1 wr) := BB
      clear BB
      go_wp2_with fail
      go_loopw [5, 6, 7, 8] (fun a _ _ _ wr => ∃ i : Nat, i ≤ k ∧ a = .int .i64 (i : Int) ∧ Hid (Below w1.heap.size w1 wr)) (fun a _ _ _ _ => k - (intOf a).toNat)
      case atStart => exact ⟨0, by omega, rfl, hI0⟩
      case round =>
        clear hI0
        obtain ⟨i, hi, rfl, BB⟩ := hrel
        have h_v' := Lib.hid (h_v.out.below BB.out)
        by_cases hin : i < k
        · obtain ⟨b, off, rfl, c1, c2⟩ := h_v'.out.at_ hl.out hin
          clear c1 c2
          obtain ⟨g, E, rfl, hR, hS, hO⟩ := hG.out (by omega)
          obtain ⟨pl, hpl, hEp, hcp⟩ := place_of hin hS hO
          replace hR := Lib.hid hR
          replace hcp := Lib.hid hcp
          replace hEp := Lib.hid hEp
          clear hS hO hG h_v'
          have hJ0 : Hid (0 = cntP (fun z => ltB z (rowE qs i)) (rowE qs) 0) := rfl
          have e9 : IntKind.i64.wrap ((i : Int) + 1) = ((i + 1 : Nat) : Int) := by have := hn.out; rw [show ((i + 1 : Nat) : Int) = (i : Int) + 1 by omega]; exact iw ⟨by omega, by omega⟩
          go_wp2_with fail
          have hB0 := BB
          go_loopw [6, 7, 8] (fun a d _ wr => ∃ m p0 : Nat, m ≤ k ∧ a = .int .i64 (p0 : Int) ∧ d = .int .i64 (m : Int) ∧ Hid (p0 = cntP (fun z => ltB z (rowE qs i)) (rowE qs) m) ∧ Hid (Below w1.heap.size w1 wr)) (fun _ d _ _ => k - (intOf d).toNat)
          case atStart => exact ⟨0, 0, by omega, rfl, rfl, hJ0, hB0⟩
          case round =>
            clear hJ0 hB0 BB
            obtain ⟨m, p0, hm, rfl, rfl, hp, BB⟩ := hrel
            have h_w := Lib.hid (h_v.out.below BB.out)
            by_cases hmk : m < k
            · have CO1 := Lib.hid (fun w => rown _ _ (hI64.out m).1 (hI64.out m).2 w)
              have CO2 := Lib.hid (fun w => rown _ _ (hI64.out i).1 (hI64.out i).2 w)
              have CC := Lib.hid (fun (u v : Value) w hu hv => rcmp u v _ _ _ _ (i64_wd (hI64.out m).1) (i64_wd (hI64.out m).2) (i64_wd (hI64.out i).1) (i64_wd (hI64.out i).2) (by omega) w hu hv)
              rcases Int.lt_trichotomy ((qs.getD m (0, 1)).1 * (qs.getD i (0, 1)).2) ((qs.getD i (0, 1)).1 * (qs.getD m (0, 1)).2) with htri | htri | htri
              · skip
                rw [cmpI_lt htri] at CC
                have hst : Hid ((p0 + 1) = cntP (fun z => ltB z (rowE qs i)) (rowE qs) (m + 1)) := by
                  have hB : ltB (rowE qs m) (rowE qs i) = true := (ltB_lt (x := rowE qs m) (y := rowE qs i) htri)
                  show _ = _
                  unfold cntP
                  rw [← hp.out, hB]
                  rfl
                have hpk := Lib.hid (show p0 ≤ m from by rw [hp.out]; exact cnt_le m)
                have KC := Lib.hid (fun (w9 : World) (hb : Below wr.heap.size wr w9) => And.intro ((h_w.out.below hb).at2 hl.out hmk) ((h_w.out.below hb).at2 hl.out hin))
                have e7 : IntKind.i64.wrap ((p0 : Int) + 1) = ((p0 + 1 : Nat) : Int) := by
                  have := hn.out
                  have := hpk.out
                  rw [show ((p0 + 1 : Nat) : Int) = (p0 : Int) + 1 by omega]; exact iw ⟨by omega, by omega⟩
                have e8 : IntKind.i64.wrap ((m : Int) + 1) = ((m + 1 : Nat) : Int) := by
                  have := hn.out
                  rw [show ((m + 1 : Nat) : Int) = (m : Int) + 1 by omega]; exact iw ⟨by omega, by omega⟩
                clear htri
                generalize (qs.getD m (0, 1)).1 = a1 at *
                generalize (qs.getD m (0, 1)).2 = a2 at *
                generalize (qs.getD i (0, 1)).1 = b1 at *
                generalize (qs.getD i (0, 1)).2 = b2 at *
                go_wp2_with fail
                have KK := Lib.hid (fun (w9 : World) (h : Below wr.heap.size wr w9) => (KC.out _ h : ((w9.cell? ⟨b, off + m * 2, none⟩ = some (.int .i64 a1) ∧ w9.cell? ⟨b, off + m * 2 + 1, none⟩ = some (.int .i64 a2)) ∧ (w9.cell? ⟨b, off + i * 2, none⟩ = some (.int .i64 b1) ∧ w9.cell? ⟨b, off + i * 2 + 1, none⟩ = some (.int .i64 b2)))))
                have K0 := KK.out wr (Below.refl _ _)
                have KD := KK.out wr.drew (below_drew (Below.refl _ _))
                have tok0 : Hid True := trivial
                have tok1 : Hid True := trivial
                go_region_held3 (fun w9 => ((w9.cell? ⟨b, off + m * 2, none⟩ = some (.int .i64 a1) ∧ w9.cell? ⟨b, off + m * 2 + 1, none⟩ = some (.int .i64 a2)) ∧ (w9.cell? ⟨b, off + i * 2, none⟩ = some (.int .i64 b1) ∧ w9.cell? ⟨b, off + i * 2 + 1, none⟩ = some (.int .i64 b2))))
                    (first | with_reducible exact KD | with_reducible exact K0 | with_reducible exact K_w2 | with_reducible exact K_w3 | with_reducible exact K_w4)
                    (first
                      | (go_at_call 28
                         have t_k := tok0
                         refine (CO1.out _).mono ?_
                         rintro e w2 ⟨v_p, rfl, hb, h_p⟩
                         obtain ⟨A_p, n_p, cap_p, B_p, m_p, cup_p, rfl, -, -⟩ := id h_p.form
                         replace h_p := Lib.hid h_p
                         have B_w2 := Lib.hid (reg_next (w0 := wr) (by repeat (first | with_reducible exact Below.refl _ _ | with_reducible apply below_drew | with_reducible apply below_new)) hb)
                         have K_w2 := KK.out _ B_w2.out
                         clear hb
                         clear t_k tok0)
                      | (go_at_call 28
                         have t_k := tok1
                         refine (CO2.out _).mono ?_
                         rintro e w3 ⟨v_q, rfl, hb, h_q⟩
                         obtain ⟨A_q, n_q, cap_q, B_q, m_q, cup_q, rfl, -, -⟩ := id h_q.form
                         replace h_q := Lib.hid h_q
                         replace h_p := Lib.hid (h_p.out.below hb)
                         have B_w3 := Lib.hid (below_next B_w2.out hb)
                         have K_w3 := KK.out _ B_w3.out
                         clear hb
                         clear t_k tok1)
                      | (go_at_call 27
                         refine (CC.out _ _ _ h_p.out h_q.out).mono ?_
                         rintro e w4 ⟨rfl, hb⟩
                         replace h_p := Lib.hid (h_p.out.below hb)
                         replace h_q := Lib.hid (h_q.out.below hb)
                         have B_w4 := Lib.hid (below_next B_w3.out hb)
                         have K_w4 := KK.out _ B_w4.out
                         clear hb))
                clear KK K0 KD K_w2 K_w3 K_w4
                replace BB := Lib.hid (below_next BB.out B_w4.out)
                clear B_w2 B_w3 B_w4
                go_wp2_with fail
                go_roundw
                case rel => exact ⟨m + 1, (p0 + 1), by omega, by go_num, by go_num, hst, BB⟩
                case measure => simp [intOf]; omega
              · rw [htri] at CC
                by_cases hmi : m < i
                · skip
                  rw [cmpI_eq] at CC
                  have hst : Hid ((p0 + 1) = cntP (fun z => ltB z (rowE qs i)) (rowE qs) (m + 1)) := by
                    have hB : ltB (rowE qs m) (rowE qs i) = true := ((ltB_eq (x := rowE qs m) (y := rowE qs i) htri).trans (decide_eq_true hmi))
                    show _ = _
                    unfold cntP
                    rw [← hp.out, hB]
                    rfl
                  have hpk := Lib.hid (show p0 ≤ m from by rw [hp.out]; exact cnt_le m)
                  have KC := Lib.hid (fun (w9 : World) (hb : Below wr.heap.size wr w9) => And.intro ((h_w.out.below hb).at2 hl.out hmk) ((h_w.out.below hb).at2 hl.out hin))
                  have e7 : IntKind.i64.wrap ((p0 : Int) + 1) = ((p0 + 1 : Nat) : Int) := by
                    have := hn.out
                    have := hpk.out
                    rw [show ((p0 + 1 : Nat) : Int) = (p0 : Int) + 1 by omega]; exact iw ⟨by omega, by omega⟩
                  have e8 : IntKind.i64.wrap ((m : Int) + 1) = ((m + 1 : Nat) : Int) := by
                    have := hn.out
                    rw [show ((m + 1 : Nat) : Int) = (m : Int) + 1 by omega]; exact iw ⟨by omega, by omega⟩
                  clear htri
                  generalize (qs.getD m (0, 1)).1 = a1 at *
                  generalize (qs.getD m (0, 1)).2 = a2 at *
                  generalize (qs.getD i (0, 1)).1 = b1 at *
                  generalize (qs.getD i (0, 1)).2 = b2 at *
                  go_wp2_with fail
                  have KK := Lib.hid (fun (w9 : World) (h : Below wr.heap.size wr w9) => (KC.out _ h : ((w9.cell? ⟨b, off + m * 2, none⟩ = some (.int .i64 a1) ∧ w9.cell? ⟨b, off + m * 2 + 1, none⟩ = some (.int .i64 a2)) ∧ (w9.cell? ⟨b, off + i * 2, none⟩ = some (.int .i64 b1) ∧ w9.cell? ⟨b, off + i * 2 + 1, none⟩ = some (.int .i64 b2)))))
                  have K0 := KK.out wr (Below.refl _ _)
                  have KD := KK.out wr.drew (below_drew (Below.refl _ _))
                  have tok0 : Hid True := trivial
                  have tok1 : Hid True := trivial
                  go_region_held3 (fun w9 => ((w9.cell? ⟨b, off + m * 2, none⟩ = some (.int .i64 a1) ∧ w9.cell? ⟨b, off + m * 2 + 1, none⟩ = some (.int .i64 a2)) ∧ (w9.cell? ⟨b, off + i * 2, none⟩ = some (.int .i64 b1) ∧ w9.cell? ⟨b, off + i * 2 + 1, none⟩ = some (.int .i64 b2))))
                      (first | with_reducible exact KD | with_reducible exact K0 | with_reducible exact K_w5 | with_reducible exact K_w6 | with_reducible exact K_w7)
                      (first
                        | (go_at_call 28
                           have t_k := tok0
                           refine (CO1.out _).mono ?_
                           rintro e w5 ⟨v_p, rfl, hb, h_p⟩
                           obtain ⟨A_p, n_p, cap_p, B_p, m_p, cup_p, rfl, -, -⟩ := id h_p.form
                           replace h_p := Lib.hid h_p
                           have B_w5 := Lib.hid (reg_next (w0 := wr) (by repeat (first | with_reducible exact Below.refl _ _ | with_reducible apply below_drew | with_reducible apply below_new)) hb)
                           have K_w5 := KK.out _ B_w5.out
                           clear hb
                           clear t_k tok0)
                        | (go_at_call 28
                           have t_k := tok1
                           refine (CO2.out _).mono ?_
                           rintro e w6 ⟨v_q, rfl, hb, h_q⟩
                           obtain ⟨A_q, n_q, cap_q, B_q, m_q, cup_q, rfl, -, -⟩ := id h_q.form
                           replace h_q := Lib.hid h_q
                           replace h_p := Lib.hid (h_p.out.below hb)
                           have B_w6 := Lib.hid (below_next B_w5.out hb)
                           have K_w6 := KK.out _ B_w6.out
                           clear hb
                           clear t_k tok1)
                        | (go_at_call 27
                           refine (CC.out _ _ _ h_p.out h_q.out).mono ?_
                           rintro e w7 ⟨rfl, hb⟩
                           replace h_p := Lib.hid (h_p.out.below hb)
                           replace h_q := Lib.hid (h_q.out.below hb)
                           have B_w7 := Lib.hid (below_next B_w6.out hb)
                           have K_w7 := KK.out _ B_w7.out
                           clear hb))
                  clear KK K0 KD K_w5 K_w6 K_w7
                  replace BB := Lib.hid (below_next BB.out B_w7.out)
                  clear B_w5 B_w6 B_w7
                  go_wp2_with fail
                  go_roundw
                  case rel => exact ⟨m + 1, (p0 + 1), by omega, by go_num, by go_num, hst, BB⟩
                  case measure => simp [intOf]; omega
                · skip
                  rw [cmpI_eq] at CC
                  have hst : Hid (p0 = cntP (fun z => ltB z (rowE qs i)) (rowE qs) (m + 1)) := by
                    have hB : ltB (rowE qs m) (rowE qs i) = false := ((ltB_eq (x := rowE qs m) (y := rowE qs i) htri).trans (decide_eq_false hmi))
                    show _ = _
                    unfold cntP
                    rw [← hp.out, hB]
                    rfl
                  have hpk := Lib.hid (show p0 ≤ m from by rw [hp.out]; exact cnt_le m)
                  have KC := Lib.hid (fun (w9 : World) (hb : Below wr.heap.size wr w9) => And.intro ((h_w.out.below hb).at2 hl.out hmk) ((h_w.out.below hb).at2 hl.out hin))
                  have e7 : IntKind.i64.wrap ((p0 : Int) + 1) = ((p0 + 1 : Nat) : Int) := by
                    have := hn.out
                    have := hpk.out
                    rw [show ((p0 + 1 : Nat) : Int) = (p0 : Int) + 1 by omega]; exact iw ⟨by omega, by omega⟩
                  have e8 : IntKind.i64.wrap ((m : Int) + 1) = ((m + 1 : Nat) : Int) := by
                    have := hn.out
                    rw [show ((m + 1 : Nat) : Int) = (m : Int) + 1 by omega]; exact iw ⟨by omega, by omega⟩
                  clear htri
                  generalize (qs.getD m (0, 1)).1 = a1 at *
                  generalize (qs.getD m (0, 1)).2 = a2 at *
                  generalize (qs.getD i (0, 1)).1 = b1 at *
                  generalize (qs.getD i (0, 1)).2 = b2 at *
                  go_wp2_with fail
                  have KK := Lib.hid (fun (w9 : World) (h : Below wr.heap.size wr w9) => (KC.out _ h : ((w9.cell? ⟨b, off + m * 2, none⟩ = some (.int .i64 a1) ∧ w9.cell? ⟨b, off + m * 2 + 1, none⟩ = some (.int .i64 a2)) ∧ (w9.cell? ⟨b, off + i * 2, none⟩ = some (.int .i64 b1) ∧ w9.cell? ⟨b, off + i * 2 + 1, none⟩ = some (.int .i64 b2)))))
                  have K0 := KK.out wr (Below.refl _ _)
                  have KD := KK.out wr.drew (below_drew (Below.refl _ _))
                  have tok0 : Hid True := trivial
                  have tok1 : Hid True := trivial
                  go_region_held3 (fun w9 => ((w9.cell? ⟨b, off + m * 2, none⟩ = some (.int .i64 a1) ∧ w9.cell? ⟨b, off + m * 2 + 1, none⟩ = some (.int .i64 a2)) ∧ (w9.cell? ⟨b, off + i * 2, none⟩ = some (.int .i64 b1) ∧ w9.cell? ⟨b, off + i * 2 + 1, none⟩ = some (.int .i64 b2))))
                      (first | with_reducible exact KD | with_reducible exact K0 | with_reducible exact K_w8 | with_reducible exact K_w10 | with_reducible exact K_w11)
                      (first
                        | (go_at_call 28
                           have t_k := tok0
                           refine (CO1.out _).mono ?_
                           rintro e w8 ⟨v_p, rfl, hb, h_p⟩
                           obtain ⟨A_p, n_p, cap_p, B_p, m_p, cup_p, rfl, -, -⟩ := id h_p.form
                           replace h_p := Lib.hid h_p
                           have B_w8 := Lib.hid (reg_next (w0 := wr) (by repeat (first | with_reducible exact Below.refl _ _ | with_reducible apply below_drew | with_reducible apply below_new)) hb)
                           have K_w8 := KK.out _ B_w8.out
                           clear hb
                           clear t_k tok0)
                        | (go_at_call 28
                           have t_k := tok1
                           refine (CO2.out _).mono ?_
                           rintro e w10 ⟨v_q, rfl, hb, h_q⟩
                           obtain ⟨A_q, n_q, cap_q, B_q, m_q, cup_q, rfl, -, -⟩ := id h_q.form
                           replace h_q := Lib.hid h_q
                           replace h_p := Lib.hid (h_p.out.below hb)
                           have B_w10 := Lib.hid (below_next B_w8.out hb)
                           have K_w10 := KK.out _ B_w10.out
                           clear hb
                           clear t_k tok1)
                        | (go_at_call 27
                           refine (CC.out _ _ _ h_p.out h_q.out).mono ?_
                           rintro e w11 ⟨rfl, hb⟩
                           replace h_p := Lib.hid (h_p.out.below hb)
                           replace h_q := Lib.hid (h_q.out.below hb)
                           have B_w11 := Lib.hid (below_next B_w10.out hb)
                           have K_w11 := KK.out _ B_w11.out
                           clear hb))
                  clear KK K0 KD K_w8 K_w10 K_w11
                  replace BB := Lib.hid (below_next BB.out B_w11.out)
                  clear B_w8 B_w10 B_w11
                  go_wp2_with fail
                  go_roundw
                  case rel => exact ⟨m + 1, p0, by omega, by go_num, by go_num, hst, BB⟩
                  case measure => simp [intOf]; omega
              · skip
                rw [cmpI_gt htri] at CC
                have hst : Hid (p0 = cntP (fun z => ltB z (rowE qs i)) (rowE qs) (m + 1)) := by
                  have hB : ltB (rowE qs m) (rowE qs i) = false := (ltB_gt (x := rowE qs m) (y := rowE qs i) htri)
                  show _ = _
                  unfold cntP
                  rw [← hp.out, hB]
                  rfl
                have hpk := Lib.hid (show p0 ≤ m from by rw [hp.out]; exact cnt_le m)
                have KC := Lib.hid (fun (w9 : World) (hb : Below wr.heap.size wr w9) => And.intro ((h_w.out.below hb).at2 hl.out hmk) ((h_w.out.below hb).at2 hl.out hin))
                have e7 : IntKind.i64.wrap ((p0 : Int) + 1) = ((p0 + 1 : Nat) : Int) := by
                  have := hn.out
                  have := hpk.out
                  rw [show ((p0 + 1 : Nat) : Int) = (p0 : Int) + 1 by omega]; exact iw ⟨by omega, by omega⟩
                have e8 : IntKind.i64.wrap ((m : Int) + 1) = ((m + 1 : Nat) : Int) := by
                  have := hn.out
                  rw [show ((m + 1 : Nat) : Int) = (m : Int) + 1 by omega]; exact iw ⟨by omega, by omega⟩
                clear htri
                generalize (qs.getD m (0, 1)).1 = a1 at *
                generalize (qs.getD m (0, 1)).2 = a2 at *
                generalize (qs.getD i (0, 1)).1 = b1 at *
                generalize (qs.getD i (0, 1)).2 = b2 at *
                go_wp2_with fail
                have KK := Lib.hid (fun (w9 : World) (h : Below wr.heap.size wr w9) => (KC.out _ h : ((w9.cell? ⟨b, off + m * 2, none⟩ = some (.int .i64 a1) ∧ w9.cell? ⟨b, off + m * 2 + 1, none⟩ = some (.int .i64 a2)) ∧ (w9.cell? ⟨b, off + i * 2, none⟩ = some (.int .i64 b1) ∧ w9.cell? ⟨b, off + i * 2 + 1, none⟩ = some (.int .i64 b2)))))
                have K0 := KK.out wr (Below.refl _ _)
                have KD := KK.out wr.drew (below_drew (Below.refl _ _))
                have tok0 : Hid True := trivial
                have tok1 : Hid True := trivial
                go_region_held3 (fun w9 => ((w9.cell? ⟨b, off + m * 2, none⟩ = some (.int .i64 a1) ∧ w9.cell? ⟨b, off + m * 2 + 1, none⟩ = some (.int .i64 a2)) ∧ (w9.cell? ⟨b, off + i * 2, none⟩ = some (.int .i64 b1) ∧ w9.cell? ⟨b, off + i * 2 + 1, none⟩ = some (.int .i64 b2))))
                    (first | with_reducible exact KD | with_reducible exact K0 | with_reducible exact K_w12 | with_reducible exact K_w13 | with_reducible exact K_w14)
                    (first
                      | (go_at_call 28
                         have t_k := tok0
                         refine (CO1.out _).mono ?_
                         rintro e w12 ⟨v_p, rfl, hb, h_p⟩
                         obtain ⟨A_p, n_p, cap_p, B_p, m_p, cup_p, rfl, -, -⟩ := id h_p.form
                         replace h_p := Lib.hid h_p
                         have B_w12 := Lib.hid (reg_next (w0 := wr) (by repeat (first | with_reducible exact Below.refl _ _ | with_reducible apply below_drew | with_reducible apply below_new)) hb)
                         have K_w12 := KK.out _ B_w12.out
                         clear hb
                         clear t_k tok0)
                      | (go_at_call 28
                         have t_k := tok1
                         refine (CO2.out _).mono ?_
                         rintro e w13 ⟨v_q, rfl, hb, h_q⟩
                         obtain ⟨A_q, n_q, cap_q, B_q, m_q, cup_q, rfl, -, -⟩ := id h_q.form
                         replace h_q := Lib.hid h_q
                         replace h_p := Lib.hid (h_p.out.below hb)
                         have B_w13 := Lib.hid (below_next B_w12.out hb)
                         have K_w13 := KK.out _ B_w13.out
                         clear hb
                         clear t_k tok1)
                      | (go_at_call 27
                         refine (CC.out _ _ _ h_p.out h_q.out).mono ?_
                         rintro e w14 ⟨rfl, hb⟩
                         replace h_p := Lib.hid (h_p.out.below hb)
                         replace h_q := Lib.hid (h_q.out.below hb)
                         have B_w14 := Lib.hid (below_next B_w13.out hb)
                         have K_w14 := KK.out _ B_w14.out
                         clear hb))
                clear KK K0 KD K_w12 K_w13 K_w14
                replace BB := Lib.hid (below_next BB.out B_w14.out)
                clear B_w12 B_w13 B_w14
                go_wp2_with fail
                go_roundw
                case rel => exact ⟨m + 1, p0, by omega, by go_num, by go_num, hst, BB⟩
                case measure => simp [intOf]; omega
            · obtain rfl : k = m := by omega
              obtain rfl : p0 = pl := hp.out.trans hcp.out
              have hc := (hR.out.below BB.out).cells hpl
              rw [hEp.out] at hc
              unfold rowE at hc
              dsimp only at hc
              obtain ⟨d1, d2, -, -⟩ := hc
              obtain ⟨d3, d4⟩ := h_w.out.at2 hl.out hin
              generalize (qs.getD i (0, 1)).1 = b1 at *
              generalize (qs.getD i (0, 1)).2 = b2 at *
              go_wp2_with fail
              go_quiet (fail)
              go_wp2_with fail
              go_roundw
              case rel => exact ⟨i + 1, by omega, by go_num, below_drawn BB.out _⟩
              case measure => simp [intOf]; omega
        · obtain rfl : i = k := by omega
          clear h_v'
          go_wp2_with fail
          refine (CA.out _).mono ?_
          rintro e w15 ⟨rfl, hb⟩
          replace BB := Lib.hid (below_next BB.out hb)
          clear hb
          go_wp2_with fail
          go_ret
          exact ⟨rfl, below_next BW.out BB.out⟩
theorem ratSorts_any (v : Value) (qs : List PQ2) (w : World) (hv : QS w v qs) :
    Calls Try.prog 7 #[v] w fun e w' => e = .returned (.bool true) ∧ Below w.heap.size w w' := by
  obtain ⟨A, cap, rfl⟩ : ∃ A cap, v = .slice A qs.length cap := by
    obtain ⟨A, cap, h, -⟩ := hv; exact ⟨A, cap, h⟩
  by_cases hn : qs.length ≤ 60
  · cases hb : qs.any badq
    · exact ratSorts_good A _ cap qs rfl hn hb w hv
    · exact ratSorts_bad A _ cap qs rfl hn hb w hv
  · exact ratSorts_long A _ cap hn w
end Go.Proofs.Ythdbchghhpoadaa
