/- slices.symMergeCmpFunc: two ranges are merged by halves. -/
import Derived.Test.YthdbchghhpoadaaSo8
set_option linter.unusedVariables false
set_option linter.unusedSimpArgs false
namespace Go.Proofs.Ythdbchghhpoadaa
open Go.RowKit
theorem srt_same {D E : Nat → E3} {a b : Nat} (h : Srt ltE D a b) (he : ∀ k, a ≤ k → k < b → E k = D k) : Srt ltE E a b := fun i j h1 h2 h3 => by
  rw [he i h1 (by omega), he j (by omega) h3]; exact h i j h1 h2 h3
theorem tag_same {D E : Nat → E3} {a m b : Nat} (h : TagLt (fun z : E3 => z.2) D a m b) (he : ∀ k, a ≤ k → k < b → E k = D k) (hm : a ≤ m ∧ m ≤ b) : TagLt (fun z : E3 => z.2) E a m b := fun i j h1 h2 h3 h4 => by
  rw [he i h1 (by omega), he j (by omega) h4]; exact h i j h1 h2 h3 h4
/-- What is needed of the two halves. -/
theorem sym_parts {D : Nat → E3} {x m y mid st en s0 r0 n pp : Nat} {P : Nat → Nat → Nat → (Nat → E3) → Prop} (hOk : ∀ k, OkE (D k)) (hxm : x < m) (hmy : m < y) (hyn : y ≤ n) (hmid : mid = (x + y) / 2) (hs1 : Srt ltE D x m) (hs2 : Srt ltE D m y) (ht : TagLt (fun z : E3 => z.2) D x m y)
    (hs0 : s0 = if mid < m then mid + m - y else x) (hr0 : r0 = if mid < m then mid else m) (h0 : s0 ≤ st) (h1 : st ≤ r0) (hen : en = mid + m - st) (hpp : pp = mid + m - 1)
    (l1 : ∀ k, s0 ≤ k → k < st → ltE (D k) (D (pp - k))) (l2 : ∀ k, st ≤ k → k < r0 → ltE (D (pp - k)) (D k))
    (IH : ∀ x' m' y', x' < m' → m' < y' → y' ≤ n → y' - x' < y - x → ∀ D', (∀ k, OkE (D' k)) → Srt ltE D' x' m' → Srt ltE D' m' y' → TagLt (fun z : E3 => z.2) D' x' m' y' → P x' m' y' D') :
    (x ≤ st ∧ st ≤ mid ∧ st ≤ m ∧ m ≤ en ∧ mid ≤ en ∧ en ≤ y ∧ x < mid ∧ mid < y) ∧
    (x < st → st < mid → P x st mid (rot D st m en)) ∧ ((st = x ∨ st = mid) → Srt ltE (rot D st m en) x mid) ∧
    (∀ E1, Sb (rot D st m en) E1 x mid → mid < en → en < y → P mid en y E1) ∧ (∀ E1, Sb (rot D st m en) E1 x mid → (en = mid ∨ en = y) → Srt ltE E1 mid y) ∧
    (∀ E1 E2, Sb (rot D st m en) E1 x mid → Srt ltE E1 x mid → Sb E1 E2 mid y → Srt ltE E2 mid y → Sb D E2 x y ∧ Srt ltE E2 x y) := by
  subst hpp
  obtain ⟨hb, hS, o1, o2, o3, o4, t1, t2, hc⟩ := sym_mid stE hOk hxm hmy hmid hs1 hs2 ht hs0 hr0 h0 h1 l1 l2
  rw [← hen] at *
  obtain ⟨q1, q2, q3, q4, q5, q6, q7, q8⟩ := hb
  have hOk0 := hS.every hOk
  refine ⟨⟨q1, q2, q3, q4, q5, q6, q7, q8⟩, fun a1 a2 => IH x st mid a1 a2 (by omega) (by omega) _ hOk0 o1 o2 t1, ?_, fun E1 hE a1 a2 => ?_, fun E1 hE a => ?_, fun E1 E2 hE sE hF sF => ?_⟩
  · rintro (rfl | rfl)
    · exact o2
    · exact o1
  · exact IH mid en y a1 a2 hyn (by omega) E1 (hE.every hOk0) (srt_same o3 fun k k1 k2 => hE.out k (.inr k1)) (srt_same o4 fun k k1 k2 => hE.out k (.inr (by omega))) (tag_same t2 (fun k k1 k2 => hE.out k (.inr k1)) ⟨by omega, by omega⟩)
  · rcases a with a | a
    · refine srt_same (D := rot D st m en) ?_ (fun k k1 k2 => hE.out k (.inr k1))
      rw [a] at o4 ⊢; exact o4
    · refine srt_same (D := rot D st m en) ?_ (fun k k1 k2 => hE.out k (.inr k1))
      rw [a] at o3 ⊢; exact o3
  · obtain ⟨k1, k2⟩ := sym_join (lt := ltE) (by omega) (by omega) hc hE hF sE sF
    exact ⟨hS.trans k1, k2⟩
theorem pp_in {x m y mid s0 r0 pp : Nat} (hxm : x < m) (hmy : m < y) (hmid : mid = (x + y) / 2) (hs0 : s0 = if mid < m then mid + m - y else x) (hr0 : r0 = if mid < m then mid else m) (hpp : pp = mid + m - 1) : x ≤ s0 ∧ s0 ≤ r0 ∧ r0 ≤ m ∧ ∀ k, s0 ≤ k → k < r0 → m ≤ pp - k ∧ pp - k < y ∧ k ≤ pp := by
  split at hs0 <;> split at hr0 <;> refine ⟨by omega, by omega, by omega, fun k h1 h2 => ⟨by omega, by omega, by omega⟩⟩
set_option maxRecDepth 100000 in
set_option maxHeartbeats 8000000 in
theorem symC (W0 : World) (b c n : Nat) (hn : n ≤ 1000) (x m y : Nat) (hxm : x + 1 < m) (hmy : m + 1 < y) (hyn : y ≤ n) (D : Nat → E3) (hOk : ∀ k, OkE (D k)) (hs1 : Srt ltE D x m) (hs2 : Srt ltE D m y) (hT : TagLt (fun z : E3 => z.2) D x m y)
    (IH : ∀ x' m' y', x' < m' → m' < y' → y' ≤ n → y' - x' < y - x → ∀ D', (∀ k, OkE (D' k)) → Srt ltE D' x' m' → Srt ltE D' m' y' → TagLt (fun z : E3 => z.2) D' x' m' y' → ∀ w, SRw W0 b n D' w → Calls Try.prog 105 #[.slice (some ⟨b, 0, none⟩) n c, .int .i64 (x' : Int), .int .i64 (m' : Int), .int .i64 (y' : Int), ORD] w (Merged W0 b n D' x' y')) (w : World) (h : SRw W0 b n D w) :
    Calls Try.prog 105 #[.slice (some ⟨b, 0, none⟩) n c, .int .i64 (x : Int), .int .i64 (m : Int), .int .i64 (y : Int), ORD] w (Merged W0 b n D x y) := by
  have e0 : IntKind.i64.wrap ((m : Int) - (x : Int)) = ((m - x : Nat) : Int) := by rw [show ((m - x : Nat) : Int) = (m : Int) - (x : Int) by omega]; exact iw ⟨by omega, by omega⟩
  have e9 : IntKind.i64.wrap ((y : Int) - (m : Int)) = ((y - m : Nat) : Int) := by rw [show ((y - m : Nat) : Int) = (y : Int) - (m : Int) by omega]; exact iw ⟨by omega, by omega⟩
  obtain ⟨z, hz⟩ : ∃ z, z = m - x := ⟨_, rfl⟩
  rw [← hz] at e0
  have z1 : ((z : Int) == 1) = false := by simpa using (show ¬ ((z : Int) = 1) by omega)
  obtain ⟨u, hu⟩ : ∃ u, u = y - m := ⟨_, rfl⟩
  rw [← hu] at e9
  have u1 : ((u : Int) == 1) = false := by simpa using (show ¬ ((u : Int) = 1) by omega)
  obtain ⟨mid, hmid⟩ : ∃ q, q = (x + y) / 2 := ⟨_, rfl⟩
  obtain ⟨s, hs⟩ : ∃ s, s = (x : Int) + (y : Int) := ⟨_, rfl⟩
  have e1 : IntKind.i64.wrap ((x : Int) + (y : Int)) = s := by rw [hs]; exact iw ⟨by omega, by omega⟩
  have e2 : IntKind.u64.wrap s = s := by rw [hs]; simp [IntKind.wrap, IntKind.bits, IntKind.signed]; omega
  have ed : s / 2 = (mid : Int) := by omega
  have e4 : IntKind.i64.wrap (mid : Int) = (mid : Int) := iw ⟨by omega, by omega⟩
  obtain ⟨nn, hnn⟩ : ∃ q, q = mid + m := ⟨_, rfl⟩
  have e3 : IntKind.i64.wrap ((mid : Int) + (m : Int)) = (nn : Int) := by rw [show (nn : Int) = (mid : Int) + (m : Int) by omega]; exact iw ⟨by omega, by omega⟩
  obtain ⟨pp, hpp⟩ : ∃ q, q = nn - 1 := ⟨_, rfl⟩
  have e5 : IntKind.i64.wrap ((nn : Int) - 1) = (pp : Int) := by rw [show (pp : Int) = (nn : Int) - 1 by omega]; exact iw ⟨by omega, by omega⟩
  have hNN := Lib.hid (show nn = mid + m ∧ pp = mid + m - 1 ∧ nn ≤ 2000 ∧ mid < y by omega)
  have hMD := Lib.hid hmid
  have hOk := Lib.hid hOk
  have hT := Lib.hid hT
  have hs1 := Lib.hid hs1
  have hs2 := Lib.hid hs2
  have h_s := Lib.hid h
  have IH := Lib.hid IH
  have hxm' : x < m := by omega
  have hmy' : m < y := by omega
  by_cases hcase : mid < m
  · obtain ⟨s0, hs0⟩ : ∃ q, q = mid + m - y := ⟨_, rfl⟩
    have hS0 : Hid (s0 = if mid < m then mid + m - y else x) := by show s0 = _; rw [if_pos hcase]; exact hs0
    have hR0 : Hid (mid = if mid < m then mid else m) := by show mid = _; rw [if_pos hcase]
    have hPP := Lib.hid (pp_in hxm' hmy' hmid hS0.out hR0.out hNN.out.2.1)
    have e6 : IntKind.i64.wrap ((nn : Int) - (y : Int)) = (s0 : Int) := by rw [show (s0 : Int) = (nn : Int) - (y : Int) by omega]; exact iw ⟨by omega, by omega⟩
    have hn := Lib.hid hn
    clear h hz hu hmid hs hnn hpp hs0
    go_enter Try.func105, Try.ntmps105
    go_wp2_with fail
    clear e0 e9 z1 u1 ed e6 hcase
    go_loopw [20, 21, 23] (fun a d _ wr => ∃ i j : Nat, s0 ≤ i ∧ i ≤ j ∧ j ≤ mid ∧ a = .int .i64 (i : Int) ∧ d = .int .i64 (j : Int) ∧ Hid (SRw W0 b n D wr ∧ (∀ k, s0 ≤ k → k < i → ltE (D k) (D (pp - k))) ∧ ∀ k, j ≤ k → k < mid → ltE (D (pp - k)) (D k))) (fun a d _ _ => (intOf d).toNat - (intOf a).toNat)
    case atStart => exact ⟨s0, mid, by omega, hPP.out.2.1, by omega, by first | rfl | go_num, rfl, h_s.out, fun k h1 h2 => by omega, fun k h1 h2 => by omega⟩
    case round =>
      clear h_s e1 e2 e4 e3 e5
      obtain ⟨i, j, hmi, hij, hjy, rfl, rfl, hI⟩ := hrel
      obtain ⟨h_s, h1, h2⟩ := hI.out
      replace h_s := Lib.hid h_s
      replace h1 := Lib.hid h1
      replace h2 := Lib.hid h2
      clear hI
      by_cases hlt : i < j
      · have hr0m := hPP.out.2.2.1
        have hn' := hn.out
        have hij' : ((i : Nat) : Int) < ((j : Nat) : Int) := by omega
        obtain ⟨f0, hh⟩ : ∃ f0, f0 = (i + j) / 2 := ⟨_, rfl⟩
        have hhi : i ≤ f0 := by omega
        have hhj : f0 < j := by omega
        obtain ⟨s, hs⟩ : ∃ s, s = (i : Int) + (j : Int) := ⟨_, rfl⟩
        have e1 : IntKind.i64.wrap ((i : Int) + (j : Int)) = s := by rw [hs]; exact iw ⟨by omega, by omega⟩
        have e2 : IntKind.u64.wrap s = s := by rw [hs]; simp [IntKind.wrap, IntKind.bits, IntKind.signed]; omega
        have e3 : s / 2 = (f0 : Int) := by omega
        have e4 : IntKind.i64.wrap (f0 : Int) = (f0 : Int) := iw ⟨by omega, by omega⟩
        have e5 : IntKind.i64.wrap ((f0 : Int) + 1) = ((f0 + 1 : Nat) : Int) := by rw [show ((f0 + 1 : Nat) : Int) = (f0 : Int) + 1 by omega]; exact iw ⟨by omega, by omega⟩
        clear hh hs hn'
        have hst := sr_step3 stE hOk.out hs1.out hs2.out hT.out hPP.out.1 hPP.out.2.2.1 hPP.out.2.2.2 hmi hhi hhj hjy h1.out h2.out
        have hpf := hPP.out.2.2.2 f0 (by omega) (by omega)
        obtain ⟨g0, hg0⟩ : ∃ g, g = pp - f0 := ⟨_, rfl⟩
        have e6 : IntKind.i64.wrap ((pp : Int) - (f0 : Int)) = (g0 : Int) := by have := hn.out; have := hNN.out; rw [show (g0 : Int) = (pp : Int) - (f0 : Int) by omega]; exact iw ⟨by omega, by omega⟩
        rw [← hg0] at hst hpf
        clear hg0
        have BB : Hid (Below wr.heap.size wr wr) := Below.refl _ _
        cases hc : clE (D g0) (D f0)
        · have CO := Lib.hid (fun w => order_not (D g0) (D f0) (hOk.out _) (hOk.out _) hc w)
          replace hst := Lib.hid (hst.1 hc)
          clear hc
          have nn1 : g0 < n := by omega
          have nn2 : f0 < n := by omega
          have KC := Lib.hid (fun (w9 : World) (hb : Below wr.heap.size wr w9) => (h_s.out.below hb).two (i := g0) (j := f0) (by omega) (by omega))
          generalize (D g0).1.1 = u1 at *
          generalize (D g0).1.2 = u2 at *
          generalize (D f0).1.1 = v1 at *
          generalize (D f0).1.2 = v2 at *
          go_wp2_with fail
          have KK := Lib.hid (fun (w9 : World) (h : Below wr.heap.size wr w9) => (KC.out _ h : (w9.cell? ⟨b, g0 * 2, none⟩ = some (.int .i64 u1) ∧ w9.cell? ⟨b, g0 * 2 + 1, none⟩ = some (.int .i64 u2) ∧ w9.cell? ⟨b, f0 * 2, none⟩ = some (.int .i64 v1) ∧ w9.cell? ⟨b, f0 * 2 + 1, none⟩ = some (.int .i64 v2))))
          have K0 := KK.out wr (Below.refl _ _)
          have KD := KK.out wr.drew (below_drew (Below.refl _ _))
          go_region_held3 (fun w9 => (w9.cell? ⟨b, g0 * 2, none⟩ = some (.int .i64 u1) ∧ w9.cell? ⟨b, g0 * 2 + 1, none⟩ = some (.int .i64 u2) ∧ w9.cell? ⟨b, f0 * 2, none⟩ = some (.int .i64 v1) ∧ w9.cell? ⟨b, f0 * 2 + 1, none⟩ = some (.int .i64 v2)))
              (first | with_reducible exact KD | with_reducible exact K0 | with_reducible exact K_w1)
              (first
                | (go_at_call 54
                   refine (CO.out _).mono ?_
                   rintro e w1 ⟨z, rfl, hb, hz⟩
                   have B_w1 := Lib.hid (reg_next (w0 := wr) (by repeat (first | with_reducible exact Below.refl _ _ | with_reducible apply below_drew | with_reducible apply below_new)) hb)
                   have K_w1 := KK.out _ B_w1.out
                   have hz2 : decide (z < 0) = false := decide_eq_false (by omega)
                   clear hb))
          clear KK K0 KD K_w1
          replace h_s := Lib.hid (SRw.below h_s.out B_w1.out)
          replace BB := Lib.hid (below_next BB.out B_w1.out)
          clear B_w1
          go_wp2_with fail
          go_roundw
          case rel => exact ⟨f0 + 1, j, by omega, by omega, hjy, by go_num, rfl, h_s.out, hst.out, h2.out⟩
          case measure => simp [intOf]; omega
        · have CO := Lib.hid (fun w => order_yes (D g0) (D f0) (hOk.out _) (hOk.out _) hc w)
          replace hst := Lib.hid (hst.2 hc)
          clear hc
          have nn1 : g0 < n := by omega
          have nn2 : f0 < n := by omega
          have KC := Lib.hid (fun (w9 : World) (hb : Below wr.heap.size wr w9) => (h_s.out.below hb).two (i := g0) (j := f0) (by omega) (by omega))
          generalize (D g0).1.1 = u1 at *
          generalize (D g0).1.2 = u2 at *
          generalize (D f0).1.1 = v1 at *
          generalize (D f0).1.2 = v2 at *
          go_wp2_with fail
          have KK := Lib.hid (fun (w9 : World) (h : Below wr.heap.size wr w9) => (KC.out _ h : (w9.cell? ⟨b, g0 * 2, none⟩ = some (.int .i64 u1) ∧ w9.cell? ⟨b, g0 * 2 + 1, none⟩ = some (.int .i64 u2) ∧ w9.cell? ⟨b, f0 * 2, none⟩ = some (.int .i64 v1) ∧ w9.cell? ⟨b, f0 * 2 + 1, none⟩ = some (.int .i64 v2))))
          have K0 := KK.out wr (Below.refl _ _)
          have KD := KK.out wr.drew (below_drew (Below.refl _ _))
          go_region_held3 (fun w9 => (w9.cell? ⟨b, g0 * 2, none⟩ = some (.int .i64 u1) ∧ w9.cell? ⟨b, g0 * 2 + 1, none⟩ = some (.int .i64 u2) ∧ w9.cell? ⟨b, f0 * 2, none⟩ = some (.int .i64 v1) ∧ w9.cell? ⟨b, f0 * 2 + 1, none⟩ = some (.int .i64 v2)))
              (first | with_reducible exact KD | with_reducible exact K0 | with_reducible exact K_w1)
              (first
                | (go_at_call 54
                   refine (CO.out _).mono ?_
                   rintro e w1 ⟨z, rfl, hb, hz⟩
                   have B_w1 := Lib.hid (reg_next (w0 := wr) (by repeat (first | with_reducible exact Below.refl _ _ | with_reducible apply below_drew | with_reducible apply below_new)) hb)
                   have K_w1 := KK.out _ B_w1.out
                   have hz2 : decide (z < 0) = true := decide_eq_true hz
                   clear hb))
          clear KK K0 KD K_w1
          replace h_s := Lib.hid (SRw.below h_s.out B_w1.out)
          replace BB := Lib.hid (below_next BB.out B_w1.out)
          clear B_w1
          go_wp2_with fail
          go_roundw
          case rel => exact ⟨i, f0, hmi, hhi, by omega, rfl, rfl, h_s.out, h1.out, hst.out⟩
          case measure => simp [intOf]; omega
      · obtain rfl : i = j := by omega
        obtain ⟨en, hen⟩ : ∃ q, q = mid + m - i := ⟨_, rfl⟩
        obtain ⟨hb, F1, G1, F2, G2, FIN⟩ := sym_parts (P := fun x' m' y' D' => ∀ w, SRw W0 b n D' w → Calls Try.prog 105 #[.slice (some ⟨b, 0, none⟩) n c, .int .i64 (x' : Int), .int .i64 (m' : Int), .int .i64 (y' : Int), ORD] w (Merged W0 b n D' x' y')) hOk.out hxm' hmy' hyn hMD.out hs1.out hs2.out hT.out hS0.out hR0.out hmi hjy hen (by have := hNN.out; omega) h1.out h2.out IH.out
        replace F1 := Lib.hid F1
        replace G1 := Lib.hid G1
        replace F2 := Lib.hid F2
        replace G2 := Lib.hid G2
        replace FIN := Lib.hid FIN
        have e7 : IntKind.i64.wrap ((nn : Int) - (i : Int)) = (en : Int) := by have := hn.out; have := hNN.out; rw [show (en : Int) = (nn : Int) - (i : Int) by omega]; exact iw ⟨by omega, by omega⟩
        have hen2 := Lib.hid hen
        have hb2 := Lib.hid hb
        obtain ⟨q1, q2, q3, q4, q5, q6, q7, q8⟩ := hb
        have CR := Lib.hid (fun h1 h2 w h => rotate_any W0 b c n hn.out i m en h1 h2 (by omega) ORD D w h)
        clear h1 h2 hT hs1 hs2 hOk hS0 hR0 hPP IH hmi hjy
        rcases Nat.lt_or_ge i m with a1 | a1
        · rcases Nat.lt_or_ge m en with a2 | a2
          · have a3 : i < mid := by omega
            have a4 : mid < en := by omega
            clear hen q1 q2 q3 q4 q5 q6 q7 q8
            go_wp2_with fail
            refine (CR.out a1 a2 _ h_s.out).mono ?_
            rintro e w9 ⟨rfl, h_t⟩
            replace h_t := Lib.hid h_t
            rcases Nat.lt_or_ge x i with a5 | a5
            · skip
              go_wp2_with fail
              refine (F1.out a5 a3 _ h_t.out).mono ?_
              rintro e w1 ⟨rfl, E1, h_u, hB1, hO1⟩
              replace h_u := Lib.hid h_u
              replace hB1 := Lib.hid hB1
              replace hO1 := Lib.hid hO1
              rcases Nat.lt_or_ge en y with a6 | a6
              · skip
                go_wp2_with fail
                refine (F2.out E1 hB1.out a4 a6 _ h_u.out).mono ?_
                rintro e w2 ⟨rfl, E2, h_v, hB2, hO2⟩
                replace h_v := Lib.hid h_v
                replace hB2 := Lib.hid hB2
                replace hO2 := Lib.hid hO2
                go_wp2_with fail
                go_end0
                exact ⟨rfl, E2, h_v.out, FIN.out E1 E2 hB1.out hO1.out hB2.out hO2.out⟩
              · obtain rfl : en = y := by have := hb2.out; omega
                have hO2 := Lib.hid (G2.out E1 hB1.out (by first | exact (.inr rfl) | simp))
                go_wp2_with fail
                go_end0
                exact ⟨rfl, E1, h_u.out, FIN.out E1 E1 hB1.out hO1.out (Sb.refl _ _ _) hO2.out⟩
            · obtain rfl : i = x := by have := hb2.out; omega
              have h_t := h_t
              obtain ⟨E1, h_u, hB1, hO1⟩ : ∃ E1, Hid (SRw W0 b n E1 w9) ∧ Hid (Sb (rot D i m en) E1 i mid) ∧ Hid (Srt ltE E1 i mid) := ⟨_, h_t, Sb.refl _ _ _, G1.out (.inl rfl)⟩
              rcases Nat.lt_or_ge en y with a6 | a6
              · skip
                go_wp2_with fail
                refine (F2.out E1 hB1.out a4 a6 _ h_u.out).mono ?_
                rintro e w2 ⟨rfl, E2, h_v, hB2, hO2⟩
                replace h_v := Lib.hid h_v
                replace hB2 := Lib.hid hB2
                replace hO2 := Lib.hid hO2
                go_wp2_with fail
                go_end0
                exact ⟨rfl, E2, h_v.out, FIN.out E1 E2 hB1.out hO1.out hB2.out hO2.out⟩
              · obtain rfl : en = y := by have := hb2.out; omega
                have hO2 := Lib.hid (G2.out E1 hB1.out (by first | exact (.inr rfl) | simp))
                go_wp2_with fail
                go_end0
                exact ⟨rfl, E1, h_u.out, FIN.out E1 E1 hB1.out hO1.out (Sb.refl _ _ _) hO2.out⟩
          · have a3 : m = en := by omega
            have a4 : i = mid := by omega
            have h_t : Hid (SRw W0 b n (rot D i m en) wr) := by
              show SRw _ _ _ _ _
              rw [(show rot D i m en = D by rw [← a3]; exact rot_nil2 D i m)]; exact h_s.out
            obtain ⟨E1, h_u, hB1, hO1⟩ : ∃ E1, Hid (SRw W0 b n E1 wr) ∧ Hid (Sb (rot D i m en) E1 x mid) ∧ Hid (Srt ltE E1 x mid) := ⟨_, h_t, Sb.refl _ _ _, G1.out (.inr a4)⟩
            have a5 : mid < en := by omega
            have a6 : en < y := by omega
            have a7 : x < mid := by omega
            clear hen q1 q2 q3 q4 q5 q6 q7 q8 a2 CR F1 G1 h_s h_t
            subst a4
            subst a3
            go_wp2_with fail
            refine (F2.out E1 hB1.out a5 a6 _ h_u.out).mono ?_
            rintro e w2 ⟨rfl, E2, h_v, hB2, hO2⟩
            replace h_v := Lib.hid h_v
            replace hB2 := Lib.hid hB2
            replace hO2 := Lib.hid hO2
            go_wp2_with fail
            go_end0
            exact ⟨rfl, E2, h_v.out, FIN.out E1 E2 hB1.out hO1.out hB2.out hO2.out⟩
        · have a2 : i = m := by omega
          have a3 : en = mid := by omega
          have h_t : Hid (SRw W0 b n (rot D i m en) wr) := by
            show SRw _ _ _ _ _
            rw [(show rot D i m en = D by rw [a2]; exact rot_nil1 D m en)]; exact h_s.out
          have a4 : x < i := by omega
          rcases Nat.lt_or_ge i mid with a5 | a5
          · skip
            clear hen q1 q2 q3 q4 q5 q6 q7 q8 a1 CR h_s
            subst a2
            subst a3
            go_wp2_with fail
            refine (F1.out a4 a5 _ h_t.out).mono ?_
            rintro e w1 ⟨rfl, E1, h_u, hB1, hO1⟩
            replace h_u := Lib.hid h_u
            replace hB1 := Lib.hid hB1
            replace hO1 := Lib.hid hO1
            have hO2 := Lib.hid (G2.out E1 hB1.out (by first | exact (.inl rfl) | simp))
            go_wp2_with fail
            go_end0
            exact ⟨rfl, E1, h_u.out, FIN.out E1 E1 hB1.out hO1.out (Sb.refl _ _ _) hO2.out⟩
          · have a6 : i = mid := by omega
            obtain ⟨E1, h_u, hB1, hO1⟩ : ∃ E1, Hid (SRw W0 b n E1 wr) ∧ Hid (Sb (rot D i m en) E1 x mid) ∧ Hid (Srt ltE E1 x mid) := ⟨_, h_t, Sb.refl _ _ _, G1.out (.inr a6)⟩
            clear hen q1 q2 q3 q4 q5 q6 q7 q8 a1 a5 CR F1 G1 h_s h_t
            subst a6
            subst a2
            subst a3
            have hO2 := Lib.hid (G2.out E1 hB1.out (by first | exact (.inl rfl) | simp))
            go_wp2_with fail
            go_end0
            exact ⟨rfl, E1, h_u.out, FIN.out E1 E1 hB1.out hO1.out (Sb.refl _ _ _) hO2.out⟩
  · have hS0 : Hid (x = if mid < m then mid + m - y else x) := by show x = _; rw [if_neg hcase]
    have hR0 : Hid (m = if mid < m then mid else m) := by show m = _; rw [if_neg hcase]
    have hPP := Lib.hid (pp_in hxm' hmy' hmid hS0.out hR0.out hNN.out.2.1)
    have hn := Lib.hid hn
    clear h hz hu hmid hs hnn hpp
    go_enter Try.func105, Try.ntmps105
    go_wp2_with fail
    clear e0 e9 z1 u1 ed hcase
    go_loopw [20, 21, 23] (fun a d _ wr => ∃ i j : Nat, x ≤ i ∧ i ≤ j ∧ j ≤ m ∧ a = .int .i64 (i : Int) ∧ d = .int .i64 (j : Int) ∧ Hid (SRw W0 b n D wr ∧ (∀ k, x ≤ k → k < i → ltE (D k) (D (pp - k))) ∧ ∀ k, j ≤ k → k < m → ltE (D (pp - k)) (D k))) (fun a d _ _ => (intOf d).toNat - (intOf a).toNat)
    case atStart => exact ⟨x, m, by omega, hPP.out.2.1, by omega, by first | rfl | go_num, rfl, h_s.out, fun k h1 h2 => by omega, fun k h1 h2 => by omega⟩
    case round =>
      clear h_s e1 e2 e4 e3 e5
      obtain ⟨i, j, hmi, hij, hjy, rfl, rfl, hI⟩ := hrel
      obtain ⟨h_s, h1, h2⟩ := hI.out
      replace h_s := Lib.hid h_s
      replace h1 := Lib.hid h1
      replace h2 := Lib.hid h2
      clear hI
      by_cases hlt : i < j
      · have hr0m := hPP.out.2.2.1
        have hn' := hn.out
        have hij' : ((i : Nat) : Int) < ((j : Nat) : Int) := by omega
        obtain ⟨f0, hh⟩ : ∃ f0, f0 = (i + j) / 2 := ⟨_, rfl⟩
        have hhi : i ≤ f0 := by omega
        have hhj : f0 < j := by omega
        obtain ⟨s, hs⟩ : ∃ s, s = (i : Int) + (j : Int) := ⟨_, rfl⟩
        have e1 : IntKind.i64.wrap ((i : Int) + (j : Int)) = s := by rw [hs]; exact iw ⟨by omega, by omega⟩
        have e2 : IntKind.u64.wrap s = s := by rw [hs]; simp [IntKind.wrap, IntKind.bits, IntKind.signed]; omega
        have e3 : s / 2 = (f0 : Int) := by omega
        have e4 : IntKind.i64.wrap (f0 : Int) = (f0 : Int) := iw ⟨by omega, by omega⟩
        have e5 : IntKind.i64.wrap ((f0 : Int) + 1) = ((f0 + 1 : Nat) : Int) := by rw [show ((f0 + 1 : Nat) : Int) = (f0 : Int) + 1 by omega]; exact iw ⟨by omega, by omega⟩
        clear hh hs hn'
        have hst := sr_step3 stE hOk.out hs1.out hs2.out hT.out hPP.out.1 hPP.out.2.2.1 hPP.out.2.2.2 hmi hhi hhj hjy h1.out h2.out
        have hpf := hPP.out.2.2.2 f0 (by omega) (by omega)
        obtain ⟨g0, hg0⟩ : ∃ g, g = pp - f0 := ⟨_, rfl⟩
        have e6 : IntKind.i64.wrap ((pp : Int) - (f0 : Int)) = (g0 : Int) := by have := hn.out; have := hNN.out; rw [show (g0 : Int) = (pp : Int) - (f0 : Int) by omega]; exact iw ⟨by omega, by omega⟩
        rw [← hg0] at hst hpf
        clear hg0
        have BB : Hid (Below wr.heap.size wr wr) := Below.refl _ _
        cases hc : clE (D g0) (D f0)
        · have CO := Lib.hid (fun w => order_not (D g0) (D f0) (hOk.out _) (hOk.out _) hc w)
          replace hst := Lib.hid (hst.1 hc)
          clear hc
          have nn1 : g0 < n := by omega
          have nn2 : f0 < n := by omega
          have KC := Lib.hid (fun (w9 : World) (hb : Below wr.heap.size wr w9) => (h_s.out.below hb).two (i := g0) (j := f0) (by omega) (by omega))
          generalize (D g0).1.1 = u1 at *
          generalize (D g0).1.2 = u2 at *
          generalize (D f0).1.1 = v1 at *
          generalize (D f0).1.2 = v2 at *
          go_wp2_with fail
          have KK := Lib.hid (fun (w9 : World) (h : Below wr.heap.size wr w9) => (KC.out _ h : (w9.cell? ⟨b, g0 * 2, none⟩ = some (.int .i64 u1) ∧ w9.cell? ⟨b, g0 * 2 + 1, none⟩ = some (.int .i64 u2) ∧ w9.cell? ⟨b, f0 * 2, none⟩ = some (.int .i64 v1) ∧ w9.cell? ⟨b, f0 * 2 + 1, none⟩ = some (.int .i64 v2))))
          have K0 := KK.out wr (Below.refl _ _)
          have KD := KK.out wr.drew (below_drew (Below.refl _ _))
          go_region_held3 (fun w9 => (w9.cell? ⟨b, g0 * 2, none⟩ = some (.int .i64 u1) ∧ w9.cell? ⟨b, g0 * 2 + 1, none⟩ = some (.int .i64 u2) ∧ w9.cell? ⟨b, f0 * 2, none⟩ = some (.int .i64 v1) ∧ w9.cell? ⟨b, f0 * 2 + 1, none⟩ = some (.int .i64 v2)))
              (first | with_reducible exact KD | with_reducible exact K0 | with_reducible exact K_w2)
              (first
                | (go_at_call 54
                   refine (CO.out _).mono ?_
                   rintro e w2 ⟨z, rfl, hb, hz⟩
                   have B_w2 := Lib.hid (reg_next (w0 := wr) (by repeat (first | with_reducible exact Below.refl _ _ | with_reducible apply below_drew | with_reducible apply below_new)) hb)
                   have K_w2 := KK.out _ B_w2.out
                   have hz2 : decide (z < 0) = false := decide_eq_false (by omega)
                   clear hb))
          clear KK K0 KD K_w2
          replace h_s := Lib.hid (SRw.below h_s.out B_w2.out)
          replace BB := Lib.hid (below_next BB.out B_w2.out)
          clear B_w2
          go_wp2_with fail
          go_roundw
          case rel => exact ⟨f0 + 1, j, by omega, by omega, hjy, by go_num, rfl, h_s.out, hst.out, h2.out⟩
          case measure => simp [intOf]; omega
        · have CO := Lib.hid (fun w => order_yes (D g0) (D f0) (hOk.out _) (hOk.out _) hc w)
          replace hst := Lib.hid (hst.2 hc)
          clear hc
          have nn1 : g0 < n := by omega
          have nn2 : f0 < n := by omega
          have KC := Lib.hid (fun (w9 : World) (hb : Below wr.heap.size wr w9) => (h_s.out.below hb).two (i := g0) (j := f0) (by omega) (by omega))
          generalize (D g0).1.1 = u1 at *
          generalize (D g0).1.2 = u2 at *
          generalize (D f0).1.1 = v1 at *
          generalize (D f0).1.2 = v2 at *
          go_wp2_with fail
          have KK := Lib.hid (fun (w9 : World) (h : Below wr.heap.size wr w9) => (KC.out _ h : (w9.cell? ⟨b, g0 * 2, none⟩ = some (.int .i64 u1) ∧ w9.cell? ⟨b, g0 * 2 + 1, none⟩ = some (.int .i64 u2) ∧ w9.cell? ⟨b, f0 * 2, none⟩ = some (.int .i64 v1) ∧ w9.cell? ⟨b, f0 * 2 + 1, none⟩ = some (.int .i64 v2))))
          have K0 := KK.out wr (Below.refl _ _)
          have KD := KK.out wr.drew (below_drew (Below.refl _ _))
          go_region_held3 (fun w9 => (w9.cell? ⟨b, g0 * 2, none⟩ = some (.int .i64 u1) ∧ w9.cell? ⟨b, g0 * 2 + 1, none⟩ = some (.int .i64 u2) ∧ w9.cell? ⟨b, f0 * 2, none⟩ = some (.int .i64 v1) ∧ w9.cell? ⟨b, f0 * 2 + 1, none⟩ = some (.int .i64 v2)))
              (first | with_reducible exact KD | with_reducible exact K0 | with_reducible exact K_w2)
              (first
                | (go_at_call 54
                   refine (CO.out _).mono ?_
                   rintro e w2 ⟨z, rfl, hb, hz⟩
                   have B_w2 := Lib.hid (reg_next (w0 := wr) (by repeat (first | with_reducible exact Below.refl _ _ | with_reducible apply below_drew | with_reducible apply below_new)) hb)
                   have K_w2 := KK.out _ B_w2.out
                   have hz2 : decide (z < 0) = true := decide_eq_true hz
                   clear hb))
          clear KK K0 KD K_w2
          replace h_s := Lib.hid (SRw.below h_s.out B_w2.out)
          replace BB := Lib.hid (below_next BB.out B_w2.out)
          clear B_w2
          go_wp2_with fail
          go_roundw
          case rel => exact ⟨i, f0, hmi, hhi, by omega, rfl, rfl, h_s.out, h1.out, hst.out⟩
          case measure => simp [intOf]; omega
      · obtain rfl : i = j := by omega
        obtain ⟨en, hen⟩ : ∃ q, q = mid + m - i := ⟨_, rfl⟩
        obtain ⟨hb, F1, G1, F2, G2, FIN⟩ := sym_parts (P := fun x' m' y' D' => ∀ w, SRw W0 b n D' w → Calls Try.prog 105 #[.slice (some ⟨b, 0, none⟩) n c, .int .i64 (x' : Int), .int .i64 (m' : Int), .int .i64 (y' : Int), ORD] w (Merged W0 b n D' x' y')) hOk.out hxm' hmy' hyn hMD.out hs1.out hs2.out hT.out hS0.out hR0.out hmi hjy hen (by have := hNN.out; omega) h1.out h2.out IH.out
        replace F1 := Lib.hid F1
        replace G1 := Lib.hid G1
        replace F2 := Lib.hid F2
        replace G2 := Lib.hid G2
        replace FIN := Lib.hid FIN
        have e7 : IntKind.i64.wrap ((nn : Int) - (i : Int)) = (en : Int) := by have := hn.out; have := hNN.out; rw [show (en : Int) = (nn : Int) - (i : Int) by omega]; exact iw ⟨by omega, by omega⟩
        have hen2 := Lib.hid hen
        have hb2 := Lib.hid hb
        obtain ⟨q1, q2, q3, q4, q5, q6, q7, q8⟩ := hb
        have CR := Lib.hid (fun h1 h2 w h => rotate_any W0 b c n hn.out i m en h1 h2 (by omega) ORD D w h)
        clear h1 h2 hT hs1 hs2 hOk hS0 hR0 hPP IH hmi hjy
        rcases Nat.lt_or_ge i m with a1 | a1
        · rcases Nat.lt_or_ge m en with a2 | a2
          · have a3 : i < mid := by omega
            have a4 : mid < en := by omega
            clear hen q1 q2 q3 q4 q5 q6 q7 q8
            go_wp2_with fail
            refine (CR.out a1 a2 _ h_s.out).mono ?_
            rintro e w9 ⟨rfl, h_t⟩
            replace h_t := Lib.hid h_t
            rcases Nat.lt_or_ge x i with a5 | a5
            · skip
              go_wp2_with fail
              refine (F1.out a5 a3 _ h_t.out).mono ?_
              rintro e w1 ⟨rfl, E1, h_u, hB1, hO1⟩
              replace h_u := Lib.hid h_u
              replace hB1 := Lib.hid hB1
              replace hO1 := Lib.hid hO1
              rcases Nat.lt_or_ge en y with a6 | a6
              · skip
                go_wp2_with fail
                refine (F2.out E1 hB1.out a4 a6 _ h_u.out).mono ?_
                rintro e w2 ⟨rfl, E2, h_v, hB2, hO2⟩
                replace h_v := Lib.hid h_v
                replace hB2 := Lib.hid hB2
                replace hO2 := Lib.hid hO2
                go_wp2_with fail
                go_end0
                exact ⟨rfl, E2, h_v.out, FIN.out E1 E2 hB1.out hO1.out hB2.out hO2.out⟩
              · obtain rfl : en = y := by have := hb2.out; omega
                have hO2 := Lib.hid (G2.out E1 hB1.out (by first | exact (.inr rfl) | simp))
                go_wp2_with fail
                go_end0
                exact ⟨rfl, E1, h_u.out, FIN.out E1 E1 hB1.out hO1.out (Sb.refl _ _ _) hO2.out⟩
            · obtain rfl : i = x := by have := hb2.out; omega
              have h_t := h_t
              obtain ⟨E1, h_u, hB1, hO1⟩ : ∃ E1, Hid (SRw W0 b n E1 w9) ∧ Hid (Sb (rot D i m en) E1 i mid) ∧ Hid (Srt ltE E1 i mid) := ⟨_, h_t, Sb.refl _ _ _, G1.out (.inl rfl)⟩
              rcases Nat.lt_or_ge en y with a6 | a6
              · skip
                go_wp2_with fail
                refine (F2.out E1 hB1.out a4 a6 _ h_u.out).mono ?_
                rintro e w2 ⟨rfl, E2, h_v, hB2, hO2⟩
                replace h_v := Lib.hid h_v
                replace hB2 := Lib.hid hB2
                replace hO2 := Lib.hid hO2
                go_wp2_with fail
                go_end0
                exact ⟨rfl, E2, h_v.out, FIN.out E1 E2 hB1.out hO1.out hB2.out hO2.out⟩
              · obtain rfl : en = y := by have := hb2.out; omega
                have hO2 := Lib.hid (G2.out E1 hB1.out (by first | exact (.inr rfl) | simp))
                go_wp2_with fail
                go_end0
                exact ⟨rfl, E1, h_u.out, FIN.out E1 E1 hB1.out hO1.out (Sb.refl _ _ _) hO2.out⟩
          · have a3 : m = en := by omega
            have a4 : i = mid := by omega
            have h_t : Hid (SRw W0 b n (rot D i m en) wr) := by
              show SRw _ _ _ _ _
              rw [(show rot D i m en = D by rw [← a3]; exact rot_nil2 D i m)]; exact h_s.out
            obtain ⟨E1, h_u, hB1, hO1⟩ : ∃ E1, Hid (SRw W0 b n E1 wr) ∧ Hid (Sb (rot D i m en) E1 x mid) ∧ Hid (Srt ltE E1 x mid) := ⟨_, h_t, Sb.refl _ _ _, G1.out (.inr a4)⟩
            have a5 : mid < en := by omega
            have a6 : en < y := by omega
            have a7 : x < mid := by omega
            clear hen q1 q2 q3 q4 q5 q6 q7 q8 a2 CR F1 G1 h_s h_t
            subst a4
            subst a3
            go_wp2_with fail
            refine (F2.out E1 hB1.out a5 a6 _ h_u.out).mono ?_
            rintro e w2 ⟨rfl, E2, h_v, hB2, hO2⟩
            replace h_v := Lib.hid h_v
            replace hB2 := Lib.hid hB2
            replace hO2 := Lib.hid hO2
            go_wp2_with fail
            go_end0
            exact ⟨rfl, E2, h_v.out, FIN.out E1 E2 hB1.out hO1.out hB2.out hO2.out⟩
        · have a2 : i = m := by omega
          have a3 : en = mid := by omega
          have h_t : Hid (SRw W0 b n (rot D i m en) wr) := by
            show SRw _ _ _ _ _
            rw [(show rot D i m en = D by rw [a2]; exact rot_nil1 D m en)]; exact h_s.out
          have a4 : x < i := by omega
          rcases Nat.lt_or_ge i mid with a5 | a5
          · skip
            clear hen q1 q2 q3 q4 q5 q6 q7 q8 a1 CR h_s
            subst a2
            subst a3
            go_wp2_with fail
            refine (F1.out a4 a5 _ h_t.out).mono ?_
            rintro e w1 ⟨rfl, E1, h_u, hB1, hO1⟩
            replace h_u := Lib.hid h_u
            replace hB1 := Lib.hid hB1
            replace hO1 := Lib.hid hO1
            have hO2 := Lib.hid (G2.out E1 hB1.out (by first | exact (.inl rfl) | simp))
            go_wp2_with fail
            go_end0
            exact ⟨rfl, E1, h_u.out, FIN.out E1 E1 hB1.out hO1.out (Sb.refl _ _ _) hO2.out⟩
          · have a6 : i = mid := by omega
            obtain ⟨E1, h_u, hB1, hO1⟩ : ∃ E1, Hid (SRw W0 b n E1 wr) ∧ Hid (Sb (rot D i m en) E1 x mid) ∧ Hid (Srt ltE E1 x mid) := ⟨_, h_t, Sb.refl _ _ _, G1.out (.inr a6)⟩
            clear hen q1 q2 q3 q4 q5 q6 q7 q8 a1 a5 CR F1 G1 h_s h_t
            subst a6
            subst a2
            subst a3
            have hO2 := Lib.hid (G2.out E1 hB1.out (by first | exact (.inl rfl) | simp))
            go_wp2_with fail
            go_end0
            exact ⟨rfl, E1, h_u.out, FIN.out E1 E1 hB1.out hO1.out (Sb.refl _ _ _) hO2.out⟩
end Go.Proofs.Ythdbchghhpoadaa
