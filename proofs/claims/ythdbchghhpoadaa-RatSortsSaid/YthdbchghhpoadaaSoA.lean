/- Contracts of slices.symMergeCmpFunc, stableCmpFunc, SortStableFunc. -/
import Derived.Test.YthdbchghhpoadaaSo9
set_option linter.unusedVariables false
set_option linter.unusedSimpArgs false
namespace Go.Proofs.Ythdbchghhpoadaa
open Go.RowKit
abbrev TG (z : E3) : Nat := z.2
theorem symMerge_any (W0 : World) (b c n : Nat) (hn : n ≤ 1000) : ∀ (N x m y : Nat), y - x ≤ N → x < m → m < y → y ≤ n → ∀ D : Nat → E3, (∀ k, OkE (D k)) → Srt ltE D x m → Srt ltE D m y → TagLt (fun z : E3 => z.2) D x m y → ∀ w, SRw W0 b n D w →
    Calls Try.prog 105 #[.slice (some ⟨b, 0, none⟩) n c, .int .i64 (x : Int), .int .i64 (m : Int), .int .i64 (y : Int), ORD] w (Merged W0 b n D x y)
  | 0, x, m, y, hN, hx, hm, hy, D, hOk, hs1, hs2, hT, w, h => by omega
  | N + 1, x, m, y, hN, hx, hm, hy, D, hOk, hs1, hs2, hT, w, h => by
    by_cases h1 : m = x + 1
    · exact symA W0 b c n hn x m y h1 hm hy D hOk hs2 hT w h
    · by_cases h2 : y = m + 1
      · exact symB W0 b c n hn x m y (by omega) h2 hy D hOk hs1 hT w h
      · exact symC W0 b c n hn x m y (by omega) (by omega) hy D hOk hs1 hs2 hT (fun x' m' y' a1 a2 a3 a4 D' k1 k2 k3 k4 w h => symMerge_any W0 b c n hn N x' m' y' (by omega) a1 a2 a3 D' k1 k2 k3 k4 w h) w h
def Stab (W0 : World) (b n : Nat) (D : Nat → E3) (e : Ending) (w' : World) : Prop := e = .returned (.tuple #[]) ∧ ∃ E, SRw W0 b n E w' ∧ Sb D E 0 n ∧ Srt ltE E 0 n
set_option maxRecDepth 100000 in
set_option maxHeartbeats 8000000 in
theorem stable_any (W0 : World) (b c n : Nat) (hn : n ≤ 1000) (D : Nat → E3) (hOk : ∀ k, OkE (D k)) (hT : ∀ i, i < n → (D i).2 = i) (w : World) (h : SRw W0 b n D w) :
    Calls Try.prog 79 #[.slice (some ⟨b, 0, none⟩) n c, .int .i64 (n : Int), ORD] w (Stab W0 b n D) := by
  have CI := Lib.hid (fun x y hx hy D hOk hT w h => insertion_any W0 b c n hn x y hx hy D hOk hT w h)
  have CS := Lib.hid (fun x m y hx hm hy D hOk hs1 hs2 hT w h => symMerge_any W0 b c n hn (y - x) x m y (Nat.le_refl _) hx hm hy D hOk hs1 hs2 hT w h)
  have hI0 : Hid (∃ E, SRw W0 b n E w ∧ Sb D E 0 n ∧ Blk1 ltE TG E n 20 (20 * 0)) := ⟨D, h, Sb.refl _ _ _, fun i j _ _ hj => by omega, fun i _ hi => hT i hi, fun i _ hi => by omega⟩
  replace hn := Lib.hid hn
  have hOk := Lib.hid hOk
  clear h hT
  go_enter Try.func79, Try.ntmps79
  go_wp2_with fail
  go_loopw [7, 8] (fun a d wr => ∃ A q : Nat, A ≤ n ∧ Hid (A = 20 * q) ∧ a = .int .i64 (A : Int) ∧ d = .int .i64 ((A + 20 : Nat) : Int) ∧ Hid (∃ E, SRw W0 b n E wr ∧ Sb D E 0 n ∧ Blk1 ltE TG E n 20 (20 * q))) (fun a _ _ => n - (intOf a).toNat)
  case atStart => exact ⟨0, 0, by omega, rfl, rfl, rfl, hI0⟩
  case round =>
    clear hI0
    obtain ⟨A, q, hA, hAq, rfl, rfl, hI⟩ := hrel
    obtain ⟨E, hE, hS, hB⟩ := hI.out
    have hOkE := Lib.hid (hS.every hOk.out)
    have hE := Lib.hid hE
    have hS := Lib.hid hS
    have hB := Lib.hid hB
    clear hI
    obtain ⟨B, hBq⟩ : ∃ B, B = A + 20 := ⟨_, rfl⟩
    rw [← hBq]
    have hn' := hn.out
    have e1 : IntKind.i64.wrap ((B : Int) + 20) = ((B + 20 : Nat) : Int) := by rw [show ((B + 20 : Nat) : Int) = (B : Int) + 20 by omega]; exact iw ⟨by omega, by omega⟩
    clear hn'
    have hBq' := Lib.hid hBq
    by_cases hlt : B ≤ n
    · have C1 := Lib.hid (CI.out A B (by omega) hlt E hOkE.out (fun i j h1 h2 h3 => by
        have := hAq.out
        have t1 := hB.out.2.1 i (by omega) (by omega)
        have t2 := hB.out.2.1 j (by omega) (by omega)
        unfold TG at t1 t2
        omega))
      clear hBq
      go_wp2_with fail
      refine (C1.out _ hE.out).mono ?_
      rintro e w1 ⟨rfl, E1, h1, h2, h3⟩
      have hN : Hid (∃ E, SRw W0 b n E w1 ∧ Sb D E 0 n ∧ Blk1 ltE TG E n 20 (20 * (q + 1))) := by
        have := hAq.out
        have := hBq'.out
        refine ⟨E1, h1, hS.out.trans (h2.mono (by omega) hlt), ?_⟩
        rw [hAq.out] at h2 h3
        exact hB.out.step (by omega) h2 h3 (.inl ⟨by omega, hlt⟩)
      clear h1 h2 h3
      go_wp2_with fail
      go_roundw
      case rel => exact ⟨B, q + 1, hlt, by have := hAq.out; have := hBq'.out; show _ = _; omega, rfl, rfl, hN⟩
      case measure => have := hBq'.out; simp [intOf]; omega
    · have C1 := Lib.hid (CI.out A n hA (Nat.le_refl _) E hOkE.out (fun i j h1 h2 h3 => by
        have := hAq.out
        have t1 := hB.out.2.1 i (by omega) (by omega)
        have t2 := hB.out.2.1 j (by omega) (by omega)
        unfold TG at t1 t2
        omega))
      clear hBq
      go_wp2_with fail
      refine (C1.out _ hE.out).mono ?_
      rintro e w1 ⟨rfl, E1, h1, h2, h3⟩
      have hN : Hid (∃ E, SRw W0 b n E w1 ∧ Sb D E 0 n ∧ Blk ltE TG E n 20) := by
        have := hAq.out
        have := hBq'.out
        refine ⟨E1, h1, hS.out.trans (h2.mono (by omega) (Nat.le_refl _)), ?_⟩
        rw [hAq.out] at h2 h3
        exact (hB.out.step (by omega) h2 h3 (.inr ⟨rfl, by omega⟩)).done (by omega)
      clear h1 h2 h3 hE hS hB hOkE C1 hlt hAq hBq' e1
      go_wp2_with fail
      go_loopw [6, 7, 8, 9] (fun a _ _ _ wr => ∃ bs : Nat, 0 < bs ∧ bs ≤ 2000 ∧ a = .int .i64 (bs : Int) ∧ Hid (∃ E, SRw W0 b n E wr ∧ Sb D E 0 n ∧ Blk ltE TG E n bs)) (fun a _ _ _ _ => n - (intOf a).toNat)
      case atStart => exact ⟨20, by omega, by omega, rfl, hN⟩
      case round =>
        clear hN
        obtain ⟨bs, hbs, hbs2, rfl, hI⟩ := hrel
        by_cases hlt : bs < n
        · obtain ⟨T, hT⟩ : ∃ T, T = 2 * bs := ⟨_, rfl⟩
          have hn' := hn.out
          have e1 : IntKind.i64.wrap (2 * (bs : Int)) = (T : Int) := by rw [show (T : Int) = 2 * (bs : Int) by omega]; exact iw ⟨by omega, by omega⟩
          have e2 : IntKind.i64.wrap ((bs : Int) * 2) = (T : Int) := by rw [show (T : Int) = (bs : Int) * 2 by omega]; exact iw ⟨by omega, by omega⟩
          have hJ : Hid (∃ E, SRw W0 b n E wr ∧ Sb D E 0 n ∧ Blk2 ltE TG E n bs (2 * bs * 0)) := by
            obtain ⟨E, k1, k2, k3⟩ := hI.out
            exact ⟨E, k1, k2, k3.two⟩
          replace hT := Lib.hid hT
          have hb2 := Lib.hid (show bs < T ∧ T ≤ 2000 by have := hT.out; omega)
          clear hI hn'
          replace hbs2 := Lib.hid hbs2
          go_wp2_with fail
          go_loopw [7, 8] (fun a d wr => ∃ A q : Nat, A ≤ n ∧ Hid (A = 2 * bs * q) ∧ a = .int .i64 (A : Int) ∧ d = .int .i64 ((A + T : Nat) : Int) ∧ Hid (∃ E, SRw W0 b n E wr ∧ Sb D E 0 n ∧ Blk2 ltE TG E n bs (2 * bs * q))) (fun a _ _ => n - (intOf a).toNat)
          case atStart => exact ⟨0, 0, by omega, rfl, rfl, by simp, hJ⟩
          case round =>
            clear hJ
            obtain ⟨A, q, hA, hAq, rfl, rfl, hI⟩ := hrel
            obtain ⟨E, hE, hS, hB⟩ := hI.out
            have hOkE := Lib.hid (hS.every hOk.out)
            replace hE := Lib.hid hE
            have hS := Lib.hid hS
            have hB := Lib.hid hB
            clear hI
            obtain ⟨B, hBq⟩ : ∃ B, B = A + T := ⟨_, rfl⟩
            rw [← hBq]
            obtain ⟨M, hM⟩ : ∃ M, M = A + bs := ⟨_, rfl⟩
            have hn' := hn.out
            have hb2' := hb2.out
            have hT' := hT.out
            have e3 : IntKind.i64.wrap ((B : Int) + (T : Int)) = ((B + T : Nat) : Int) := by rw [show ((B + T : Nat) : Int) = (B : Int) + (T : Int) by omega]; exact iw ⟨by omega, by omega⟩
            have e4 : IntKind.i64.wrap ((A : Int) + (bs : Int)) = (M : Int) := by rw [show (M : Int) = (A : Int) + (bs : Int) by omega]; exact iw ⟨by omega, by omega⟩
            by_cases hlt2 : B ≤ n
            · obtain ⟨n1, n2, n3⟩ := hB.out.need (m := M) (b := B) hbs (by rw [← hAq.out]; exact hM) (by omega) hlt2 (by rw [← hAq.out]; omega)
              rw [← hAq.out] at n1 n3
              have C1 := Lib.hid (CS.out A M B (by omega) (by omega) hlt2 E hOkE.out n1 n2 n3)
              have hAB := Lib.hid (show B = 2 * bs * q + 2 * bs by rw [← hAq.out]; omega)
              have hAB2 := Lib.hid (show A < B by omega)
              clear n1 n2 n3 hBq hM hn' hb2' hT'
              go_wp2_with fail
              refine (C1.out _ hE.out).mono ?_
              rintro e w2 ⟨rfl, E1, h1, h2, h3⟩
              have hN : Hid (∃ E, SRw W0 b n E w2 ∧ Sb D E 0 n ∧ Blk2 ltE TG E n bs (2 * bs * (q + 1))) := by
                refine ⟨E1, h1, hS.out.trans (h2.mono (by omega) hlt2), ?_⟩
                rw [hAq.out] at h2 h3
                exact hB.out.step hbs h2 h3 (.inl ⟨hAB.out, hlt2⟩)
              clear h1 h2 h3
              go_wp2_with fail
              go_roundw
              case rel => exact ⟨B, q + 1, hlt2, by show _ = _; rw [hAB.out, Nat.mul_add, Nat.mul_one], rfl, rfl, hN⟩
              case measure => have := hAB2.out; simp [intOf]; omega
            · by_cases hlt3 : M < n
              · obtain ⟨n1, n2, n3⟩ := hB.out.need (m := M) (b := n) hbs (by rw [← hAq.out]; exact hM) (by omega) (Nat.le_refl _) (by rw [← hAq.out]; omega)
                rw [← hAq.out] at n1 n3
                have C1 := Lib.hid (CS.out A M n (by omega) hlt3 (Nat.le_refl _) E hOkE.out n1 n2 n3)
                have hAB := Lib.hid (show n ≤ 2 * bs * q + 2 * bs by rw [← hAq.out]; omega)
                clear n1 n2 n3 hBq hM hn' hb2' hT'
                go_wp2_with fail
                refine (C1.out _ hE.out).mono ?_
                rintro e w2 ⟨rfl, E1, h1, h2, h3⟩
                have hN : Hid (∃ E, SRw W0 b n E w2 ∧ Sb D E 0 n ∧ Blk ltE TG E n T) := by
                  refine ⟨E1, h1, hS.out.trans (h2.mono (by omega) (Nat.le_refl _)), ?_⟩
                  rw [hAq.out] at h2 h3
                  rw [hT.out]
                  exact (hB.out.step hbs h2 h3 (.inr ⟨rfl, hAB.out⟩)).done (by rw [Nat.mul_add, Nat.mul_one]; exact hAB.out)
                clear h1 h2 h3
                go_wp2_with fail
                go_roundw
                case rel => exact ⟨T, by have := hb2.out; omega, hb2.out.2, rfl, hN⟩
                case measure => have := hb2.out; simp [intOf]; omega
              · have hN : Hid (∃ E, SRw W0 b n E wr ∧ Sb D E 0 n ∧ Blk ltE TG E n T) := by
                  refine ⟨E, hE.out, hS.out, ?_⟩
                  rw [hT.out]
                  exact hB.out.last hbs (by rw [← hAq.out]; omega)
                clear hBq hM hn' hb2' hT'
                go_wp2_with fail
                go_roundw
                case rel => exact ⟨T, by have := hb2.out; omega, hb2.out.2, rfl, hN⟩
                case measure => have := hb2.out; simp [intOf]; omega
        · obtain ⟨E, k1, k2, k3⟩ := hI.out
          replace k1 := Lib.hid k1
          replace k2 := Lib.hid k2
          replace k3 := Lib.hid k3
          clear hI
          have hlt' := Lib.hid (show n ≤ bs by omega)
          go_wp2_with fail
          go_end0
          exact ⟨rfl, E, k1.out, k2.out, k3.out.whole hlt'.out⟩
theorem sortStable_any (W0 : World) (b c n : Nat) (hn : n ≤ 1000) (D : Nat → E3) (hOk : ∀ k, OkE (D k)) (hT : ∀ i, i < n → (D i).2 = i) (w : World) (h : SRw W0 b n D w) :
    Calls Try.prog 53 #[.slice (some ⟨b, 0, none⟩) n c, ORD] w (Stab W0 b n D) := by
  have C := Lib.hid (stable_any W0 b c n hn D hOk hT w h)
  clear hOk hT h
  go_enter Try.func53, Try.ntmps53
  go_wp2_with fail
  refine C.out.mono ?_
  rintro e w1 ⟨rfl, h⟩
  have h := Lib.hid h
  go_wp2_with fail
  go_end0
  exact ⟨rfl, h.out⟩
end Go.Proofs.Ythdbchghhpoadaa
