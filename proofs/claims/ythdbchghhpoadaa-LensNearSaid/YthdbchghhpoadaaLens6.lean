/- Contracts of the lens' New, Check, Bound, Plain. -/
import Derived.Test.YthdbchghhpoadaaLens5
set_option linter.unusedVariables false
namespace Go.Proofs.Ythdbchghhpoadaa
open Go.RowKit

def sizeI (w h : Int) : Bool := decide (1 ≤ w) && decide (w ≤ 32768) && decide (1 ≤ h) && decide (h ≤ 32768)
theorem sizeI_iff {w h : Int} : sizeI w h = true ↔ 1 ≤ w ∧ w ≤ 32768 ∧ 1 ≤ h ∧ h ≤ 32768 := by unfold sizeI; simp [and_assoc]
/-- The code of a lens. -/
def lC (zs : List Int) (w h : Int) : Int :=
  if lR zs ≠ 0 then lR zs else if sizeI w h = false then 30 else
    match zs with
    | [c0, c1, c2, _, _, _, _] => if farI c0 c1 c2 (-1) (-1) 2 = true ∨ farI c0 c1 c2 (2 * w - 1) (2 * h - 1) 2 = true then 11 else 0
    | _ => 0
theorem lR_zero {zs : List Int} (h : lR zs = 0) : ∃ c0 c1 c2 c3 c4 c5 c6, zs = [c0, c1, c2, c3, c4, c5, c6] ∧ LM c0 c1 c2 c3 c4 c5 c6 := by
  unfold lR at h
  split at h
  · rename_i c0 c1 c2 c3 c4 c5 c6
    split at h
    · rename_i h'
      obtain ⟨h0, h1, h2, h3, h4⟩ := h'
      simp only [List.any_cons, List.any_nil, Bool.or_false, Bool.or_eq_false_iff, Bool.not_eq_false'] at h4
      obtain ⟨k1, k2, k3, k4⟩ := h4
      exact ⟨_, _, _, _, _, _, _, rfl, ⟨inI_iff.1 h0, inI_iff.1 h1, ⟨h2, h3⟩, inI_iff.1 k1, inI_iff.1 k2, inI_iff.1 k3, inI_iff.1 k4⟩⟩
    · omega
  · omega
abbrev S7 (b off : Nat) (c0 c1 c2 c3 c4 c5 c6 : Int) (w9 : World) : Prop := w9.cell? ⟨b, off, none⟩ = some (.int .i64 c0) ∧ w9.cell? ⟨b, off + 1, none⟩ = some (.int .i64 c1) ∧ w9.cell? ⟨b, off + 2, none⟩ = some (.int .i64 c2) ∧ w9.cell? ⟨b, off + 3, none⟩ = some (.int .i64 c3) ∧ w9.cell? ⟨b, off + 4, none⟩ = some (.int .i64 c4) ∧ w9.cell? ⟨b, off + 5, none⟩ = some (.int .i64 c5) ∧ w9.cell? ⟨b, off + 6, none⟩ = some (.int .i64 c6)
/-- What is told of a lens: where its numbers lie, or why there is none. -/
def GiveNew (zs : List Int) (W H : Int) (w : World) (e : Ending) (w' : World) : Prop := ∃ p, e = .returned (.tuple #[p, .int .i64 (lC zs W H)]) ∧ Below w.heap.size w w' ∧
  (lC zs W H ≠ 0 → p = .pointer none) ∧ (lC zs W H = 0 → ∃ g c0 c1 c2 c3 c4 c5 c6, p = .pointer (some ⟨g, 0, none⟩) ∧ zs = [c0, c1, c2, c3, c4, c5, c6] ∧ LM c0 c1 c2 c3 c4 c5 c6 ∧ AtB w' g (lensCells c0 c1 c2 c3 c4 c5 c6) LT)

set_option maxRecDepth 100000 in
set_option maxHeartbeats 4000000 in
theorem lnew (v : Value) (zs : List Int) (W H : Int) (hW : I64 W) (hH : I64 H) (w : World) (hv : IS w v zs) : Calls Try.prog 18 #[v, .int .i64 W, .int .i64 H] w (GiveNew zs W H w) := by
  have CR := Lib.hid (lranges v zs w hv)
  by_cases h0 : lR zs = 0
  · obtain ⟨c0, c1, c2, c3, c4, c5, c6, rfl, hM⟩ := lR_zero h0
    rw [h0] at CR
    obtain ⟨b, off, cap, rfl, h1, h2, hlt, hc⟩ := hv.some (by simp)
    have k0 := hc 0 (by simp); have k1 := hc 1 (by simp); have k2 := hc 2 (by simp); have k3 := hc 3 (by simp); have k4 := hc 4 (by simp); have k5 := hc 5 (by simp); have k6 := hc 6 (by simp)
    simp only [List.getD_cons_zero, List.getD_cons_succ, Nat.add_zero] at k0 k1 k2 k3 k4 k5 k6
    have hcap : 7 ≤ cap := by simpa using h1
    have hC : lC [c0, c1, c2, c3, c4, c5, c6] W H = if sizeI W H = false then 30 else if farI c0 c1 c2 (-1) (-1) 2 = true ∨ farI c0 c1 c2 (2 * W - 1) (2 * H - 1) 2 = true then 11 else 0 := by
      unfold lC; rw [if_neg (by simpa using h0)]
    have KK := Lib.hid (fun (w9 : World) (hb : Below w.heap.size w w9) => (⟨(hb.cell (p := ⟨b, off, none⟩) hlt).trans k0, (hb.cell (p := ⟨b, off + 1, none⟩) hlt).trans k1, (hb.cell (p := ⟨b, off + 2, none⟩) hlt).trans k2, (hb.cell (p := ⟨b, off + 3, none⟩) hlt).trans k3, (hb.cell (p := ⟨b, off + 4, none⟩) hlt).trans k4, (hb.cell (p := ⟨b, off + 5, none⟩) hlt).trans k5, (hb.cell (p := ⟨b, off + 6, none⟩) hlt).trans k6⟩ : S7 b off c0 c1 c2 c3 c4 c5 c6 w9))
    clear hv hc h1 h0
    rcases dec_both (W < 1) with ⟨g1, d1⟩ | ⟨g1, d1⟩
    · skip
      have HC := Lib.hid (show lC [c0, c1, c2, c3, c4, c5, c6] W H = 30 by rw [hC, if_pos (by cases hx : sizeI W H; rfl; exact absurd (sizeI_iff.1 hx) (by omega))])
      clear hC k0 k1 k2 k3 k4 k5 k6 KK
      go_enter Try.func18, Try.ntmps18
      go_wp2_with fail
      have BB : Hid (Below w.heap.size w w) := Below.refl _ _
      refine (CR.out).mono ?_
      rintro e w9 ⟨rfl, rfl⟩
      go_wp2_with fail
      refine bodyPost_ret (v := .tuple #[.pointer none, .int .i64 30]) (by unfold results; simp only [Try.results18]; go_simp) rfl ?_
      exact ⟨_, by rw [HC.out], Below.refl _ _, fun _ => rfl, fun h => absurd (HC.out.symm.trans h) (by omega)⟩
    rcases dec_both (W > 32768) with ⟨g2, d2⟩ | ⟨g2, d2⟩
    · skip
      have HC := Lib.hid (show lC [c0, c1, c2, c3, c4, c5, c6] W H = 30 by rw [hC, if_pos (by cases hx : sizeI W H; rfl; exact absurd (sizeI_iff.1 hx) (by omega))])
      clear hC k0 k1 k2 k3 k4 k5 k6 KK
      go_enter Try.func18, Try.ntmps18
      go_wp2_with fail
      have BB : Hid (Below w.heap.size w w) := Below.refl _ _
      refine (CR.out).mono ?_
      rintro e w9 ⟨rfl, rfl⟩
      go_wp2_with fail
      refine bodyPost_ret (v := .tuple #[.pointer none, .int .i64 30]) (by unfold results; simp only [Try.results18]; go_simp) rfl ?_
      exact ⟨_, by rw [HC.out], Below.refl _ _, fun _ => rfl, fun h => absurd (HC.out.symm.trans h) (by omega)⟩
    rcases dec_both (H < 1) with ⟨g3, d3⟩ | ⟨g3, d3⟩
    · skip
      have HC := Lib.hid (show lC [c0, c1, c2, c3, c4, c5, c6] W H = 30 by rw [hC, if_pos (by cases hx : sizeI W H; rfl; exact absurd (sizeI_iff.1 hx) (by omega))])
      clear hC k0 k1 k2 k3 k4 k5 k6 KK
      go_enter Try.func18, Try.ntmps18
      go_wp2_with fail
      have BB : Hid (Below w.heap.size w w) := Below.refl _ _
      refine (CR.out).mono ?_
      rintro e w9 ⟨rfl, rfl⟩
      go_wp2_with fail
      refine bodyPost_ret (v := .tuple #[.pointer none, .int .i64 30]) (by unfold results; simp only [Try.results18]; go_simp) rfl ?_
      exact ⟨_, by rw [HC.out], Below.refl _ _, fun _ => rfl, fun h => absurd (HC.out.symm.trans h) (by omega)⟩
    rcases dec_both (H > 32768) with ⟨g4, d4⟩ | ⟨g4, d4⟩
    · skip
      have HC := Lib.hid (show lC [c0, c1, c2, c3, c4, c5, c6] W H = 30 by rw [hC, if_pos (by cases hx : sizeI W H; rfl; exact absurd (sizeI_iff.1 hx) (by omega))])
      clear hC k0 k1 k2 k3 k4 k5 k6 KK
      go_enter Try.func18, Try.ntmps18
      go_wp2_with fail
      have BB : Hid (Below w.heap.size w w) := Below.refl _ _
      refine (CR.out).mono ?_
      rintro e w9 ⟨rfl, rfl⟩
      go_wp2_with fail
      refine bodyPost_ret (v := .tuple #[.pointer none, .int .i64 30]) (by unfold results; simp only [Try.results18]; go_simp) rfl ?_
      exact ⟨_, by rw [HC.out], Below.refl _ _, fun _ => rfl, fun h => absurd (HC.out.symm.trans h) (by omega)⟩
    have hS : sizeI W H = true := sizeI_iff.2 (by omega)
    rw [if_neg (by rw [hS]; simp)] at hC
    have C1 := Lib.hid (fun g w hm => lfar g c0 c1 c2 c3 c4 c5 c6 (-1) (-1) 2 ⟨by omega, by omega, by omega, by omega, hM.x.1, hM.x.2, hM.f.1, hM.f.2⟩ ⟨by omega, by omega, by omega, by omega, hM.y.1, hM.y.2, hM.f.1, hM.f.2⟩ w hm)
    have C2 := Lib.hid (fun g w hm => lfar g c0 c1 c2 c3 c4 c5 c6 (2 * W - 1) (2 * H - 1) 2 ⟨by omega, by omega, by omega, by omega, hM.x.1, hM.x.2, hM.f.1, hM.f.2⟩ ⟨by omega, by omega, by omega, by omega, hM.y.1, hM.y.2, hM.f.1, hM.f.2⟩ w hm)
    have e1 : wrap64 (2 * W) = 2 * W := ww (by omega)
    have e2 : wrap64 (2 * H) = 2 * H := ww (by omega)
    have e3 : wrap64 (2 * W - 1) = 2 * W - 1 := ww (by omega)
    have e4 : wrap64 (2 * H - 1) = 2 * H - 1 := ww (by omega)
    replace hC := Lib.hid hC
    have hM := Lib.hid hM
    clear g1 g2 g3 g4 hS hW hH
    generalize hq1 : farI c0 c1 c2 (-1) (-1) 2 = q1 at *
    generalize hq2 : farI c0 c1 c2 (2 * W - 1) (2 * H - 1) 2 = q2 at *
    clear hq1 hq2
    go_enter Try.func18, Try.ntmps18
    go_wp2_with fail
    have BB : Hid (Below w.heap.size w w) := Below.refl _ _
    refine (CR.out).mono ?_
    rintro e w9 ⟨rfl, rfl⟩
    go_wp2_with fail
    have K0 := KK.out w (Below.refl _ _)
    have KD := KK.out w.drew (below_drew (Below.refl _ _))
    clear k0 k1 k2 k3 k4 k5 k6
    go_region_held3 (fun w9 => w9.cell? ⟨b, off, none⟩ = some (.int .i64 c0) ∧ w9.cell? ⟨b, off + 1, none⟩ = some (.int .i64 c1) ∧ w9.cell? ⟨b, off + 2, none⟩ = some (.int .i64 c2) ∧ w9.cell? ⟨b, off + 3, none⟩ = some (.int .i64 c3) ∧ w9.cell? ⟨b, off + 4, none⟩ = some (.int .i64 c4) ∧ w9.cell? ⟨b, off + 5, none⟩ = some (.int .i64 c5) ∧ w9.cell? ⟨b, off + 6, none⟩ = some (.int .i64 c6))
      (first | with_reducible exact KD | with_reducible exact K0 | (refine KK.out _ ?_; repeat' (first | with_reducible exact Below.refl _ _ | with_reducible apply below_new | with_reducible apply below_drew)))
      (fail)
    all_goals clear KK K0 KD
    have r_m := Lib.hid (show AtB (w.alloc (.cells #[.int .i64 c0, .int .i64 c1, .int .i64 c2, .int .i64 c3, .int .i64 c4, .int .i64 c5, .int .i64 c6] LT)).drew w.heap.size #[.int .i64 c0, .int .i64 c1, .int .i64 c2, .int .i64 c3, .int .i64 c4, .int .i64 c5, .int .i64 c6] LT from AtB.drew (new_at _ _ _))
    replace BB := Lib.hid (below_drew (below_new BB.out (.cells #[.int .i64 c0, .int .i64 c1, .int .i64 c2, .int .i64 c3, .int .i64 c4, .int .i64 c5, .int .i64 c6] LT)))
    generalize (w.alloc (.cells #[.int .i64 c0, .int .i64 c1, .int .i64 c2, .int .i64 c3, .int .i64 c4, .int .i64 c5, .int .i64 c6] LT)).drew = w1 at *
    replace C1 := Lib.hid (C1.out _ w1 r_m.out)
    replace C2 := Lib.hid (C2.out _ w1 r_m.out)
    cases q1
    · cases q2
      · rw [if_neg (by simp)] at hC
        go_wp2_with fail
        refine (C1.out).mono ?_
        rintro e w9 ⟨rfl, rfl⟩
        go_wp2_with fail
        refine (C2.out).mono ?_
        rintro e w9 ⟨rfl, rfl⟩
        go_wp2_with fail
        refine bodyPost_ret (v := .tuple #[.pointer (some ⟨w.heap.size, 0, none⟩), .int .i64 0]) (by unfold results; simp only [Try.results18]; go_simp) rfl ?_
        exact ⟨_, by rw [hC.out], BB.out, fun h => absurd hC.out h, fun _ => ⟨_, _, _, _, _, _, _, _, rfl, rfl, hM.out, r_m.out⟩⟩
      · rw [if_pos (by simp)] at hC
        go_wp2_with fail
        refine (C1.out).mono ?_
        rintro e w9 ⟨rfl, rfl⟩
        go_wp2_with fail
        refine (C2.out).mono ?_
        rintro e w9 ⟨rfl, rfl⟩
        go_wp2_with fail
        refine bodyPost_ret (v := .tuple #[.pointer none, .int .i64 11]) (by unfold results; simp only [Try.results18]; go_simp) rfl ?_
        exact ⟨_, by rw [hC.out], BB.out, fun _ => rfl, fun h => absurd (hC.out.symm.trans h) (by omega)⟩
    · rw [if_pos (by simp)] at hC
      go_wp2_with fail
      refine (C1.out).mono ?_
      rintro e w9 ⟨rfl, rfl⟩
      go_wp2_with fail
      refine bodyPost_ret (v := .tuple #[.pointer none, .int .i64 11]) (by unfold results; simp only [Try.results18]; go_simp) rfl ?_
      exact ⟨_, by rw [hC.out], BB.out, fun _ => rfl, fun h => absurd (hC.out.symm.trans h) (by omega)⟩
  · have HC : Hid (lC zs W H = lR zs) := by show _ = _; unfold lC; rw [if_pos h0]
    have hne := h0
    have h0 : (lR zs != 0) = true := by simpa using h0
    obtain ⟨A, cap, rfl⟩ := hv.form
    clear hv
    generalize lR zs = k at *
    go_enter Try.func18, Try.ntmps18
    go_wp2_with fail
    have BB : Hid (Below w.heap.size w w) := Below.refl _ _
    refine (CR.out).mono ?_
    rintro e w9 ⟨rfl, rfl⟩
    go_wp2_with fail
    refine bodyPost_ret (v := .tuple #[.pointer none, .int .i64 k]) (by unfold results; simp only [Try.results18]; go_simp) rfl ?_
    exact ⟨_, by rw [HC.out], Below.refl _ _, fun _ => rfl, fun h => absurd (HC.out.symm.trans h) hne⟩

theorem lbound_nil (w : World) : Calls Try.prog 24 #[.pointer none] w fun e w' => e = .returned (.int .i64 0) ∧ w = w' := by
  go_enter Try.func24, Try.ntmps24
  go_wp2
  go_ret
  exact ⟨rfl, rfl⟩
theorem lbound (g : Nat) (cx cy f k1 k2 p1 p2 : Int) (h1 : 1 ≤ f) (h2 : f ≤ 32768) (w : World) (hm : AtB w g (lensCells cx cy f k1 k2 p1 p2) LT) : Calls Try.prog 24 #[.pointer (some ⟨g, 0, none⟩)] w fun e w' => e = .returned (.int .i64 (12000 * f)) ∧ w = w' := by
  obtain ⟨c0, c1, c2, c3, c4, c5, c6, z0, z1, z2, z3, z4, z5, z6⟩ := reads7 hm
  have hg := hm.lt
  have e1 : wrap64 (12000 * f) = 12000 * f := ww (by omega)
  go_enter Try.func24, Try.ntmps24
  go_wp2
  go_ret
  exact ⟨rfl, rfl⟩

end Go.Proofs.Ythdbchghhpoadaa
