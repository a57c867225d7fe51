/- law21.alive; what a mesh tells is what the document tells. -/
import Derived.Test.YthoakbjnofhpbaaMeQ
import Derived.Test.YthoakbjnofhpbaaMeS
import Derived.Test.YthoakbjnofhpbaaMeT
set_option linter.unusedVariables false
set_option linter.unusedSimpArgs false
namespace Go.Proofs.Ythoakbjnofhpbaa
open Go.RowKit
theorem ks_in {rest : List Int} {N : Nat} (h : ∀ z ∈ rest, -2147483648 ≤ z ∧ z ≤ 2147483648) : ∀ p ∈ ksOf rest N, I64 p.1 ∧ I64 p.2 := by
  have hd : ∀ i, I64 (rest.getD i 0) := fun i => by
    by_cases hk : i < rest.length
    · have e : rest.getD i 0 = rest[i] := by simp [List.getD, hk]
      rw [e]; have := h _ (List.getElem_mem hk); exact ⟨by omega, by omega⟩
    · rw [List.getD_eq_getElem?_getD, List.getElem?_eq_none (by omega)]; exact ⟨by decide, by decide⟩
  intro p hp
  unfold ksOf at hp
  rw [List.mem_map] at hp
  obtain ⟨x, -, rfl⟩ := hp
  exact ⟨hd _, hd _⟩
/-- A knot's numbers among those of the mesh. -/
theorem knP_at {rest : List Int} {N : Nat} (hN : rest.length = 2 * N) (nx i k : Int) : (knP (ksOf rest N) nx i k).1 = rest.getD (2 * (k * (nx + 1) + i).toNat + 0) 0 ∧ (knP (ksOf rest N) nx i k).2 = rest.getD (2 * (k * (nx + 1) + i).toNat + 1) 0 := by
  unfold knP
  generalize (k * (nx + 1) + i).toNat = j
  by_cases h : j < N
  · have hl : j < (ksOf rest N).length := by unfold ksOf; simp; exact h
    rw [show (ksOf rest N).getD j (0, 0) = (ksOf rest N)[j] by simp [List.getD, hl]]
    unfold ksOf
    simp
  · have hl : ¬ j < (ksOf rest N).length := by unfold ksOf; simp; omega
    rw [List.getD_eq_getElem?_getD, List.getElem?_eq_none (by omega), List.getD_eq_getElem?_getD, List.getElem?_eq_none (by omega), List.getD_eq_getElem?_getD, List.getElem?_eq_none (by omega)]
    exact ⟨rfl, rfl⟩
theorem al_mesh {gx gy nx ny : Int} {rest : List Int} {N : Nat} (h1 : plL 4 4 2 2 = gx :: gy :: nx :: ny :: rest) (h3 : rest.length = 2 * N) :
    mePl gx gy nx ny 3 5 1 (fun i k => (knP (ksOf rest N) nx i k).1) = 196608 ∧ mePl gx gy nx ny 3 5 1 (fun i k => (knP (ksOf rest N) nx i k).2) = 327680 := by
  have e : plL 4 4 2 2 = [4, 4, 2, 2, 0, 0, 262144, 0, 524288, 0, 0, 262144, 262144, 262144, 524288, 262144, 0, 524288, 262144, 524288, 524288, 524288] := by decide +kernel
  rw [e] at h1
  simp only [List.cons.injEq] at h1
  obtain ⟨rfl, rfl, rfl, rfl, rfl⟩ := h1
  obtain rfl : N = 9 := by simp at h3; omega
  constructor <;> decide +kernel
theorem alive21 (w : World) : Calls Try.prog 19 #[] w fun e w' => e = .returned (.bool true) ∧ Below w.heap.size w w' := by
  have CP := Lib.hid (fun w => mplain_ok 4 4 2 2 (by decide) w)
  have CN := Lib.hid (fun v w hv => mnew_any v (plL 4 4 2 2) 8 8 w hv)
  unfold GiveNew at CN
  rw [show meC (plL 4 4 2 2) 8 8 = 0 by decide +kernel] at CN
  have HA := Lib.hid (fun gx gy nx ny rest N h1 h3 => al_mesh (gx := gx) (gy := gy) (nx := nx) (ny := ny) (rest := rest) (N := N) h1 h3)
  have CM := Lib.hid (fun g gx gy nx ny ks hG hk w hm => meat_ok g gx gy nx ny 3 5 1 ks ⟨by decide, by decide⟩ ⟨by decide, by decide⟩ (by decide) hG hk w hm)
  generalize plL 4 4 2 2 = L at *
  go_enter Try.func19, Try.ntmps19
  go_wp2_with fail
  have BB : Hid (Below w.heap.size w w) := Below.refl _ _
  refine (CP.out _).mono ?_
  rintro e w1 ⟨v, rfl, hb, hv⟩
  replace BB := Lib.hid (below_next BB.out hb)
  clear hb
  have hv := Lib.hid hv
  go_wp2_with fail
  refine (CN.out _ _ hv.out).mono ?_
  rintro e w2 ⟨m, rfl, hb, -, hm⟩
  replace hv := Lib.hid (IS.below hv.out hb)
  replace BB := Lib.hid (below_next BB.out hb)
  clear hb
  obtain ⟨gx, gy, nx, ny, rest, N, g, e1, hG, hN, rfl, hX, hr⟩ := hm trivial
  obtain ⟨p1, p2⟩ := HA.out _ _ _ _ _ _ e1 hN
  have CQ := Lib.hid (fun w hm => CM.out g gx gy nx ny (ksOf rest N) hG (ks_in hr) w hm)
  rw [p1, p2] at CQ
  have hX := Lib.hid hX
  clear CM HA CN CP hm p1 p2 hG hr hN e1
  go_wp2_with fail
  refine (CQ.out _ hX.out).mono ?_
  rintro e w3 ⟨rfl, hb⟩
  replace hv := Lib.hid (IS.below hv.out hb)
  replace hX := Lib.hid (MX.below hX.out hb)
  replace BB := Lib.hid (below_next BB.out hb)
  clear hb
  go_wp2_with fail
  go_ret
  exact ⟨rfl, BB.out⟩
end Go.Proofs.Ythoakbjnofhpbaa
