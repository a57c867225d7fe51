/- Contracts of law05.alike, law05.alive. -/
import Derived.Test.YthoakbjnofhpbaaMr4
import Derived.Test.YthoakbjnofhpbaaMtA
set_option linter.unusedVariables false
set_option linter.unusedSimpArgs false
namespace Go.Proofs.Ythoakbjnofhpbaa
open Go.RowKit
/-- A row of wide numbers that holds these. -/
def WS (w : World) (u : Value) (zs : List Int) : Prop := ∃ g cap, u = .slice (some ⟨g, 0, none⟩) zs.length cap ∧ g < w.heap.size ∧ zs.length ≤ cap ∧
  ∀ i, i < zs.length → ∃ h l, w.cell? ⟨g, i * 2, none⟩ = some (.int .i64 h) ∧ w.cell? ⟨g, i * 2 + 1, none⟩ = some (.int .u64 l) ∧ W128 (zs.getD i 0) h l
theorem WS.below {w w1 : World} {u : Value} {zs : List Int} (h : WS w u zs) (hb : Below w.heap.size w w1) : WS w1 u zs := by
  obtain ⟨g, cap, e, h1, h2, h3⟩ := h
  refine ⟨g, cap, e, Nat.lt_of_lt_of_le h1 hb.size, h2, fun i hi => ?_⟩
  obtain ⟨a, b, c1, c2, c3⟩ := h3 i hi
  exact ⟨a, b, (hb.cell h1).trans c1, (hb.cell h1).trans c2, c3⟩
set_option maxRecDepth 100000 in
set_option maxHeartbeats 8000000 in
theorem alike_any (u v : Value) (zs : List Int) (base : Nat) (w : World) (hu : WS w u zs) (hv : BL w base v zs) (h0 : 0 < zs.length) (h1 : zs.length ≤ 100) (hz : ∀ i, Wd 200 (zs.getD i 0)) : Calls Try.prog 38 #[u, v] w fun e w' => e = .returned (.bool true) ∧ Below w.heap.size w w' := by
  obtain ⟨A, cp, rfl⟩ := hv.len
  obtain ⟨g0, cap0, A0, n0, c0, e0, -, hc0, -⟩ := hv.at_ h0
  simp only [Value.slice.injEq] at e0
  obtain ⟨rfl, -, rfl⟩ := e0
  obtain ⟨g, cap, rfl, hg, hcap, hcell⟩ := hu
  have HV := Lib.hid (fun k (hk : k < zs.length) => hv.two hk)
  have HU := Lib.hid (fun k (hk : k < zs.length) w9 (hb : Below w.heap.size w w9) => show ∃ h l, (w9.cell? ⟨g, k * 2, none⟩ = some (.int .i64 h) ∧ w9.cell? ⟨g, k * 2 + 1, none⟩ = some (.int .u64 l)) ∧ W128 (zs.getD k 0) h l from by
    obtain ⟨a, b, c1, c2, c3⟩ := hcell k hk
    exact ⟨a, b, ⟨(hb.cell hg).trans c1, (hb.cell hg).trans c2⟩, c3⟩)
  have CC := Lib.hid (fun (k : Nat) (u v : Value) w (hu : BR w u (zs.getD k 0)) (hv : BR w v (zs.getD k 0)) => cmp_any u v _ _ w hu hv ((hz k).mid (by omega)) ((hz k).mid (by omega)))
  have HC := Lib.hid hcell
  generalize zs.length = n at *
  clear hv hcell hz
  go_enter Try.func38, Try.ntmps38
  go_wp2_with fail
  have BB : Hid (Below w.heap.size w w) := Below.refl _ _
  go_loopw [5] (fun i wr => ∃ k : Nat, k ≤ n ∧ i = .int .i64 k ∧ Hid (Below w.heap.size w wr)) (fun i _ => n - (intOf i).toNat)
  case atStart => exact ⟨0, by omega, rfl, BB.out⟩
  case round =>
    clear BB
    obtain ⟨k, hk, rfl, BB⟩ := hrel
    by_cases hlt : k < n
    · have k0 : (0 : Int) ≤ (k : Int) := by omega
      have k1 : (k : Int) < (n : Int) := by omega
      obtain ⟨a, b, cw1, cw2, hw⟩ := HC.out k hlt
      obtain ⟨g2, cap', A_t, n_t, cap_t, e, hg1, hg2, CT, hb0⟩ := HV.out k hlt
      simp only [Value.slice.injEq, Option.some.injEq, Addr.mk.injEq] at e
      obtain ⟨⟨rfl, -⟩, -, rfl⟩ := e
      have h_t := Lib.hid (hb0.below BB.out)
      have CU := Lib.hid (fun w9 (h9 : Below wr.heap.size wr w9) => And.intro (((below_next BB.out h9).cell hg).trans cw1) (((below_next BB.out h9).cell hg).trans cw2))
      have CT := Lib.hid (fun w9 (h9 : Below wr.heap.size wr w9) => CT w9 (below_next BB.out h9))
      have CB := Lib.hid (fun w => lbig_any _ a b hw w)
      have D := CC.out k
      generalize zs.getD k 0 = z at *
      rw [cmpI_eq] at D
      replace D := Lib.hid D
      clear HV HU HC CC hb0 hw
      go_wp2_with fail
      have KK := Lib.hid (fun (w9 : World) (h : Below wr.heap.size wr w9) => (⟨CT.out _ h, CU.out _ h⟩ : (w9.cell? ⟨g0, k * 2, none⟩ = some (.bool (sgn z)) ∧ w9.cell? ⟨g0, k * 2 + 1, none⟩ = some (.slice A_t n_t cap_t)) ∧ (w9.cell? ⟨g, k * 2, none⟩ = some (.int .i64 a) ∧ w9.cell? ⟨g, k * 2 + 1, none⟩ = some (.int .u64 b))))
      have K0 := KK.out wr (Below.refl _ _)
      have KD := KK.out wr.drew (below_drew (Below.refl _ _))
      go_region_held3 (fun w9 => (w9.cell? ⟨g0, k * 2, none⟩ = some (.bool (sgn z)) ∧ w9.cell? ⟨g0, k * 2 + 1, none⟩ = some (.slice A_t n_t cap_t)) ∧ (w9.cell? ⟨g, k * 2, none⟩ = some (.int .i64 a) ∧ w9.cell? ⟨g, k * 2 + 1, none⟩ = some (.int .u64 b)))
          (first | with_reducible exact KD | with_reducible exact K0 | with_reducible exact K_w1 | with_reducible exact K_w2)
          (first
            | (go_at_call 44
               refine (CB.out _).mono ?_
               rintro e w1 ⟨v_s, rfl, hb, h_s⟩
               obtain ⟨A_s, n_s, cap_s, rfl, -⟩ := id h_s.form
               replace h_s := Lib.hid h_s
               have B_w1 := Lib.hid (reg_next (w0 := wr) (by repeat (first | with_reducible exact Below.refl _ _ | with_reducible apply below_drew | with_reducible apply below_new)) hb)
               have K_w1 := KK.out _ B_w1.out
               clear hb)
            | (go_at_call 48
               refine (D.out _ _ _ h_s.out (h_t.out.below B_w1.out)).mono ?_
               rintro e w2 ⟨rfl, hb⟩
               replace h_s := Lib.hid (h_s.out.below hb)
               have B_w2 := Lib.hid (below_next B_w1.out hb)
               have K_w2 := KK.out _ B_w2.out
               clear hb))
      clear KK K0 KD K_w1 K_w2
      replace h_t := Lib.hid (h_t.out.below B_w2.out)
      replace BB := Lib.hid (below_next BB.out B_w2.out)
      clear B_w1 B_w2
      go_wp2_with fail
      go_roundw
      case rel => exact ⟨k + 1, by omega, by go_num, BB⟩
      case measure => simp [intOf]; omega
    · obtain rfl : k = n := by omega
      clear HV HU HC CC
      go_wp2_with fail
      go_ret
      exact ⟨rfl, BB.out⟩
end Go.Proofs.Ythoakbjnofhpbaa
