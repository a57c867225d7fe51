/- Contracts of the lens' making: ranges, axis, far. -/
import Derived.Test.YthdbchghhpoadaaLens1
import Derived.Test.YthdbchghhpoadaaJC
set_option linter.unusedVariables false
namespace Go.Proofs.Ythdbchghhpoadaa
open Go.RowKit

def lR (zs : List Int) : Int :=
  match zs with
  | [c0, c1, c2, c3, c4, c5, c6] => if inI c0 2147483648 = true ∧ inI c1 2147483648 = true ∧ 1 ≤ c2 ∧ c2 ≤ 32768 ∧ [c3, c4, c5, c6].any (fun x => !inI x 65536) = false then 0 else 11
  | _ => 12
theorem lR_len {zs : List Int} (h : zs.length ≠ 7) : lR zs = 12 := by
  unfold lR; split
  · simp at h
  · rfl
theorem list7 {zs : List Int} (h : zs.length = 7) : ∃ c0 c1 c2 c3 c4 c5 c6, zs = [c0, c1, c2, c3, c4, c5, c6] := by
  match zs, h with
  | [c0, c1, c2, c3, c4, c5, c6], _ => exact ⟨c0, c1, c2, c3, c4, c5, c6, rfl⟩

theorem is_drop3 {w : World} {b off cap : Nat} {c0 c1 c2 c3 c4 c5 c6 : Int} (h : IS w (.slice (some ⟨b, off, none⟩) 7 cap) [c0, c1, c2, c3, c4, c5, c6]) : IS w (.slice (some ⟨b, off + 3, none⟩) 4 (cap - 3)) [c3, c4, c5, c6] := by
  obtain ⟨b', off', cap', e, h1, h2, hlt, hc⟩ := h.some (by simp)
  obtain ⟨_, _, _, _, _, h3, _⟩ := h
  simp at e
  obtain ⟨⟨rfl, rfl⟩, rfl⟩ := e
  simp at h1 h3
  refine ⟨_, _, rfl, by simp; omega, by omega, by simp; exact h3.2.2.2, fun _ => ⟨b, off + 3, rfl, hlt, fun i hi => ?_⟩⟩
  simp at hi
  have := hc (i + 3) (by simp; omega)
  rw [show off + 3 + i = off + (i + 3) by omega, this]
  simp

set_option maxRecDepth 100000 in
set_option maxHeartbeats 2000000 in
theorem lranges (v : Value) (zs : List Int) (w : World) (hv : IS w v zs) : Calls Try.prog 38 #[v] w fun e w' => e = .returned (.int .i64 (lR zs)) ∧ w = w' := by
  have hl := hv.len
  by_cases h7 : zs.length = 7
  · obtain ⟨c0, c1, c2, c3, c4, c5, c6, rfl⟩ := list7 h7
    obtain ⟨b, off, cap, rfl, h1, h2, hlt, hc⟩ := hv.some (by simp)
    have CI := Lib.hid (fun x w => lin x 2147483648 (by omega) (by omega) w)
    have CC := Lib.hid (lcontains _ (fun x => !inI x 65536) _ w (is_drop3 hv) (fun z _ => lbad z w))
    have k0 := hc 0 (by simp); have k1 := hc 1 (by simp); have k2 := hc 2 (by simp)
    simp only [List.getD_cons_zero, List.getD_cons_succ, Nat.add_zero] at k0 k1 k2
    have hcap : 7 ≤ cap := by simpa using h1
    clear hv hc h7 hl h1
    rcases hb0 : inI c0 2147483648 with _ | _
    · have H := Lib.hid (show lR [c0, c1, c2, c3, c4, c5, c6] = 11 from if_neg (by rw [hb0]; simp))
      clear CC
      go_enter Try.func38, Try.ntmps38
      go_wp2_with fail
      have BB : Hid (Below w.heap.size w w) := Below.refl _ _
      refine (CI.out _ _).mono ?_
      rintro e w9 ⟨rfl, rfl⟩
      rw [hb0]
      go_wp2_with fail
      go_ret
      exact ⟨ret_int H.out.symm, rfl⟩
    rcases hb1 : inI c1 2147483648 with _ | _
    · have H := Lib.hid (show lR [c0, c1, c2, c3, c4, c5, c6] = 11 from if_neg (by rw [hb1]; simp))
      clear CC
      go_enter Try.func38, Try.ntmps38
      go_wp2_with fail
      have BB : Hid (Below w.heap.size w w) := Below.refl _ _
      refine (CI.out _ _).mono ?_
      rintro e w9 ⟨rfl, rfl⟩
      rw [hb0]
      go_wp2_with fail
      refine (CI.out _ _).mono ?_
      rintro e w9 ⟨rfl, rfl⟩
      rw [hb1]
      go_wp2_with fail
      go_ret
      exact ⟨ret_int H.out.symm, rfl⟩
    rcases dec_both (c2 < 1) with ⟨h, hd⟩ | ⟨h, hd⟩
    · have H := Lib.hid (show lR [c0, c1, c2, c3, c4, c5, c6] = 11 from if_neg (by omega))
      clear CC h
      go_enter Try.func38, Try.ntmps38
      go_wp2_with fail
      have BB : Hid (Below w.heap.size w w) := Below.refl _ _
      refine (CI.out _ _).mono ?_
      rintro e w9 ⟨rfl, rfl⟩
      rw [hb0]
      go_wp2_with fail
      refine (CI.out _ _).mono ?_
      rintro e w9 ⟨rfl, rfl⟩
      rw [hb1]
      go_wp2_with fail
      go_ret
      exact ⟨ret_int H.out.symm, rfl⟩
    rcases dec_both (c2 > 32768) with ⟨h', hd'⟩ | ⟨h', hd'⟩
    · have H := Lib.hid (show lR [c0, c1, c2, c3, c4, c5, c6] = 11 from if_neg (by omega))
      clear CC h h'
      go_enter Try.func38, Try.ntmps38
      go_wp2_with fail
      have BB : Hid (Below w.heap.size w w) := Below.refl _ _
      refine (CI.out _ _).mono ?_
      rintro e w9 ⟨rfl, rfl⟩
      rw [hb0]
      go_wp2_with fail
      refine (CI.out _ _).mono ?_
      rintro e w9 ⟨rfl, rfl⟩
      rw [hb1]
      go_wp2_with fail
      go_ret
      exact ⟨ret_int H.out.symm, rfl⟩
    rcases hany : [c3, c4, c5, c6].any (fun x => !inI x 65536) with _ | _
    · have H := Lib.hid (show lR [c0, c1, c2, c3, c4, c5, c6] = 0 from if_pos ⟨hb0, hb1, by omega, by omega, hany⟩)
      rw [hany] at CC
      clear h h' hany
      go_enter Try.func38, Try.ntmps38
      go_wp2_with fail
      have BB : Hid (Below w.heap.size w w) := Below.refl _ _
      refine (CI.out _ _).mono ?_
      rintro e w9 ⟨rfl, rfl⟩
      rw [hb0]
      go_wp2_with fail
      refine (CI.out _ _).mono ?_
      rintro e w9 ⟨rfl, rfl⟩
      rw [hb1]
      go_wp2_with fail
      refine (CC.out).mono ?_
      rintro e w9 ⟨rfl, rfl⟩
      go_wp2_with fail
      go_ret
      exact ⟨ret_int H.out.symm, rfl⟩
    · have H := Lib.hid (show lR [c0, c1, c2, c3, c4, c5, c6] = 11 from if_neg (by rw [hany]; simp))
      rw [hany] at CC
      clear h h' hany
      go_enter Try.func38, Try.ntmps38
      go_wp2_with fail
      have BB : Hid (Below w.heap.size w w) := Below.refl _ _
      refine (CI.out _ _).mono ?_
      rintro e w9 ⟨rfl, rfl⟩
      rw [hb0]
      go_wp2_with fail
      refine (CI.out _ _).mono ?_
      rintro e w9 ⟨rfl, rfl⟩
      rw [hb1]
      go_wp2_with fail
      refine (CC.out).mono ?_
      rintro e w9 ⟨rfl, rfl⟩
      go_wp2_with fail
      go_ret
      exact ⟨ret_int H.out.symm, rfl⟩
  · have HL := Lib.hid (lR_len h7)
    obtain ⟨A, cap, rfl⟩ := hv.form
    have hn : (zs.length : Int) ≠ 7 := by omega
    clear hv h7
    generalize zs.length = n at *
    go_enter Try.func38, Try.ntmps38
    go_wp2
    go_ret
    exact ⟨ret_int HL.out.symm, rfl⟩

end Go.Proofs.Ythdbchghhpoadaa
