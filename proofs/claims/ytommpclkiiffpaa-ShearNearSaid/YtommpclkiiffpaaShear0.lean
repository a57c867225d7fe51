/- Contracts of the slants: in, Check, New. -/
import Derived.Test.YtommpclkiiffpaaJA
import Derived.Test.YtommpclkiiffpaaBoxN
set_option linter.unusedVariables false
namespace Go.Proofs.Ytommpclkiiffpaa
open Go.RowKit
theorem shin (x m : Int) (hm : 0 ≤ m) (hm' : m ≤ 9223372036854775807) (w : World) : Calls Try.prog 65 #[.int .i64 x, .int .i64 m] w fun e w' => e = .returned (.bool (inI x m)) ∧ w = w' := by
  have E1 : wrap64 (-m) = -m := wr_in (by omega) (by omega)
  rcases dec_both (x ≥ -m) with ⟨h, hd⟩ | ⟨h, hd⟩
  · rcases dec_both (x ≤ m) with ⟨h', hd'⟩ | ⟨h', hd'⟩
    · have H := Lib.hid (show inI x m = true from decide_eq_true ⟨h, h'⟩)
      clear h h' hm hm'
      go_enter Try.func65, Try.ntmps65
      go_wp2
      go_ret
      exact ⟨ret_bool H.out.symm, rfl⟩
    · have H := Lib.hid (show inI x m = false from decide_eq_false (fun k => h' k.2))
      clear h h' hm hm'
      go_enter Try.func65, Try.ntmps65
      go_wp2
      go_ret
      exact ⟨ret_bool H.out.symm, rfl⟩
  · have H := Lib.hid (show inI x m = false from decide_eq_false (fun k => h k.1))
    clear h hm hm'
    go_enter Try.func65, Try.ntmps65
    go_wp2
    go_ret
    exact ⟨ret_bool H.out.symm, rfl⟩

abbrev ST : TypeId := 100
abbrev shCells (a b cx cy : Int) : Array Value := #[.int .i64 a, .int .i64 b, .int .i64 cx, .int .i64 cy]
/-- The code of slants. -/
def shC (zs : List Int) : Int :=
  match zs with
  | [a, b, cx, cy] => if inI a 262144 = true ∧ inI b 262144 = true ∧ inI cx 32768 = true ∧ inI cy 32768 = true then 0 else 11
  | _ => 12
theorem shC_len {zs : List Int} (h : zs.length ≠ 4) : shC zs = 12 := by
  unfold shC; split
  · simp at h
  · rfl
theorem list4 {zs : List Int} (h : zs.length = 4) : ∃ c0 c1 c2 c3, zs = [c0, c1, c2, c3] := by
  match zs, h with
  | [c0, c1, c2, c3], _ => exact ⟨c0, c1, c2, c3, rfl⟩
/-- Slants, each as it may be. -/
structure SM (a b cx cy : Int) : Prop where
  a : -262144 ≤ a ∧ a ≤ 262144
  b : -262144 ≤ b ∧ b ≤ 262144
  x : -32768 ≤ cx ∧ cx ≤ 32768
  y : -32768 ≤ cy ∧ cy ≤ 32768
theorem shC_zero {zs : List Int} (h : shC zs = 0) : ∃ a b cx cy, zs = [a, b, cx, cy] ∧ SM a b cx cy := by
  unfold shC at h
  split at h
  · split at h
    · rename_i h'
      exact ⟨_, _, _, _, rfl, ⟨inI_iff.1 h'.1, inI_iff.1 h'.2.1, inI_iff.1 h'.2.2.1, inI_iff.1 h'.2.2.2⟩⟩
    · omega
  · omega

abbrev S4 (b off : Nat) (c0 c1 c2 c3 : Int) (w9 : World) : Prop := w9.cell? ⟨b, off, none⟩ = some (.int .i64 c0) ∧ w9.cell? ⟨b, off + 1, none⟩ = some (.int .i64 c1) ∧ w9.cell? ⟨b, off + 2, none⟩ = some (.int .i64 c2) ∧ w9.cell? ⟨b, off + 3, none⟩ = some (.int .i64 c3)
theorem IS.four {w : World} {v : Value} {c0 c1 c2 c3 : Int} (h : IS w v [c0, c1, c2, c3]) : ∃ b off cap, v = .slice (.some ⟨b, off, none⟩) 4 cap ∧ 4 ≤ cap ∧ (cap : Int) ≤ 9223372036854775807 ∧ b < w.heap.size ∧ S4 b off c0 c1 c2 c3 w := by
  obtain ⟨b, off, cap, rfl, h1, h2, h3, hc⟩ := h.some (by simp)
  have k0 := hc 0 (by simp); have k1 := hc 1 (by simp); have k2 := hc 2 (by simp); have k3 := hc 3 (by simp)
  simp only [List.getD_cons_zero, List.getD_cons_succ, Nat.add_zero] at k0 k1 k2 k3
  exact ⟨b, off, cap, rfl, by simpa using h1, h2, h3, k0, k1, k2, k3⟩
theorem S4.keep {b off : Nat} {c0 c1 c2 c3 : Int} {w w9 : World} (h : S4 b off c0 c1 c2 c3 w) (hlt : b < w.heap.size) (hb : Below w.heap.size w w9) : S4 b off c0 c1 c2 c3 w9 :=
  ⟨(hb.cell (p := ⟨b, off, none⟩) hlt).trans h.1, (hb.cell (p := ⟨b, off + 1, none⟩) hlt).trans h.2.1, (hb.cell (p := ⟨b, off + 2, none⟩) hlt).trans h.2.2.1, (hb.cell (p := ⟨b, off + 3, none⟩) hlt).trans h.2.2.2⟩

set_option maxRecDepth 100000 in
set_option maxHeartbeats 2000000 in
theorem shcheck (v : Value) (zs : List Int) (w : World) (hv : IS w v zs) : Calls Try.prog 36 #[v] w fun e w' => e = .returned (.int .i64 (shC zs)) ∧ w = w' := by
  have hl := hv.len
  by_cases h4 : zs.length = 4
  · obtain ⟨c0, c1, c2, c3, rfl⟩ := list4 h4
    obtain ⟨b, off, cap, rfl, hcap, h2, hlt, k0, k1, k2, k3⟩ := hv.four
    have CI := Lib.hid (fun x w => shin x 262144 (by omega) (by omega) w)
    have CJ := Lib.hid (fun x w => shin x 32768 (by omega) (by omega) w)
    clear hv h4 hl
    rcases hb0 : inI c0 262144 with _ | _
    · have H := Lib.hid (show shC [c0, c1, c2, c3] = 11 from if_neg (by rw [hb0]; simp))
      go_enter Try.func36, Try.ntmps36
      go_wp2_with fail
      have BB : Hid (Below w.heap.size w w) := Below.refl _ _
      refine (CI.out _ _).mono ?_
      rintro e w9 ⟨rfl, rfl⟩
      rw [hb0]
      go_wp2_with fail
      go_ret
      exact ⟨ret_int H.out.symm, rfl⟩
    rcases hb1 : inI c1 262144 with _ | _
    · have H := Lib.hid (show shC [c0, c1, c2, c3] = 11 from if_neg (by rw [hb1]; simp))
      go_enter Try.func36, Try.ntmps36
      go_wp2_with fail
      have BB : Hid (Below w.heap.size w w) := Below.refl _ _
      refine (CI.out _ _).mono ?_
      rintro e w9 ⟨rfl, rfl⟩
      rw [hb0]
      go_wp2_with fail
      refine (CI.out _ _).mono ?_
      rintro e w9 ⟨rfl, rfl⟩
      rw [hb1]
      go_wp2_with fail
      go_ret
      exact ⟨ret_int H.out.symm, rfl⟩
    rcases hb2 : inI c2 32768 with _ | _
    · have H := Lib.hid (show shC [c0, c1, c2, c3] = 11 from if_neg (by rw [hb2]; simp))
      go_enter Try.func36, Try.ntmps36
      go_wp2_with fail
      have BB : Hid (Below w.heap.size w w) := Below.refl _ _
      refine (CI.out _ _).mono ?_
      rintro e w9 ⟨rfl, rfl⟩
      rw [hb0]
      go_wp2_with fail
      refine (CI.out _ _).mono ?_
      rintro e w9 ⟨rfl, rfl⟩
      rw [hb1]
      go_wp2_with fail
      refine (CJ.out _ _).mono ?_
      rintro e w9 ⟨rfl, rfl⟩
      rw [hb2]
      go_wp2_with fail
      go_ret
      exact ⟨ret_int H.out.symm, rfl⟩
    rcases hb3 : inI c3 32768 with _ | _
    · have H := Lib.hid (show shC [c0, c1, c2, c3] = 11 from if_neg (by rw [hb3]; simp))
      go_enter Try.func36, Try.ntmps36
      go_wp2_with fail
      have BB : Hid (Below w.heap.size w w) := Below.refl _ _
      refine (CI.out _ _).mono ?_
      rintro e w9 ⟨rfl, rfl⟩
      rw [hb0]
      go_wp2_with fail
      refine (CI.out _ _).mono ?_
      rintro e w9 ⟨rfl, rfl⟩
      rw [hb1]
      go_wp2_with fail
      refine (CJ.out _ _).mono ?_
      rintro e w9 ⟨rfl, rfl⟩
      rw [hb2]
      go_wp2_with fail
      refine (CJ.out _ _).mono ?_
      rintro e w9 ⟨rfl, rfl⟩
      rw [hb3]
      go_wp2_with fail
      go_ret
      exact ⟨ret_int H.out.symm, rfl⟩
    · have H := Lib.hid (show shC [c0, c1, c2, c3] = 0 from if_pos ⟨hb0, hb1, hb2, hb3⟩)
      go_enter Try.func36, Try.ntmps36
      go_wp2_with fail
      have BB : Hid (Below w.heap.size w w) := Below.refl _ _
      refine (CI.out _ _).mono ?_
      rintro e w9 ⟨rfl, rfl⟩
      rw [hb0]
      go_wp2_with fail
      refine (CI.out _ _).mono ?_
      rintro e w9 ⟨rfl, rfl⟩
      rw [hb1]
      go_wp2_with fail
      refine (CJ.out _ _).mono ?_
      rintro e w9 ⟨rfl, rfl⟩
      rw [hb2]
      go_wp2_with fail
      refine (CJ.out _ _).mono ?_
      rintro e w9 ⟨rfl, rfl⟩
      rw [hb3]
      go_wp2_with fail
      go_ret
      exact ⟨ret_int H.out.symm, rfl⟩
  · have HL := Lib.hid (shC_len h4)
    obtain ⟨A, cap, rfl⟩ := hv.form
    have hn : (zs.length : Int) ≠ 4 := by omega
    clear hv h4
    generalize shC zs = C at *
    generalize zs.length = n at *
    go_enter Try.func36, Try.ntmps36
    go_wp2
    go_ret
    exact ⟨ret_int HL.out.symm, rfl⟩

/-- What is told of slants: where they lie, or why there are none. -/
def GiveSh (zs : List Int) (w : World) (e : Ending) (w' : World) : Prop := ∃ p, e = .returned (.tuple #[p, .int .i64 (shC zs)]) ∧ Below w.heap.size w w' ∧
  (shC zs ≠ 0 → p = .pointer none) ∧ (shC zs = 0 → ∃ g a b cx cy, p = .pointer (some ⟨g, 0, none⟩) ∧ zs = [a, b, cx, cy] ∧ SM a b cx cy ∧ AtB w' g (shCells a b cx cy) ST)

set_option maxRecDepth 100000 in
set_option maxHeartbeats 4000000 in
theorem shnew (v : Value) (zs : List Int) (w : World) (hv : IS w v zs) : Calls Try.prog 30 #[v] w (GiveSh zs w) := by
  have CR := Lib.hid (shcheck v zs w hv)
  by_cases h0 : shC zs = 0
  · obtain ⟨c0, c1, c2, c3, rfl, hM⟩ := shC_zero h0
    rw [h0] at CR
    have HC := Lib.hid h0
    obtain ⟨b, off, cap, rfl, hcap, h2, hlt, hS⟩ := hv.four
    have K0 := hS
    have KK := Lib.hid (fun w9 hb => (hS.keep hlt hb : S4 b off c0 c1 c2 c3 w9))
    have KD := KK.out w.drew (below_drew (Below.refl _ _))
    have hM := Lib.hid hM
    clear hv hS h0
    go_enter Try.func30, Try.ntmps30
    go_wp2_with fail
    have BB : Hid (Below w.heap.size w w) := Below.refl _ _
    refine (CR.out).mono ?_
    rintro e w9 ⟨rfl, rfl⟩
    go_wp2_with fail
    go_region_held3 (fun w9 => w9.cell? ⟨b, off, none⟩ = some (.int .i64 c0) ∧ w9.cell? ⟨b, off + 1, none⟩ = some (.int .i64 c1) ∧ w9.cell? ⟨b, off + 2, none⟩ = some (.int .i64 c2) ∧ w9.cell? ⟨b, off + 3, none⟩ = some (.int .i64 c3))
      (first | with_reducible exact KD | with_reducible exact K0 | (refine KK.out _ ?_; repeat' (first | with_reducible exact Below.refl _ _ | with_reducible apply below_new | with_reducible apply below_drew)))
      (fail)
    all_goals clear KK K0 KD
    go_wp2_with fail
    refine bodyPost_ret (v := .tuple #[.pointer (some ⟨w.heap.size, 0, none⟩), .int .i64 0]) (by unfold results; simp only [Try.results30]; go_simp) rfl ?_
    refine ⟨_, by rw [HC.out], below_drew (below_new (Below.refl _ _) _), fun h => absurd HC.out h, fun _ => ⟨_, _, _, _, _, rfl, rfl, hM.out, AtB.drew (new_at _ _ _)⟩⟩
  · have hne := Lib.hid h0
    have h0 : (shC zs != 0) = true := by simpa using h0
    obtain ⟨A, cap, rfl⟩ := hv.form
    clear hv
    generalize hk : shC zs = k at *
    have hk := Lib.hid hk
    go_enter Try.func30, Try.ntmps30
    go_wp2_with fail
    have BB : Hid (Below w.heap.size w w) := Below.refl _ _
    refine (CR.out).mono ?_
    rintro e w9 ⟨rfl, rfl⟩
    go_wp2_with fail
    refine bodyPost_ret (v := .tuple #[.pointer none, .int .i64 k]) (by unfold results; simp only [Try.results30]; go_simp) rfl ?_
    exact ⟨_, by rw [hk.out], Below.refl _ _, fun _ => rfl, fun h => absurd (hk.out.symm.trans h) hne.out⟩

end Go.Proofs.Ytommpclkiiffpaa
