/- Contracts of mesh: New of any numbers, Check, Cells, Knot. -/
import Derived.Test.YthoakbjnofhpbaaMe2
import Derived.Test.YthoakbjnofhpbaaMeO
set_option linter.unusedVariables false
set_option linter.unusedSimpArgs false
namespace Go.Proofs.Ythoakbjnofhpbaa
open Go.RowKit
/-- The code of numbers of a mesh, for an image of a size. -/
def meC (zs : List Int) (W0 H0 : Int) : Int := match zs with
  | gx :: gy :: nx :: ny :: rest => meshC gx gy nx ny W0 H0 rest
  | _ => 12
/-- A mesh that is told by numbers. -/
def MeOf (zs : List Int) (w : World) (m : Value) : Prop := ∃ gx gy nx ny rest N g, zs = gx :: gy :: nx :: ny :: rest ∧ MG gx gy nx ny (ksOf rest N) ∧ rest.length = 2 * N ∧ m = .pointer (some ⟨g, 0, none⟩) ∧ MX w g gx gy nx ny (ksOf rest N) ∧ (∀ z ∈ rest, -2147483648 ≤ z ∧ z ≤ 2147483648)
theorem MeOf.below {zs : List Int} {w w1 : World} {m : Value} (h : MeOf zs w m) (hb : Below w.heap.size w w1) : MeOf zs w1 m := by
  obtain ⟨gx, gy, nx, ny, rest, N, g, h1, h2, h3, h4, h5, h6⟩ := h
  exact ⟨gx, gy, nx, ny, rest, N, g, h1, h2, h3, h4, h5.below hb, h6⟩
def GiveNew (zs : List Int) (W0 H0 : Int) (w : World) (e : Ending) (w' : World) : Prop := ∃ m, e = .returned (.tuple #[m, .int .i64 (meC zs W0 H0)]) ∧ Below w.heap.size w w' ∧ (meC zs W0 H0 ≠ 0 → m = .pointer none) ∧ (meC zs W0 H0 = 0 → MeOf zs w' m)
theorem meshC_ok {gx gy nx ny W0 H0 : Int} {rest : List Int} (h : meshC gx gy nx ny W0 H0 rest = 0) : fitsM gx gy nx ny = true ∧ ((rest.length + 4 : Nat) : Int) = 4 + 2 * (nx + 1) * (ny + 1) ∧ rest.any farM = false ∧ (1 ≤ W0 ∧ W0 ≤ 32768) ∧ (1 ≤ H0 ∧ H0 ≤ 32768) ∧ W0 ≤ gx * nx ∧ H0 ≤ gy * ny := by
  unfold meshC at h
  by_cases h1 : fitsM gx gy nx ny = false
  · rw [if_pos h1] at h; omega
  · rw [if_neg h1] at h
    by_cases h2 : ((rest.length + 4 : Nat) : Int) ≠ 4 + 2 * (nx + 1) * (ny + 1)
    · rw [if_pos h2] at h; omega
    · rw [if_neg h2] at h
      by_cases h3 : rest.any farM = true
      · rw [if_pos h3] at h; omega
      · rw [if_neg h3] at h
        by_cases h4 : W0 < 1 ∨ 32768 < W0 ∨ H0 < 1 ∨ 32768 < H0
        · rw [if_pos h4] at h; omega
        · rw [if_neg h4] at h
          by_cases h5 : gx * nx < W0 ∨ gy * ny < H0
          · rw [if_pos h5] at h; omega
          · exact ⟨by simpa using h1, by omega, by simpa using h3, by omega, by omega, by omega, by omega⟩
theorem mnew_any (v : Value) (zs : List Int) (W0 H0 : Int) (w : World) (hv : IS w v zs) : Calls Try.prog 17 #[v, .int .i64 W0, .int .i64 H0] w (GiveNew zs W0 H0 w) := by
  unfold GiveNew
  match zs, hv with
  | [], hv => exact (mnew_a v _ W0 H0 (by simp) w hv).mono fun e w' ⟨h1, h2⟩ => ⟨_, h1, h2, fun _ => rfl, fun h => by simp [meC] at h⟩
  | [_], hv => exact (mnew_a v _ W0 H0 (by simp) w hv).mono fun e w' ⟨h1, h2⟩ => ⟨_, h1, h2, fun _ => rfl, fun h => by simp [meC] at h⟩
  | [_, _], hv => exact (mnew_a v _ W0 H0 (by simp) w hv).mono fun e w' ⟨h1, h2⟩ => ⟨_, h1, h2, fun _ => rfl, fun h => by simp [meC] at h⟩
  | [_, _, _], hv => exact (mnew_a v _ W0 H0 (by simp) w hv).mono fun e w' ⟨h1, h2⟩ => ⟨_, h1, h2, fun _ => rfl, fun h => by simp [meC] at h⟩
  | gx :: gy :: nx :: ny :: rest, hv =>
    show Calls _ _ _ w fun e w' => ∃ m, e = .returned (.tuple #[m, .int .i64 (meshC gx gy nx ny W0 H0 rest)]) ∧ Below w.heap.size w w' ∧ (meshC gx gy nx ny W0 H0 rest ≠ 0 → m = .pointer none) ∧ (meshC gx gy nx ny W0 H0 rest = 0 → MeOf (gx :: gy :: nx :: ny :: rest) w' m)
    by_cases h : meshC gx gy nx ny W0 H0 rest = 0
    · rw [h]
      obtain ⟨h1, h2, h3, h4, h5, h6, h7⟩ := meshC_ok h
      obtain ⟨g1, g2, g3, g4⟩ := fitsM_iff.1 h1
      have m4 : 2 * (nx + 1) * (ny + 1) = 2 * ((nx + 1) * (ny + 1)) := Int.mul_assoc _ _ _
      have m5 : 0 ≤ (nx + 1) * (ny + 1) := Int.mul_nonneg (by omega) (by omega)
      have hN : ((((nx + 1) * (ny + 1)).toNat : Nat) : Int) = (nx + 1) * (ny + 1) := by omega
      refine (mnew_ok v gx gy nx ny W0 H0 rest ((nx + 1) * (ny + 1)).toNat h1 hN (by omega) h3 h4 h5 h6 h7 w hv).mono ?_
      rintro e w' ⟨g, h8, h9, h10⟩
      refine ⟨_, h8, h9, fun k => absurd rfl k, fun _ => ⟨gx, gy, nx, ny, rest, _, g, rfl, ⟨g1, g2, g3, g4, ?_⟩, by omega, rfl, h10, fun z hz => ?_⟩⟩
      · unfold ksOf; rw [List.length_map, List.length_finRange]; exact hN
      · rw [List.any_eq_false] at h3
        exact farM_iff.1 (by simpa using h3 z hz)
    · exact (mnew_bad v gx gy nx ny W0 H0 rest h w hv).mono fun e w' ⟨h1, h2⟩ => ⟨_, h1, h2, fun _ => rfl, fun k => absurd k h⟩
theorem mcheck_any (v : Value) (zs : List Int) (W0 H0 : Int) (w : World) (hv : IS w v zs) : Calls Try.prog 23 #[v, .int .i64 W0, .int .i64 H0] w fun e w' => e = .returned (.int .i64 (meC zs W0 H0)) ∧ Below w.heap.size w w' := by
  have CN := Lib.hid (mnew_any v zs W0 H0 w hv)
  unfold GiveNew at CN
  obtain ⟨A, cap, rfl⟩ := hv.form
  clear hv
  generalize meC zs W0 H0 = C at *
  go_enter Try.func23, Try.ntmps23
  go_wp2_with fail
  have BB : Hid (Below w.heap.size w w) := Below.refl _ _
  refine (CN.out).mono ?_
  rintro e w1 ⟨m, rfl, hb, -, -⟩
  replace BB := Lib.hid (below_next BB.out hb)
  clear hb
  go_wp2_with fail
  go_ret
  exact ⟨rfl, BB.out⟩
theorem mcells_nil (w : World) : Calls Try.prog 25 #[.pointer none] w fun e w' => e = .returned (.tuple #[.int .i64 0, .int .i64 0]) ∧ Below w.heap.size w w' := by
  go_enter Try.func25, Try.ntmps25
  go_wp2_with fail
  have BB : Hid (Below w.heap.size w w) := Below.refl _ _
  refine bodyPost_ret (v := .tuple #[.int .i64 0, .int .i64 0]) (by unfold results; simp only [Try.results25]; go_simp) rfl ?_
  exact ⟨rfl, BB.out⟩
set_option maxRecDepth 100000 in
theorem mcells_ok (g : Nat) (gx gy nx ny : Int) (ks : List (Int × Int)) (w : World) (hm : MX w g gx gy nx ny ks) : Calls Try.prog 25 #[.pointer (some ⟨g, 0, none⟩)] w fun e w' => e = .returned (.tuple #[.int .i64 nx, .int .i64 ny]) ∧ Below w.heap.size w w' := by
  obtain ⟨b, cap, hA, -⟩ := hm
  go_enter Try.func25, Try.ntmps25
  go_wp2_with fail
  have BB : Hid (Below w.heap.size w w) := Below.refl _ _
  have r_m := Lib.hid hA
  clear hA
  obtain ⟨c_m0, c_m1, c_m2, c_m3, c_m4, f_m0, f_m1, f_m2, f_m3, f_m4⟩ := reads5 r_m.out
  have l_m := r_m.out.lt
  go_quiet (fail)
  have hb := below_drawn (Below.refl w.heap.size w) nq
  generalize w.drewN nq = w1 at *
  clear c_m0 c_m1 c_m2 c_m3 c_m4 f_m0 f_m1 f_m2 f_m3 f_m4 l_m
  replace r_m := Lib.hid (r_m.out.keep hb)
  replace BB := Lib.hid (below_next BB.out hb)
  clear hb nq
  go_wp2_with fail
  refine bodyPost_ret (v := .tuple #[.int .i64 nx, .int .i64 ny]) (by unfold results; simp only [Try.results25]; go_simp) rfl ?_
  exact ⟨rfl, BB.out⟩
theorem mknot_nil (i k : Int) (w : World) : Calls Try.prog 26 #[.pointer none, .int .i64 i, .int .i64 k] w fun e w' => e = .returned (.tuple #[.int .i64 0, .int .i64 0, .bool false]) ∧ Below w.heap.size w w' := by
  have CC := Lib.hid (fun w => mcells_nil w)
  go_enter Try.func26, Try.ntmps26
  go_wp2_with fail
  have BB : Hid (Below w.heap.size w w) := Below.refl _ _
  refine (CC.out _).mono ?_
  rintro e w1 ⟨rfl, hb⟩
  replace BB := Lib.hid (below_next BB.out hb)
  clear hb
  go_wp2_with fail
  refine bodyPost_ret (v := .tuple #[.int .i64 0, .int .i64 0, .bool false]) (by unfold results; simp only [Try.results26]; go_simp) rfl ?_
  exact ⟨rfl, BB.out⟩
set_option maxRecDepth 100000 in
theorem mknot_out (g : Nat) (gx gy nx ny i k : Int) (ks : List (Int × Int)) (h : ¬ (0 ≤ i ∧ i ≤ nx ∧ 0 ≤ k ∧ k ≤ ny)) (w : World) (hm : MX w g gx gy nx ny ks) : Calls Try.prog 26 #[.pointer (some ⟨g, 0, none⟩), .int .i64 i, .int .i64 k] w fun e w' => e = .returned (.tuple #[.int .i64 0, .int .i64 0, .bool false]) ∧ Below w.heap.size w w' := by
  have CC := Lib.hid (fun w hm => mcells_ok g gx gy nx ny ks w hm)
  replace hm := Lib.hid hm
  by_cases k1 : i < 0
  · skip
    clear h
    go_enter Try.func26, Try.ntmps26
    go_wp2_with fail
    have BB : Hid (Below w.heap.size w w) := Below.refl _ _
    refine (CC.out _ hm.out).mono ?_
    rintro e w1 ⟨rfl, hb⟩
    replace BB := Lib.hid (below_next BB.out hb)
    clear hb
    go_wp2_with fail
    refine bodyPost_ret (v := .tuple #[.int .i64 0, .int .i64 0, .bool false]) (by unfold results; simp only [Try.results26]; go_simp) rfl ?_
    exact ⟨rfl, BB.out⟩
  · by_cases k2 : nx < i
    · skip
      clear h
      go_enter Try.func26, Try.ntmps26
      go_wp2_with fail
      have BB : Hid (Below w.heap.size w w) := Below.refl _ _
      refine (CC.out _ hm.out).mono ?_
      rintro e w1 ⟨rfl, hb⟩
      replace BB := Lib.hid (below_next BB.out hb)
      clear hb
      go_wp2_with fail
      refine bodyPost_ret (v := .tuple #[.int .i64 0, .int .i64 0, .bool false]) (by unfold results; simp only [Try.results26]; go_simp) rfl ?_
      exact ⟨rfl, BB.out⟩
    · by_cases k3 : k < 0
      · skip
        clear h
        go_enter Try.func26, Try.ntmps26
        go_wp2_with fail
        have BB : Hid (Below w.heap.size w w) := Below.refl _ _
        refine (CC.out _ hm.out).mono ?_
        rintro e w1 ⟨rfl, hb⟩
        replace BB := Lib.hid (below_next BB.out hb)
        clear hb
        go_wp2_with fail
        refine bodyPost_ret (v := .tuple #[.int .i64 0, .int .i64 0, .bool false]) (by unfold results; simp only [Try.results26]; go_simp) rfl ?_
        exact ⟨rfl, BB.out⟩
      · have k4 : ny < k := by omega
        clear h
        go_enter Try.func26, Try.ntmps26
        go_wp2_with fail
        have BB : Hid (Below w.heap.size w w) := Below.refl _ _
        refine (CC.out _ hm.out).mono ?_
        rintro e w1 ⟨rfl, hb⟩
        replace BB := Lib.hid (below_next BB.out hb)
        clear hb
        go_wp2_with fail
        refine bodyPost_ret (v := .tuple #[.int .i64 0, .int .i64 0, .bool false]) (by unfold results; simp only [Try.results26]; go_simp) rfl ?_
        exact ⟨rfl, BB.out⟩
set_option maxRecDepth 100000 in
theorem mknot_in (g : Nat) (gx gy nx ny i k : Int) (ks : List (Int × Int)) (hG : MG gx gy nx ny ks) (hi : 0 ≤ i ∧ i ≤ nx) (hk : 0 ≤ k ∧ k ≤ ny) (w : World) (hm : MX w g gx gy nx ny ks) : Calls Try.prog 26 #[.pointer (some ⟨g, 0, none⟩), .int .i64 i, .int .i64 k] w fun e w' => e = .returned (.tuple #[.int .i64 (knP ks nx i k).1, .int .i64 (knP ks nx i k).2, .bool true]) ∧ Below w.heap.size w w' := by
  have CC := Lib.hid (fun w hm => mcells_ok g gx gy nx ny ks w hm)
  have CA := Lib.hid (fun w hm => mk_kn g gx gy nx ny i k ks hG hi hk w hm)
  replace hm := Lib.hid hm
  have k1 : ¬ i < 0 := by omega
  have k2 : ¬ nx < i := by omega
  have k3 : ¬ k < 0 := by omega
  have k4 : ¬ ny < k := by omega
  clear hi hk hG
  generalize (knP ks nx i k).1 = x at *
  generalize (knP ks nx i k).2 = y at *
  go_enter Try.func26, Try.ntmps26
  go_wp2_with fail
  have BB : Hid (Below w.heap.size w w) := Below.refl _ _
  have h_m := hm
  refine (CC.out _ h_m.out).mono ?_
  rintro e w1 ⟨rfl, hb⟩
  replace h_m := Lib.hid (MX.below h_m.out hb)
  replace BB := Lib.hid (below_next BB.out hb)
  clear hb
  go_wp2_with fail
  refine (CA.out _ h_m.out).mono ?_
  rintro e w2 ⟨rfl, hb⟩
  replace h_m := Lib.hid (MX.below h_m.out hb)
  replace BB := Lib.hid (below_next BB.out hb)
  clear hb
  go_upto_region 5 with fail
  have d_p := Lib.hid (And.intro BB.out.size (True.intro))
  obtain ⟨hb, r_p⟩ := laid w2 #[.int .i64 x, .int .i64 y] KNT
  replace h_m := Lib.hid (MX.below h_m.out hb)
  replace BB := Lib.hid (below_next BB.out hb)
  replace r_p := Lib.hid r_p
  clear hb
  generalize w2.alloc (.cells #[.int .i64 x, .int .i64 y] KNT) = w3 at *
  generalize w2.heap.size = g_p at *
  obtain ⟨c_p0, c_p1, f_p0, f_p1⟩ := reads2 r_p.out
  have l_p := r_p.out.lt
  go_quiet (fail)
  have hb := below_drawn (Below.refl w3.heap.size w3) nq
  generalize w3.drewN nq = w4 at *
  clear c_p0 c_p1 f_p0 f_p1 l_p
  replace r_p := Lib.hid (r_p.out.keep hb)
  replace h_m := Lib.hid (MX.below h_m.out hb)
  replace BB := Lib.hid (below_next BB.out hb)
  clear hb nq
  go_wp2_with fail
  refine bodyPost_ret (v := .tuple #[.int .i64 x, .int .i64 y, .bool true]) (by unfold results; simp only [Try.results26]; go_simp) rfl ?_
  exact ⟨rfl, BB.out⟩
end Go.Proofs.Ythoakbjnofhpbaa
