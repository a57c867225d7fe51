/- Contract of ref21.Check. -/
import Derived.Test.YthoakbjnofhpbaaMeR
set_option linter.unusedVariables false
set_option linter.unusedSimpArgs false
namespace Go.Proofs.Ythoakbjnofhpbaa
open Go.RowKit
theorem inI_far (x : Int) : inI x 2147483648 = !(farM x) := by
  cases h : farM x
  · have := farM_iff.1 h
    exact decide_eq_true ⟨by omega, by omega⟩
  · cases k : inI x 2147483648
    · rfl
    · have k' := of_decide_eq_true k
      rw [farM_f ⟨by omega, by omega⟩] at h
      cases h
theorem r21check_a (v : Value) (zs : List Int) (W0 H0 : Int) (hl : zs.length < 4) (w : World) (hv : IS w v zs) :
    Calls Try.prog 18 #[v, .int .i64 W0, .int .i64 H0] w fun e w' => e = .returned (.int .i64 12) ∧ Below w.heap.size w w' := by
  obtain ⟨A, cap, rfl⟩ := hv.form
  have k1 : (zs.length : Int) < 4 := by omega
  clear hv hl
  go_enter Try.func18, Try.ntmps18
  go_wp2_with fail
  have BB : Hid (Below w.heap.size w w) := Below.refl _ _
  go_ret
  exact ⟨rfl, BB.out⟩
set_option maxRecDepth 100000 in
set_option maxHeartbeats 8000000 in
theorem r21check_4 (v : Value) (gx gy nx ny W0 H0 : Int) (rest : List Int) (w : World) (hv : IS w v (gx :: gy :: nx :: ny :: rest)) :
    Calls Try.prog 18 #[v, .int .i64 W0, .int .i64 H0] w fun e w' => e = .returned (.int .i64 (meshC gx gy nx ny W0 H0 rest)) ∧ Below w.heap.size w w' := by
  obtain ⟨b, off, cap, rfl, h1, h2, h3, h4⟩ := hv.some (by simp)
  simp only [List.length_cons] at hv h1 h4 ⊢
  have CF := Lib.hid (fun w => r21fits gx gy nx ny w)
  have CI := Lib.hid (fun x w => rin x 2147483648 (by omega) (by omega) w)
  have c0 := h4 0 (by omega)
  have c1 := h4 1 (by omega)
  have c2 := h4 2 (by omega)
  have c3 := h4 3 (by omega)
  have CT := Lib.hid (fun w9 (h9 : Below w.heap.size w w9) => And.intro ((h9.cell h3).trans c0) (And.intro ((h9.cell h3).trans c1) (And.intro ((h9.cell h3).trans c2) ((h9.cell h3).trans c3))))
  have CE := Lib.hid (fun (j : Nat) (hj : j < rest.length) w9 (h9 : Below w.heap.size w w9) => (h9.cell h3).trans (h4 (j + 4) (by omega)))
  have HS := Lib.hid (fun k (hk : k < rest.length) => any_step (p := farM) hk)
  have hC : Hid (meshC gx gy nx ny W0 H0 rest = meshC gx gy nx ny W0 H0 rest) := rfl
  unfold meshC at hC ⊢
  obtain ⟨n, hn⟩ : ∃ v, v = rest.length + 4 := ⟨_, rfl⟩
  rw [← hn] at hv h1 h4 ⊢
  have k1 : ¬ (n : Int) < 4 := by omega
  have k7 : (0 : Int) < (n : Int) := by omega
  have k7n : 0 < n := by omega
  have k8 : (1 : Int) < (n : Int) := by omega
  have k9 : (2 : Int) < (n : Int) := by omega
  have k10 : (3 : Int) < (n : Int) := by omega
  have hn' := Lib.hid hn
  clear hv h1 h3 h4 c0 c1 c2 c3 hn hC
  by_cases hf : fitsM gx gy nx ny = false
  · rw [if_pos hf]
    rw [hf] at CF
    clear hf HS CE
    go_enter Try.func18, Try.ntmps18
    go_wp2_with fail
    have BB : Hid (Below w.heap.size w w) := Below.refl _ _
    obtain ⟨q0, q1, q2, q3⟩ := CT.out _ BB.out
    simp only [Nat.add_zero, List.getD_cons_zero, List.getD_cons_succ] at q0 q1 q2 q3
    have Q_0 := Lib.hid (fun n => quiet_same (CF.out (w.drewN n)))
    go_quiet ((first | (go_at_call 75; with_reducible exact Q_0.out _)))
    clear Q_0
    have hb := below_drawn (Below.refl w.heap.size w) nq
    generalize w.drewN nq = w1 at *
    replace BB := Lib.hid (below_next BB.out hb)
    clear hb nq
    clear q0 q1 q2 q3
    go_wp2_with fail
    go_ret
    exact ⟨rfl, BB.out⟩
  rw [if_neg hf]
  have hf : fitsM gx gy nx ny = true := by simpa using hf
  rw [hf] at CF
  obtain ⟨g1, g2, g3, g4⟩ := fitsM_iff.1 hf
  have m1 := mul_rng g1 g3
  have m2 := mul_rng g2 g4
  have m3 : (nx + 1) * (ny + 1) ≤ 65 * 65 := Int.mul_le_mul (by omega) (by omega) (by omega) (by omega)
  have m5 : 2 * 2 ≤ (nx + 1) * (ny + 1) := Int.mul_le_mul (by omega) (by omega) (by omega) (by omega)
  have m4 : 2 * (nx + 1) * (ny + 1) = 2 * ((nx + 1) * (ny + 1)) := Int.mul_assoc _ _ _
  obtain ⟨n1, hn1⟩ : ∃ v, v = nx + 1 := ⟨_, rfl⟩
  obtain ⟨n2, hn2⟩ : ∃ v, v = 2 * n1 := ⟨_, rfl⟩
  obtain ⟨n3, hn3⟩ : ∃ v, v = ny + 1 := ⟨_, rfl⟩
  obtain ⟨n5, hn5⟩ : ∃ v, v = n2 * n3 := ⟨_, rfl⟩
  have e5' : n5 = 2 * (nx + 1) * (ny + 1) := by rw [hn5, hn2, hn1, hn3]
  obtain ⟨t5, ht5⟩ : ∃ v, v = 4 + n5 := ⟨_, rfl⟩
  rw [show 4 + 2 * (nx + 1) * (ny + 1) = t5 by rw [ht5, e5']]
  obtain ⟨a1, ha1⟩ : ∃ v, v = gx * nx := ⟨_, rfl⟩
  obtain ⟨a2, ha2⟩ : ∃ v, v = gy * ny := ⟨_, rfl⟩
  have e1 : IntKind.i64.wrap (nx + 1) = n1 := by rw [hn1]; exact iw ⟨by omega, by omega⟩
  have e2 : IntKind.i64.wrap (2 * n1) = n2 := by rw [hn2]; exact iw ⟨by omega, by omega⟩
  have e3 : IntKind.i64.wrap (ny + 1) = n3 := by rw [hn3]; exact iw ⟨by omega, by omega⟩
  have e4 : IntKind.i64.wrap (n2 * n3) = n5 := by rw [← hn5]; exact iw ⟨by omega, by omega⟩
  have e5 : IntKind.i64.wrap (4 + n5) = t5 := by rw [ht5]; exact iw ⟨by omega, by omega⟩
  have e6 : IntKind.i64.wrap (gx * nx) = a1 := by rw [ha1]; exact iw ⟨by omega, by omega⟩
  have e7 : IntKind.i64.wrap (gy * ny) = a2 := by rw [ha2]; exact iw ⟨by omega, by omega⟩
  rw [← ha1, ← ha2]
  have ht5' : Hid (t5 ≤ 8454) := by show _ ≤ _; omega
  clear m1 m2 m3 m4 m5 hn1 hn2 hn3 hn5 e5' ht5 ha1 ha2 g1 g2 g3 g4 hf
  by_cases hL : (n : Int) ≠ t5
  · rw [if_pos hL]
    have s1 : ((n : Int) == t5) = false := by simp; omega
    have s2 : ¬ (n : Int) = t5 := by omega
    clear HS CE hL
    go_enter Try.func18, Try.ntmps18
    go_wp2_with fail
    have BB : Hid (Below w.heap.size w w) := Below.refl _ _
    obtain ⟨q0, q1, q2, q3⟩ := CT.out _ BB.out
    simp only [Nat.add_zero, List.getD_cons_zero, List.getD_cons_succ] at q0 q1 q2 q3
    have Q_0 := Lib.hid (fun n => quiet_same (CF.out (w.drewN n)))
    go_quiet ((first | (go_at_call 75; with_reducible exact Q_0.out _)))
    clear Q_0
    have hb := below_drawn (Below.refl w.heap.size w) nq
    generalize w.drewN nq = w1 at *
    replace BB := Lib.hid (below_next BB.out hb)
    clear hb nq
    go_wp2_with fail
    obtain ⟨q0, q1, q2, q3⟩ := CT.out _ BB.out
    simp only [Nat.add_zero, List.getD_cons_zero, List.getD_cons_succ] at q0 q1 q2 q3
    go_quiet (fail)
    have hb := below_drawn (Below.refl w1.heap.size w1) nq
    generalize w1.drewN nq = w2 at *
    replace BB := Lib.hid (below_next BB.out hb)
    clear hb nq
    clear q0 q1 q2 q3
    go_wp2_with fail
    go_ret
    exact ⟨rfl, BB.out⟩
  rw [if_neg hL]
  have hL : t5 = (n : Int) := by omega
  have hn8 : Hid (n ≤ 8454) := by have := ht5'.out; show n ≤ 8454; omega
  rw [hL] at e5
  obtain ⟨C, hCe⟩ : ∃ C : Int, C = if rest.any farM = true then 11 else if W0 < 1 ∨ 32768 < W0 ∨ H0 < 1 ∨ 32768 < H0 then 30 else if a1 < W0 ∨ a2 < H0 then 42 else 0 := ⟨_, rfl⟩
  rw [← hCe]
  have HC := Lib.hid hCe
  have hnl := Lib.hid (show n = rest.length + 4 from hn'.out)
  clear hL ht5' hCe
  go_enter Try.func18, Try.ntmps18
  go_wp2_with fail
  have BB : Hid (Below w.heap.size w w) := Below.refl _ _
  obtain ⟨q0, q1, q2, q3⟩ := CT.out _ BB.out
  simp only [Nat.add_zero, List.getD_cons_zero, List.getD_cons_succ] at q0 q1 q2 q3
  have Q_0 := Lib.hid (fun n => quiet_same (CF.out (w.drewN n)))
  go_quiet ((first | (go_at_call 75; with_reducible exact Q_0.out _)))
  clear Q_0
  have hb := below_drawn (Below.refl w.heap.size w) nq
  generalize w.drewN nq = w1 at *
  replace BB := Lib.hid (below_next BB.out hb)
  clear hb nq
  clear q0 q1 q2 q3
  go_wp2_with fail
  obtain ⟨q0, q1, q2, q3⟩ := CT.out _ BB.out
  simp only [Nat.add_zero, List.getD_cons_zero, List.getD_cons_succ] at q0 q1 q2 q3
  go_quiet (fail)
  have hb := below_drawn (Below.refl w1.heap.size w1) nq
  generalize w1.drewN nq = w2 at *
  replace BB := Lib.hid (below_next BB.out hb)
  clear hb nq
  clear q0 q1 q2 q3
  go_wp2_with fail
  go_loopw [7] (fun i wr => ∃ p : Nat, i = .int .i64 (p : Int) ∧ Hid (∃ k, p = k + 4 ∧ k ≤ rest.length ∧ (rest.take k).any farM = false ∧ Below w.heap.size w wr)) (fun i _ => n - (intOf i).toNat)
  case atStart => exact ⟨4, rfl, ⟨0, rfl, by omega, rfl, BB.out⟩⟩
  case round =>
    clear BB
    obtain ⟨p, rfl, hinv⟩ := hrel
    obtain ⟨k, hp, hk, hany, BB⟩ := hinv.out
    replace BB := Lib.hid BB
    clear hinv
    by_cases hlt : k < rest.length
    · have hst := HS.out k hlt
      have hcz : Hid (∃ z, z = rest.getD k 0 ∧ wr.cell? ⟨b, off + p, none⟩ = some (.int .i64 z)) := by
        refine ⟨_, rfl, ?_⟩
        have := CE.out k hlt _ BB.out
        rw [← hp] at this
        rw [this, hp]
        rfl
      obtain ⟨z, hz, cz⟩ := hcz.out
      rw [← hz, hany, Bool.false_or] at hst
      have p0 : (0 : Int) ≤ (p : Int) := by omega
      have p1 : (p : Int) < (n : Int) := by have := hnl.out; omega
      have hI := inI_far z
      have hpk : Hid (p = k + 4 ∧ k < rest.length) := ⟨hp, hlt⟩
      have hn9 : Hid (p < 10000) := by have := hn8.out; show p < 10000; omega
      have ew : IntKind.i64.wrap ((p : Int) + 1) = ((p + 1 : Nat) : Int) := by rw [show (p : Int) + 1 = ((p + 1 : Nat) : Int) by omega]; have := hn9.out; exact iw ⟨by omega, by omega⟩
      cases hfz : farM z
      · rw [hfz] at hI hst
        have hst := Lib.hid hst
        clear hcz hz hany hp hk hlt hfz
        go_wp2_with fail
        refine (CI.out _ _).mono ?_
        rintro e w9 ⟨rfl, rfl⟩
        rw [hI]
        go_wp2_with fail
        go_roundw
        case rel => exact ⟨p + 1, by go_num, ⟨k + 1, by have := hpk.out; omega, by have := hpk.out; omega, hst.out, BB.out⟩⟩
        case measure => simp [intOf]; omega
      · rw [hfz] at hI hst
        have hA : Hid (rest.any farM = true) := by
          have : rest.any farM = ((rest.take (k + 1)) ++ rest.drop (k + 1)).any farM := by rw [List.take_append_drop]
          show _ = _
          rw [this, List.any_append, hst]; rfl
        have hC11 : Hid (C = 11) := by have := HC.out; rw [if_pos hA.out] at this; exact this
        clear hcz hz hany hp hk hlt hfz hst
        go_wp2_with fail
        refine (CI.out _ _).mono ?_
        rintro e w9 ⟨rfl, rfl⟩
        rw [hI]
        go_wp2_with fail
        go_ret
        exact ⟨ret_int hC11.out.symm, BB.out⟩
    · have hkn : k = rest.length := by omega
      have hpn : p = n := by have := hnl.out; omega
      have hA : rest.any farM = false := by
        rw [hkn, List.take_of_length_le (Nat.le_refl _)] at hany
        exact hany
      have HC2 := HC.out
      rw [if_neg (by rw [hA]; simp)] at HC2
      rw [hpn]
      clear hany hp hk hlt hkn hpn hA HS CE CI CF HC
      by_cases a : W0 < 1
      · have hR : Hid (C = 30) := by rw [if_pos (by omega)] at HC2; exact HC2
        clear HC2
        go_wp2_with fail
        go_ret
        exact ⟨ret_int hR.out.symm, BB.out⟩
      by_cases a2' : 32768 < W0
      · have hR : Hid (C = 30) := by rw [if_pos (by omega)] at HC2; exact HC2
        clear HC2
        go_wp2_with fail
        go_ret
        exact ⟨ret_int hR.out.symm, BB.out⟩
      by_cases a3 : H0 < 1
      · have hR : Hid (C = 30) := by rw [if_pos (by omega)] at HC2; exact HC2
        clear HC2
        go_wp2_with fail
        go_ret
        exact ⟨ret_int hR.out.symm, BB.out⟩
      by_cases a4 : 32768 < H0
      · have hR : Hid (C = 30) := by rw [if_pos (by omega)] at HC2; exact HC2
        clear HC2
        go_wp2_with fail
        go_ret
        exact ⟨ret_int hR.out.symm, BB.out⟩
      rw [if_neg (by omega)] at HC2
      by_cases a5 : a1 < W0
      · have hR : Hid (C = 42) := by rw [if_pos (by omega)] at HC2; exact HC2
        clear HC2
        go_wp2_with fail
        obtain ⟨q0, q1, q2, q3⟩ := CT.out _ BB.out
        simp only [Nat.add_zero, List.getD_cons_zero, List.getD_cons_succ] at q0 q1 q2 q3
        go_quiet (fail)
        have hb := below_drawn (Below.refl wr.heap.size wr) nq
        generalize wr.drewN nq = w3 at *
        replace BB := Lib.hid (below_next BB.out hb)
        clear hb nq
        go_wp2_with fail
        go_ret
        exact ⟨ret_int hR.out.symm, BB.out⟩
      by_cases a6 : a2 < H0
      · have hR : Hid (C = 42) := by rw [if_pos (by omega)] at HC2; exact HC2
        clear HC2
        go_wp2_with fail
        obtain ⟨q0, q1, q2, q3⟩ := CT.out _ BB.out
        simp only [Nat.add_zero, List.getD_cons_zero, List.getD_cons_succ] at q0 q1 q2 q3
        go_quiet (fail)
        have hb := below_drawn (Below.refl wr.heap.size wr) nq
        generalize wr.drewN nq = w3 at *
        replace BB := Lib.hid (below_next BB.out hb)
        clear hb nq
        go_wp2_with fail
        go_ret
        exact ⟨ret_int hR.out.symm, BB.out⟩
      have hR : Hid (C = 0) := by rw [if_neg (by omega)] at HC2; exact HC2
      clear HC2
      go_wp2_with fail
      obtain ⟨q0, q1, q2, q3⟩ := CT.out _ BB.out
      simp only [Nat.add_zero, List.getD_cons_zero, List.getD_cons_succ] at q0 q1 q2 q3
      go_quiet (fail)
      have hb := below_drawn (Below.refl wr.heap.size wr) nq
      generalize wr.drewN nq = w3 at *
      replace BB := Lib.hid (below_next BB.out hb)
      clear hb nq
      go_wp2_with fail
      go_ret
      exact ⟨ret_int hR.out.symm, BB.out⟩
theorem r21check (v : Value) (zs : List Int) (W0 H0 : Int) (w : World) (hv : IS w v zs) : Calls Try.prog 18 #[v, .int .i64 W0, .int .i64 H0] w fun e w' => e = .returned (.int .i64 (meC zs W0 H0)) ∧ Below w.heap.size w w' := by
  match zs, hv with
  | [], hv => exact r21check_a v _ W0 H0 (by simp) w hv
  | [_], hv => exact r21check_a v _ W0 H0 (by simp) w hv
  | [_, _], hv => exact r21check_a v _ W0 H0 (by simp) w hv
  | [_, _, _], hv => exact r21check_a v _ W0 H0 (by simp) w hv
  | gx :: gy :: nx :: ny :: rest, hv => exact r21check_4 v gx gy nx ny W0 H0 rest w hv
end Go.Proofs.Ythoakbjnofhpbaa
