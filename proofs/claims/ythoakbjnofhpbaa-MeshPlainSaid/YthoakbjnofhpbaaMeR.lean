/- Contracts of the document's meshes: Fits, Knot, Cell, At. -/
import Derived.Test.YthoakbjnofhpbaaMe3
import Derived.Test.YthoakbjnofhpbaaFlo4
import Derived.Test.YthoakbjnofhpbaaRQuot1
set_option linter.unusedVariables false
set_option linter.unusedSimpArgs false
namespace Go.Proofs.Ythoakbjnofhpbaa
open Go.RowKit
abbrev BT21 : TypeId := 76
set_option maxRecDepth 100000 in
theorem r21fits (gx gy nx ny : Int) (w : World) : Calls Try.prog 75 #[.int .i64 gx, .int .i64 gy, .int .i64 nx, .int .i64 ny] w fun e w' => e = .returned (.bool (fitsM gx gy nx ny)) ∧ w = w' := by
  have C1 := Lib.hid (fun w => r21from gx 1024 w)
  have C2 := Lib.hid (fun w => r21from gy 1024 w)
  have C3 := Lib.hid (fun w => r21from nx 64 w)
  have C4 := Lib.hid (fun w => r21from ny 64 w)
  unfold fitsM
  generalize fromB gx 1024 = b1 at *
  generalize fromB gy 1024 = b2 at *
  generalize fromB nx 64 = b3 at *
  generalize fromB ny 64 = b4 at *
  go_enter Try.func75, Try.ntmps75
  cases b1
  · skip
    go_wp2_with fail
    refine (C1.out _).mono ?_; rintro e w9 ⟨rfl, rfl⟩
    go_wp2_with fail
    go_ret
    exact ⟨rfl, rfl⟩
  · cases b2
    · skip
      go_wp2_with fail
      refine (C1.out _).mono ?_; rintro e w9 ⟨rfl, rfl⟩
      go_wp2_with fail
      refine (C2.out _).mono ?_; rintro e w9 ⟨rfl, rfl⟩
      go_wp2_with fail
      go_ret
      exact ⟨rfl, rfl⟩
    · cases b3
      · skip
        go_wp2_with fail
        refine (C1.out _).mono ?_; rintro e w9 ⟨rfl, rfl⟩
        go_wp2_with fail
        refine (C2.out _).mono ?_; rintro e w9 ⟨rfl, rfl⟩
        go_wp2_with fail
        refine (C3.out _).mono ?_; rintro e w9 ⟨rfl, rfl⟩
        go_wp2_with fail
        go_ret
        exact ⟨rfl, rfl⟩
      · skip
        go_wp2_with fail
        refine (C1.out _).mono ?_; rintro e w9 ⟨rfl, rfl⟩
        go_wp2_with fail
        refine (C2.out _).mono ?_; rintro e w9 ⟨rfl, rfl⟩
        go_wp2_with fail
        refine (C3.out _).mono ?_; rintro e w9 ⟨rfl, rfl⟩
        go_wp2_with fail
        refine (C4.out _).mono ?_; rintro e w9 ⟨rfl, rfl⟩
        go_wp2_with fail
        go_ret
        exact ⟨rfl, rfl⟩
set_option maxRecDepth 100000 in
set_option maxHeartbeats 4000000 in
theorem r21knot (v : Value) (gx gy nx ny i k : Int) (rest : List Int) (q j : Nat) (hq : q ≤ 1) (hj : (j : Int) = k * (nx + 1) + i) (hl : 2 * j + q < rest.length) (hn : 1 ≤ nx ∧ nx ≤ 64) (hi : 0 ≤ i ∧ i ≤ 64) (hk : 0 ≤ k ∧ k ≤ 64) (w : World) (hv : IS w v (gx :: gy :: nx :: ny :: rest)) :
    Calls Try.prog 27 #[v, .int .i64 i, .int .i64 k, .int .i64 (q : Int)] w fun e w' => e = .returned (.int .i64 (rest.getD (2 * j + q) 0)) ∧ w = w' := by
  obtain ⟨b, off, cap, rfl, h1, h2, h3, h4⟩ := hv.some (by simp)
  simp only [List.length_cons] at hv h1 h4 ⊢
  have c2 := h4 2 (by omega)
  have cj := h4 (2 * j + q + 4) (by omega)
  simp only [List.getD_cons_succ, List.getD_cons_zero] at c2 cj
  have f1 : k * (nx + 1) ≤ 64 * 65 := Int.mul_le_mul hk.2 (by omega) (by omega) (by omega)
  have f2 : 0 ≤ k * (nx + 1) := Int.mul_nonneg hk.1 (by omega)
  obtain ⟨n1, hn1⟩ : ∃ v, v = nx + 1 := ⟨_, rfl⟩
  rw [← hn1] at f1 f2 hj
  obtain ⟨kn, hkn⟩ : ∃ v, v = k * n1 := ⟨_, rfl⟩
  rw [← hkn] at f1 f2 hj
  obtain ⟨t1, ht1⟩ : ∃ v : Int, v = 2 * (j : Int) := ⟨_, rfl⟩
  obtain ⟨t2, ht2⟩ : ∃ v : Int, v = 4 + t1 := ⟨_, rfl⟩
  obtain ⟨ix, hix⟩ : ∃ v, v = 2 * j + q + 4 := ⟨_, rfl⟩
  have e1 : IntKind.i64.wrap (nx + 1) = n1 := by rw [hn1]; exact iw ⟨by omega, by omega⟩
  have e2 : IntKind.i64.wrap (k * n1) = kn := by rw [hkn]; exact iw ⟨by omega, by omega⟩
  have e3 : IntKind.i64.wrap (kn + i) = (j : Int) := by rw [iw ⟨by omega, by omega⟩]; exact hj.symm
  have e4 : IntKind.i64.wrap (2 * (j : Int)) = t1 := by rw [ht1]; exact iw ⟨by omega, by omega⟩
  have e5 : IntKind.i64.wrap (4 + t1) = t2 := by rw [ht2]; exact iw ⟨by omega, by omega⟩
  have e6 : IntKind.i64.wrap (t2 + (q : Int)) = (ix : Int) := by rw [show t2 + (q : Int) = (ix : Int) by omega]; exact iw ⟨by omega, by omega⟩
  have k1 : (0 : Int) ≤ (ix : Int) := by omega
  have k2 : (ix : Int) < ((rest.length + 4 : Nat) : Int) := by omega
  have k3 : (2 : Int) < ((rest.length + 4 : Nat) : Int) := by omega
  rw [← hix] at cj
  generalize rest.getD (2 * j + q) 0 = z at *
  generalize rest.length + 4 = n at *
  clear hv h1 h4 hn1 hkn ht1 ht2 hix hj hl hn hi hk hq f1 f2
  go_enter Try.func27, Try.ntmps27
  go_wp2_with fail
  go_ret
  exact ⟨rfl, rfl⟩
theorem cell_next {g n p d k : Int} (hg : 1 ≤ g ∧ g ≤ 1024) (hn : 1 ≤ n ∧ n ≤ 64) (hd : 1 ≤ d ∧ d ≤ 16) (h0 : 0 ≤ k) (hk : k < cellI g n p d) : k + 1 < n ∧ (k + 1) * g * d ≤ cellQ g n p d := by
  obtain ⟨-, -, f3, f4, f5, -⟩ := cell_facts (p := p) hg hn hd
  refine ⟨by omega, ?_⟩
  have h1 : (k + 1) * g ≤ cellI g n p d * g := Int.mul_le_mul_of_nonneg_right (by omega) (by omega)
  have h2 : (k + 1) * g * d ≤ cellI g n p d * g * d := Int.mul_le_mul_of_nonneg_right h1 (by omega)
  unfold cellS at f5
  omega
theorem cell_last {g n p d : Int} (hg : 1 ≤ g ∧ g ≤ 1024) (hn : 1 ≤ n ∧ n ≤ 64) (hd : 1 ≤ d ∧ d ≤ 16) (h : cellI g n p d + 1 < n) : cellQ g n p d < (cellI g n p d + 1) * g * d := by
  have u := mul_rng hg hd
  have e : cellI g n p d = cellQ g n p d / (g * d) := by
    unfold cellI at h ⊢
    split
    · rename_i k; rw [if_pos k] at h; omega
    · rfl
  rw [e, Int.mul_assoc, Int.add_mul, Int.one_mul]
  have h1 := Int.mul_ediv_add_emod (cellQ g n p d) (g * d)
  have h2 := Int.emod_lt_of_pos (cellQ g n p d) (show 0 < g * d by omega)
  have h3 : g * d * (cellQ g n p d / (g * d)) = cellQ g n p d / (g * d) * (g * d) := Int.mul_comm _ _
  omega
set_option maxRecDepth 100000 in
set_option maxHeartbeats 4000000 in
theorem r21cell (g n p d : Int) (hg : 1 ≤ g ∧ g ≤ 1024) (hn : 1 ≤ n ∧ n ≤ 64) (hd : 1 ≤ d ∧ d ≤ 16) (w : World) : Calls Try.prog 84 #[.int .i64 p, .int .i64 d, .int .i64 g, .int .i64 n] w fun e w' => e = .returned (.tuple #[.int .i64 (cellI g n p d), .int .i64 (cellS g n p d)]) ∧ w = w' := by
  obtain ⟨f1, f2, f3, f4, f5, f6⟩ := cell_facts (p := p) hg hn hd
  have h1 := mul_rng hg hn
  have h2 := mul_rng h1 hd
  have HN := Lib.hid (fun (k : Int) (h0 : 0 ≤ k) (hk : k < cellI g n p d) => cell_next (p := p) hg hn hd h0 hk)
  have HL := Lib.hid (fun h => cell_last (p := p) hg hn hd h)
  have HB : Hid (∀ k : Int, 0 ≤ k → k ≤ 64 → (0 ≤ k * g ∧ k * g ≤ 65536) ∧ (0 ≤ k * g * d ∧ k * g * d ≤ 1048576)) := fun k h0 hk => by
    have a1 : 0 ≤ k * g := Int.mul_nonneg h0 (by omega)
    have a2 : k * g ≤ 64 * 1024 := Int.mul_le_mul hk hg.2 (by omega) (by omega)
    exact ⟨⟨a1, by omega⟩, Int.mul_nonneg a1 (by omega), Int.mul_le_mul (c := 65536) (d := 16) (by omega) hd.2 (by omega) (by omega)⟩
  have HC := Lib.hid (And.intro f3 f4)
  have HS : Hid (cellS g n p d = cellQ g n p d - cellI g n p d * g * d) := rfl
  have HQ := Lib.hid (show 0 ≤ cellQ g n p d ∧ cellQ g n p d ≤ 1048576 by omega)
  have HE : Hid (n ≤ 64) := hn.2
  obtain ⟨gn, hgn⟩ : ∃ v, v = g * n := ⟨_, rfl⟩
  obtain ⟨T, hT⟩ : ∃ v, v = g * n * d := ⟨_, rfl⟩
  obtain ⟨m, hm⟩ : ∃ v, v = cellM g n p d := ⟨_, rfl⟩
  have e1 : IntKind.i64.wrap (g * n) = gn := by rw [hgn]; exact iw ⟨by omega, by omega⟩
  have e2 : IntKind.i64.wrap (gn * d) = T := by rw [hgn, hT]; exact iw ⟨by omega, by omega⟩
  have e4 : (if T < p then T else p) = m := by rw [hT, hm]; rfl
  have e5 : (if 0 < m then m else 0) = cellQ g n p d := by rw [hm]; rfl
  clear f1 f2 f3 f4 f5 f6 h1 h2 hgn hT hm hg hn hd
  generalize cellS g n p d = s at *
  generalize cellI g n p d = I at *
  generalize cellQ g n p d = Q at *
  go_enter Try.func84, Try.ntmps84
  go_wp2_with fail
  go_loop [11] (fun i => ∃ k : Nat, i = .int .i64 k ∧ Hid ((k : Int) ≤ I)) (fun i => (I - intOf i).toNat)
  case atStart => exact ⟨0, rfl, HC.out.1⟩
  case round =>
    obtain ⟨k, rfl, hk⟩ := hrel
    obtain ⟨k1, hk1⟩ : ∃ v : Int, v = (k : Int) + 1 := ⟨_, rfl⟩
    have hb := HB.out k1 (by omega) (by have := hk.out; have := HC.out; have := HE.out; omega)
    have e6 : IntKind.i64.wrap ((k : Int) + 1) = k1 := by rw [hk1]; have := hk.out; have := HC.out; have := HE.out; exact iw ⟨by omega, by omega⟩
    obtain ⟨t1, ht1⟩ : ∃ v, v = k1 * g := ⟨_, rfl⟩
    rw [← ht1] at hb
    obtain ⟨t2, ht2⟩ : ∃ v, v = t1 * d := ⟨_, rfl⟩
    rw [← ht2] at hb
    have e7 : IntKind.i64.wrap (k1 * g) = t1 := by rw [ht1]; exact iw ⟨by omega, by omega⟩
    have e8 : IntKind.i64.wrap (t1 * d) = t2 := by rw [ht2]; exact iw ⟨by omega, by omega⟩
    by_cases hlt : (k : Int) < I
    · obtain ⟨q1, q2⟩ := HN.out k (by omega) hlt
      rw [← hk1] at q1 q2
      rw [← ht1, ← ht2] at q2
      have hk' : Hid (((k + 1 : Nat) : Int) ≤ I) := by show _ ≤ _; omega
      have hm' : Hid ((I - ((k : Int) + 1)).toNat < (I - (k : Int)).toNat) := by show _ < _; omega
      have e9 : k1 = ((k + 1 : Nat) : Int) := by omega
      replace e9 := Lib.hid e9
      clear hk1 ht1 ht2 hb hlt
      go_wp2_with fail
      go_round
      case rel => exact ⟨k + 1, by rw [e9.out], hk'.out⟩
      case measure => have := hm'.out; have := e9.out; simp [intOf]; omega
    · obtain ⟨kI, hkI⟩ : ∃ v : Int, v = (k : Int) := ⟨_, rfl⟩
      have hI : (k : Int) = I := by have := hk.out; omega
      have hI' := Lib.hid hI
      have hs := HS.out
      have hbI := HB.out I (by have := HC.out; omega) (by have := HC.out; have := HE.out; omega)
      rw [← hI] at hs hbI
      obtain ⟨u1, hu1⟩ : ∃ v, v = (k : Int) * g := ⟨_, rfl⟩
      rw [← hu1] at hs hbI
      obtain ⟨u2, hu2⟩ : ∃ v, v = u1 * d := ⟨_, rfl⟩
      rw [← hu2] at hs hbI
      have e10 : IntKind.i64.wrap ((k : Int) * g) = u1 := by rw [hu1]; exact iw ⟨by omega, by omega⟩
      have e11 : IntKind.i64.wrap (u1 * d) = u2 := by rw [hu2]; exact iw ⟨by omega, by omega⟩
      have e12 : IntKind.i64.wrap (Q - u2) = s := by rw [hs]; have := HQ.out; exact iw ⟨by omega, by omega⟩
      by_cases q1 : k1 < n
      · have q2 := HL.out (by omega)
        rw [← hI, ← hk1, ← ht1, ← ht2] at q2
        have q3 : ¬ t2 ≤ Q := by omega
        clear hk1 ht1 ht2 hb hlt hI hs hbI hu1 hu2 q2 hkI
        go_wp2_with fail
        go_ret2
        exact ⟨by rw [← hI'.out]; rfl, rfl⟩
      · clear hk1 ht1 ht2 hb hlt hI hs hbI hu1 hu2 hkI
        go_wp2_with fail
        go_ret2
        exact ⟨by rw [← hI'.out]; rfl, rfl⟩
end Go.Proofs.Ythoakbjnofhpbaa
