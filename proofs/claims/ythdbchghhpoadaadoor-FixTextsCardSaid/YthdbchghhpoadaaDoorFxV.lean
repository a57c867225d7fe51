/- ref04.Read of a text that has no point, or is too long. -/
import Derived.Test.YthdbchghhpoadaaDoorFxU
import Derived.Test.YthdbchghhpoadaaDoorFxQ
set_option linter.unusedVariables false
set_option linter.unusedSimpArgs false
namespace Go.Proofs.YthdbchghhpoadaaDoor
open Go.RowKit
def GiveDD (b : Bool) (v : Nat) (w : World) (e : Ending) (w' : World) : Prop := ∃ r, ∃ z : Nat, e = .returned (.tuple #[r, .bool b]) ∧ Below w.heap.size w w' ∧ BR w' r (z : Int) ∧ z < 10 ^ 60 ∧ (b = true → z = v)
theorem dg_dd (l : List UInt8) (hl : l.length ≤ 60) (w : World) : Calls Tryd.prog 51 #[.string ⟨l.toArray⟩] w (GiveDD (decide (0 < l.length ∧ isD l)) (decL l) w) := by
  refine (dg_any l hl w).mono ?_
  rintro e w' ⟨r, z, rfl, hb, hr, hz, hv⟩
  exact ⟨r, z, rfl, hb, hr, hz, fun h => hv (of_decide_eq_true h).2⟩
def ptI (t : List UInt8) (j : Nat) : Nat := j + (cutD (t.drop j)).1.length
theorem ptI_n (t : List UInt8) : ptI t t.length = t.length := by unfold ptI; rw [List.drop_length]; rfl
theorem ptI_step {t : List UInt8} {k : Nat} (hk : k < t.length) : ptI t k = if t[k] = 46 then k else ptI t (k + 1) := by
  unfold ptI
  rw [List.drop_eq_getElem_cons hk]
  show k + (if t[k] = 46 then _ else _ : List UInt8 × Option (List UInt8)).1.length = _
  split
  · rfl
  · show k + ((cutD (t.drop (k + 1))).1.length + 1) = _
    omega
theorem ptI_0 (t : List UInt8) : ptI t 0 = (cutD t).1.length := by unfold ptI; simp
theorem byte46 {c : UInt8} : c.toNat = 46 ↔ c = 46 := by
  constructor
  · intro h; exact UInt8.toNat_inj.1 (by rw [h]; rfl)
  · rintro rfl; rfl
theorem mul60 (z : Nat) (hz : z < 10 ^ 60) (u v : Value) (w : World) (hu : BR w u (z : Int)) (hv : BR w v 65536) : Calls Tryd.prog 34 #[u, v] w (GiveB ((z * 65536 : Nat) : Int) w) := by
  rw [show ((z * 65536 : Nat) : Int) = (z : Int) * 65536 by omega]
  exact mul_any u v _ 65536 w hu hv ((wd60 hz).mid (by omega)) ((show Wd 17 65536 by unfold Wd; decide).mid (by omega))
theorem wd60m {z : Nat} (hz : z < 10 ^ 60) : Wd 217 ((z * 65536 : Nat) : Int) := by
  rw [show ((z * 65536 : Nat) : Int) = (z : Int) * 65536 by omega]
  exact (wd60 hz).mul (show Wd 17 65536 by unfold Wd; decide)
theorem cast_fin {C D : Option Int} {l : List UInt8} {w w' : World} {e : Ending} (h : C = D) (g : GiveFin D l w e w') : GiveFin C l w e w' := h ▸ g
set_option maxRecDepth 100000 in
set_option maxHeartbeats 16000000 in
theorem rread_long_pos (l t : List UInt8) (hl : t = l) (hhd : t.head? ≠ some 45) (hne : 0 < t.length) (htn : t.length ≤ 1000) (C : Option Int) (hC : C = none) (hlong : 60 < t.length) (w : World) : Calls Tryd.prog 23 #[.string ⟨l.toArray⟩] w (GiveFin C l w) := by
  obtain ⟨n, hn⟩ : ∃ n, n = t.length := ⟨_, rfl⟩
  obtain ⟨P, hP⟩ : ∃ P : Nat → Nat, P = ptI t := ⟨_, rfl⟩
  have HPn : Hid (P n = n) := by rw [hP, hn]; exact ptI_n t
  have HX : Hid (∀ k, k < n → ∃ c : Nat, (∀ w, (Instr.index 9 (.string ⟨t.toArray⟩) (.int .i64 (k : Int))).run Tryd.prog w = .ok (.int .u8 (c : Int)) w) ∧ (c = 46 → P k = k) ∧ (c ≠ 46 → P k = P (k + 1))) := by
    intro k hk
    rw [hn] at hk
    refine ⟨t[k].toNat, fun w => str_index t k hk w, fun h => ?_, fun h => ?_⟩
    · rw [hP, ptI_step hk, if_pos (byte46.1 h)]
    · rw [hP, ptI_step hk, if_neg (fun e => h (byte46.2 e))]
  obtain ⟨ts, hts⟩ : ∃ s : ByteArray, s = ⟨t.toArray⟩ := ⟨_, rfl⟩
  have hsz : ts.size = n := by rw [hts, str_len, hn]
  have hn300 : Hid (n ≤ 1000) := by show _ ≤ _; rw [hn]; exact htn
  rw [← hts] at HX
  obtain ⟨z0, hz0⟩ : ∃ z : Int, z = (n : Int) - 1 := ⟨_, rfl⟩
  have eN : wrap64 ((n : Int) - 1) = z0 := by rw [← hz0]; have := hn300.out; exact ww ⟨by omega, by omega⟩
  have hz0 : Hid (z0 = (n : Int) - 1) := hz0
  subst hl
  obtain ⟨c0, hc0, hx0⟩ : ∃ c : Nat, c ≠ 45 ∧ ∀ w, (Instr.index 9 (.string ts) (.int .i64 0)).run Tryd.prog w = .ok (.int .u8 (c : Int)) w := by
    cases hlt : t with
    | nil => rw [hlt] at hne; simp at hne
    | cons c t' =>
      refine ⟨c.toNat, fun h => hhd ?_, fun w => ?_⟩
      · rw [hlt]; exact congrArg some (UInt8.toNat_inj.1 (by rw [h]; rfl))
      · rw [hts, hlt]; exact str_index (c :: t') 0 (by simp) w
  have f0 : ((c0 : Int) == 45) = false := by simp; omega
  have j2 : 0 < n := by omega
  have j4 : (0 : Int) < (n : Int) := by omega
  clear hc0
  rw [← hts]
  have hs := Lib.hid hts
  have y1 : (60 : Int) < (n : Int) := by omega
  have y2 : 60 < n := by omega
  have hC := Lib.hid hC
  clear hP hn htn hlong hts hs hhd hne
  go_enter Tryd.func23, Tryd.ntmps23
  go_wp2_with fail
  have BB : Hid (Below w.heap.size w w) := Below.refl _ _
  go_loopw [6, 7] (fun p i wr => ∃ (j : Nat) (z : Int), p = .int .i64 ((P j : Nat) : Int) ∧ i = .int .i64 z ∧ j ≤ n ∧ Hid (z = (j : Int) - 1 ∧ Below w.heap.size w wr)) (fun _ i _ => (intOf i + 1).toNat)
  case atStart => exact ⟨n, z0, by rw [HPn.out], by first | rfl | rw [eN] | rw [hz0.out], Nat.le_refl _, ⟨hz0.out, BB.out⟩⟩
  case round =>
    clear BB HPn hz0 eN
    obtain ⟨j, z, rfl, rfl, hj, hI⟩ := hrel
    obtain ⟨hz, BB⟩ := hI.out
    clear hI
    replace BB := Lib.hid BB
    by_cases hj0 : 0 < j
    · obtain ⟨k, rfl⟩ : ∃ k, j = k + 1 := ⟨j - 1, by omega⟩
      obtain rfl : z = (k : Int) := by omega
      obtain ⟨c, hx, hP1, hP2⟩ := HX.out k (by omega)
      have k0 : (0 : Int) ≤ (k : Int) := by omega
      have k1 : (k : Int) < (n : Int) := by omega
      obtain ⟨z', hz'⟩ : ∃ z' : Int, z' = (k : Int) - 1 := ⟨_, rfl⟩
      have ew : wrap64 ((k : Int) - 1) = z' := by rw [← hz']; have := hn300.out; exact ww ⟨by omega, by omega⟩
      replace hz' := Lib.hid hz'
      by_cases hc : c = 46
      · have hPk : Hid (P k = k) := hP1 hc
        have f1 : ((c : Int) == 46) = true := by simp; omega
        clear hP1 hP2 hc HX hz
        go_wp2_with fail
        go_roundw
        case rel => exact ⟨k, z', by rw [hPk.out], by first | rfl | rw [ew] | rw [hz'.out], by omega, ⟨hz'.out, BB.out⟩⟩
        case measure => have := hz'.out; simp [intOf] <;> omega
      · have hPk : Hid (P k = P (k + 1)) := hP2 hc
        have f1 : ((c : Int) == 46) = false := by simp; omega
        clear hP1 hP2 hc HX hz
        go_wp2_with fail
        go_roundw
        case rel => exact ⟨k, z', by rw [hPk.out], by first | rfl | rw [ew] | rw [hz'.out], by omega, ⟨hz'.out, BB.out⟩⟩
        case measure => have := hz'.out; simp [intOf] <;> omega
    · obtain rfl : j = 0 := by omega
      obtain rfl : z = -1 := by omega
      clear HX hj hj0 hz
      generalize P 0 = pp at *
      go_wp2_with fail
      refine bodyPost_ret (v := .tuple #[.int .i64 0, .bool false]) (by unfold results; simp only [Tryd.results23]; go_simp) rfl ?_
      exact cast_fin hC.out (give_none BB.out)

set_option maxRecDepth 100000 in
set_option maxHeartbeats 16000000 in
theorem rread_long_neg (l t : List UInt8) (hl : l = 45 :: t) (htn : t.length ≤ 1000) (C : Option Int) (hC : C = none) (hlong : 60 < t.length) (w : World) : Calls Tryd.prog 23 #[.string ⟨l.toArray⟩] w (GiveFin C l w) := by
  obtain ⟨n, hn⟩ : ∃ n, n = t.length := ⟨_, rfl⟩
  obtain ⟨P, hP⟩ : ∃ P : Nat → Nat, P = ptI t := ⟨_, rfl⟩
  have HPn : Hid (P n = n) := by rw [hP, hn]; exact ptI_n t
  have HX : Hid (∀ k, k < n → ∃ c : Nat, (∀ w, (Instr.index 9 (.string ⟨t.toArray⟩) (.int .i64 (k : Int))).run Tryd.prog w = .ok (.int .u8 (c : Int)) w) ∧ (c = 46 → P k = k) ∧ (c ≠ 46 → P k = P (k + 1))) := by
    intro k hk
    rw [hn] at hk
    refine ⟨t[k].toNat, fun w => str_index t k hk w, fun h => ?_, fun h => ?_⟩
    · rw [hP, ptI_step hk, if_pos (byte46.1 h)]
    · rw [hP, ptI_step hk, if_neg (fun e => h (byte46.2 e))]
  obtain ⟨ts, hts⟩ : ∃ s : ByteArray, s = ⟨t.toArray⟩ := ⟨_, rfl⟩
  have hsz : ts.size = n := by rw [hts, str_len, hn]
  have hn300 : Hid (n ≤ 1000) := by show _ ≤ _; rw [hn]; exact htn
  rw [← hts] at HX
  obtain ⟨z0, hz0⟩ : ∃ z : Int, z = (n : Int) - 1 := ⟨_, rfl⟩
  have eN : wrap64 ((n : Int) - 1) = z0 := by rw [← hz0]; have := hn300.out; exact ww ⟨by omega, by omega⟩
  have hz0 : Hid (z0 = (n : Int) - 1) := hz0
  subst hl
  obtain ⟨s, hs⟩ : ∃ s : ByteArray, s = ⟨(45 :: t).toArray⟩ := ⟨_, rfl⟩
  obtain ⟨n1, hn1⟩ : ∃ m, m = n + 1 := ⟨_, rfl⟩
  have hss : s.size = n1 := by rw [hs, str_len, hn1, hn]; rfl
  have hx0 : ∀ w, (Instr.index 9 (.string s) (.int .i64 0)).run Tryd.prog w = .ok (.int .u8 45) w := fun w => by rw [hs]; exact str_index (45 :: t) 0 (by simp) w
  have he : s.extract 1 n1 = ts := by
    rw [hs, str_extract _ _ _ (by rw [hn1, hn]; simp), hts, hn1, hn]
    simp
  have j1 : 1 ≤ n1 := by omega
  have j2 : 0 < n1 := by omega
  have j3 : (1 : Int) ≤ (n1 : Int) := by omega
  have j4 : (0 : Int) < (n1 : Int) := by omega
  rw [← hs]
  replace hs := Lib.hid hs
  have hss0 := hs
  have y1 : (60 : Int) < (n : Int) := by omega
  have y2 : 60 < n := by omega
  have hC := Lib.hid hC
  clear hP hn htn hlong hs hn1 hss0 hts
  go_enter Tryd.func23, Tryd.ntmps23
  go_wp2_with fail
  have BB : Hid (Below w.heap.size w w) := Below.refl _ _
  go_loopw [6, 7] (fun p i wr => ∃ (j : Nat) (z : Int), p = .int .i64 ((P j : Nat) : Int) ∧ i = .int .i64 z ∧ j ≤ n ∧ Hid (z = (j : Int) - 1 ∧ Below w.heap.size w wr)) (fun _ i _ => (intOf i + 1).toNat)
  case atStart => exact ⟨n, z0, by rw [HPn.out], by first | rfl | rw [eN] | rw [hz0.out], Nat.le_refl _, ⟨hz0.out, BB.out⟩⟩
  case round =>
    clear BB HPn hz0 eN
    obtain ⟨j, z, rfl, rfl, hj, hI⟩ := hrel
    obtain ⟨hz, BB⟩ := hI.out
    clear hI
    replace BB := Lib.hid BB
    by_cases hj0 : 0 < j
    · obtain ⟨k, rfl⟩ : ∃ k, j = k + 1 := ⟨j - 1, by omega⟩
      obtain rfl : z = (k : Int) := by omega
      obtain ⟨c, hx, hP1, hP2⟩ := HX.out k (by omega)
      have k0 : (0 : Int) ≤ (k : Int) := by omega
      have k1 : (k : Int) < (n : Int) := by omega
      obtain ⟨z', hz'⟩ : ∃ z' : Int, z' = (k : Int) - 1 := ⟨_, rfl⟩
      have ew : wrap64 ((k : Int) - 1) = z' := by rw [← hz']; have := hn300.out; exact ww ⟨by omega, by omega⟩
      replace hz' := Lib.hid hz'
      by_cases hc : c = 46
      · have hPk : Hid (P k = k) := hP1 hc
        have f1 : ((c : Int) == 46) = true := by simp; omega
        clear hP1 hP2 hc HX hz
        go_wp2_with fail
        go_roundw
        case rel => exact ⟨k, z', by rw [hPk.out], by first | rfl | rw [ew] | rw [hz'.out], by omega, ⟨hz'.out, BB.out⟩⟩
        case measure => have := hz'.out; simp [intOf] <;> omega
      · have hPk : Hid (P k = P (k + 1)) := hP2 hc
        have f1 : ((c : Int) == 46) = false := by simp; omega
        clear hP1 hP2 hc HX hz
        go_wp2_with fail
        go_roundw
        case rel => exact ⟨k, z', by rw [hPk.out], by first | rfl | rw [ew] | rw [hz'.out], by omega, ⟨hz'.out, BB.out⟩⟩
        case measure => have := hz'.out; simp [intOf] <;> omega
    · obtain rfl : j = 0 := by omega
      obtain rfl : z = -1 := by omega
      clear HX hj hj0 hz
      generalize P 0 = pp at *
      go_wp2_with fail
      refine bodyPost_ret (v := .tuple #[.int .i64 0, .bool false]) (by unfold results; simp only [Tryd.results23]; go_simp) rfl ?_
      exact cast_fin hC.out (give_none BB.out)

set_option maxRecDepth 100000 in
set_option maxHeartbeats 16000000 in
theorem rread_nopt_pos (l t : List UInt8) (hl : t = l) (hhd : t.head? ≠ some 45) (hne : 0 < t.length) (htn : t.length ≤ 1000) (C : Option Int) (hC0 : ¬ (0 < t.length ∧ isD t) → C = none) (hC1 : 0 < t.length ∧ isD t → C = some (((decL t : Int) * 65536))) (hlong : t.length ≤ 60) (hno : 46 ∉ t) (w : World) : Calls Tryd.prog 23 #[.string ⟨l.toArray⟩] w (GiveFin C l w) := by
  obtain ⟨n, hn⟩ : ∃ n, n = t.length := ⟨_, rfl⟩
  obtain ⟨P, hP⟩ : ∃ P : Nat → Nat, P = ptI t := ⟨_, rfl⟩
  have HPn : Hid (P n = n) := by rw [hP, hn]; exact ptI_n t
  have HX : Hid (∀ k, k < n → ∃ c : Nat, (∀ w, (Instr.index 9 (.string ⟨t.toArray⟩) (.int .i64 (k : Int))).run Tryd.prog w = .ok (.int .u8 (c : Int)) w) ∧ (c = 46 → P k = k) ∧ (c ≠ 46 → P k = P (k + 1))) := by
    intro k hk
    rw [hn] at hk
    refine ⟨t[k].toNat, fun w => str_index t k hk w, fun h => ?_, fun h => ?_⟩
    · rw [hP, ptI_step hk, if_pos (byte46.1 h)]
    · rw [hP, ptI_step hk, if_neg (fun e => h (byte46.2 e))]
  obtain ⟨ts, hts⟩ : ∃ s : ByteArray, s = ⟨t.toArray⟩ := ⟨_, rfl⟩
  have hsz : ts.size = n := by rw [hts, str_len, hn]
  have hn300 : Hid (n ≤ 1000) := by show _ ≤ _; rw [hn]; exact htn
  rw [← hts] at HX
  obtain ⟨z0, hz0⟩ : ∃ z : Int, z = (n : Int) - 1 := ⟨_, rfl⟩
  have eN : wrap64 ((n : Int) - 1) = z0 := by rw [← hz0]; have := hn300.out; exact ww ⟨by omega, by omega⟩
  have hz0 : Hid (z0 = (n : Int) - 1) := hz0
  subst hl
  obtain ⟨c0, hc0, hx0⟩ : ∃ c : Nat, c ≠ 45 ∧ ∀ w, (Instr.index 9 (.string ts) (.int .i64 0)).run Tryd.prog w = .ok (.int .u8 (c : Int)) w := by
    cases hlt : t with
    | nil => rw [hlt] at hne; simp at hne
    | cons c t' =>
      refine ⟨c.toNat, fun h => hhd ?_, fun w => ?_⟩
      · rw [hlt]; exact congrArg some (UInt8.toNat_inj.1 (by rw [h]; rfl))
      · rw [hts, hlt]; exact str_index (c :: t') 0 (by simp) w
  have f0 : ((c0 : Int) == 45) = false := by simp; omega
  have j2 : 0 < n := by omega
  have j4 : (0 : Int) < (n : Int) := by omega
  clear hc0
  rw [← hts]
  have hs := Lib.hid hts
  have y1 : ¬ (60 : Int) < (n : Int) := by omega
  have y2 : ¬ 60 < n := by omega
  have HP0 : Hid (P 0 = n) := by show _ = _; rw [hP, ptI_0, cutD_no hno]; exact hn.symm
  have he1 : ts.extract 0 n = ts := by rw [hts, str_extract _ _ _ (by omega), hn]; simp
  obtain ⟨b1, hb1⟩ : ∃ b, b = decide (0 < t.length ∧ isD t) := ⟨_, rfl⟩
  have CD := Lib.hid (fun w => dg_dd t hlong w)
  rw [← hb1, ← hts] at CD
  obtain ⟨v1, hv1⟩ : ∃ v, v = decL t := ⟨_, rfl⟩
  rw [← hv1] at CD hC1
  have hCn : Hid (b1 = false → C = none) := fun h => hC0 (of_decide_eq_false (hb1.symm.trans h))
  have hCy : Hid (b1 = true → C = some (((v1 : Int) * 65536))) := fun h => hC1 (of_decide_eq_true (hb1.symm.trans h))
  have CW := Lib.hid (fun w => pow_any 16 (by omega) w)
  rw [two16] at CW
  have CNg := Lib.hid (fun (z : Int) (v : Value) w (hv : BR w v z) => neg_any v z w hv)
  clear hP hn htn hlong hno hC0 hC1 hb1 hv1 hts hhd hne
  go_enter Tryd.func23, Tryd.ntmps23
  go_wp2_with fail
  have BB : Hid (Below w.heap.size w w) := Below.refl _ _
  go_loopw [6, 7] (fun p i wr => ∃ (j : Nat) (z : Int), p = .int .i64 ((P j : Nat) : Int) ∧ i = .int .i64 z ∧ j ≤ n ∧ Hid (z = (j : Int) - 1 ∧ Below w.heap.size w wr)) (fun _ i _ => (intOf i + 1).toNat)
  case atStart => exact ⟨n, z0, by rw [HPn.out], by first | rfl | rw [eN] | rw [hz0.out], Nat.le_refl _, ⟨hz0.out, BB.out⟩⟩
  case round =>
    clear BB HPn hz0 eN
    obtain ⟨j, z, rfl, rfl, hj, hI⟩ := hrel
    obtain ⟨hz, BB⟩ := hI.out
    clear hI
    replace BB := Lib.hid BB
    by_cases hj0 : 0 < j
    · obtain ⟨k, rfl⟩ : ∃ k, j = k + 1 := ⟨j - 1, by omega⟩
      obtain rfl : z = (k : Int) := by omega
      obtain ⟨c, hx, hP1, hP2⟩ := HX.out k (by omega)
      have k0 : (0 : Int) ≤ (k : Int) := by omega
      have k1 : (k : Int) < (n : Int) := by omega
      obtain ⟨z', hz'⟩ : ∃ z' : Int, z' = (k : Int) - 1 := ⟨_, rfl⟩
      have ew : wrap64 ((k : Int) - 1) = z' := by rw [← hz']; have := hn300.out; exact ww ⟨by omega, by omega⟩
      replace hz' := Lib.hid hz'
      by_cases hc : c = 46
      · have hPk : Hid (P k = k) := hP1 hc
        have f1 : ((c : Int) == 46) = true := by simp; omega
        clear hP1 hP2 hc HX hz
        go_wp2_with fail
        go_roundw
        case rel => exact ⟨k, z', by rw [hPk.out], by first | rfl | rw [ew] | rw [hz'.out], by omega, ⟨hz'.out, BB.out⟩⟩
        case measure => have := hz'.out; simp [intOf] <;> omega
      · have hPk : Hid (P k = P (k + 1)) := hP2 hc
        have f1 : ((c : Int) == 46) = false := by simp; omega
        clear hP1 hP2 hc HX hz
        go_wp2_with fail
        go_roundw
        case rel => exact ⟨k, z', by rw [hPk.out], by first | rfl | rw [ew] | rw [hz'.out], by omega, ⟨hz'.out, BB.out⟩⟩
        case measure => have := hz'.out; simp [intOf] <;> omega
    · obtain rfl : j = 0 := by omega
      obtain rfl : z = -1 := by omega
      clear HX hj hj0 hz
      generalize P 0 = pp at *
      obtain rfl : pp = n := HP0.out
      clear HP0
      go_wp2_with fail
      refine (CD.out _).mono ?_
      rintro e w1 ⟨v_a, z_a, rfl, hb, h_a, hzb, hzv⟩
      replace BB := Lib.hid (below_next BB.out hb)
      clear hb
      obtain ⟨A_a, n_a, cap_a, rfl, -⟩ := id h_a.form
      have h_a := Lib.hid h_a
      go_upto_region 14 with fail
      have d_a := Lib.hid (And.intro BB.out.size (True.intro))
      obtain ⟨hb, r_a⟩ := laid w1 #[.bool (sgn (↑z_a)), .slice A_a n_a cap_a] BT4
      replace h_a := Lib.hid (h_a.out.below hb)
      replace BB := Lib.hid (below_next BB.out hb)
      replace r_a := Lib.hid r_a
      clear hb
      generalize w1.alloc (.cells #[.bool (sgn (↑z_a)), .slice A_a n_a cap_a] BT4) = w2 at *
      generalize w1.heap.size = g_a at *
      have CM := Lib.hid (fun u v w hu hv => mul60 z_a hzb u v w hu hv)
      obtain ⟨M, hM⟩ : ∃ M : Int, M = ((z_a * 65536 : Nat) : Int) := ⟨_, rfl⟩
      have hMw : Wd 217 M := by rw [hM]; exact wd60m hzb
      rw [← hM] at CM
      have hMv : b1 = true → M = (v1 : Int) * 65536 := fun h => by rw [hM, hzv h]; omega
      clear hM hzv hzb
      obtain ⟨Z, hZ⟩ : ∃ Z : Int, Z = M := ⟨_, rfl⟩
      have hCs1 : Hid (b1 = true → C = some Z) := fun h => by rw [hCy.out h, hZ, hMv h]
      have hZw : Hid (Wd 1400 Z) := by show Wd 1400 Z; rw [hZ]; exact hMw.up (by omega)
      rw [← hZ] at CM
      clear hMv hCy hZ hMw
      have KK := Lib.hid (fun (w9 : World) (h : Below w2.heap.size w2 w9) => (cells2 (r_a.out.keep h) : (w9.cell? ⟨g_a, 0, none⟩ = some (.bool (sgn (↑z_a))) ∧ w9.cell? ⟨g_a, 1, none⟩ = some (.slice A_a n_a cap_a))))
      have K0 := KK.out w2 (Below.refl _ _)
      have KD := KK.out w2.drew (below_drew (Below.refl _ _))
      refine AnyG.begin_ (fun w9 => (w9.cell? ⟨g_a, 0, none⟩ = some (.bool (sgn (↑z_a))) ∧ w9.cell? ⟨g_a, 1, none⟩ = some (.slice A_a n_a cap_a))) 3 (by kernel_rfl) ?_
      refine AnyG.take (i := 0) (v := ?_) rfl (by kernel_rfl) (by kernel_rfl) (by kernel_rfl) (fun _ _ _ h => h) (by kernel_rfl) (by kernel_rfl) (Or.inl ⟨by rfl, ?_⟩) (by assumption) ?_
      rotate_left
      · intro w9 hSw; (try dsimp only at hSw); go_simp <;> with_reducible rfl
      try simp only [Act.put, List.getElem_toArray, List.getElem_cons_zero, List.getElem_cons_succ, List.setIfInBounds_toArray, List.set_cons_zero, List.set_cons_succ]
      refine AnyG.step (i := 1) (by kernel_rfl) rfl (fun K hK => ?_)
      go_simp
      go_at_call 35
      refine (CW.out _).mono ?_
      rintro e w3 ⟨v_p, rfl, hb, h_p⟩
      obtain ⟨A_p, n_p, cap_p, rfl, -⟩ := id h_p.form
      replace h_p := Lib.hid h_p
      have B_w3 := Lib.hid (reg_next (w0 := w2) (by repeat (first | with_reducible exact Below.refl _ _ | with_reducible apply below_drew | with_reducible apply below_new)) hb)
      have K_w3 := KK.out _ B_w3.out
      clear hb
      refine hK.out _ _ (fun _ => K_w3) (fun hHeld => ?_)
      replace hHeld := hHeld (by decide)
      clear hK
      try simp only [Act.put, List.getElem_toArray, List.getElem_cons_zero, List.getElem_cons_succ, List.setIfInBounds_toArray, List.set_cons_zero, List.set_cons_succ]
      refine AnyG.step (i := 2) (by kernel_rfl) rfl (fun K hK => ?_)
      go_simp
      go_at_call 34
      refine (CM.out _ _ _ (h_a.out.below B_w3.out) h_p.out).mono ?_
      rintro e w4 ⟨v_m, rfl, hb, h_m⟩
      obtain ⟨A_m, n_m, cap_m, rfl, -⟩ := id h_m.form
      replace h_m := Lib.hid h_m
      replace h_p := Lib.hid (h_p.out.below hb)
      have B_w4 := Lib.hid (below_next B_w3.out hb)
      have K_w4 := KK.out _ B_w4.out
      obtain ⟨rc_a0, rc_a1, rf_a0, rf_a1⟩ := reads2 (r_a.out.keep B_w4.out)
      have rl_a := (r_a.out.keep B_w4.out).lt
      clear hb
      refine hK.out _ _ (fun _ => K_w4) (fun hHeld => ?_)
      replace hHeld := hHeld (by decide)
      clear hK
      try simp only [Act.put, List.getElem_toArray, List.getElem_cons_zero, List.getElem_cons_succ, List.setIfInBounds_toArray, List.set_cons_zero, List.set_cons_succ]
      refine AnyG.step (i := 3) (by kernel_rfl) rfl (fun K hK => ?_)
      go_simp
      refine hK.out _ _ (fun h => absurd h (by decide)) (fun _ => ?_)
      clear hK
      try simp only [Act.put, List.getElem_toArray, List.getElem_cons_zero, List.getElem_cons_succ, List.setIfInBounds_toArray, List.set_cons_zero, List.set_cons_succ]
      refine AnyG.done (by kernel_rfl) ?_ _
      clear KK K0 KD K_w3 K_w4
      replace r_a := Lib.hid (r_a.out.keep B_w4.out)
      replace h_a := Lib.hid (h_a.out.below B_w4.out)
      replace BB := Lib.hid (below_next BB.out B_w4.out)
      clear B_w3 B_w4
      clear h_a
      clear h_p
      replace h_m := Lib.hid (h_m.out.far2 r_a.out (by decide) (.bool (sgn Z)) (.slice A_m n_m cap_m))
      replace r_a := Lib.hid (r_a.out.set2 (.bool (sgn Z)) (.slice A_m n_m cap_m))
      replace BB := Lib.hid (below_far2 BB.out (p := g_a) (by have dd := d_a.out; omega) (.bool (sgn Z)) (.slice A_m n_m cap_m))
      generalize ((w4.setCell ⟨g_a, 0, none⟩ (.bool (sgn Z))).setCell ⟨g_a, 1, none⟩ (.slice A_m n_m cap_m)) = w5 at *
      skip
      cases b1 with
      | false =>
        have hCq := Lib.hid (hCn.out rfl)
        go_wp2_with fail
        refine bodyPost_ret (v := .tuple #[.int .i64 0, .bool false]) (by unfold results; simp only [Tryd.results23]; go_simp) rfl ?_
        exact cast_fin hCq.out (give_none BB.out)
      | true =>
        have hCs := Lib.hid (hCs1.out rfl)
        clear hCs1 hCn
        obtain ⟨Q, hQ⟩ : ∃ Q : ByteArray, Q = ⟨(sT Z).toArray⟩ := ⟨_, rfl⟩
        have hq1 := str_eq (sT Z) t
        rw [← hQ, ← hs.out] at hq1
        obtain ⟨same, hsame⟩ : ∃ b : Bool, b = decide (sT Z = t) := ⟨_, rfl⟩
        rw [← hsame] at hq1
        have hq2 : (Q.toList != ts.toList) = !same := by rw [bne, hq1]
        have CF := Lib.hid (fun (v : Value) w (h : BR w v Z) => rfits_any v Z 63 (by omega) w h hZw.out)
        have CSm := Lib.hid (fun (h : fitsB Z 63 = true) (v : Value) w (hv : BR w v Z) => small_any v Z w hv (fits_63.1 h))
        have CSh : Hid (fitsB Z 63 = true → ∀ w, Calls Tryd.prog 24 #[.int .i64 Z] w fun e w' => e = .returned (.string Q) ∧ Below w.heap.size w w') := fun h w => by rw [hQ]; exact r4show Z (fits_63.1 h) w
        replace hsame := Lib.hid hsame
        obtain ⟨fb, hfb⟩ : ∃ x, x = fitsB Z 63 := ⟨_, rfl⟩
        rw [← hfb] at CF CSm CSh
        replace hfb := Lib.hid hfb
        clear hQ
        obtain ⟨c_a0, c_a1, f_a0, f_a1⟩ := reads2 r_a.out
        have l_a := r_a.out.lt
        go_wp2_with fail
        refine (CF.out _ _ h_m.out).mono ?_
        rintro e w6 ⟨rfl, hb⟩
        clear c_a0 c_a1 f_a0 f_a1 l_a
        replace r_a := Lib.hid (r_a.out.keep hb)
        replace h_m := Lib.hid (h_m.out.below hb)
        replace BB := Lib.hid (below_next BB.out hb)
        clear hb
        cases fb with
        | false =>
          go_wp2_with fail
          refine bodyPost_ret (v := .tuple #[.int .i64 0, .bool false]) (by unfold results; simp only [Tryd.results23]; go_simp) rfl ?_
          exact cast_fin hCs.out (give_far hfb.out.symm BB.out)
        | true =>
          have DSm := Lib.hid (fun (v : Value) w (hv : BR w v Z) => CSm.out rfl v w hv)
          have DSh := Lib.hid (fun w => CSh.out rfl w)
          clear CSm CSh
          obtain ⟨c_a0, c_a1, f_a0, f_a1⟩ := reads2 r_a.out
          have l_a := r_a.out.lt
          go_wp2_with fail
          refine (DSm.out _ _ h_m.out).mono ?_
          rintro e w7 ⟨rfl, hb⟩
          clear c_a0 c_a1 f_a0 f_a1 l_a
          replace r_a := Lib.hid (r_a.out.keep hb)
          replace h_m := Lib.hid (h_m.out.below hb)
          replace BB := Lib.hid (below_next BB.out hb)
          clear hb
          go_wp2_with fail
          refine (DSh.out _).mono ?_
          rintro e w8 ⟨rfl, hb⟩
          replace r_a := Lib.hid (r_a.out.keep hb)
          replace h_m := Lib.hid (h_m.out.below hb)
          replace BB := Lib.hid (below_next BB.out hb)
          clear hb
          cases same with
          | false =>
            go_wp2_with fail
            refine bodyPost_ret (v := .tuple #[.int .i64 0, .bool false]) (by unfold results; simp only [Tryd.results23]; go_simp) rfl ?_
            exact cast_fin hCs.out (give_ne (of_decide_eq_false hsame.out.symm) BB.out)
          | true =>
            obtain ⟨c_a0, c_a1, f_a0, f_a1⟩ := reads2 r_a.out
            have l_a := r_a.out.lt
            go_wp2_with fail
            refine (DSm.out _ _ h_m.out).mono ?_
            rintro e w10 ⟨rfl, hb⟩
            clear c_a0 c_a1 f_a0 f_a1 l_a
            replace r_a := Lib.hid (r_a.out.keep hb)
            replace h_m := Lib.hid (h_m.out.below hb)
            replace BB := Lib.hid (below_next BB.out hb)
            clear hb
            go_wp2_with fail
            refine bodyPost_ret (v := .tuple #[.int .i64 Z, .bool true]) (by unfold results; simp only [Tryd.results23]; go_simp) rfl ?_
            exact cast_fin hCs.out (give_eq hfb.out.symm (of_decide_eq_true hsame.out.symm) BB.out)


set_option maxRecDepth 100000 in
set_option maxHeartbeats 16000000 in
theorem rread_nopt_neg (l t : List UInt8) (hl : l = 45 :: t) (htn : t.length ≤ 1000) (C : Option Int) (hC0 : ¬ (0 < t.length ∧ isD t) → C = none) (hC1 : 0 < t.length ∧ isD t → C = some (-((decL t : Int) * 65536))) (hlong : t.length ≤ 60) (hno : 46 ∉ t) (w : World) : Calls Tryd.prog 23 #[.string ⟨l.toArray⟩] w (GiveFin C l w) := by
  obtain ⟨n, hn⟩ : ∃ n, n = t.length := ⟨_, rfl⟩
  obtain ⟨P, hP⟩ : ∃ P : Nat → Nat, P = ptI t := ⟨_, rfl⟩
  have HPn : Hid (P n = n) := by rw [hP, hn]; exact ptI_n t
  have HX : Hid (∀ k, k < n → ∃ c : Nat, (∀ w, (Instr.index 9 (.string ⟨t.toArray⟩) (.int .i64 (k : Int))).run Tryd.prog w = .ok (.int .u8 (c : Int)) w) ∧ (c = 46 → P k = k) ∧ (c ≠ 46 → P k = P (k + 1))) := by
    intro k hk
    rw [hn] at hk
    refine ⟨t[k].toNat, fun w => str_index t k hk w, fun h => ?_, fun h => ?_⟩
    · rw [hP, ptI_step hk, if_pos (byte46.1 h)]
    · rw [hP, ptI_step hk, if_neg (fun e => h (byte46.2 e))]
  obtain ⟨ts, hts⟩ : ∃ s : ByteArray, s = ⟨t.toArray⟩ := ⟨_, rfl⟩
  have hsz : ts.size = n := by rw [hts, str_len, hn]
  have hn300 : Hid (n ≤ 1000) := by show _ ≤ _; rw [hn]; exact htn
  rw [← hts] at HX
  obtain ⟨z0, hz0⟩ : ∃ z : Int, z = (n : Int) - 1 := ⟨_, rfl⟩
  have eN : wrap64 ((n : Int) - 1) = z0 := by rw [← hz0]; have := hn300.out; exact ww ⟨by omega, by omega⟩
  have hz0 : Hid (z0 = (n : Int) - 1) := hz0
  subst hl
  obtain ⟨s, hs⟩ : ∃ s : ByteArray, s = ⟨(45 :: t).toArray⟩ := ⟨_, rfl⟩
  obtain ⟨n1, hn1⟩ : ∃ m, m = n + 1 := ⟨_, rfl⟩
  have hss : s.size = n1 := by rw [hs, str_len, hn1, hn]; rfl
  have hx0 : ∀ w, (Instr.index 9 (.string s) (.int .i64 0)).run Tryd.prog w = .ok (.int .u8 45) w := fun w => by rw [hs]; exact str_index (45 :: t) 0 (by simp) w
  have he : s.extract 1 n1 = ts := by
    rw [hs, str_extract _ _ _ (by rw [hn1, hn]; simp), hts, hn1, hn]
    simp
  have j1 : 1 ≤ n1 := by omega
  have j2 : 0 < n1 := by omega
  have j3 : (1 : Int) ≤ (n1 : Int) := by omega
  have j4 : (0 : Int) < (n1 : Int) := by omega
  rw [← hs]
  replace hs := Lib.hid hs
  have hss0 := hs
  have y1 : ¬ (60 : Int) < (n : Int) := by omega
  have y2 : ¬ 60 < n := by omega
  have HP0 : Hid (P 0 = n) := by show _ = _; rw [hP, ptI_0, cutD_no hno]; exact hn.symm
  have he1 : ts.extract 0 n = ts := by rw [hts, str_extract _ _ _ (by omega), hn]; simp
  obtain ⟨b1, hb1⟩ : ∃ b, b = decide (0 < t.length ∧ isD t) := ⟨_, rfl⟩
  have CD := Lib.hid (fun w => dg_dd t hlong w)
  rw [← hb1, ← hts] at CD
  obtain ⟨v1, hv1⟩ : ∃ v, v = decL t := ⟨_, rfl⟩
  rw [← hv1] at CD hC1
  have hCn : Hid (b1 = false → C = none) := fun h => hC0 (of_decide_eq_false (hb1.symm.trans h))
  have hCy : Hid (b1 = true → C = some (-((v1 : Int) * 65536))) := fun h => hC1 (of_decide_eq_true (hb1.symm.trans h))
  have CW := Lib.hid (fun w => pow_any 16 (by omega) w)
  rw [two16] at CW
  have CNg := Lib.hid (fun (z : Int) (v : Value) w (hv : BR w v z) => neg_any v z w hv)
  clear hP hn htn hlong hno hC0 hC1 hb1 hv1 hn1 hss0 hts
  go_enter Tryd.func23, Tryd.ntmps23
  go_wp2_with fail
  have BB : Hid (Below w.heap.size w w) := Below.refl _ _
  go_loopw [6, 7] (fun p i wr => ∃ (j : Nat) (z : Int), p = .int .i64 ((P j : Nat) : Int) ∧ i = .int .i64 z ∧ j ≤ n ∧ Hid (z = (j : Int) - 1 ∧ Below w.heap.size w wr)) (fun _ i _ => (intOf i + 1).toNat)
  case atStart => exact ⟨n, z0, by rw [HPn.out], by first | rfl | rw [eN] | rw [hz0.out], Nat.le_refl _, ⟨hz0.out, BB.out⟩⟩
  case round =>
    clear BB HPn hz0 eN
    obtain ⟨j, z, rfl, rfl, hj, hI⟩ := hrel
    obtain ⟨hz, BB⟩ := hI.out
    clear hI
    replace BB := Lib.hid BB
    by_cases hj0 : 0 < j
    · obtain ⟨k, rfl⟩ : ∃ k, j = k + 1 := ⟨j - 1, by omega⟩
      obtain rfl : z = (k : Int) := by omega
      obtain ⟨c, hx, hP1, hP2⟩ := HX.out k (by omega)
      have k0 : (0 : Int) ≤ (k : Int) := by omega
      have k1 : (k : Int) < (n : Int) := by omega
      obtain ⟨z', hz'⟩ : ∃ z' : Int, z' = (k : Int) - 1 := ⟨_, rfl⟩
      have ew : wrap64 ((k : Int) - 1) = z' := by rw [← hz']; have := hn300.out; exact ww ⟨by omega, by omega⟩
      replace hz' := Lib.hid hz'
      by_cases hc : c = 46
      · have hPk : Hid (P k = k) := hP1 hc
        have f1 : ((c : Int) == 46) = true := by simp; omega
        clear hP1 hP2 hc HX hz
        go_wp2_with fail
        go_roundw
        case rel => exact ⟨k, z', by rw [hPk.out], by first | rfl | rw [ew] | rw [hz'.out], by omega, ⟨hz'.out, BB.out⟩⟩
        case measure => have := hz'.out; simp [intOf] <;> omega
      · have hPk : Hid (P k = P (k + 1)) := hP2 hc
        have f1 : ((c : Int) == 46) = false := by simp; omega
        clear hP1 hP2 hc HX hz
        go_wp2_with fail
        go_roundw
        case rel => exact ⟨k, z', by rw [hPk.out], by first | rfl | rw [ew] | rw [hz'.out], by omega, ⟨hz'.out, BB.out⟩⟩
        case measure => have := hz'.out; simp [intOf] <;> omega
    · obtain rfl : j = 0 := by omega
      obtain rfl : z = -1 := by omega
      clear HX hj hj0 hz
      generalize P 0 = pp at *
      obtain rfl : pp = n := HP0.out
      clear HP0
      go_wp2_with fail
      refine (CD.out _).mono ?_
      rintro e w1 ⟨v_a, z_a, rfl, hb, h_a, hzb, hzv⟩
      replace BB := Lib.hid (below_next BB.out hb)
      clear hb
      obtain ⟨A_a, n_a, cap_a, rfl, -⟩ := id h_a.form
      have h_a := Lib.hid h_a
      go_upto_region 14 with fail
      have d_a := Lib.hid (And.intro BB.out.size (True.intro))
      obtain ⟨hb, r_a⟩ := laid w1 #[.bool (sgn (↑z_a)), .slice A_a n_a cap_a] BT4
      replace h_a := Lib.hid (h_a.out.below hb)
      replace BB := Lib.hid (below_next BB.out hb)
      replace r_a := Lib.hid r_a
      clear hb
      generalize w1.alloc (.cells #[.bool (sgn (↑z_a)), .slice A_a n_a cap_a] BT4) = w2 at *
      generalize w1.heap.size = g_a at *
      have CM := Lib.hid (fun u v w hu hv => mul60 z_a hzb u v w hu hv)
      obtain ⟨M, hM⟩ : ∃ M : Int, M = ((z_a * 65536 : Nat) : Int) := ⟨_, rfl⟩
      have hMw : Wd 217 M := by rw [hM]; exact wd60m hzb
      rw [← hM] at CM
      have hMv : b1 = true → M = (v1 : Int) * 65536 := fun h => by rw [hM, hzv h]; omega
      clear hM hzv hzb
      obtain ⟨Z, hZ⟩ : ∃ Z : Int, Z = -M := ⟨_, rfl⟩
      have hCs1 : Hid (b1 = true → C = some Z) := fun h => by rw [hCy.out h, hZ, hMv h]
      have hZw : Hid (Wd 1400 Z) := by show Wd 1400 Z; rw [hZ]; exact (hMw.neg).up (by omega)
      have CNg : Hid (∀ v w, BR w v M → Calls Tryd.prog 42 #[v] w (GiveB Z w)) := fun v w hv => by rw [hZ]; exact neg_any v M w hv
      clear hMv hCy hZ hMw
      have KK := Lib.hid (fun (w9 : World) (h : Below w2.heap.size w2 w9) => (cells2 (r_a.out.keep h) : (w9.cell? ⟨g_a, 0, none⟩ = some (.bool (sgn (↑z_a))) ∧ w9.cell? ⟨g_a, 1, none⟩ = some (.slice A_a n_a cap_a))))
      have K0 := KK.out w2 (Below.refl _ _)
      have KD := KK.out w2.drew (below_drew (Below.refl _ _))
      refine AnyG.begin_ (fun w9 => (w9.cell? ⟨g_a, 0, none⟩ = some (.bool (sgn (↑z_a))) ∧ w9.cell? ⟨g_a, 1, none⟩ = some (.slice A_a n_a cap_a))) 3 (by kernel_rfl) ?_
      refine AnyG.take (i := 0) (v := ?_) rfl (by kernel_rfl) (by kernel_rfl) (by kernel_rfl) (fun _ _ _ h => h) (by kernel_rfl) (by kernel_rfl) (Or.inl ⟨by rfl, ?_⟩) (by assumption) ?_
      rotate_left
      · intro w9 hSw; (try dsimp only at hSw); go_simp <;> with_reducible rfl
      try simp only [Act.put, List.getElem_toArray, List.getElem_cons_zero, List.getElem_cons_succ, List.setIfInBounds_toArray, List.set_cons_zero, List.set_cons_succ]
      refine AnyG.step (i := 1) (by kernel_rfl) rfl (fun K hK => ?_)
      go_simp
      go_at_call 35
      refine (CW.out _).mono ?_
      rintro e w3 ⟨v_p, rfl, hb, h_p⟩
      obtain ⟨A_p, n_p, cap_p, rfl, -⟩ := id h_p.form
      replace h_p := Lib.hid h_p
      have B_w3 := Lib.hid (reg_next (w0 := w2) (by repeat (first | with_reducible exact Below.refl _ _ | with_reducible apply below_drew | with_reducible apply below_new)) hb)
      have K_w3 := KK.out _ B_w3.out
      clear hb
      refine hK.out _ _ (fun _ => K_w3) (fun hHeld => ?_)
      replace hHeld := hHeld (by decide)
      clear hK
      try simp only [Act.put, List.getElem_toArray, List.getElem_cons_zero, List.getElem_cons_succ, List.setIfInBounds_toArray, List.set_cons_zero, List.set_cons_succ]
      refine AnyG.step (i := 2) (by kernel_rfl) rfl (fun K hK => ?_)
      go_simp
      go_at_call 34
      refine (CM.out _ _ _ (h_a.out.below B_w3.out) h_p.out).mono ?_
      rintro e w4 ⟨v_m, rfl, hb, h_m⟩
      obtain ⟨A_m, n_m, cap_m, rfl, -⟩ := id h_m.form
      replace h_m := Lib.hid h_m
      replace h_p := Lib.hid (h_p.out.below hb)
      have B_w4 := Lib.hid (below_next B_w3.out hb)
      have K_w4 := KK.out _ B_w4.out
      obtain ⟨rc_a0, rc_a1, rf_a0, rf_a1⟩ := reads2 (r_a.out.keep B_w4.out)
      have rl_a := (r_a.out.keep B_w4.out).lt
      clear hb
      refine hK.out _ _ (fun _ => K_w4) (fun hHeld => ?_)
      replace hHeld := hHeld (by decide)
      clear hK
      try simp only [Act.put, List.getElem_toArray, List.getElem_cons_zero, List.getElem_cons_succ, List.setIfInBounds_toArray, List.set_cons_zero, List.set_cons_succ]
      refine AnyG.step (i := 3) (by kernel_rfl) rfl (fun K hK => ?_)
      go_simp
      refine hK.out _ _ (fun h => absurd h (by decide)) (fun _ => ?_)
      clear hK
      try simp only [Act.put, List.getElem_toArray, List.getElem_cons_zero, List.getElem_cons_succ, List.setIfInBounds_toArray, List.set_cons_zero, List.set_cons_succ]
      refine AnyG.done (by kernel_rfl) ?_ _
      clear KK K0 KD K_w3 K_w4
      replace r_a := Lib.hid (r_a.out.keep B_w4.out)
      replace h_a := Lib.hid (h_a.out.below B_w4.out)
      replace BB := Lib.hid (below_next BB.out B_w4.out)
      clear B_w3 B_w4
      clear h_a
      clear h_p
      replace h_m := Lib.hid (h_m.out.far2 r_a.out (by decide) (.bool (sgn M)) (.slice A_m n_m cap_m))
      replace r_a := Lib.hid (r_a.out.set2 (.bool (sgn M)) (.slice A_m n_m cap_m))
      replace BB := Lib.hid (below_far2 BB.out (p := g_a) (by have dd := d_a.out; omega) (.bool (sgn M)) (.slice A_m n_m cap_m))
      generalize ((w4.setCell ⟨g_a, 0, none⟩ (.bool (sgn M))).setCell ⟨g_a, 1, none⟩ (.slice A_m n_m cap_m)) = w5 at *
      obtain ⟨c_a0, c_a1, f_a0, f_a1⟩ := reads2 r_a.out
      have l_a := r_a.out.lt
      go_wp2_with fail
      refine (CNg.out _ _ h_m.out).mono ?_
      rintro e w6 ⟨v_y, rfl, hb, h_y⟩
      obtain ⟨A_y, n_y, cap_y, rfl, -⟩ := id h_y.form
      replace h_y := Lib.hid h_y
      clear c_a0 c_a1 f_a0 f_a1 l_a
      replace r_a := Lib.hid (r_a.out.keep hb)
      replace h_m := Lib.hid (h_m.out.below hb)
      replace BB := Lib.hid (below_next BB.out hb)
      clear hb
      obtain ⟨c_a0, c_a1, f_a0, f_a1⟩ := reads2 r_a.out
      have l_a := r_a.out.lt
      go_upto_region 26 with fail
      replace h_y := Lib.hid (h_y.out.far2 r_a.out (by decide) (.bool (sgn Z)) (.slice A_y n_y cap_y))
      clear h_m
      clear c_a0 c_a1 f_a0 f_a1 l_a
      replace r_a := Lib.hid (r_a.out.set2 (.bool (sgn Z)) (.slice A_y n_y cap_y))
      replace BB := Lib.hid (below_far2 BB.out (p := g_a) (by have dd := d_a.out; omega) (.bool (sgn Z)) (.slice A_y n_y cap_y))
      generalize ((w6.setCell ⟨g_a, 0, none⟩ (.bool (sgn Z))).setCell ⟨g_a, 1, none⟩ (.slice A_y n_y cap_y)) = w7 at *

      cases b1 with
      | false =>
        have hCq := Lib.hid (hCn.out rfl)
        go_wp2_with fail
        refine bodyPost_ret (v := .tuple #[.int .i64 0, .bool false]) (by unfold results; simp only [Tryd.results23]; go_simp) rfl ?_
        exact cast_fin hCq.out (give_none BB.out)
      | true =>
        have hCs := Lib.hid (hCs1.out rfl)
        clear hCs1 hCn
        obtain ⟨Q, hQ⟩ : ∃ Q : ByteArray, Q = ⟨(sT Z).toArray⟩ := ⟨_, rfl⟩
        have hq1 := str_eq (sT Z) (45 :: t)
        rw [← hQ, ← hs.out] at hq1
        obtain ⟨same, hsame⟩ : ∃ b : Bool, b = decide (sT Z = (45 :: t)) := ⟨_, rfl⟩
        rw [← hsame] at hq1
        have hq2 : (Q.toList != s.toList) = !same := by rw [bne, hq1]
        have CF := Lib.hid (fun (v : Value) w (h : BR w v Z) => rfits_any v Z 63 (by omega) w h hZw.out)
        have CSm := Lib.hid (fun (h : fitsB Z 63 = true) (v : Value) w (hv : BR w v Z) => small_any v Z w hv (fits_63.1 h))
        have CSh : Hid (fitsB Z 63 = true → ∀ w, Calls Tryd.prog 24 #[.int .i64 Z] w fun e w' => e = .returned (.string Q) ∧ Below w.heap.size w w') := fun h w => by rw [hQ]; exact r4show Z (fits_63.1 h) w
        replace hsame := Lib.hid hsame
        obtain ⟨fb, hfb⟩ : ∃ x, x = fitsB Z 63 := ⟨_, rfl⟩
        rw [← hfb] at CF CSm CSh
        replace hfb := Lib.hid hfb
        clear hQ
        obtain ⟨c_a0, c_a1, f_a0, f_a1⟩ := reads2 r_a.out
        have l_a := r_a.out.lt
        go_wp2_with fail
        refine (CF.out _ _ h_y.out).mono ?_
        rintro e w8 ⟨rfl, hb⟩
        clear c_a0 c_a1 f_a0 f_a1 l_a
        replace r_a := Lib.hid (r_a.out.keep hb)
        replace h_y := Lib.hid (h_y.out.below hb)
        replace BB := Lib.hid (below_next BB.out hb)
        clear hb
        cases fb with
        | false =>
          go_wp2_with fail
          refine bodyPost_ret (v := .tuple #[.int .i64 0, .bool false]) (by unfold results; simp only [Tryd.results23]; go_simp) rfl ?_
          exact cast_fin hCs.out (give_far hfb.out.symm BB.out)
        | true =>
          have DSm := Lib.hid (fun (v : Value) w (hv : BR w v Z) => CSm.out rfl v w hv)
          have DSh := Lib.hid (fun w => CSh.out rfl w)
          clear CSm CSh
          obtain ⟨c_a0, c_a1, f_a0, f_a1⟩ := reads2 r_a.out
          have l_a := r_a.out.lt
          go_wp2_with fail
          refine (DSm.out _ _ h_y.out).mono ?_
          rintro e w10 ⟨rfl, hb⟩
          clear c_a0 c_a1 f_a0 f_a1 l_a
          replace r_a := Lib.hid (r_a.out.keep hb)
          replace h_y := Lib.hid (h_y.out.below hb)
          replace BB := Lib.hid (below_next BB.out hb)
          clear hb
          go_wp2_with fail
          refine (DSh.out _).mono ?_
          rintro e w11 ⟨rfl, hb⟩
          replace r_a := Lib.hid (r_a.out.keep hb)
          replace h_y := Lib.hid (h_y.out.below hb)
          replace BB := Lib.hid (below_next BB.out hb)
          clear hb
          cases same with
          | false =>
            go_wp2_with fail
            refine bodyPost_ret (v := .tuple #[.int .i64 0, .bool false]) (by unfold results; simp only [Tryd.results23]; go_simp) rfl ?_
            exact cast_fin hCs.out (give_ne (of_decide_eq_false hsame.out.symm) BB.out)
          | true =>
            obtain ⟨c_a0, c_a1, f_a0, f_a1⟩ := reads2 r_a.out
            have l_a := r_a.out.lt
            go_wp2_with fail
            refine (DSm.out _ _ h_y.out).mono ?_
            rintro e w12 ⟨rfl, hb⟩
            clear c_a0 c_a1 f_a0 f_a1 l_a
            replace r_a := Lib.hid (r_a.out.keep hb)
            replace h_y := Lib.hid (h_y.out.below hb)
            replace BB := Lib.hid (below_next BB.out hb)
            clear hb
            go_wp2_with fail
            refine bodyPost_ret (v := .tuple #[.int .i64 Z, .bool true]) (by unfold results; simp only [Tryd.results23]; go_simp) rfl ?_
            exact cast_fin hCs.out (give_eq hfb.out.symm (of_decide_eq_true hsame.out.symm) BB.out)


end Go.Proofs.YthdbchghhpoadaaDoor
