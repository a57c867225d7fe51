/- fix.Show at any number; fix.number and fix.parts at any text. -/
import Derived.Test.YthdbchghhpoadaaDoorFx5
import Derived.Test.YthdbchghhpoadaaDoorFxM
import Derived.Test.YthdbchghhpoadaaDoorFxN
import Derived.Laws.RangeAny
set_option linter.unusedVariables false
set_option linter.unusedSimpArgs false
namespace Go.Proofs.YthdbchghhpoadaaDoor
open Go.RowKit
abbrev Tab (w : World) : Prop := Lib.TabIs Tryd.prog w "internal/strconv.uint64pow10" .u64 Lib.pow10Tab
theorem tab_on {w w' : World} (h : Tab w) (hb : Below w.heap.size w w') : Tab w' := Lib.tabBelow_of_tabIs h w' hb
theorem fshow (x : Int) (hx : I64 x) (w : World) (ht : Tab w) : Calls Tryd.prog 21 #[.int .i64 x] w fun e w' => e = .returned (.string ⟨(sT x).toArray⟩) ∧ Below w.heap.size w w' := by
  have hb : x.natAbs / 65536 ≤ 140737488355328 := by unfold I64 at hx; omega
  exact show_at x hx _ (Nat.le_trans (dec_len 14 (x.natAbs / 65536) (by omega)) (by omega)) w (fmt_any (x.natAbs / 65536) (by omega) w ht)
theorem str_len (l : List UInt8) : (⟨l.toArray⟩ : ByteArray).size = l.length := by simp [ByteArray.size]
theorem str_at (l : List UInt8) (k : Nat) (h : k < (⟨l.toArray⟩ : ByteArray).size) : (⟨l.toArray⟩ : ByteArray)[k]'h = l[k]'(by rw [str_len] at h; exact h) := by
  show l.toArray[k]'_ = _
  simp
theorem str_dgt {l : List UInt8} {k : Nat} (h : k < l.length) : dgt ⟨l.toArray⟩ k = l[k].toNat := by
  rw [dgt_at (by rw [str_len]; exact h), str_at]
theorem str_digits {l : List UInt8} (hd : isD l) : ∀ k, k < (⟨l.toArray⟩ : ByteArray).size → 48 ≤ dgt ⟨l.toArray⟩ k ∧ dgt ⟨l.toArray⟩ k ≤ 57 := by
  intro k hk
  rw [str_len] at hk
  rw [str_dgt hk]
  exact hd _ (List.getElem_mem hk)
theorem str_dec (l : List UInt8) : ∀ k, k ≤ l.length → decV ⟨l.toArray⟩ k = decL (l.take k)
  | 0, _ => by simp [decV, decL]
  | k + 1, h => by
    show 10 * decV _ k + (dgt _ k - 48) = _
    have e : l.take (k + 1) = l.take k ++ [l[k]] := by rw [List.take_add_one, List.getElem?_eq_getElem h]; rfl
    rw [str_dec l k (by omega), str_dgt h, e, decL_app]
theorem str_nil {l : List UInt8} : ((⟨l.toArray⟩ : ByteArray).toList == []) = decide (l = []) := by
  cases l with
  | nil => decide +kernel
  | cons c l =>
    simp
theorem num_yes (l : List UInt8) (h0 : 0 < l.length) (h1 : l.length ≤ 18) (hd : isD l) (w : World) : Calls Tryd.prog 48 #[.string ⟨l.toArray⟩] w fun e w' => e = .returned (.tuple #[.int .u64 (decL l : Int), .bool true]) ∧ Below w.heap.size w w' := by
  have h := number_ok ⟨l.toArray⟩ (by rw [str_len]; exact h0) (by rw [str_len]; exact h1) (by rw [str_nil]; simp; rintro rfl; simp at h0) (str_digits hd) w
  rw [str_len, str_dec l _ (Nat.le_refl _), List.take_length] at h
  exact h
theorem part_yes (l : List UInt8) (h0 : 0 < l.length) (h1 : l.length ≤ 16) (hd : isD l) (w : World) : Calls Tryd.prog 49 #[.string ⟨l.toArray⟩] w fun e w' => e = .returned (.tuple #[.int .i64 ((decL l * 65536 / 10 ^ l.length : Nat) : Int), .bool true]) ∧ Below w.heap.size w w' := by
  have h := parts_ok ⟨l.toArray⟩ (by rw [str_len]; exact h0) (by rw [str_len]; exact h1) (by rw [str_nil]; simp; rintro rfl; simp at h0) (str_digits hd) w
  rw [str_len, str_dec l _ (Nat.le_refl _), List.take_length] at h
  have e : ((decL l * 65536 / 10 ^ l.length : Nat) : Int) = (decL l : Int) * 65536 / ((10 ^ l.length : Nat) : Int) := by rw [Int.natCast_ediv]; simp
  rw [e]
  exact h
/-- The first sign that is no digit. -/
theorem first_bad : ∀ {l : List UInt8}, ¬ isD l → ∃ k, ∃ h : k < l.length, (∀ j (hj : j < k), 48 ≤ (l[j]'(by omega)).toNat ∧ (l[j]'(by omega)).toNat ≤ 57) ∧ ¬ (48 ≤ l[k].toNat ∧ l[k].toNat ≤ 57)
  | [], h => absurd (fun c hc => by simp at hc) h
  | c :: l, h => by
    by_cases hc : 48 ≤ c.toNat ∧ c.toNat ≤ 57
    · obtain ⟨k, hk, h1, h2⟩ := first_bad (l := l) (fun hd => h (fun x hx => by
        rcases List.mem_cons.1 hx with rfl | hx
        · exact hc
        · exact hd x hx))
      refine ⟨k + 1, by simp; omega, fun j hj => ?_, by simpa using h2⟩
      cases j with
      | zero => exact hc
      | succ j => exact h1 j (by omega)
    · exact ⟨0, by simp, fun j hj => by omega, by simpa using hc⟩
set_option maxRecDepth 100000 in
theorem num_short (l : List UInt8) (h : l = [] ∨ 18 < l.length) (w : World) : Calls Tryd.prog 48 #[.string ⟨l.toArray⟩] w fun e w' => e = .returned (.tuple #[.int .u64 0, .bool false]) ∧ Below w.heap.size w w' := by
  rcases h with rfl | h
  · have hs : ((⟨([] : List UInt8).toArray⟩ : ByteArray).toList == []) = true := by decide +kernel
    go_enter Tryd.func48, Tryd.ntmps48
    go_wp2_with fail
    refine bodyPost_ret (v := .tuple #[.int .u64 0, .bool false]) (by unfold results; simp only [Tryd.results48]; go_simp) rfl ?_
    exact ⟨rfl, Below.refl _ _⟩
  · have hs : ((⟨l.toArray⟩ : ByteArray).toList == []) = false := by rw [str_nil]; simp; rintro rfl; simp at h
    have g1 : (18 : Int) < ((⟨l.toArray⟩ : ByteArray).size : Int) := by rw [str_len]; omega
    generalize (⟨l.toArray⟩ : ByteArray) = s at *
    go_enter Tryd.func48, Tryd.ntmps48
    go_wp2_with fail
    refine bodyPost_ret (v := .tuple #[.int .u64 0, .bool false]) (by unfold results; simp only [Tryd.results48]; go_simp) rfl ?_
    exact ⟨rfl, Below.refl _ _⟩
set_option maxRecDepth 100000 in
theorem num_bad (l : List UInt8) (h0 : 0 < l.length) (h1 : l.length ≤ 18) (hd : ¬ isD l) (w : World) : Calls Tryd.prog 48 #[.string ⟨l.toArray⟩] w fun e w' => e = .returned (.tuple #[.int .u64 0, .bool false]) ∧ Below w.heap.size w w' := by
  obtain ⟨k0, hk0, hgood, hbad⟩ := first_bad hd
  have hs : ((⟨l.toArray⟩ : ByteArray).toList == []) = false := by rw [str_nil]; simp; rintro rfl; simp at h0
  have g1 : ¬ ((18 : Int) < ((⟨l.toArray⟩ : ByteArray).size : Int)) := by rw [str_len]; omega
  obtain ⟨s, hse⟩ : ∃ s : ByteArray, s = ⟨l.toArray⟩ := ⟨_, rfl⟩
  have hkz : k0 < s.size := by rw [hse, str_len]; exact hk0
  have hd : Hid (∀ k, k < k0 → 48 ≤ dgt s k ∧ dgt s k ≤ 57) := fun k hk => by rw [hse, str_dgt (by omega)]; exact hgood k hk
  have hbk : ¬ (48 ≤ (s[k0]'hkz).toNat ∧ (s[k0]'hkz).toNat ≤ 57) := by rw [← dgt_at hkz, hse, str_dgt hk0]; exact hbad
  rw [← hse] at hs g1 ⊢
  have hb : Hid (∀ k, k ≤ k0 → decV s k < 1000000000000000000) := by
    intro k hk
    have hl : ∀ k, k ≤ k0 → decV s k < 10 ^ k := by
      intro k
      induction k with
      | zero => intro _; simp [decV]
      | succ k ih =>
        intro h
        have := ih (by omega)
        have := hd k (by omega)
        show 10 * decV s k + (dgt s k - 48) < _
        rw [Nat.pow_succ]
        omega
    exact Nat.lt_of_lt_of_le (hl k hk) (Nat.le_trans (Nat.pow_le_pow_right (by omega) (show k ≤ 18 by omega)) (by decide))
  clear hse hgood hbad h0 h1 hk0
  go_enter Tryd.func48, Tryd.ntmps48
  go_wp2_with fail
  go_loopw [4, 6] (fun a _ wr => ∃ k : Nat, k ≤ k0 ∧ a = .int .u64 (decV s k : Int) ∧ wr = w.iter s k) (fun a _ wr => s.size - (match wr.heap[w.heap.size]? with | some (.stringIter _ p) => p | _ => 0))
  case atStart => exact ⟨0, by omega, rfl, rfl⟩
  case round =>
    obtain ⟨k, hk, rfl, rfl⟩ := hrel
    by_cases hlt : k < k0
    · have hks : k < s.size := by omega
      have q := hd.out k hlt
      have qd := dgt_at hks
      have hnx := fun ty => run_next_ascii (P := Tryd.prog) w s k ty hks (by omega)
      have b1 := hb.out k (by omega)
      have hN := Lib.hid (show ((decV s (k + 1) : Nat) : Int) = 10 * (decV s k : Int) + ((dgt s k : Int) - 48) from by show ((10 * decV s k + (dgt s k - 48) : Nat) : Int) = _; omega)
      rw [← qd] at hnx
      generalize dgt s k = c at *
      generalize decV s k = V at *
      clear qd
      go_wp2_with fail
      go_roundw
      case rel => exact ⟨k + 1, hlt, by rw [hN.out], rfl⟩
      case measure => rw [World.iter_heap, World.iter_heap]; exact Nat.sub_succ_lt_self _ _ hks
    · obtain rfl : k = k0 := by omega
      have hnx := fun ty => run_next_any (P := Tryd.prog) w s k ty hkz
      have hr : (Utf8.decode s k).1 < 48 ∨ 57 < (Utf8.decode s k).1 := by
        by_cases ha : (s[k]'hkz).toNat < 128
        · rw [decode_ascii s k hkz ha]
          show (s[k]'hkz).toNat < 48 ∨ 57 < (s[k]'hkz).toNat
          omega
        · have := (decode_high s k hkz (by omega)).1
          omega
      have hl := decode_le s k
      generalize (Utf8.decode s k).2 = m at *
      generalize (Utf8.decode s k).1 = c at *
      generalize decV s k = V at *
      clear hbk hd hb
      rcases hr with hr | hr
      · have q1 : (c : Int) < 48 := by omega
        go_wp2_with fail
        refine bodyPost_ret (v := .tuple #[.int .u64 0, .bool false]) (by unfold results; simp only [Tryd.results48]; go_simp) rfl ?_
        exact ⟨rfl, below_new (Below.refl _ _) _⟩
      · have q1 : ¬ (c : Int) < 48 := by omega
        have q2 : (57 : Int) < (c : Int) := by omega
        go_wp2_with fail
        refine bodyPost_ret (v := .tuple #[.int .u64 0, .bool false]) (by unfold results; simp only [Tryd.results48]; go_simp) rfl ?_
        exact ⟨rfl, below_new (Below.refl _ _) _⟩
/-- Where there is no number. -/
theorem num_no (l : List UInt8) (h : numO l = none) (w : World) : Calls Tryd.prog 48 #[.string ⟨l.toArray⟩] w fun e w' => e = .returned (.tuple #[.int .u64 0, .bool false]) ∧ Below w.heap.size w w' := by
  unfold numO at h
  split at h
  · cases h
  · rename_i hh
    by_cases h0 : 0 < l.length ∧ l.length ≤ 18
    · exact num_bad l h0.1 h0.2 (fun hd => hh ⟨h0.1, h0.2, hd⟩) w
    · exact num_short l (by
        cases l with
        | nil => exact .inl rfl
        | cons c l => exact .inr (by simp at h0 ⊢; omega)) w
theorem num_is (l : List UInt8) (n : Nat) (h : numO l = some n) (w : World) : n < 1000000000000000000 ∧ Calls Tryd.prog 48 #[.string ⟨l.toArray⟩] w fun e w' => e = .returned (.tuple #[.int .u64 (n : Int), .bool true]) ∧ Below w.heap.size w w' := by
  unfold numO at h
  split at h
  · rename_i hh
    cases h
    refine ⟨Nat.lt_of_lt_of_le (decL_lt hh.2.2) (Nat.le_trans (Nat.pow_le_pow_right (by omega) hh.2.1) (by decide)), num_yes l hh.1 hh.2.1 hh.2.2 w⟩
  · cases h
set_option maxRecDepth 100000 in
theorem part_no (l : List UInt8) (h : partO l = none) (w : World) : Calls Tryd.prog 49 #[.string ⟨l.toArray⟩] w fun e w' => e = .returned (.tuple #[.int .i64 0, .bool false]) ∧ Below w.heap.size w w' := by
  by_cases hn : numO l = none
  · have C := Lib.hid (fun w => num_no l hn w)
    generalize (⟨l.toArray⟩ : ByteArray) = s at *
    clear h hn
    go_enter Tryd.func49, Tryd.ntmps49
    go_wp2_with fail
    have BB : Hid (Below w.heap.size w w) := Below.refl _ _
    refine (C.out _).mono ?_
    rintro e w1 ⟨rfl, hb⟩
    replace BB := Lib.hid (below_next BB.out hb)
    clear hb
    go_wp2_with fail
    refine bodyPost_ret (v := .tuple #[.int .i64 0, .bool false]) (by unfold results; simp only [Tryd.results49]; go_simp) rfl ?_
    exact ⟨rfl, BB.out⟩
  · obtain ⟨n, hn⟩ : ∃ n, numO l = some n := by
      cases e : numO l with
      | none => exact absurd e hn
      | some n => exact ⟨n, rfl⟩
    have C := Lib.hid (fun w => (num_is l n hn w).2)
    have g1 : (16 : Int) < ((⟨l.toArray⟩ : ByteArray).size : Int) := by
      rw [str_len]
      unfold partO at h
      unfold numO at hn
      split at hn
      · rename_i hh
        split at h
        · cases h
        · rename_i h2
          by_cases h3 : l.length ≤ 16
          · exact absurd ⟨hh.1, h3, hh.2.2⟩ h2
          · omega
      · cases hn
    generalize (⟨l.toArray⟩ : ByteArray) = s at *
    clear h hn
    go_enter Tryd.func49, Tryd.ntmps49
    go_wp2_with fail
    have BB : Hid (Below w.heap.size w w) := Below.refl _ _
    refine (C.out _).mono ?_
    rintro e w1 ⟨rfl, hb⟩
    replace BB := Lib.hid (below_next BB.out hb)
    clear hb
    go_wp2_with fail
    refine bodyPost_ret (v := .tuple #[.int .i64 0, .bool false]) (by unfold results; simp only [Tryd.results49]; go_simp) rfl ?_
    exact ⟨rfl, BB.out⟩
theorem part_is (l : List UInt8) (p : Nat) (h : partO l = some p) (w : World) : p < 65536 ∧ Calls Tryd.prog 49 #[.string ⟨l.toArray⟩] w fun e w' => e = .returned (.tuple #[.int .i64 (p : Int), .bool true]) ∧ Below w.heap.size w w' := by
  unfold partO at h
  split at h
  · rename_i hh
    cases h
    have := decL_lt hh.2.2
    refine ⟨Nat.div_lt_of_lt_mul (by omega), part_yes l hh.1 hh.2.1 hh.2.2 w⟩
  · cases h
end Go.Proofs.YthdbchghhpoadaaDoor
