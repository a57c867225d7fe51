/- strings.CutPrefix at "-", strings.Cut at ".", of any text. -/
import Derived.Test.YthdbchghhpoadaaDoorFxO
import Derived.Laws.Externs
set_option linter.unusedVariables false
set_option linter.unusedSimpArgs false
namespace Go.Proofs.YthdbchghhpoadaaDoor
open Go.RowKit
set_option maxRecDepth 100000 in
theorem pre_t_p (s : ByteArray) (hs : 1 ≤ s.size) (hq : ((s.extract 0 1).toList == [45]) = true) (w : World) : Calls Tryd.prog 75 #[.string s, .string ⟨#[45]⟩] w fun e w' => e = .returned (.bool true) ∧ w = w' := by
  have g1 : ¬ (s.size : Int) < 1 := by omega
  go_enter Tryd.func75, Tryd.ntmps75
  go_wp2_with fail
  go_ret
  exact ⟨rfl, rfl⟩
set_option maxRecDepth 100000 in
theorem pre_f_p (s : ByteArray) (hs : 1 ≤ s.size) (hq : ((s.extract 0 1).toList == [45]) = false) (w : World) : Calls Tryd.prog 75 #[.string s, .string ⟨#[45]⟩] w fun e w' => e = .returned (.bool false) ∧ w = w' := by
  have g1 : ¬ (s.size : Int) < 1 := by omega
  go_enter Tryd.func75, Tryd.ntmps75
  go_wp2_with fail
  go_ret
  exact ⟨rfl, rfl⟩
set_option maxRecDepth 100000 in
theorem pre_e_p (s : ByteArray) (hs : s.size = 0) (w : World) : Calls Tryd.prog 75 #[.string s, .string ⟨#[45]⟩] w fun e w' => e = .returned (.bool false) ∧ w = w' := by
  have g1 : (s.size : Int) < 1 := by omega
  have g2 : (s.size : Int) = 0 := by omega
  go_enter Tryd.func75, Tryd.ntmps75
  go_wp2_with fail
  go_ret
  exact ⟨rfl, rfl⟩
set_option maxRecDepth 100000 in
theorem cpy_q (s t : ByteArray) (C : Hid (∀ w, Calls Tryd.prog 75 #[.string s, .string ⟨#[45]⟩] w fun e w' => e = .returned (.bool true) ∧ w = w')) (hs : 1 ≤ s.size ∧ s.extract 1 s.size = t) (w : World) : Calls Tryd.prog 66 #[.string s, .string ⟨#[45]⟩] w fun e w' => e = .returned (.tuple #[.string t, .bool true]) ∧ w = w' := by
  obtain ⟨h1, h2⟩ := hs
  go_enter Tryd.func66, Tryd.ntmps66
  go_wp2_with fail
  refine (C.out _).mono ?_; rintro e w9 ⟨rfl, rfl⟩
  go_wp2_with fail
  refine bodyPost_ret (v := .tuple #[.string t, .bool true]) (by unfold results; simp only [Tryd.results66]; go_simp) rfl ?_
  exact ⟨rfl, rfl⟩
set_option maxRecDepth 100000 in
theorem cpy_r (s t : ByteArray) (C : Hid (∀ w, Calls Tryd.prog 75 #[.string s, .string ⟨#[45]⟩] w fun e w' => e = .returned (.bool true) ∧ w = w')) (hs : 1 ≤ s.size ∧ s.extract 1 s.size = t) (w : World) : Calls Tryd.prog 46 #[.string s, .string ⟨#[45]⟩] w fun e w' => e = .returned (.tuple #[.string t, .bool true]) ∧ w = w' := by
  have D := Lib.hid (fun w => cpy_q s t C hs w)
  clear C hs
  go_enter Tryd.func46, Tryd.ntmps46
  go_wp2_with fail
  refine (D.out _).mono ?_; rintro e w9 ⟨rfl, rfl⟩
  go_wp2_with fail
  refine bodyPost_ret (v := .tuple #[.string t, .bool true]) (by unfold results; simp only [Tryd.results46]; go_simp) rfl ?_
  exact ⟨rfl, rfl⟩
set_option maxRecDepth 100000 in
theorem cpn_q (s t : ByteArray) (C : Hid (∀ w, Calls Tryd.prog 75 #[.string s, .string ⟨#[45]⟩] w fun e w' => e = .returned (.bool false) ∧ w = w')) (hs : True) (w : World) : Calls Tryd.prog 66 #[.string s, .string ⟨#[45]⟩] w fun e w' => e = .returned (.tuple #[.string s, .bool false]) ∧ w = w' := by
  skip
  go_enter Tryd.func66, Tryd.ntmps66
  go_wp2_with fail
  refine (C.out _).mono ?_; rintro e w9 ⟨rfl, rfl⟩
  go_wp2_with fail
  refine bodyPost_ret (v := .tuple #[.string s, .bool false]) (by unfold results; simp only [Tryd.results66]; go_simp) rfl ?_
  exact ⟨rfl, rfl⟩
set_option maxRecDepth 100000 in
theorem cpn_r (s t : ByteArray) (C : Hid (∀ w, Calls Tryd.prog 75 #[.string s, .string ⟨#[45]⟩] w fun e w' => e = .returned (.bool false) ∧ w = w')) (hs : True) (w : World) : Calls Tryd.prog 46 #[.string s, .string ⟨#[45]⟩] w fun e w' => e = .returned (.tuple #[.string s, .bool false]) ∧ w = w' := by
  have D := Lib.hid (fun w => cpn_q s t C hs w)
  clear C hs
  go_enter Tryd.func46, Tryd.ntmps46
  go_wp2_with fail
  refine (D.out _).mono ?_; rintro e w9 ⟨rfl, rfl⟩
  go_wp2_with fail
  refine bodyPost_ret (v := .tuple #[.string s, .bool false]) (by unfold results; simp only [Tryd.results46]; go_simp) rfl ?_
  exact ⟨rfl, rfl⟩
theorem str_extract (l : List UInt8) (a b : Nat) (hb : b ≤ l.length) : (⟨l.toArray⟩ : ByteArray).extract a b = ⟨((l.drop a).take (b - a)).toArray⟩ := by
  apply ByteArray.ext
  simp [ByteArray.data_extract]
theorem cp_yes (t : List UInt8) (w : World) : Calls Tryd.prog 46 #[.string ⟨(45 :: t).toArray⟩, .string ⟨#[45]⟩] w fun e w' => e = .returned (.tuple #[.string ⟨t.toArray⟩, .bool true]) ∧ w = w' := by
  refine cpy_r _ _ (fun w => pre_t_p _ (by rw [str_len]; simp) ?_ w) ⟨by rw [str_len]; simp, ?_⟩ w
  · rw [str_extract _ _ _ (by simp)]; simp
  · rw [str_extract _ _ _ (by rw [str_len]; exact Nat.le_refl _), str_len]; simp
theorem cp_no (l : List UInt8) (h : l.head? ≠ some 45) (w : World) : Calls Tryd.prog 46 #[.string ⟨l.toArray⟩, .string ⟨#[45]⟩] w fun e w' => e = .returned (.tuple #[.string ⟨l.toArray⟩, .bool false]) ∧ w = w' := by
  cases l with
  | nil => exact cpn_r _ ⟨#[]⟩ (fun w => pre_e_p _ (by rw [str_len]; rfl) w) trivial w
  | cons c l =>
    refine cpn_r _ ⟨#[]⟩ (fun w => pre_f_p _ (by rw [str_len]; simp) ?_ w) trivial w
    rw [str_extract _ _ _ (by simp)]
    have hc : c ≠ 45 := fun e => h (by simp [e])
    have e : (⟨(List.take (1 - 0) (List.drop 0 (c :: l))).toArray⟩ : ByteArray).toList = [c] := by
      simp
    rw [e]
    simp [hc]
theorem find_first {p : Nat → Bool} : ∀ {n k : Nat}, k < n → p k = true → (∀ j, j < k → p j = false) → (List.range n).find? p = some k := by
  intro n k hk hp hj
  rw [List.find?_range_eq_some]
  exact ⟨hp, by simpa using hk, fun j h => by simp [hj j h]⟩
theorem idx_yes (h r : List UInt8) (hn : 46 ∉ h) : firstIdx ⟨(h ++ 46 :: r).toArray⟩ (46 : Int).toNat.toUInt8 = (h.length : Int) := by
  unfold firstIdx
  rw [find_first (k := h.length) (by rw [str_len]; simp) ?_ ?_]
  · rw [getElem!_pos _ _ (by rw [str_len]; simp), str_at]
    simp
  · intro j hj
    rw [getElem!_pos _ _ (by rw [str_len]; simp; omega), str_at]
    rw [List.getElem_append_left hj]
    have : h[j] ∈ h := List.getElem_mem hj
    simp
    intro e
    rw [e] at this
    exact hn this
theorem idx_no (l : List UInt8) (hn : 46 ∉ l) : firstIdx ⟨l.toArray⟩ (46 : Int).toNat.toUInt8 = -1 := by
  unfold firstIdx
  have : (List.range (⟨l.toArray⟩ : ByteArray).size).find? (fun i => (⟨l.toArray⟩ : ByteArray)[i]! == (46 : Int).toNat.toUInt8) = none := by
    rw [List.find?_eq_none]
    intro j hj
    have hj' : j < (⟨l.toArray⟩ : ByteArray).size := List.mem_range.1 hj
    rw [getElem!_pos (⟨l.toArray⟩ : ByteArray) j hj', str_at]
    have hm : l[j]'(by rw [str_len] at hj'; exact hj') ∈ l := List.getElem_mem _
    simp
    intro e
    rw [e] at hm
    exact hn hm
  rw [this]
set_option maxRecDepth 100000 in
theorem ix_x (s : ByteArray) (i : Int) (hi : firstIdx s (46 : Int).toNat.toUInt8 = i) (w : World) : (callFunc 89 #[.string s, .int .u8 46]).run Tryd.prog w = .ok (.value (.int .i64 i)) w := by
  rw [run_callFunc_extern Tryd.func89 (by kernel_rfl) (by kernel_rfl) (by kernel_rfl) (e := Extern.BytealgIndexByte.indexByte) (by kernel_rfl), run_indexByte_string, hi]; rfl
set_option maxRecDepth 100000 in
theorem ix_b (s : ByteArray) (i : Int) (hi : firstIdx s (46 : Int).toNat.toUInt8 = i) (w : World) : Calls Tryd.prog 83 #[.string s, .int .u8 46] w fun e w' => e = .returned (.int .i64 i) ∧ w = w' := by
  have h := fun w => ix_x s i hi w
  clear hi
  go_enter Tryd.func83, Tryd.ntmps83
  go_wp2_with fail
  go_ret
  exact ⟨rfl, rfl⟩
set_option maxRecDepth 100000 in
theorem ix_ne (s : ByteArray) (i : Int) (he : ([46] == s.toList) = false) (hi : firstIdx s (46 : Int).toNat.toUInt8 = i) (w : World) : Calls Tryd.prog 76 #[.string s, .string ⟨#[46]⟩] w fun e w' => e = .returned (.int .i64 i) ∧ w = w' := by
  have C := Lib.hid (fun w => ix_b s i hi w)
  clear hi
  go_enter Tryd.func76, Tryd.ntmps76
  go_wp2_with fail
  refine (C.out _).mono ?_; rintro e w9 ⟨rfl, rfl⟩
  go_wp2_with fail
  go_ret
  exact ⟨rfl, rfl⟩
set_option maxRecDepth 100000 in
theorem ix_eq (s : ByteArray) (he : ([46] == s.toList) = true) (w : World) : Calls Tryd.prog 76 #[.string s, .string ⟨#[46]⟩] w fun e w' => e = .returned (.int .i64 0) ∧ w = w' := by
  go_enter Tryd.func76, Tryd.ntmps76
  go_wp2_with fail
  go_ret
  exact ⟨rfl, rfl⟩
theorem ix_i (l : List UInt8) (i : Int) (hi : firstIdx ⟨l.toArray⟩ (46 : Int).toNat.toUInt8 = i) (w : World) : Calls Tryd.prog 76 #[.string ⟨l.toArray⟩, .string ⟨#[46]⟩] w fun e w' => e = .returned (.int .i64 i) ∧ w = w' := by
  have h46 : ([46] == (⟨l.toArray⟩ : ByteArray).toList) = decide (l = [46]) := by
    simp
    by_cases h : l = [46]
    · subst h; rfl
    · have h2 : ¬ [46] = l := fun e => h e.symm
      simp [h, h2]
  by_cases h : l = [46]
  · subst h
    obtain rfl : i = 0 := by rw [← hi]; decide +kernel
    exact ix_eq _ (by rw [h46]; simp) w
  · exact ix_ne _ i (by rw [h46]; simp [h]) hi w
set_option maxRecDepth 100000 in
theorem ct_yes_c (s a b : ByteArray) (i : Nat) (h1 : i < s.size) (hz : s.size ≤ 4611686018427387904) (C : Hid (∀ w, Calls Tryd.prog 76 #[.string s, .string ⟨#[46]⟩] w fun e w' => e = .returned (.int .i64 (i : Int)) ∧ w = w')) (ha : s.extract 0 i = a) (hb : s.extract (i + 1) s.size = b) (w : World) : Calls Tryd.prog 67 #[.string s, .string ⟨#[46]⟩] w fun e w' => e = .returned (.tuple #[.string a, .string b, .bool true]) ∧ Below w.heap.size w w' := by
  have g1 : (i : Int) ≤ (s.size : Int) := by omega
  have g2 : (i : Int) + 1 ≤ (s.size : Int) := by omega
  have g3 : ¬ (i : Int) + 1 < 0 := by omega
  have ew : IntKind.i64.wrap ((i : Int) + 1) = ((i + 1 : Nat) : Int) := by rw [show (i : Int) + 1 = ((i + 1 : Nat) : Int) by omega]; exact iw ⟨by omega, by omega⟩
  clear hz
  go_enter Tryd.func67, Tryd.ntmps67
  go_wp2_with fail
  refine (C.out _).mono ?_; rintro e w9 ⟨rfl, rfl⟩
  go_wp2_with fail
  go_quiet (fail)
  go_wp2_with fail
  refine bodyPost_ret (v := .tuple #[.string a, .string b, .bool true]) (by unfold results; simp only [Tryd.results67]; go_simp) rfl ?_
  exact ⟨rfl, below_drawn (Below.refl _ _) _⟩
set_option maxRecDepth 100000 in
theorem ct_no_c (s : ByteArray) (C : Hid (∀ w, Calls Tryd.prog 76 #[.string s, .string ⟨#[46]⟩] w fun e w' => e = .returned (.int .i64 (-1)) ∧ w = w')) (w : World) : Calls Tryd.prog 67 #[.string s, .string ⟨#[46]⟩] w fun e w' => e = .returned (.tuple #[.string s, .string ⟨#[]⟩, .bool false]) ∧ Below w.heap.size w w' := by
  go_enter Tryd.func67, Tryd.ntmps67
  go_wp2_with fail
  refine (C.out _).mono ?_; rintro e w9 ⟨rfl, rfl⟩
  go_wp2_with fail
  refine bodyPost_ret (v := .tuple #[.string s, .string ⟨#[]⟩, .bool false]) (by unfold results; simp only [Tryd.results67]; go_simp) rfl ?_
  exact ⟨rfl, by repeat (first | exact Below.refl _ _ | apply below_drew)⟩
set_option maxRecDepth 100000 in
theorem ct_top (s a b : ByteArray) (o : Bool) (C : Hid (∀ w, Calls Tryd.prog 67 #[.string s, .string ⟨#[46]⟩] w fun e w' => e = .returned (.tuple #[.string a, .string b, .bool o]) ∧ Below w.heap.size w w')) (w : World) : Calls Tryd.prog 47 #[.string s, .string ⟨#[46]⟩] w fun e w' => e = .returned (.tuple #[.string a, .string b, .bool o]) ∧ Below w.heap.size w w' := by
  go_enter Tryd.func47, Tryd.ntmps47
  go_wp2_with fail
  refine (C.out _).mono ?_; rintro e w9 ⟨rfl, hb⟩
  go_wp2_with fail
  refine bodyPost_ret (v := .tuple #[.string a, .string b, .bool o]) (by unfold results; simp only [Tryd.results47]; go_simp) rfl ?_
  exact ⟨rfl, hb⟩
theorem cut_yes (h r : List UInt8) (hn : 46 ∉ h) (hl : (h ++ 46 :: r).length ≤ 1000) (w : World) : Calls Tryd.prog 47 #[.string ⟨(h ++ 46 :: r).toArray⟩, .string ⟨#[46]⟩] w fun e w' => e = .returned (.tuple #[.string ⟨h.toArray⟩, .string ⟨r.toArray⟩, .bool true]) ∧ Below w.heap.size w w' := by
  refine ct_top _ _ _ _ (fun w => ct_yes_c _ _ _ h.length (by rw [str_len]; simp) (by rw [str_len]; omega) (fun w => ix_i _ _ (idx_yes h r hn) w) ?_ ?_ w) w
  · rw [str_extract _ _ _ (by simp)]; simp
  · rw [str_extract _ _ _ (by rw [str_len]; exact Nat.le_refl _), str_len]; simp; rw [List.take_of_length_le (by omega)]
theorem cut_no (l : List UInt8) (hn : 46 ∉ l) (w : World) : Calls Tryd.prog 47 #[.string ⟨l.toArray⟩, .string ⟨#[46]⟩] w fun e w' => e = .returned (.tuple #[.string ⟨l.toArray⟩, .string ⟨#[]⟩, .bool false]) ∧ Below w.heap.size w w' :=
  ct_top _ _ _ _ (fun w => ct_no_c _ (fun w => ix_i _ _ (idx_no l hn) w) w) w
end Go.Proofs.YthdbchghhpoadaaDoor
