/- Contract of sort.Search. -/
import Derived.Test.YthdbchghhpoadaaJC
import Derived.Test.YthdbchghhpoadaaJB
set_option linter.unusedVariables false
set_option linter.unusedSimpArgs false
namespace Go.Proofs.Ythdbchghhpoadaa
open Go.RowKit
/-- The least place from which on a test holds: what a search tells. -/
def SrchTo (p : Int → Bool) (n k : Nat) : Prop := k ≤ n ∧ (∀ i : Nat, i < k → p i = false) ∧ ∀ i : Nat, k ≤ i → i < n → p i = true
/-- What was there in a world is there in another one. -/
def Bl (w0 w : World) : Prop := Below w0.heap.size w0 w
theorem Bl.below {w0 w w1 : World} (h : Bl w0 w) (hb : Below w.heap.size w w1) : Bl w0 w1 := below_next h hb
set_option maxRecDepth 100000 in
set_option maxHeartbeats 2000000 in
/-- A search over a test that goes from false to true: the callee is asked for places below n alone. -/
theorem search_a (u : Value) (p : Int → Bool) (n : Nat) (hn : n ≤ 32768) (hmono : ∀ i j : Nat, i ≤ j → j < n → p i = true → p j = true) (w : World) (W : World) (hW : Below W.heap.size W w)
    (hf : ∀ (k : Nat) w1, k < n → Below W.heap.size W w1 → Calls Try.prog 87 #[.int .i64 (k : Int), u] w1 fun e w' => e = .returned (.bool (p k)) ∧ Below w1.heap.size w1 w') :
    Calls Try.prog 86 #[.int .i64 (n : Int), .func (.func 87) #[] #[u]] w fun e w' => ∃ k : Nat, e = .returned (.int .i64 (k : Int)) ∧ SrchTo p n k ∧ Below w.heap.size w w' := by
  replace hf := Lib.hid hf
  replace hmono := Lib.hid hmono
  replace hW := Lib.hid hW
  go_enter Try.func86, Try.ntmps86
  go_wp2_with fail
  have BB : Hid (Below w.heap.size w w) := Below.refl _ _
  go_loopw [5, 6] (fun a b wr => ∃ i j : Nat, i ≤ j ∧ j ≤ n ∧ a = .int .i64 (i : Int) ∧ b = .int .i64 (j : Int) ∧ Hid ((∀ k : Nat, k < i → p k = false) ∧ (∀ k : Nat, j ≤ k → k < n → p k = true) ∧ Below w.heap.size w wr)) (fun a b _ => (intOf b).toNat - (intOf a).toNat)
  case atStart => exact ⟨0, n, by omega, by omega, rfl, rfl, ⟨fun k h => by omega, fun k h1 h2 => by omega, BB.out⟩⟩
  case round =>
    clear BB
    obtain ⟨i, j, hij, hjn, rfl, rfl, hinv⟩ := hrel
    by_cases hlt : i < j
    · have hlt' : (i : Int) < (j : Int) := by omega
      obtain ⟨h, hh⟩ : ∃ h, h = (i + j) / 2 := ⟨_, rfl⟩
      have hhr := Lib.hid (show i ≤ h ∧ h < j from by omega)
      obtain ⟨s, hs⟩ : ∃ s, s = (i : Int) + (j : Int) := ⟨_, rfl⟩
      have e1 : IntKind.i64.wrap ((i : Int) + (j : Int)) = s := by rw [hs]; exact iw ⟨by omega, by omega⟩
      have e2 : IntKind.u64.wrap s = s := by rw [hs]; simp [IntKind.wrap, IntKind.bits, IntKind.signed]; omega
      have e3 : s / 2 = (h : Int) := by omega
      have CF := Lib.hid (fun w1 hb => hf.out h w1 (by omega) hb)
      have e4 : IntKind.i64.wrap (h : Int) = (h : Int) := iw ⟨by omega, by omega⟩
      have e5 : IntKind.i64.wrap ((h : Int) + 1) = ((h + 1 : Nat) : Int) := by rw [show ((h + 1 : Nat) : Int) = (h : Int) + 1 by omega]; exact iw ⟨by omega, by omega⟩
      clear hh hs
      replace hinv := Lib.hid hinv.out
      have BB : Hid (Below w.heap.size w wr) := hinv.out.2.2
      go_wp2_with fail
      refine (CF.out _ (below_next hW.out BB.out)).mono ?_
      rintro e w1 ⟨rfl, hb⟩
      replace BB := Lib.hid (below_next BB.out hb)
      clear hb
      cases hp : p h
      · skip
        go_wp2_with fail
        go_roundw
        case rel => exact ⟨h + 1, j, by have := hhr.out; omega, hjn, by go_num, rfl, ⟨fun k hk => by
          by_cases hkh : p k = true
          · have := hmono.out k h (by omega) (by have := hhr.out; omega) hkh
            rw [hp] at this; cases this
          · simpa using hkh, hinv.out.2.1, BB.out⟩⟩
        case measure => have := hhr.out; simp [intOf]; omega
      · skip
        go_wp2_with fail
        go_roundw
        case rel => exact ⟨i, h, by have := hhr.out; omega, by have := hhr.out; omega, rfl, rfl, ⟨hinv.out.1, fun k h1 h2 => hmono.out h k h1 h2 hp, BB.out⟩⟩
        case measure => have := hhr.out; simp [intOf]; omega
    · obtain rfl : i = j := by omega
      have BB : Hid (Below w.heap.size w wr) := hinv.out.2.2
      replace hinv := Lib.hid hinv.out
      go_wp2_with fail
      go_ret
      exact ⟨i, rfl, ⟨by omega, hinv.out.1, hinv.out.2.1⟩, BB.out⟩
set_option maxRecDepth 100000 in
set_option maxHeartbeats 2000000 in
/-- A search over a test that goes from false to true: the callee is asked for places below n alone. -/
theorem search_b (u v : Value) (p : Int → Bool) (n : Nat) (hn : n ≤ 32768) (hmono : ∀ i j : Nat, i ≤ j → j < n → p i = true → p j = true) (w : World) (W : World) (hW : Below W.heap.size W w)
    (hf : ∀ (k : Nat) w1, k < n → Below W.heap.size W w1 → Calls Try.prog 88 #[.int .i64 (k : Int), u, v] w1 fun e w' => e = .returned (.bool (p k)) ∧ Below w1.heap.size w1 w') :
    Calls Try.prog 86 #[.int .i64 (n : Int), .func (.func 88) #[] #[u, v]] w fun e w' => ∃ k : Nat, e = .returned (.int .i64 (k : Int)) ∧ SrchTo p n k ∧ Below w.heap.size w w' := by
  replace hf := Lib.hid hf
  replace hmono := Lib.hid hmono
  replace hW := Lib.hid hW
  go_enter Try.func86, Try.ntmps86
  go_wp2_with fail
  have BB : Hid (Below w.heap.size w w) := Below.refl _ _
  go_loopw [5, 6] (fun a b wr => ∃ i j : Nat, i ≤ j ∧ j ≤ n ∧ a = .int .i64 (i : Int) ∧ b = .int .i64 (j : Int) ∧ Hid ((∀ k : Nat, k < i → p k = false) ∧ (∀ k : Nat, j ≤ k → k < n → p k = true) ∧ Below w.heap.size w wr)) (fun a b _ => (intOf b).toNat - (intOf a).toNat)
  case atStart => exact ⟨0, n, by omega, by omega, rfl, rfl, ⟨fun k h => by omega, fun k h1 h2 => by omega, BB.out⟩⟩
  case round =>
    clear BB
    obtain ⟨i, j, hij, hjn, rfl, rfl, hinv⟩ := hrel
    by_cases hlt : i < j
    · have hlt' : (i : Int) < (j : Int) := by omega
      obtain ⟨h, hh⟩ : ∃ h, h = (i + j) / 2 := ⟨_, rfl⟩
      have hhr := Lib.hid (show i ≤ h ∧ h < j from by omega)
      obtain ⟨s, hs⟩ : ∃ s, s = (i : Int) + (j : Int) := ⟨_, rfl⟩
      have e1 : IntKind.i64.wrap ((i : Int) + (j : Int)) = s := by rw [hs]; exact iw ⟨by omega, by omega⟩
      have e2 : IntKind.u64.wrap s = s := by rw [hs]; simp [IntKind.wrap, IntKind.bits, IntKind.signed]; omega
      have e3 : s / 2 = (h : Int) := by omega
      have CF := Lib.hid (fun w1 hb => hf.out h w1 (by omega) hb)
      have e4 : IntKind.i64.wrap (h : Int) = (h : Int) := iw ⟨by omega, by omega⟩
      have e5 : IntKind.i64.wrap ((h : Int) + 1) = ((h + 1 : Nat) : Int) := by rw [show ((h + 1 : Nat) : Int) = (h : Int) + 1 by omega]; exact iw ⟨by omega, by omega⟩
      clear hh hs
      replace hinv := Lib.hid hinv.out
      have BB : Hid (Below w.heap.size w wr) := hinv.out.2.2
      go_wp2_with fail
      refine (CF.out _ (below_next hW.out BB.out)).mono ?_
      rintro e w1 ⟨rfl, hb⟩
      replace BB := Lib.hid (below_next BB.out hb)
      clear hb
      cases hp : p h
      · skip
        go_wp2_with fail
        go_roundw
        case rel => exact ⟨h + 1, j, by have := hhr.out; omega, hjn, by go_num, rfl, ⟨fun k hk => by
          by_cases hkh : p k = true
          · have := hmono.out k h (by omega) (by have := hhr.out; omega) hkh
            rw [hp] at this; cases this
          · simpa using hkh, hinv.out.2.1, BB.out⟩⟩
        case measure => have := hhr.out; simp [intOf]; omega
      · skip
        go_wp2_with fail
        go_roundw
        case rel => exact ⟨i, h, by have := hhr.out; omega, by have := hhr.out; omega, rfl, rfl, ⟨hinv.out.1, fun k h1 h2 => hmono.out h k h1 h2 hp, BB.out⟩⟩
        case measure => have := hhr.out; simp [intOf]; omega
    · obtain rfl : i = j := by omega
      have BB : Hid (Below w.heap.size w wr) := hinv.out.2.2
      replace hinv := Lib.hid hinv.out
      go_wp2_with fail
      go_ret
      exact ⟨i, rfl, ⟨by omega, hinv.out.1, hinv.out.2.1⟩, BB.out⟩
set_option maxRecDepth 100000 in
set_option maxHeartbeats 2000000 in
/-- A search over a test that goes from false to true: the callee is asked for places below n alone. -/
theorem search_c (u v : Value) (p : Int → Bool) (n : Nat) (hn : n ≤ 32768) (hmono : ∀ i j : Nat, i ≤ j → j < n → p i = true → p j = true) (w : World) (W : World) (hW : Below W.heap.size W w)
    (hf : ∀ (k : Nat) w1, k < n → Below W.heap.size W w1 → Calls Try.prog 89 #[.int .i64 (k : Int), u, v] w1 fun e w' => e = .returned (.bool (p k)) ∧ Below w1.heap.size w1 w') :
    Calls Try.prog 86 #[.int .i64 (n : Int), .func (.func 89) #[] #[u, v]] w fun e w' => ∃ k : Nat, e = .returned (.int .i64 (k : Int)) ∧ SrchTo p n k ∧ Below w.heap.size w w' := by
  replace hf := Lib.hid hf
  replace hmono := Lib.hid hmono
  replace hW := Lib.hid hW
  go_enter Try.func86, Try.ntmps86
  go_wp2_with fail
  have BB : Hid (Below w.heap.size w w) := Below.refl _ _
  go_loopw [5, 6] (fun a b wr => ∃ i j : Nat, i ≤ j ∧ j ≤ n ∧ a = .int .i64 (i : Int) ∧ b = .int .i64 (j : Int) ∧ Hid ((∀ k : Nat, k < i → p k = false) ∧ (∀ k : Nat, j ≤ k → k < n → p k = true) ∧ Below w.heap.size w wr)) (fun a b _ => (intOf b).toNat - (intOf a).toNat)
  case atStart => exact ⟨0, n, by omega, by omega, rfl, rfl, ⟨fun k h => by omega, fun k h1 h2 => by omega, BB.out⟩⟩
  case round =>
    clear BB
    obtain ⟨i, j, hij, hjn, rfl, rfl, hinv⟩ := hrel
    by_cases hlt : i < j
    · have hlt' : (i : Int) < (j : Int) := by omega
      obtain ⟨h, hh⟩ : ∃ h, h = (i + j) / 2 := ⟨_, rfl⟩
      have hhr := Lib.hid (show i ≤ h ∧ h < j from by omega)
      obtain ⟨s, hs⟩ : ∃ s, s = (i : Int) + (j : Int) := ⟨_, rfl⟩
      have e1 : IntKind.i64.wrap ((i : Int) + (j : Int)) = s := by rw [hs]; exact iw ⟨by omega, by omega⟩
      have e2 : IntKind.u64.wrap s = s := by rw [hs]; simp [IntKind.wrap, IntKind.bits, IntKind.signed]; omega
      have e3 : s / 2 = (h : Int) := by omega
      have CF := Lib.hid (fun w1 hb => hf.out h w1 (by omega) hb)
      have e4 : IntKind.i64.wrap (h : Int) = (h : Int) := iw ⟨by omega, by omega⟩
      have e5 : IntKind.i64.wrap ((h : Int) + 1) = ((h + 1 : Nat) : Int) := by rw [show ((h + 1 : Nat) : Int) = (h : Int) + 1 by omega]; exact iw ⟨by omega, by omega⟩
      clear hh hs
      replace hinv := Lib.hid hinv.out
      have BB : Hid (Below w.heap.size w wr) := hinv.out.2.2
      go_wp2_with fail
      refine (CF.out _ (below_next hW.out BB.out)).mono ?_
      rintro e w1 ⟨rfl, hb⟩
      replace BB := Lib.hid (below_next BB.out hb)
      clear hb
      cases hp : p h
      · skip
        go_wp2_with fail
        go_roundw
        case rel => exact ⟨h + 1, j, by have := hhr.out; omega, hjn, by go_num, rfl, ⟨fun k hk => by
          by_cases hkh : p k = true
          · have := hmono.out k h (by omega) (by have := hhr.out; omega) hkh
            rw [hp] at this; cases this
          · simpa using hkh, hinv.out.2.1, BB.out⟩⟩
        case measure => have := hhr.out; simp [intOf]; omega
      · skip
        go_wp2_with fail
        go_roundw
        case rel => exact ⟨i, h, by have := hhr.out; omega, by have := hhr.out; omega, rfl, rfl, ⟨hinv.out.1, fun k h1 h2 => hmono.out h k h1 h2 hp, BB.out⟩⟩
        case measure => have := hhr.out; simp [intOf]; omega
    · obtain rfl : i = j := by omega
      have BB : Hid (Below w.heap.size w wr) := hinv.out.2.2
      replace hinv := Lib.hid hinv.out
      go_wp2_with fail
      go_ret
      exact ⟨i, rfl, ⟨by omega, hinv.out.1, hinv.out.2.1⟩, BB.out⟩
set_option maxRecDepth 100000 in
set_option maxHeartbeats 2000000 in
/-- A search over a test that goes from false to true: the callee is asked for places below n alone. -/
theorem search_d (u : Value) (p : Int → Bool) (n : Nat) (hn : n ≤ 32768) (hmono : ∀ i j : Nat, i ≤ j → j < n → p i = true → p j = true) (w : World) (W : World) (hW : Below W.heap.size W w)
    (hf : ∀ (k : Nat) w1, k < n → Below W.heap.size W w1 → Calls Try.prog 90 #[.int .i64 (k : Int), u] w1 fun e w' => e = .returned (.bool (p k)) ∧ Below w1.heap.size w1 w') :
    Calls Try.prog 86 #[.int .i64 (n : Int), .func (.func 90) #[] #[u]] w fun e w' => ∃ k : Nat, e = .returned (.int .i64 (k : Int)) ∧ SrchTo p n k ∧ Below w.heap.size w w' := by
  replace hf := Lib.hid hf
  replace hmono := Lib.hid hmono
  replace hW := Lib.hid hW
  go_enter Try.func86, Try.ntmps86
  go_wp2_with fail
  have BB : Hid (Below w.heap.size w w) := Below.refl _ _
  go_loopw [5, 6] (fun a b wr => ∃ i j : Nat, i ≤ j ∧ j ≤ n ∧ a = .int .i64 (i : Int) ∧ b = .int .i64 (j : Int) ∧ Hid ((∀ k : Nat, k < i → p k = false) ∧ (∀ k : Nat, j ≤ k → k < n → p k = true) ∧ Below w.heap.size w wr)) (fun a b _ => (intOf b).toNat - (intOf a).toNat)
  case atStart => exact ⟨0, n, by omega, by omega, rfl, rfl, ⟨fun k h => by omega, fun k h1 h2 => by omega, BB.out⟩⟩
  case round =>
    clear BB
    obtain ⟨i, j, hij, hjn, rfl, rfl, hinv⟩ := hrel
    by_cases hlt : i < j
    · have hlt' : (i : Int) < (j : Int) := by omega
      obtain ⟨h, hh⟩ : ∃ h, h = (i + j) / 2 := ⟨_, rfl⟩
      have hhr := Lib.hid (show i ≤ h ∧ h < j from by omega)
      obtain ⟨s, hs⟩ : ∃ s, s = (i : Int) + (j : Int) := ⟨_, rfl⟩
      have e1 : IntKind.i64.wrap ((i : Int) + (j : Int)) = s := by rw [hs]; exact iw ⟨by omega, by omega⟩
      have e2 : IntKind.u64.wrap s = s := by rw [hs]; simp [IntKind.wrap, IntKind.bits, IntKind.signed]; omega
      have e3 : s / 2 = (h : Int) := by omega
      have CF := Lib.hid (fun w1 hb => hf.out h w1 (by omega) hb)
      have e4 : IntKind.i64.wrap (h : Int) = (h : Int) := iw ⟨by omega, by omega⟩
      have e5 : IntKind.i64.wrap ((h : Int) + 1) = ((h + 1 : Nat) : Int) := by rw [show ((h + 1 : Nat) : Int) = (h : Int) + 1 by omega]; exact iw ⟨by omega, by omega⟩
      clear hh hs
      replace hinv := Lib.hid hinv.out
      have BB : Hid (Below w.heap.size w wr) := hinv.out.2.2
      go_wp2_with fail
      refine (CF.out _ (below_next hW.out BB.out)).mono ?_
      rintro e w1 ⟨rfl, hb⟩
      replace BB := Lib.hid (below_next BB.out hb)
      clear hb
      cases hp : p h
      · skip
        go_wp2_with fail
        go_roundw
        case rel => exact ⟨h + 1, j, by have := hhr.out; omega, hjn, by go_num, rfl, ⟨fun k hk => by
          by_cases hkh : p k = true
          · have := hmono.out k h (by omega) (by have := hhr.out; omega) hkh
            rw [hp] at this; cases this
          · simpa using hkh, hinv.out.2.1, BB.out⟩⟩
        case measure => have := hhr.out; simp [intOf]; omega
      · skip
        go_wp2_with fail
        go_roundw
        case rel => exact ⟨i, h, by have := hhr.out; omega, by have := hhr.out; omega, rfl, rfl, ⟨hinv.out.1, fun k h1 h2 => hmono.out h k h1 h2 hp, BB.out⟩⟩
        case measure => have := hhr.out; simp [intOf]; omega
    · obtain rfl : i = j := by omega
      have BB : Hid (Below w.heap.size w wr) := hinv.out.2.2
      replace hinv := Lib.hid hinv.out
      go_wp2_with fail
      go_ret
      exact ⟨i, rfl, ⟨by omega, hinv.out.1, hinv.out.2.1⟩, BB.out⟩
end Go.Proofs.Ythdbchghhpoadaa
