/- math/bits.Len64 and LeadingZeros64. -/
import Derived.Test.YtnklbnphiokpiaaJA
import Derived.Lib.BitFns
set_option linter.unusedVariables false
namespace Go.Proofs.Ytnklbnphiokpiaa
open Go.RowKit

theorem len8_byte (n : Nat) (h : n < Lib.len8tab.size) : ((Lib.len8tab[n].toNat : Nat) : Int) = (Lib.bitLen n : Int) ∧ Lib.bitLen n ≤ 8 := by
  have hn : n < 256 := by rw [Lib.len8tab_size] at h; exact h
  have e := Lib.len8_eq ⟨n, hn⟩
  have l := Lib.bitLen_le8 ⟨n, hn⟩
  refine ⟨?_, l⟩
  unfold Lib.len8 at e
  rw [Int.toNat_natCast, getElem?_pos Lib.len8tab n h] at e
  exact e
theorem len_way (x n c : Nat) (h : n < Lib.len8tab.size) (hb : Lib.bitLen x = c + Lib.bitLen n) (hc : c ≤ 56) : wrap64 ((c : Int) + wrap64 ((Lib.len8tab[n].toNat : Nat) : Int)) = (Lib.bitLen x : Int) := by
  obtain ⟨e, l⟩ := len8_byte n h
  rw [e, hb]
  unfold wrap64; omega
theorem len_way0 (n : Nat) (h : n < Lib.len8tab.size) : wrap64 ((Lib.len8tab[n].toNat : Nat) : Int) = (Lib.bitLen n : Int) := by
  obtain ⟨e, l⟩ := len8_byte n h
  rw [e]
  unfold wrap64; omega

set_option maxRecDepth 100000 in
theorem len64_any (x : Int) (hx : U64 x) (w : World) : Calls Try.prog 121 #[.int .u64 x] w fun e w' => e = .returned (.int .i64 (Lib.bitLen x.toNat)) ∧ w = w' := by
  obtain ⟨h0, h1⟩ := hx
  have hs := Lib.len8tab_size
  go_enter Try.func121, Try.ntmps121
  go_wp2
  all_goals go_ret
  all_goals refine ⟨ret_int ?_, rfl⟩
  · have e : (x / 4294967296 / 65536 / 256).toNat = x.toNat / 72057594037927936 := by omega
    exact len_way x.toNat (x / 4294967296 / 65536 / 256).toNat 56 (by omega) (by rw [e]; exact Lib.bitLen_shift56 x.toNat (by omega) (by omega)) (by omega)
  · have e : (x / 4294967296 / 65536).toNat = x.toNat / 281474976710656 := by omega
    exact len_way x.toNat (x / 4294967296 / 65536).toNat 48 (by omega) (by rw [e]; exact Lib.bitLen_shift48 x.toNat (by omega) (by omega)) (by omega)
  · have e : (x / 4294967296 / 256).toNat = x.toNat / 1099511627776 := by omega
    exact len_way x.toNat (x / 4294967296 / 256).toNat 40 (by omega) (by rw [e]; exact Lib.bitLen_shift40 x.toNat (by omega) (by omega)) (by omega)
  · have e : (x / 4294967296).toNat = x.toNat / 4294967296 := by omega
    exact len_way x.toNat (x / 4294967296).toNat 32 (by omega) (by rw [e]; exact Lib.bitLen_shift32 x.toNat (by omega) (by omega)) (by omega)
  · have e : (x / 65536 / 256).toNat = x.toNat / 16777216 := by omega
    exact len_way x.toNat (x / 65536 / 256).toNat 24 (by omega) (by rw [e]; exact Lib.bitLen_shift24 x.toNat (by omega) (by omega)) (by omega)
  · have e : (x / 65536).toNat = x.toNat / 65536 := by omega
    exact len_way x.toNat (x / 65536).toNat 16 (by omega) (by rw [e]; exact Lib.bitLen_shift16 x.toNat (by omega) (by omega)) (by omega)
  · have e : (x / 256).toNat = x.toNat / 256 := by omega
    exact len_way x.toNat (x / 256).toNat 8 (by omega) (by rw [e]; exact Lib.bitLen_shift8 x.toNat (by omega) (by omega)) (by omega)
  · rw [wr_wr]; exact len_way0 x.toNat (by omega)

theorem lz64_any (x : Int) (hx : U64 x) (w : World) : Calls Try.prog 120 #[.int .u64 x] w fun e w' => e = .returned (.int .i64 (64 - (Lib.bitLen x.toNat : Int))) ∧ w = w' := by
  have C := Lib.hid (fun w => len64_any x hx w)
  have h0 : 0 ≤ (Lib.bitLen x.toNat : Int) := by omega
  have h1 : (Lib.bitLen x.toNat : Int) ≤ 64 := by have := Lib.bitLen_le x.toNat 64 (by omega) (by have := hx.2; omega); omega
  clear hx
  generalize (Lib.bitLen x.toNat : Int) = n at *
  go_enter Try.func120, Try.ntmps120
  go_wp2_with fail
  refine (C.out _).mono ?_; rintro e w' ⟨rfl, rfl⟩
  go_wp2_with fail
  go_ret
  exact ⟨rfl, rfl⟩

/-- How many bits: between two powers. -/
theorem bitLen_spec : ∀ (n x : Nat), x < 2 ^ n → n ≤ 64 → x ≠ 0 → 2 ^ (Lib.bitLen x - 1) ≤ x ∧ x < 2 ^ Lib.bitLen x ∧ 0 < Lib.bitLen x
  | 0, x, h, _, h0 => by simp at h; omega
  | n + 1, x, h, hn, h0 => by
    have h64 : x < 2 ^ 64 := Nat.lt_of_lt_of_le h (Nat.pow_le_pow_right (by omega) hn)
    have e := Lib.bitLen_half x h0 h64
    by_cases h1 : x / 2 = 0
    · have e0 : Lib.bitLen 0 = 0 := by decide
      rw [h1, e0] at e
      rw [e]; simp; omega
    · obtain ⟨a, b, c⟩ := bitLen_spec n (x / 2) (by rw [Nat.pow_succ] at h; omega) (by omega) h1
      rw [e]
      refine ⟨?_, ?_, by omega⟩
      · rw [show 1 + Lib.bitLen (x / 2) - 1 = (Lib.bitLen (x / 2) - 1) + 1 by omega, Nat.pow_succ]; omega
      · rw [show 1 + Lib.bitLen (x / 2) = Lib.bitLen (x / 2) + 1 by omega, Nat.pow_succ]; omega

end Go.Proofs.Ytnklbnphiokpiaa
