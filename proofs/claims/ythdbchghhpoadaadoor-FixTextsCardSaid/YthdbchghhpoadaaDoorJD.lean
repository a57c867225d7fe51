/- math/bits.Len64 and LeadingZeros64. | math/bits.Div64: a number of two halves divided by one of 64 bits that is above the upper half. | math/bits.Mul64: the product of two numbers of 64 bits, in two halves. | Walks of wide's sizes (apart, abs, plus, minus, signed), of wide.Mul and Scale. | Walks of wide's signed, of wide.Mul and Scale. | Plain facts on shifts of numbers of two halves. | Walks of wide.Shr, shl, Shl. | Contracts of quot.Floor and quot.Mod at a divisor above 0. | Contracts of quot.Floor and quot.Mod at every divisor. | Contracts of quot.div, size and away. | Contract of quot.Wide. | Contracts of quot.Half, Near, Cut, beyond, Place. | Contracts of quot.Near, Cut, beyond, Place. -/
import Derived.Test.YthdbchghhpoadaaDoorJA
import Derived.Lib.BitFns
import Derived.Laws.Bits64b
import Derived.Deep.DeepCutAuto
import Derived.Deep.CutBlock
import Derived.Lib.Mul64
import Derived.Test.YthdbchghhpoadaaDoorJC
set_option linter.unusedVariables false
namespace Go.Proofs.YthdbchghhpoadaaDoor
open Go.RowKit

theorem len8_byte (n : Nat) (h : n < Lib.len8tab.size) : ((Lib.len8tab[n].toNat : Nat) : Int) = (Lib.bitLen n : Int) ∧ Lib.bitLen n ≤ 8 := by
  have hn : n < 256 := by rw [Lib.len8tab_size] at h; exact h
  have e := Lib.len8_eq ⟨n, hn⟩
  have l := Lib.bitLen_le8 ⟨n, hn⟩
  refine ⟨?_, l⟩
  unfold Lib.len8 at e
  rw [Int.toNat_natCast, getElem?_pos Lib.len8tab n h] at e
  exact e
theorem len_way (x n c : Nat) (h : n < Lib.len8tab.size) (hb : Lib.bitLen x = c + Lib.bitLen n) (hc : c ≤ 56) : wrap64 ((c : Int) + wrap64 ((Lib.len8tab[n].toNat : Nat) : Int)) = (Lib.bitLen x : Int) := by
  obtain ⟨e, l⟩ := len8_byte n h
  rw [e, hb]
  unfold wrap64; omega
theorem len_way0 (n : Nat) (h : n < Lib.len8tab.size) : wrap64 ((Lib.len8tab[n].toNat : Nat) : Int) = (Lib.bitLen n : Int) := by
  obtain ⟨e, l⟩ := len8_byte n h
  rw [e]
  unfold wrap64; omega

set_option maxRecDepth 100000 in
theorem len64_any (x : Int) (hx : U64 x) (w : World) : Calls Tryd.prog 79 #[.int .u64 x] w fun e w' => e = .returned (.int .i64 (Lib.bitLen x.toNat)) ∧ w = w' := by
  obtain ⟨h0, h1⟩ := hx
  have hs := Lib.len8tab_size
  go_enter Tryd.func79, Tryd.ntmps79
  go_wp2
  all_goals go_ret
  all_goals refine ⟨ret_int ?_, rfl⟩
  · have e : (x / 4294967296 / 65536 / 256).toNat = x.toNat / 72057594037927936 := by omega
    exact len_way x.toNat (x / 4294967296 / 65536 / 256).toNat 56 (by omega) (by rw [e]; exact Lib.bitLen_shift56 x.toNat (by omega) (by omega)) (by omega)
  · have e : (x / 4294967296 / 65536).toNat = x.toNat / 281474976710656 := by omega
    exact len_way x.toNat (x / 4294967296 / 65536).toNat 48 (by omega) (by rw [e]; exact Lib.bitLen_shift48 x.toNat (by omega) (by omega)) (by omega)
  · have e : (x / 4294967296 / 256).toNat = x.toNat / 1099511627776 := by omega
    exact len_way x.toNat (x / 4294967296 / 256).toNat 40 (by omega) (by rw [e]; exact Lib.bitLen_shift40 x.toNat (by omega) (by omega)) (by omega)
  · have e : (x / 4294967296).toNat = x.toNat / 4294967296 := by omega
    exact len_way x.toNat (x / 4294967296).toNat 32 (by omega) (by rw [e]; exact Lib.bitLen_shift32 x.toNat (by omega) (by omega)) (by omega)
  · have e : (x / 65536 / 256).toNat = x.toNat / 16777216 := by omega
    exact len_way x.toNat (x / 65536 / 256).toNat 24 (by omega) (by rw [e]; exact Lib.bitLen_shift24 x.toNat (by omega) (by omega)) (by omega)
  · have e : (x / 65536).toNat = x.toNat / 65536 := by omega
    exact len_way x.toNat (x / 65536).toNat 16 (by omega) (by rw [e]; exact Lib.bitLen_shift16 x.toNat (by omega) (by omega)) (by omega)
  · have e : (x / 256).toNat = x.toNat / 256 := by omega
    exact len_way x.toNat (x / 256).toNat 8 (by omega) (by rw [e]; exact Lib.bitLen_shift8 x.toNat (by omega) (by omega)) (by omega)
  · rw [wr_wr]; exact len_way0 x.toNat (by omega)

theorem lz64_any (x : Int) (hx : U64 x) (w : World) : Calls Tryd.prog 77 #[.int .u64 x] w fun e w' => e = .returned (.int .i64 (64 - (Lib.bitLen x.toNat : Int))) ∧ w = w' := by
  have C := Lib.hid (fun w => len64_any x hx w)
  have h0 : 0 ≤ (Lib.bitLen x.toNat : Int) := by omega
  have h1 : (Lib.bitLen x.toNat : Int) ≤ 64 := by have := Lib.bitLen_le x.toNat 64 (by omega) (by have := hx.2; omega); omega
  clear hx
  generalize (Lib.bitLen x.toNat : Int) = n at *
  go_enter Tryd.func77, Tryd.ntmps77
  go_wp2_with fail
  refine (C.out _).mono ?_; rintro e w' ⟨rfl, rfl⟩
  go_wp2_with fail
  go_ret
  exact ⟨rfl, rfl⟩

/-- How many bits: between two powers. -/
theorem bitLen_spec : ∀ (n x : Nat), x < 2 ^ n → n ≤ 64 → x ≠ 0 → 2 ^ (Lib.bitLen x - 1) ≤ x ∧ x < 2 ^ Lib.bitLen x ∧ 0 < Lib.bitLen x
  | 0, x, h, _, h0 => by simp at h; omega
  | n + 1, x, h, hn, h0 => by
    have h64 : x < 2 ^ 64 := Nat.lt_of_lt_of_le h (Nat.pow_le_pow_right (by omega) hn)
    have e := Lib.bitLen_half x h0 h64
    by_cases h1 : x / 2 = 0
    · have e0 : Lib.bitLen 0 = 0 := by decide
      rw [h1, e0] at e
      rw [e]; simp; omega
    · obtain ⟨a, b, c⟩ := bitLen_spec n (x / 2) (by rw [Nat.pow_succ] at h; omega) (by omega) h1
      rw [e]
      refine ⟨?_, ?_, by omega⟩
      · rw [show 1 + Lib.bitLen (x / 2) - 1 = (Lib.bitLen (x / 2) - 1) + 1 by omega, Nat.pow_succ]; omega
      · rw [show 1 + Lib.bitLen (x / 2) = Lib.bitLen (x / 2) + 1 by omega, Nat.pow_succ]; omega

end Go.Proofs.YthdbchghhpoadaaDoor

set_option linter.unusedVariables false
namespace Go.Proofs.YthdbchghhpoadaaDoor
open Go.RowKit

theorem div64_small (lo y : Int) (hl : U64 lo) (hy : 0 < y) (hy' : y ≤ 18446744073709551615) (w : World) :
    Calls Tryd.prog 70 #[.int .u64 0, .int .u64 lo, .int .u64 y] w fun e w' => e = .returned (.tuple #[.int .u64 (lo / y), .int .u64 (lo % y)]) ∧ Below w.heap.size w w' := by
  obtain ⟨l0, l1⟩ := hl
  have h1 : (y == 0) = false := by simp; omega
  have h2 : ¬ y ≤ 0 := by omega
  go_enter Tryd.func70, Tryd.ntmps70
  go_wp2
  go_quiet (fail)
  go_wp2
  go_ret2
  exact ⟨by first | rfl | trivial, by repeat (first | exact Below.refl _ _ | apply below_drawn | apply below_new)⟩

theorem wrap_u64_inD (x : Int) : 0 ≤ IntKind.u64.wrap x ∧ IntKind.u64.wrap x ≤ 18446744073709551615 := by rw [IntKind.wrap_u64]; omega

/-- How far the divisor is moved up. -/
theorem norm_shift (y : Int) (h0 : 0 < y) (h1 : y ≤ 18446744073709551615) : ∃ s : Nat, (64 - (Lib.bitLen y.toNat : Int)) = s ∧ s ≤ 63 ∧ 9223372036854775808 ≤ y * (2 : Int) ^ s ∧ y * (2 : Int) ^ s ≤ 18446744073709551615 := by
  obtain ⟨n, rfl⟩ := Int.eq_ofNat_of_zero_le (show 0 ≤ y by omega)
  obtain ⟨a, b, c⟩ := bitLen_spec 64 n (by omega) (by omega) (by omega)
  have d := Lib.bitLen_le n 64 (by omega) (by omega)
  simp only [Int.toNat_natCast]
  generalize Lib.bitLen n = k at *
  refine ⟨64 - k, by omega, by omega, ?_, ?_⟩
  · have e : 2 ^ (k - 1) * 2 ^ (64 - k) = 2 ^ 63 := by rw [← Nat.pow_add]; congr 1; omega
    have := Nat.mul_le_mul_right (2 ^ (64 - k)) a
    rw [e] at this
    have h : ((n * 2 ^ (64 - k) : Nat) : Int) = (n : Int) * 2 ^ (64 - k) := by simp
    omega
  · have e : 2 ^ k * 2 ^ (64 - k) = 2 ^ 64 := by rw [← Nat.pow_add]; congr 1; omega
    have := Nat.mul_lt_mul_of_pos_right b (show 0 < 2 ^ (64 - k) from Nat.pow_pos (by omega))
    rw [e] at this
    have h : ((n * 2 ^ (64 - k) : Nat) : Int) = (n : Int) * 2 ^ (64 - k) := by simp
    omega

theorem or_join (a b : Int) (s : Nat) (hs : s ≤ 63) (h0 : 0 ≤ a) (h1 : a * (2 : Int) ^ s ≤ 18446744073709551615) (b0 : 0 ≤ b) (b1 : b < (2 : Int) ^ s) :
    bits .or .u64 (IntKind.u64.wrap (a * (2 : Int) ^ s)) b = a * (2 : Int) ^ s + b := by
  obtain ⟨m, rfl⟩ := Int.eq_ofNat_of_zero_le h0
  obtain ⟨n, rfl⟩ := Int.eq_ofNat_of_zero_le b0
  have e : ((m : Int) * 2 ^ s) = ((m * 2 ^ s : Nat) : Int) := by simp
  have hn : n < 2 ^ s := by
    have : ((2 ^ s : Nat) : Int) = (2 : Int) ^ s := by simp
    omega
  have h64 : 2 ^ s ≤ 2 ^ 63 := Nat.pow_le_pow_right (by omega) hs
  rw [e] at h1 ⊢
  rw [IntKind.wrap_u64, show ((m * 2 ^ s : Nat) : Int) % 18446744073709551616 = ((m * 2 ^ s : Nat) : Int) by omega, bits_or_u64_nat _ _ (by omega) (by omega)]
  rw [Nat.mul_comm m, ← Nat.two_pow_add_eq_or_of_lt hn]
  simp

/-- The low half. -/
theorem and_low (x : Int) (h0 : 0 ≤ x) (h1 : x ≤ 18446744073709551615) : bits .and .u64 x 4294967295 = x % 4294967296 := by
  obtain ⟨n, rfl⟩ := Int.eq_ofNat_of_zero_le h0
  have h := bits_and_u64_nat n 4294967295 (by omega) (by omega)
  have e : n &&& 4294967295 = n % 4294967296 := Nat.and_two_pow_sub_one_eq_mod n 32
  rw [e] at h
  exact h

theorem pow_split (lo : Int) (s : Nat) (hs : s ≤ 63) (h0 : 0 ≤ lo) (h1 : lo ≤ 18446744073709551615) :
    lo / (2 : Int) ^ (64 - s) < 2 ^ s ∧ 0 ≤ lo / (2 : Int) ^ (64 - s) ∧ (lo / (2 : Int) ^ (64 - s)) * 18446744073709551616 + IntKind.u64.wrap (lo * 2 ^ s) = lo * 2 ^ s := by
  have e : (2 : Int) ^ (64 - s) * 2 ^ s = 18446744073709551616 := by rw [← Int.pow_add, show 64 - s + s = 64 by omega]; decide
  have p1 : (0 : Int) < 2 ^ (64 - s) := Int.pow_pos (by omega)
  have p2 : (0 : Int) < 2 ^ s := Int.pow_pos (by omega)
  refine ⟨?_, Int.ediv_nonneg h0 (by omega), ?_⟩
  · refine Int.ediv_lt_of_lt_mul p1 ?_
    rw [Int.mul_comm, e]; omega
  · rw [IntKind.wrap_u64]
    have h2 : lo * 2 ^ s / 18446744073709551616 = lo / 2 ^ (64 - s) := by
      rw [← e]; exact Int.mul_ediv_mul_of_pos_left _ _ p2
    have h3 := Int.mul_ediv_add_emod (lo * 2 ^ s) 18446744073709551616
    rw [h2] at h3
    omega

set_option maxRecDepth 100000 in
set_option maxHeartbeats 4000000 in
theorem div64_long (hi lo y : Int) (h0 : 0 < hi) (hl : U64 lo) (hy : hi < y) (hy' : y ≤ 18446744073709551615) (w : World) :
    Calls Tryd.prog 70 #[.int .u64 hi, .int .u64 lo, .int .u64 y] w fun e w' => e = .returned (.tuple #[.int .u64 ((hi * 18446744073709551616 + lo) / y), .int .u64 ((hi * 18446744073709551616 + lo) % y)]) ∧ Below w.heap.size w w' := by
  have C := Lib.hid (fun w => lz64_any y ⟨by omega, hy'⟩ w)
  obtain ⟨s, es, s1, y0, y1⟩ := norm_shift y (by omega) hy'
  rw [es] at C
  clear es
  have h1 : (y == 0) = false := by simp; omega
  have h2 : ¬ y ≤ hi := by omega
  have h3 : (hi == 0) = false := by simp; omega
  obtain ⟨l0, l1⟩ := hl
  have p2 : (0 : Int) < 2 ^ s := Int.pow_pos (by omega)
  obtain ⟨a1, a2, a3⟩ := pow_split lo s s1 l0 l1
  have hm : (hi + 1) * (2 : Int) ^ s ≤ y * 2 ^ s := Int.mul_le_mul_of_nonneg_right (by omega) (by omega)
  rw [Int.add_mul, Int.one_mul] at hm
  have hh : 0 ≤ hi * (2 : Int) ^ s := Int.mul_nonneg (by omega) (by omega)
  have eU := or_join hi (lo / 2 ^ (64 - s)) s s1 (by omega) (by omega) a2 a1
  have eY := and_low (y * 2 ^ s) (by omega) (by omega)
  have eL := and_low (IntKind.u64.wrap (lo * 2 ^ s)) (wrap_u64_inD _).1 (wrap_u64_inD _).2
  have uL := wrap_u64_inD (lo * 2 ^ s)
  obtain ⟨sc1, sc2⟩ := div_scaled (N := hi * 18446744073709551616 + lo) (y := y) p2
  have hN : (hi * 18446744073709551616 + lo) * 2 ^ s = (hi * 2 ^ s + lo / 2 ^ (64 - s)) * 18446744073709551616 + IntKind.u64.wrap (lo * 2 ^ s) := by
    have : (hi * 18446744073709551616 + lo) * (2 : Int) ^ s = hi * 2 ^ s * 18446744073709551616 + lo * 2 ^ s := by grind
    omega
  rw [hN] at sc1 sc2
  have HD : Hid (∀ m : Int, m * 2 ^ s / 2 ^ s = m) := fun m => Int.mul_ediv_cancel m (by omega)
  rw [eU.symm] at sc1 sc2
  have hU : bits .or .u64 (IntKind.u64.wrap (hi * 2 ^ s)) (lo / 2 ^ (64 - s)) < y * 2 ^ s := by rw [eU]; omega
  have hU0 : 0 ≤ bits .or .u64 (IntKind.u64.wrap (hi * 2 ^ s)) (lo / 2 ^ (64 - s)) := by rw [eU]; omega
  have SC := Lib.hid (And.intro sc1 sc2)
  have EY := Lib.hid eY
  have EL := Lib.hid eL
  clear hN sc1 sc2 eU hm hh a1 a2 a3 eY eL p2
  go_enter Tryd.func70, Tryd.ntmps70
  go_wp2_with fail
  refine (C.out _).mono ?_; rintro e w' ⟨rfl, rfl⟩
  go_upto_block 0 with fail
  rw [EY.out, EL.out]
  generalize bits .or .u64 (IntKind.u64.wrap (hi * 2 ^ s)) (lo / 2 ^ (64 - s)) = U at *
  generalize IntKind.u64.wrap (lo * 2 ^ s) = L at *
  generalize y * 2 ^ s = Y at *
  obtain ⟨u0, u1⟩ := uL
  have hYY : Y / 4294967296 * 4294967296 + Y % 4294967296 = Y := by omega
  have hLL : L / 4294967296 * 4294967296 + L % 4294967296 = L := by omega
  have d1 : 2147483648 ≤ Y / 4294967296 := by omega
  have d2 : Y / 4294967296 ≤ 4294967295 := by omega
  have d3 : 0 ≤ Y % 4294967296 := by omega
  have d4 : Y % 4294967296 < 4294967296 := by omega
  have d5 : 0 ≤ L / 4294967296 := by omega
  have d6 : L / 4294967296 < 4294967296 := by omega
  have d7 : 0 ≤ L % 4294967296 := by omega
  have d8 : L % 4294967296 < 4294967296 := by omega
  generalize Y / 4294967296 = Y1 at *
  generalize Y % 4294967296 = Y0 at *
  generalize L / 4294967296 = L1 at *
  generalize L % 4294967296 = L0 at *
  have HN := Lib.hid (div_two (N := U * 18446744073709551616 + L) (y' := Y) (a := U * 4294967296 + L1) (by omega) L0 d7 d8 (by omega))
  have HY : Hid (Y = Y1 * 4294967296 + Y0) := by show _ = _; omega
  clear hYY hLL
  have er : IntKind.u64.wrap (U - IntKind.u64.wrap (U / Y1 * Y1)) = U % Y1 := by
    have e := Int.mul_ediv_add_emod U Y1
    rw [Int.mul_comm] at e
    have m0 := Int.emod_nonneg U (show Y1 ≠ 0 by omega)
    have m1 := Int.emod_lt_of_pos U (show 0 < Y1 by omega)
    rw [IntKind.wrap_u64, IntKind.wrap_u64]; omega
  rw [er]
  clear er
  have hYp : 0 < Y := by omega
  have hUY : U < Y1 * 4294967296 + Y0 := by rw [← HY.out]; exact hU
  obtain ⟨Q1, HQ1⟩ : ∃ Q1, Hid ((U * 4294967296 + L1) / (Y1 * 4294967296 + Y0) = Q1) := ⟨_, rfl⟩
  have HQ1' : (U * 4294967296 + L1) / Y = Q1 := by rw [HY.out]; exact HQ1.out
  obtain ⟨R1, HR1⟩ : ∃ R1, (U * 4294967296 + L1) % Y = R1 := ⟨_, rfl⟩
  have q10 : 0 ≤ Q1 := by rw [← HQ1']; exact Int.ediv_nonneg (by omega) (by omega)
  have q11 : Q1 ≤ 4294967295 := by
    have := Int.ediv_lt_of_lt_mul (a := U * 4294967296 + L1) (b := 4294967296) (c := Y) (by omega) (by omega)
    omega
  have r10 : 0 ≤ R1 := by rw [← HR1]; exact Int.emod_nonneg _ (by omega)
  have r11 : R1 < Y := by rw [← HR1]; exact Int.emod_lt_of_pos _ hYp
  have e1 := Int.mul_ediv_add_emod (U * 4294967296 + L1) Y
  rw [HQ1', HR1, Int.mul_comm] at e1
  rw [HQ1', HR1] at HN
  have E17 : Hid (IntKind.u64.wrap (IntKind.u64.wrap (IntKind.u64.wrap (U * 4294967296) + L1) - IntKind.u64.wrap (Q1 * Y)) = R1) := by
    show _ = _
    rw [IntKind.wrap_u64, IntKind.wrap_u64, IntKind.wrap_u64, IntKind.wrap_u64]; omega
  have rU : R1 < Y1 * 4294967296 + Y0 := by rw [← HY.out]; exact r11
  have E18 : Hid (IntKind.u64.wrap (R1.tdiv Y1) = R1 / Y1) := by
    show _ = _
    have : R1 / Y1 ≤ 4294967297 := by
      have := Int.ediv_lt_of_lt_mul (a := R1) (b := 4294967298) (c := Y1) (by omega) (by omega)
      omega
    have h0 : 0 ≤ R1 / Y1 := Int.ediv_nonneg r10 (by omega)
    rw [tdiv_pos r10, IntKind.wrap_u64]; omega
  have E16 : Hid (IntKind.u64.wrap (R1 - IntKind.u64.wrap (R1 / Y1 * Y1)) = R1 % Y1) := by
    show _ = _
    have e := Int.mul_ediv_add_emod R1 Y1
    rw [Int.mul_comm] at e
    have m0 := Int.emod_nonneg R1 (show Y1 ≠ 0 by omega)
    have m1 := Int.emod_lt_of_pos R1 (show 0 < Y1 by omega)
    rw [IntKind.wrap_u64, IntKind.wrap_u64]; omega
  obtain ⟨Q0, HQ0⟩ : ∃ Q0, Hid ((R1 * 4294967296 + L0) / (Y1 * 4294967296 + Y0) = Q0) := ⟨_, rfl⟩
  have HQ0' : (R1 * 4294967296 + L0) / Y = Q0 := by rw [HY.out]; exact HQ0.out
  obtain ⟨R0, HR0⟩ : ∃ R0, (R1 * 4294967296 + L0) % Y = R0 := ⟨_, rfl⟩
  have q00 : 0 ≤ Q0 := by rw [← HQ0']; exact Int.ediv_nonneg (by omega) (by omega)
  have q01 : Q0 ≤ 4294967295 := by
    have := Int.ediv_lt_of_lt_mul (a := R1 * 4294967296 + L0) (b := 4294967296) (c := Y) (by omega) (by omega)
    omega
  have r00 : 0 ≤ R0 := by rw [← HR0]; exact Int.emod_nonneg _ (by omega)
  have r01 : R0 < Y := by rw [← HR0]; exact Int.emod_lt_of_pos _ hYp
  have e0 := Int.mul_ediv_add_emod (R1 * 4294967296 + L0) Y
  rw [HQ0', HR0, Int.mul_comm] at e0
  rw [HQ0', HR0] at HN
  have E7 : Hid (IntKind.u64.wrap (IntKind.u64.wrap (IntKind.u64.wrap (R1 * 4294967296) + L0) - IntKind.u64.wrap (Q0 * Y)) = R0) := by
    show _ = _
    rw [IntKind.wrap_u64, IntKind.wrap_u64, IntKind.wrap_u64, IntKind.wrap_u64]; omega
  have FIN : Hid (Q1 * 4294967296 + Q0 = (hi * 18446744073709551616 + lo) / y ∧ R0 / 2 ^ s = (hi * 18446744073709551616 + lo) % y) := by
    refine ⟨HN.out.1.symm.trans SC.out.1, ?_⟩
    rw [← HN.out.2, SC.out.2]; exact HD.out _
  clear e0 e1 HQ0' HQ1' HR0 HR1 r00 r01 HN SC HD EY EL C
  go_cut [15, 16] (fun a b wc => ∃ r : Int, a = .int .u64 Q1 ∧ b = .int .u64 r ∧ wc = w)
  case first =>
    clear HQ0 FIN E7 E16 E17 E18
    have IS := Lib.hid (DInv.start (y1 := Y1) (y0 := Y0) (u := U) (u1 := L1) d1 d3 d4 (by omega) (by omega) (by omega) (by omega))
    have EM := Lib.hid (show 0 ≤ U % Y1 ∧ U % Y1 ≤ 4294967295 from ⟨Int.emod_nonneg _ (by omega), by have := Int.emod_lt_of_pos U (show 0 < Y1 by omega); omega⟩)
    have ST := Lib.hid (fun q r (h : DInv Y1 Y0 U L1 q r) hc => h.step d1 d3 (by omega) (by omega) (by omega) (by omega) hc)
    have EN := Lib.hid (fun q r (h : DInv Y1 Y0 U L1 q r) hc => (h.done d1 d3 d4 (by omega) hc).trans HQ1.out)
    have BR := Lib.hid (fun q r (h : DInv Y1 Y0 U L1 q r) hq hr => EN.out q r h (h.broke hq hr d3 d4 (by omega)))
    have RM := Lib.hid (fun q r (h : DInv Y1 Y0 U L1 q r) => h.room d3 d4)
    clear HQ1
    go_wp2_with fail
    go_loop [15, 16] (fun x z => ∃ q r : Int, x = .int .u64 q ∧ z = .int .u64 r ∧ 0 ≤ r ∧ r ≤ 4294967295 ∧ 0 ≤ q ∧ q ≤ 4294967297 ∧ Hid (DInv Y1 Y0 U L1 q r)) (fun x _ => (intOf x).toNat)
    case atStart => exact ⟨_, _, rfl, rfl, EM.out.1, EM.out.2, IS.out.2.2.1, IS.out.2.2.2.1, IS.out⟩
    case round =>
      obtain ⟨q, r, rfl, rfl, r0, r1, q0, q1, hI⟩ := hrel
      obtain ⟨m0, m1⟩ := RM.out q r hI.out
      by_cases c1 : 4294967296 ≤ q
      · obtain ⟨n1, n2, n3⟩ := ST.out q r hI.out (.inl c1)
        have n1 := Lib.hid n1
        by_cases c3 : 4294967296 ≤ r + Y1
        · have e := Lib.hid (BR.out _ _ n1.out n2 c3)
          clear IS EM ST EN BR RM
          go_wp2_with fail
          go_meet
          exact ⟨r + Y1, by rw [← e.out], rfl, rfl⟩
        · clear IS EM ST EN BR RM
          go_wp2_with fail
          go_round
          case rel => exact ⟨q - 1, r + Y1, rfl, rfl, by omega, by omega, by omega, by omega, n1.out⟩
          case measure => simp [intOf]; omega
      · by_cases c2 : 4294967296 * r + L1 < q * Y0
        · obtain ⟨n1, n2, n3⟩ := ST.out q r hI.out (.inr c2)
          have n1 := Lib.hid n1
          by_cases c3 : 4294967296 ≤ r + Y1
          · have e := Lib.hid (BR.out _ _ n1.out n2 c3)
            clear IS EM ST EN BR RM
            go_wp2_with fail
            go_meet
            exact ⟨r + Y1, by rw [← e.out], rfl, rfl⟩
          · clear IS EM ST EN BR RM
            go_wp2_with fail
            go_round
            case rel => exact ⟨q - 1, r + Y1, rfl, rfl, by omega, by omega, by omega, by omega, n1.out⟩
            case measure => simp [intOf]; omega
        · have e := Lib.hid (EN.out q r hI.out (by omega))
          have c2' : ¬ 4294967296 * r + L1 < q * Y0 := c2
          clear IS EM ST EN BR RM
          go_wp2_with fail
          go_meet
          exact ⟨r, by rw [← e.out], rfl, rfl⟩
  case rest =>
    obtain ⟨r, rfl, rfl, rfl⟩ := hcut
    clear HQ1
    go_upto_block 2 with fail
    rw [E17.out, E18.out, E16.out]
    clear E17 E18 E16
    go_cut [18, 16] (fun a b wc' => ∃ r : Int, a = .int .u64 Q0 ∧ b = .int .u64 r ∧ wc' = wc)
    case first =>
      clear FIN E7
      have IS := Lib.hid (DInv.start (y1 := Y1) (y0 := Y0) (u := R1) (u1 := L0) d1 d3 d4 (by omega) (by omega) (by omega) (by omega))
      have EM := Lib.hid (show 0 ≤ R1 % Y1 ∧ R1 % Y1 ≤ 4294967295 from ⟨Int.emod_nonneg _ (by omega), by have := Int.emod_lt_of_pos R1 (show 0 < Y1 by omega); omega⟩)
      have ST := Lib.hid (fun q r (h : DInv Y1 Y0 R1 L0 q r) hc => h.step d1 d3 (by omega) (by omega) (by omega) (by omega) hc)
      have EN := Lib.hid (fun q r (h : DInv Y1 Y0 R1 L0 q r) hc => (h.done d1 d3 d4 (by omega) hc).trans HQ0.out)
      have BR := Lib.hid (fun q r (h : DInv Y1 Y0 R1 L0 q r) hq hr => EN.out q r h (h.broke hq hr d3 d4 (by omega)))
      have RM := Lib.hid (fun q r (h : DInv Y1 Y0 R1 L0 q r) => h.room d3 d4)
      clear HQ0
      go_wp2_with fail
      go_loop [18, 16] (fun x z => ∃ q r : Int, x = .int .u64 q ∧ z = .int .u64 r ∧ 0 ≤ r ∧ r ≤ 4294967295 ∧ 0 ≤ q ∧ q ≤ 4294967297 ∧ Hid (DInv Y1 Y0 R1 L0 q r)) (fun x _ => (intOf x).toNat)
      case atStart => exact ⟨_, _, rfl, rfl, EM.out.1, EM.out.2, IS.out.2.2.1, IS.out.2.2.2.1, IS.out⟩
      case round =>
        obtain ⟨q, r, rfl, rfl, r0, r1, q0, q1, hI⟩ := hrel
        obtain ⟨m0, m1⟩ := RM.out q r hI.out
        by_cases c1 : 4294967296 ≤ q
        · obtain ⟨n1, n2, n3⟩ := ST.out q r hI.out (.inl c1)
          have n1 := Lib.hid n1
          by_cases c3 : 4294967296 ≤ r + Y1
          · have e := Lib.hid (BR.out _ _ n1.out n2 c3)
            clear IS EM ST EN BR RM
            go_wp2_with fail
            go_meet
            exact ⟨r + Y1, by rw [← e.out], rfl, rfl⟩
          · clear IS EM ST EN BR RM
            go_wp2_with fail
            go_round
            case rel => exact ⟨q - 1, r + Y1, rfl, rfl, by omega, by omega, by omega, by omega, n1.out⟩
            case measure => simp [intOf]; omega
        · by_cases c2 : 4294967296 * r + L0 < q * Y0
          · obtain ⟨n1, n2, n3⟩ := ST.out q r hI.out (.inr c2)
            have n1 := Lib.hid n1
            by_cases c3 : 4294967296 ≤ r + Y1
            · have e := Lib.hid (BR.out _ _ n1.out n2 c3)
              clear IS EM ST EN BR RM
              go_wp2_with fail
              go_meet
              exact ⟨r + Y1, by rw [← e.out], rfl, rfl⟩
            · clear IS EM ST EN BR RM
              go_wp2_with fail
              go_round
              case rel => exact ⟨q - 1, r + Y1, rfl, rfl, by omega, by omega, by omega, by omega, n1.out⟩
              case measure => simp [intOf]; omega
          · have e := Lib.hid (EN.out q r hI.out (by omega))
            have c2' : ¬ 4294967296 * r + L0 < q * Y0 := c2
            clear IS EM ST EN BR RM
            go_wp2_with fail
            go_meet
            exact ⟨r, by rw [← e.out], rfl, rfl⟩
    case rest =>
      obtain ⟨r, rfl, rfl, rfl⟩ := hcut
      clear HQ0
      go_wp2_with fail
      rw [E7.out]
      go_ret2
      exact ⟨ret_int2 FIN.out.1 FIN.out.2, Below.refl _ _⟩

theorem div64_any (hi lo y : Int) (h0 : 0 ≤ hi) (hl : U64 lo) (hy : hi < y) (hy' : y ≤ 18446744073709551615) (w : World) :
    Calls Tryd.prog 70 #[.int .u64 hi, .int .u64 lo, .int .u64 y] w fun e w' => e = .returned (.tuple #[.int .u64 ((hi * 18446744073709551616 + lo) / y), .int .u64 ((hi * 18446744073709551616 + lo) % y)]) ∧ Below w.heap.size w w' := by
  rcases Int.lt_or_eq_of_le h0 with h | h
  · exact div64_long hi lo y h hl hy hy' w
  · subst h
    rw [Int.zero_mul, Int.zero_add]
    exact div64_small lo y hl hy hy' w

end Go.Proofs.YthdbchghhpoadaaDoor

set_option linter.unusedVariables false
namespace Go.Proofs.YthdbchghhpoadaaDoor
open Go.RowKit

theorem low32 (a : Nat) (ha : a < 18446744073709551616) : bits .and .u64 (a : Int) 4294967295 = ((a % 4294967296 : Nat) : Int) := by
  have e : a &&& 4294967295 = a % 4294967296 := Nat.and_two_pow_sub_one_eq_mod a 32
  rw [← e]
  exact bits_and_u64_nat a 4294967295 ha (by omega)
theorem div32 (a : Nat) : (a : Int) / 4294967296 = ((a / 4294967296 : Nat) : Int) := by omega
theorem in64 (a : Nat) (ha : a < 18446744073709551616) : IntKind.u64.wrap (a : Int) = (a : Int) := by rw [IntKind.wrap_u64]; omega
theorem mod64 (a : Nat) : IntKind.u64.wrap (a : Int) = ((a % 18446744073709551616 : Nat) : Int) := by rw [IntKind.wrap_u64]; omega

def Halves (z : Int) (w : World) (e : Ending) (w' : World) : Prop := ∃ hi lo : Int, e = .returned (.tuple #[.int .u64 hi, .int .u64 lo]) ∧ U64 hi ∧ U64 lo ∧ hi * 18446744073709551616 + lo = z ∧ w = w'

set_option maxHeartbeats 1000000 in
set_option maxRecDepth 10000 in
theorem mul64_any (x y : Int) (hx : U64 x) (hy : U64 y) (w : World) : Calls Tryd.prog 56 #[.int .u64 x, .int .u64 y] w (Halves (x * y) w) := by
  obtain ⟨a, rfl⟩ := Int.eq_ofNat_of_zero_le hx.1
  obtain ⟨b, rfl⟩ := Int.eq_ofNat_of_zero_le hy.1
  have ha : a < 18446744073709551616 := by have := hx.2; omega
  have hb : b < 18446744073709551616 := by have := hy.2; omega
  obtain ⟨p1, p2, p3, top⟩ := Lib.mul64_hi a b ha hb
  have q1 := Lib.half_mul_le (a := a / 4294967296) (b := b / 4294967296) (by omega) (by omega)
  have q2 := Lib.half_mul_le (a := a / 4294967296) (b := b % 4294967296) (by omega) (by omega)
  have q3 := Lib.half_mul_le (a := a % 4294967296) (b := b / 4294967296) (by omega) (by omega)
  have r1 := in64 _ p1
  have r2 := in64 _ p2
  have r3 := in64 _ p3
  have r4 := in64 (a / 4294967296 * (b % 4294967296)) (by omega)
  have r5 := in64 (a % 4294967296 * (b / 4294967296)) (by omega)
  have r6 := in64 (a / 4294967296 * (b / 4294967296)) (by omega)
  have r7 := in64 (a / 4294967296 * (b / 4294967296) + (a / 4294967296 * (b % 4294967296) + a % 4294967296 * (b % 4294967296) / 4294967296) / 4294967296) (by omega)
  have r8 := in64 (a / 4294967296 * (b / 4294967296) + (a / 4294967296 * (b % 4294967296) + a % 4294967296 * (b % 4294967296) / 4294967296) / 4294967296 + ((a / 4294967296 * (b % 4294967296) + a % 4294967296 * (b % 4294967296) / 4294967296) % 4294967296 + a % 4294967296 * (b / 4294967296)) / 4294967296) (by omega)
  have s2 := low32 _ p2
  have HP : Hid ((a : Int) * b = ((a * b / 18446744073709551616 : Nat) : Int) * 18446744073709551616 + ((a * b % 18446744073709551616 : Nat) : Int) ∧ a * b / 18446744073709551616 < 18446744073709551616) := by
    refine ⟨by rw [← Int.natCast_mul]; omega, ?_⟩
    exact Nat.div_lt_of_lt_mul (Nat.mul_lt_mul'' ha hb)
  replace r1 := Lib.hid r1; replace r2 := Lib.hid r2; replace r3 := Lib.hid r3; replace r4 := Lib.hid r4; replace r5 := Lib.hid r5; replace r6 := Lib.hid r6; replace r7 := Lib.hid r7; replace r8 := Lib.hid r8; replace s2 := Lib.hid s2; replace top := Lib.hid top
  clear hx hy p1 p2 p3 q1 q2 q3
  go_enter Tryd.func56, Tryd.ntmps56
  go_wp2
  simp only [low32 a ha, low32 b hb, div32, (Int.natCast_mul _ _).symm, (Int.natCast_add _ _).symm, r1.out, r2.out, r3.out, r4.out, r5.out, r6.out, r7.out, r8.out, s2.out, mod64 (a * b)]
  rw [top.out]
  go_ret2
  refine ⟨_, _, rfl, ?_, ?_, ?_, rfl⟩
  · have := HP.out.2; exact ⟨by omega, by omega⟩
  · exact ⟨by omega, by omega⟩
  · rw [← HP.out.1]; rfl

end Go.Proofs.YthdbchghhpoadaaDoor

set_option linter.unusedVariables false
namespace Go.Proofs.YthdbchghhpoadaaDoor
open Go.RowKit

abbrev sv (hi lo : Int) : Value := .agg #[.int .u64 hi, .int .u64 lo]
/-- Two halves of a size. -/
def S128 (n hi lo : Int) : Prop := U64 hi ∧ U64 lo ∧ hi * 18446744073709551616 + lo = n
def GiveS (x : Int) (w : World) (e : Ending) (w' : World) : Prop := ∃ hi lo, e = .returned (.tuple #[sv hi lo, .bool (sgn x)]) ∧ Below w.heap.size w w' ∧ S128 (x.natAbs : Int) hi lo

theorem ret_u64bool {a b : Int} {c d : Bool} (h : a = b) (h' : c = d) : Ending.returned (.tuple #[.int .u64 a, .bool c]) = .returned (.tuple #[.int .u64 b, .bool d]) := by rw [h, h']
theorem wabs (x : Int) (h : I64 x) (w : World) : Calls Tryd.prog 55 #[.int .i64 x] w fun e w' => e = .returned (.tuple #[.int .u64 (x.natAbs : Int), .bool (sgn x)]) ∧ w = w' := by
  rcases Decidable.em (x < 0) with hx | hx
  · have H1 := Lib.hid (sgn_t hx)
    have H2 : Hid (IntKind.u64.wrap (-IntKind.u64.wrap x) = (x.natAbs : Int)) := by show _ = _; rw [IntKind.wrap_u64, IntKind.wrap_u64]; unfold I64 at h; omega
    clear h
    go_enter Tryd.func55, Tryd.ntmps55
    go_wp2
    go_ret2
    exact ⟨ret_u64bool (by rw [← H2.out]) H1.out.symm, rfl⟩
  · have H1 := Lib.hid (sgn_f (show 0 ≤ x by omega))
    have H2 : Hid (IntKind.u64.wrap x = (x.natAbs : Int)) := by show _ = _; rw [IntKind.wrap_u64]; unfold I64 at h; omega
    clear h
    go_enter Tryd.func55, Tryd.ntmps55
    go_wp2
    go_ret2
    exact ⟨ret_u64bool (by rw [← H2.out]) H1.out.symm, rfl⟩

theorem apart_law {ah al s c t d u : Int} (a1 : I64 ah) (a2 : U64 al) (hn : ah < 0) (hs : U64 s) (h1 : s - c * 18446744073709551616 = 0 - al - 0) (c0 : 0 ≤ c) (c1 : c ≤ 1)
    (hu : U64 u) (hu' : ∃ k : Int, u = ah + 18446744073709551616 * k) (ht : U64 t) (h2 : t - d * 18446744073709551616 = 0 - u - c) (d0 : 0 ≤ d) (d1 : d ≤ 1) : S128 ((ah * 18446744073709551616 + al).natAbs : Int) t s := by
  obtain ⟨k1, hu'⟩ := hu'
  unfold I64 U64 at *
  unfold S128 U64
  omega

theorem wplus (n hi lo : Int) (h : S128 n hi lo) (w : World) : Calls Tryd.prog 68 #[sv hi lo] w (GiveWB n w) := by
  rcases Decidable.em (9223372036854775807 < hi) with hh | hh
  · have HL : Hid (WB n 0 0 false) := .inr ⟨by unfold S128 U64 at h; unfold I128; omega, rfl, rfl, rfl⟩
    clear h
    go_enter Tryd.func68, Tryd.ntmps68
    go_wp2
    exact bodyPost_ret (v := .tuple #[wv 0 0, .bool false]) (by unfold results; simp only [Tryd.results68]; go_simp) rfl ⟨_, _, _, rfl, by repeat (first | exact Below.refl _ _ | apply below_new), HL.out⟩
  · have HL : Hid (WB n (wrap64 hi) lo true) := by
      show WB _ _ _ _
      unfold S128 U64 at h
      rw [wr_in (by omega) (by omega)]
      exact .inl ⟨by unfold I128; omega, rfl, by unfold W128 I64 U64; omega⟩
    clear h
    go_enter Tryd.func68, Tryd.ntmps68
    go_wp2
    exact bodyPost_ret (v := .tuple #[wv (wrap64 hi) lo, .bool true]) (by unfold results; simp only [Tryd.results68]; go_simp) rfl ⟨_, _, _, rfl, by repeat (first | exact Below.refl _ _ | apply below_new), HL.out⟩

theorem minus_law {hi lo s c t d : Int} (a1 : U64 hi) (a2 : U64 lo) (hn : hi < 9223372036854775808 ∨ hi = 9223372036854775808 ∧ lo = 0) (hs : U64 s) (h1 : s - c * 18446744073709551616 = 0 - lo - 0) (c0 : 0 ≤ c) (c1 : c ≤ 1)
    (ht : U64 t) (h2 : t - d * 18446744073709551616 = 0 - hi - c) (d0 : 0 ≤ d) (d1 : d ≤ 1) : WB (-(hi * 18446744073709551616 + lo)) (wrap64 t) s true := by
  have e := wrap64_in64 t
  obtain ⟨k, hk⟩ := wrap64_mod t
  generalize wrap64 t = H at *
  refine .inl ⟨?_, rfl, ?_⟩
  · unfold I128; unfold I64 U64 at *; omega
  · unfold W128; unfold I64 U64 at *; omega

set_option maxRecDepth 100000 in
theorem wminus (n hi lo : Int) (h : S128 n hi lo) (w : World) : Calls Tryd.prog 69 #[sv hi lo] w (GiveWB (-n) w) := by
  obtain ⟨a1, a2, rfl⟩ := h
  obtain ⟨s, c, hs, c0, c1, h1, A1⟩ := sub64_ex 0 lo 0 ⟨by omega, by omega⟩ a2 (by omega) (by omega)
  obtain ⟨t, d, ht, d0, d1, h2, A2⟩ := sub64_ex 0 hi c ⟨by omega, by omega⟩ a1 c0 c1
  have HL := Lib.hid (fun hn => minus_law a1 a2 hn hs h1.out c0 c1 ht h2.out d0 d1)
  have HF : Hid (¬ (hi < 9223372036854775808 ∨ hi = 9223372036854775808 ∧ lo = 0) → WB (-(hi * 18446744073709551616 + lo)) 0 0 false) := fun hn => .inr ⟨by unfold I128; unfold U64 at a1 a2; omega, rfl, rfl, rfl⟩
  have l0 := a2.1
  clear h1 h2
  rcases Int.lt_trichotomy hi 9223372036854775808 with hh | hh | hh
  · have e1 : ¬ 9223372036854775808 < hi := by omega
    have e2 : (hi == 9223372036854775808) = false := by simp; omega
    replace HL := Lib.hid (HL.out (.inl hh))
    clear HF
    go_enter Tryd.func69, Tryd.ntmps69
    go_wp2
    exact bodyPost_ret (v := .tuple #[wv (wrap64 t) s, .bool true]) (by unfold results; simp only [Tryd.results69]; go_simp) rfl ⟨_, _, _, rfl, by repeat (first | exact Below.refl _ _ | apply below_new), HL.out⟩
  · subst hh
    rcases Int.lt_or_eq_of_le l0 with hl | hl
    · replace HF := Lib.hid (HF.out (by omega))
      clear HL
      go_enter Tryd.func69, Tryd.ntmps69
      go_wp2
      exact bodyPost_ret (v := .tuple #[wv 0 0, .bool false]) (by unfold results; simp only [Tryd.results69]; go_simp) rfl ⟨_, _, _, rfl, by repeat (first | exact Below.refl _ _ | apply below_new), HF.out⟩
    · subst hl
      replace HL := Lib.hid (HL.out (by omega))
      clear HF l0
      go_enter Tryd.func69, Tryd.ntmps69
      go_wp2
      exact bodyPost_ret (v := .tuple #[wv (wrap64 t) s, .bool true]) (by unfold results; simp only [Tryd.results69]; go_simp) rfl ⟨_, _, _, rfl, by repeat (first | exact Below.refl _ _ | apply below_new), HL.out⟩
  · replace HF := Lib.hid (HF.out (by omega))
    clear HL
    go_enter Tryd.func69, Tryd.ntmps69
    go_wp2
    exact bodyPost_ret (v := .tuple #[wv 0 0, .bool false]) (by unfold results; simp only [Tryd.results69]; go_simp) rfl ⟨_, _, _, rfl, by repeat (first | exact Below.refl _ _ | apply below_new), HF.out⟩

end Go.Proofs.YthdbchghhpoadaaDoor

set_option linter.unusedVariables false
namespace Go.Proofs.YthdbchghhpoadaaDoor
open Go.RowKit

theorem wsigned (n hi lo : Int) (b : Bool) (h : S128 n hi lo) (w : World) : Calls Tryd.prog 57 #[sv hi lo, .bool b] w (GiveWB (if b then -n else n) w) := by
  have C1 := Lib.hid (fun w => wplus n hi lo h w)
  have C2 := Lib.hid (fun w => wminus n hi lo h w)
  clear h
  cases b
  · skip
    go_enter Tryd.func57, Tryd.ntmps57
    go_wp2_with fail
    have BB := start2 w #[.int .u64 hi, .int .u64 lo] 81 #[.int .i64 0, .int .u64 0] 46
    obtain ⟨BB, hsz, r_a, r_res⟩ := BB
    generalize ((w.alloc (.cells #[.int .u64 hi, .int .u64 lo] 81)).alloc (.cells #[.int .i64 0, .int .u64 0] 46)) = w0 at *
    replace BB := Lib.hid BB
    replace r_a := Lib.hid r_a
    replace r_res := Lib.hid r_res
    clear hsz
    refine (C1.out _).mono ?_
    rintro e w1 ⟨h1, l1, ok, rfl, hb, h1'⟩
    replace r_a := Lib.hid (r_a.out.keep hb)
    replace r_res := Lib.hid (r_res.out.keep hb)
    replace BB := Lib.hid (below_next BB.out hb)
    clear hb
    obtain ⟨c_res0, c_res1, f_res0, f_res1⟩ := reads2 r_res.out
    have l_res := r_res.out.lt
    go_wp2_with fail
    exact bodyPost_ret (v := .tuple #[wv h1 l1, .bool ok]) (by unfold results; simp only [Tryd.results57]; go_simp) rfl ⟨_, _, _, rfl, below_set2 BB.out (by omega) _ _, h1'⟩
  · skip
    go_enter Tryd.func57, Tryd.ntmps57
    go_wp2_with fail
    have BB := start2 w #[.int .u64 hi, .int .u64 lo] 81 #[.int .i64 0, .int .u64 0] 46
    obtain ⟨BB, hsz, r_a, r_res⟩ := BB
    generalize ((w.alloc (.cells #[.int .u64 hi, .int .u64 lo] 81)).alloc (.cells #[.int .i64 0, .int .u64 0] 46)) = w0 at *
    replace BB := Lib.hid BB
    replace r_a := Lib.hid r_a
    replace r_res := Lib.hid r_res
    clear hsz
    refine (C2.out _).mono ?_
    rintro e w1 ⟨h1, l1, ok, rfl, hb, h1'⟩
    replace r_a := Lib.hid (r_a.out.keep hb)
    replace r_res := Lib.hid (r_res.out.keep hb)
    replace BB := Lib.hid (below_next BB.out hb)
    clear hb
    obtain ⟨c_res0, c_res1, f_res0, f_res1⟩ := reads2 r_res.out
    have l_res := r_res.out.lt
    go_wp2_with fail
    exact bodyPost_ret (v := .tuple #[wv h1 l1, .bool ok]) (by unfold results; simp only [Tryd.results57]; go_simp) rfl ⟨_, _, _, rfl, below_set2 BB.out (by omega) _ _, h1'⟩

theorem WB.of_room {z hi lo : Int} {ok : Bool} (h : WB z hi lo ok) (hz : I128 z) : W128 z hi lo := by
  rcases h with ⟨_, _, h⟩ | ⟨h, _⟩
  · exact h
  · exact absurd hz h
theorem sgn_mul2 (x y : Int) (b : Bool) (hb : b = (sgn x != sgn y)) : (if b then -((x.natAbs : Int) * y.natAbs) else (x.natAbs : Int) * y.natAbs) = x * y := by
  subst hb; exact (sgn_mul x y).symm
theorem abs_u64 {x : Int} (h : I64 x) : U64 (x.natAbs : Int) := by unfold I64 at h; unfold U64; omega
theorem mul_room {x y : Int} (hx : I64 x) (hy : I64 y) : I128 (x * y) := by
  have h := Wd.mul (i64_wd hx) (i64_wd hy)
  unfold I128
  have e : (2 : Int) ^ (63 + 63) = 85070591730234615865843651857942052864 := by decide
  unfold Wd at h; rw [e] at h; omega

set_option maxRecDepth 100000 in
theorem wmul (x y : Int) (hx : I64 x) (hy : I64 y) (w : World) : Calls Tryd.prog 31 #[.int .i64 x, .int .i64 y] w (GiveW (x * y) w) := by
  have C1 := Lib.hid (fun w => wabs x hx w)
  have C2 := Lib.hid (fun w => wabs y hy w)
  have C3 := Lib.hid (fun w => mul64_any _ _ (abs_u64 hx) (abs_u64 hy) w)
  have HR := Lib.hid (mul_room hx hy)
  have HS := Lib.hid (sgn_mul2 x y)
  clear hx hy
  generalize sgn x = sx at *
  generalize sgn y = sy at *
  generalize (x.natAbs : Int) = ax at *
  generalize (y.natAbs : Int) = ay at *
  generalize x * y = z at *
  go_enter Tryd.func31, Tryd.ntmps31
  go_wp2_with fail
  have BB := start1 w #[.int .i64 0, .int .u64 0] 46
  obtain ⟨BB, hsz, r_res⟩ := BB
  generalize (w.alloc (.cells #[.int .i64 0, .int .u64 0] 46)) = w0 at *
  replace BB := Lib.hid BB
  replace r_res := Lib.hid r_res
  clear hsz
  refine (C1.out _).mono ?_
  rintro e w9 ⟨rfl, rfl⟩
  go_wp2_with fail
  refine (C2.out _).mono ?_
  rintro e w9 ⟨rfl, rfl⟩
  go_wp2_with fail
  refine (C3.out _).mono ?_; rintro e w9 ⟨hi, lo, rfl, g1, g2, g3, rfl⟩
  have C4 := Lib.hid (fun b w => wsigned _ hi lo b ⟨g1, g2, g3⟩ w)
  clear g1 g2 g3
  go_wp2_with fail
  refine (C4.out _ _).mono ?_
  rintro e w1 ⟨h1, l1, ok, rfl, hb, h1'⟩
  replace r_res := Lib.hid (r_res.out.keep hb)
  replace BB := Lib.hid (below_next BB.out hb)
  clear hb
  have HW := Lib.hid (h1'.of_room)
  clear h1'
  obtain ⟨c_res0, c_res1, f_res0, f_res1⟩ := reads2 r_res.out
  have l_res := r_res.out.lt
  go_wp2_with fail
  refine bodyPost_ret (v := wv h1 l1) (by unfold results; simp only [Tryd.results31]; go_simp) rfl ⟨_, _, rfl, ?_, ?_⟩
  · exact below_new (below_set2 BB.out (by omega) _ _) _
  · have h := HW.out
    rw [HS.out (!(sx == sy)) rfl] at h
    exact h HR.out

theorem scale_law {n y hi lo over mid h2 l2 c s : Int} (hn : S128 n hi lo) (hy : 0 ≤ y) (e1 : over * 18446744073709551616 + mid = hi * y) (e2 : h2 * 18446744073709551616 + l2 = lo * y) (e3 : c * 18446744073709551616 + s = h2 + mid + 0)
    (o : U64 over) (m : U64 mid) (l : U64 l2) (hs : U64 s) (c0 : 0 ≤ c) : n * y = (over + c) * 340282366920938463463374607431768211456 + s * 18446744073709551616 + l2 := by
  obtain ⟨_, _, rfl⟩ := hn
  have : (hi * 18446744073709551616 + lo) * y = hi * y * 18446744073709551616 + lo * y := by grind
  omega

end Go.Proofs.YthdbchghhpoadaaDoor

set_option linter.unusedVariables false
namespace Go.Proofs.YthdbchghhpoadaaDoor
open Go.RowKit

theorem bits_or_comm (a b : Int) (a0 : 0 ≤ a) (a1 : a ≤ 18446744073709551615) (b0 : 0 ≤ b) (b1 : b ≤ 18446744073709551615) : bits .or .u64 a b = bits .or .u64 b a := by
  obtain ⟨m, rfl⟩ := Int.eq_ofNat_of_zero_le a0
  obtain ⟨n, rfl⟩ := Int.eq_ofNat_of_zero_le b0
  rw [bits_or_u64_nat _ _ (by omega) (by omega), bits_or_u64_nat _ _ (by omega) (by omega), Nat.or_comm]

theorem wrap_mul (a : Int) (n : Nat) : IntKind.u64.wrap (IntKind.u64.wrap a * 2 ^ n) = IntKind.u64.wrap (a * 2 ^ n) := by
  obtain ⟨k, hk⟩ := wrap_u64_mod a
  rw [hk, Int.add_mul, Int.mul_assoc, IntKind.wrap_u64, IntKind.wrap_u64, Int.add_mul_emod_self_left]

/-- A number moved up: what stays within the low half. -/
theorem wrap_up (a : Int) (n : Nat) (hn : n ≤ 64) : IntKind.u64.wrap (a * 2 ^ (64 - n)) = (a % 2 ^ n) * 2 ^ (64 - n) := by
  have e : (2 : Int) ^ n * 2 ^ (64 - n) = 18446744073709551616 := by rw [← Int.pow_add, show n + (64 - n) = 64 by omega]; decide
  rw [IntKind.wrap_u64, ← e]
  exact (div_scaled (N := a) (y := 2 ^ n) (two_pos _)).2

theorem pow_join (n : Nat) (hn : n ≤ 64) : (2 : Int) ^ n * 2 ^ (64 - n) = 18446744073709551616 := by rw [← Int.pow_add, show n + (64 - n) = 64 by omega]; decide

theorem ediv_i64 {a : Int} (n : Nat) (h : I64 a) : I64 (a / 2 ^ n) := ediv_bounds h (two_pos n)

theorem shr_mid_law {x ah al : Int} {n : Nat} (h : W128 x ah al) (h0 : 0 < n) (h1 : n < 64) : W128 (x / 2 ^ n) (ah / 2 ^ n) (bits .or .u64 (al / 2 ^ n) (IntKind.u64.wrap (IntKind.u64.wrap ah * 2 ^ (64 - n)))) := by
  obtain ⟨a1, ⟨a20, a21⟩, rfl⟩ := h
  have e := pow_join n (by omega)
  have p1 := two_pos n
  have p2 := two_pos (64 - n)
  have l0 : 0 ≤ al / 2 ^ n := Int.ediv_nonneg a20 (by omega)
  have l1 : al / 2 ^ n < 2 ^ (64 - n) := Int.ediv_lt_of_lt_mul p1 (by rw [Int.mul_comm, e]; omega)
  have m0 := Int.emod_nonneg ah (show (2 : Int) ^ n ≠ 0 by omega)
  have m1 := Int.emod_lt_of_pos ah p1
  have hm : (ah % 2 ^ n + 1) * 2 ^ (64 - n) ≤ 2 ^ n * 2 ^ (64 - n) := Int.mul_le_mul_of_nonneg_right (by omega) (by omega)
  rw [e, Int.add_mul, Int.one_mul] at hm
  have h64 : (2 : Int) ^ (64 - n) ≤ 2 ^ 63 := two_le (by omega)
  rw [show (2 : Int) ^ 63 = 9223372036854775808 by decide] at h64
  have hp : 0 ≤ (ah % 2 ^ n) * 2 ^ (64 - n) := Int.mul_nonneg m0 (by omega)
  have hor : bits .or .u64 (al / 2 ^ n) (IntKind.u64.wrap (IntKind.u64.wrap ah * 2 ^ (64 - n))) = (ah % 2 ^ n) * 2 ^ (64 - n) + al / 2 ^ n := by
    rw [wrap_mul, wrap_up ah n (by omega), bits_or_comm _ _ l0 (by omega) hp (by omega)]
    have h := or_join (ah % 2 ^ n) (al / 2 ^ n) (64 - n) (by omega) m0 (by omega) l0 l1
    rwa [IntKind.wrap_u64, Int.emod_eq_of_lt hp (by omega)] at h
  rw [hor]
  refine ⟨ediv_i64 n a1, ⟨by omega, by omega⟩, ?_⟩
  have d := Int.mul_ediv_add_emod ah (2 ^ n)
  have e2 : ah * 18446744073709551616 + al = al + 2 ^ n * (ah * 2 ^ (64 - n)) := by rw [← e]; grind
  rw [e2, Int.add_mul_ediv_left _ _ (by omega)]
  have e3 : ah * 2 ^ (64 - n) = (ah / 2 ^ n) * 18446744073709551616 + ah % 2 ^ n * 2 ^ (64 - n) := by
    rw [← e]
    generalize ah / 2 ^ n = q at *
    generalize ah % 2 ^ n = r at *
    rw [← d]; grind
  rw [e3]; omega

theorem div_half {x ah al : Int} {n : Nat} (h : W128 x ah al) (hn : 64 ≤ n) : x / 2 ^ n = ah / 2 ^ (n - 64) := by
  obtain ⟨_, ⟨a20, a21⟩, rfl⟩ := h
  have e : (2 : Int) ^ n = 18446744073709551616 * 2 ^ (n - 64) := by rw [show (18446744073709551616 : Int) = 2 ^ 64 by decide, ← Int.pow_add]; congr 1; omega
  rw [e, ← Int.ediv_ediv_of_nonneg (by omega)]
  congr 1
  omega
theorem div_far {a : Int} (h : I64 a) {m : Nat} (hm : 63 ≤ m) : a / 2 ^ m = a / 9223372036854775808 := by
  have p : (2 : Int) ^ 63 ≤ 2 ^ m := two_le hm
  rw [show (2 : Int) ^ 63 = 9223372036854775808 by decide] at p
  obtain ⟨a0, a1⟩ := h
  rcases Int.lt_or_le a 0 with hn | hn
  · have e1 : a / 2 ^ m = -1 := by
      refine (Int.ediv_eq_iff_of_pos (by omega)).2 ⟨by omega, by omega⟩
    rw [e1]; omega
  · rw [Int.ediv_eq_zero_of_lt hn (by omega)]; omega
theorem shr_far_law {x ah al y : Int} {n : Nat} (h : W128 x ah al) (hn : 64 ≤ n) (hy : y = ah / 2 ^ (n - 64)) : W128 (x / 2 ^ n) (ah / 9223372036854775808) (IntKind.u64.wrap y) := by
  rw [div_half h hn, ← hy]
  have h1 := ediv_i64 (n - 64) h.1
  rw [← hy] at h1
  have h2 : ah / 9223372036854775808 = y / 9223372036854775808 := by
    have p := two_pos (n - 64)
    subst hy
    obtain ⟨⟨a0, a1⟩, _⟩ := h
    rcases Int.lt_or_le ah 0 with hl | hl
    · have : ah / 2 ^ (n - 64) < 0 := Int.ediv_neg_of_neg_of_pos hl p
      unfold I64 at h1; omega
    · have : 0 ≤ ah / 2 ^ (n - 64) := Int.ediv_nonneg hl (by omega)
      unfold I64 at h1; omega
  rw [h2, IntKind.wrap_u64]
  unfold W128 I64 U64; unfold I64 at h1; omega

theorem shl_mid_law {x ah al : Int} {n : Nat} (h : W128 x ah al) (h0 : 0 < n) (h1 : n < 64) :
    ∃ k : Int, W128 (x * 2 ^ n + k * 340282366920938463463374607431768211456) (wrap64 (bits .or .u64 (IntKind.u64.wrap (IntKind.u64.wrap ah * 2 ^ n)) (al / 2 ^ (64 - n)))) (IntKind.u64.wrap (al * 2 ^ n)) := by
  obtain ⟨a1, ⟨a20, a21⟩, rfl⟩ := h
  obtain ⟨s1, s2, s3⟩ := pow_split al n (by omega) a20 a21
  have e := pow_join (64 - n) (by omega)
  rw [show 64 - (64 - n) = n by omega] at e
  have u := wrap_up ah (64 - n) (by omega)
  rw [show 64 - (64 - n) = n by omega] at u
  have m0 := Int.emod_nonneg ah (show (2 : Int) ^ (64 - n) ≠ 0 by have := two_pos (64 - n); omega)
  have m1 := Int.emod_lt_of_pos ah (two_pos (64 - n))
  have p := two_pos n
  have hm : (ah % 2 ^ (64 - n) + 1) * 2 ^ n ≤ 2 ^ (64 - n) * 2 ^ n := Int.mul_le_mul_of_nonneg_right (by omega) (by omega)
  rw [e, Int.add_mul, Int.one_mul] at hm
  have hp : 0 ≤ (ah % 2 ^ (64 - n)) * 2 ^ n := Int.mul_nonneg m0 (by omega)
  have hor : bits .or .u64 (IntKind.u64.wrap (IntKind.u64.wrap ah * 2 ^ n)) (al / 2 ^ (64 - n)) = (ah % 2 ^ (64 - n)) * 2 ^ n + al / 2 ^ (64 - n) := by
    rw [wrap_mul, u]
    have h := or_join (ah % 2 ^ (64 - n)) (al / 2 ^ (64 - n)) n (by omega) m0 (by omega) s2 s1
    rwa [IntKind.wrap_u64, Int.emod_eq_of_lt hp (by omega)] at h
  rw [hor]
  obtain ⟨k1, hk1⟩ := wrap64_mod ((ah % 2 ^ (64 - n)) * 2 ^ n + al / 2 ^ (64 - n))
  have d := Int.mul_ediv_add_emod ah (2 ^ (64 - n))
  have hah : ah * 2 ^ n = (ah / 2 ^ (64 - n)) * 18446744073709551616 + ah % 2 ^ (64 - n) * 2 ^ n := by
    rw [← e]
    generalize ah / 2 ^ (64 - n) = q at *
    generalize ah % 2 ^ (64 - n) = r at *
    rw [← d]; grind
  refine ⟨k1 - ah / 2 ^ (64 - n), wrap64_in64 _, wrap_u64_in _, ?_⟩
  rw [hk1]
  have e2 : (ah * 18446744073709551616 + al) * 2 ^ n = ah * 2 ^ n * 18446744073709551616 + al * 2 ^ n := by grind
  rw [e2, hah, ← s3]
  grind
theorem shl_far_law {x ah al : Int} {n : Nat} (h : W128 x ah al) (h0 : 64 ≤ n) (h1 : n ≤ 127) :
    ∃ k : Int, W128 (x * 2 ^ n + k * 340282366920938463463374607431768211456) (wrap64 (IntKind.u64.wrap (al * 2 ^ (n - 64)))) 0 := by
  obtain ⟨a1, ⟨a20, a21⟩, rfl⟩ := h
  obtain ⟨k1, hk1⟩ := wrap64_mod (IntKind.u64.wrap (al * 2 ^ (n - 64)))
  obtain ⟨k2, hk2⟩ := wrap_u64_mod (al * 2 ^ (n - 64))
  have e : (2 : Int) ^ n = 18446744073709551616 * 2 ^ (n - 64) := by rw [show (18446744073709551616 : Int) = 2 ^ 64 by decide, ← Int.pow_add]; congr 1; omega
  refine ⟨k1 + k2 - ah * 2 ^ (n - 64), wrap64_in64 _, ⟨by omega, by omega⟩, ?_⟩
  rw [hk1, hk2, e]
  grind

/-- Moved up and down again: the number, if it has room; another one, if it has none. -/
theorem shl_back {x S k : Int} {n : Nat} (hn : n ≤ 127) (hx : I128 x) (hS : I128 S) (h : S = x * 2 ^ n + k * 340282366920938463463374607431768211456) : (I128 (x * 2 ^ n) → S = x * 2 ^ n) ∧ (S / 2 ^ n = x ↔ I128 (x * 2 ^ n)) := by
  have p := two_pos n
  have e : (340282366920938463463374607431768211456 : Int) = 2 ^ n * 2 ^ (128 - n) := by rw [← Int.pow_add, show n + (128 - n) = 128 by omega]; decide
  have h1 : I128 (x * 2 ^ n) → S = x * 2 ^ n := by
    intro hf
    unfold I128 at hf hS
    have : k = 0 := by omega
    subst this; omega
  refine ⟨h1, ?_, ?_⟩
  · intro hd
    have hk : S = x * 2 ^ n + 2 ^ n * (k * 2 ^ (128 - n)) := by rw [h, e]; grind
    rw [hk, Int.add_mul_ediv_left _ _ (by omega), Int.mul_ediv_cancel _ (by omega)] at hd
    have hz : k * 2 ^ (128 - n) = 0 := by omega
    have hk0 : k = 0 := by
      rcases Int.mul_eq_zero.1 hz with h | h
      · exact h
      · have := two_pos (128 - n); omega
    subst hk0
    rw [show S = x * 2 ^ n by omega] at hS
    exact hS
  · intro hf
    rw [h1 hf, Int.mul_ediv_cancel _ (by omega)]

end Go.Proofs.YthdbchghhpoadaaDoor

set_option linter.unusedVariables false
namespace Go.Proofs.YthdbchghhpoadaaDoor
open Go.RowKit

theorem give_w_res {z hi lo : Int} {w w1 : World} {e : Ending} (he : e = .returned (wv hi lo)) (hb : Below w.heap.size w w1) (h : W128 z hi lo) : GiveW z w e w1 := ⟨_, _, he, hb, h⟩

set_option maxRecDepth 100000 in
theorem wshr_mid (x ah al : Int) (n : Nat) (h0 : 0 < n) (h1 : n < 64) (h : W128 x ah al) (w : World) : Calls Tryd.prog 30 #[wv ah al, .int .i64 (n : Int)] w (GiveW (x / 2 ^ n) w) := by
  have HL := Lib.hid (shr_mid_law h h0 h1)
  obtain ⟨⟨a10, a11⟩, ⟨a20, a21⟩, _⟩ := h
  have h2 : ¬ (n : Int) ≤ 0 := by omega
  have h3 : ¬ 64 ≤ (n : Int) := by omega
  go_enter Tryd.func30, Tryd.ntmps30
  go_wp2
  exact bodyPost_ret (v := wv _ _) (by unfold results; simp only [Tryd.results30]; go_simp) rfl (give_w_res rfl (below_new (below_new (Below.refl _ _) _) _) HL.out)
set_option maxRecDepth 100000 in
theorem wshr_far (x ah al : Int) (n : Nat) (h0 : 64 ≤ n) (h1 : n ≤ 9223372036854775807) (h : W128 x ah al) (w : World) : Calls Tryd.prog 30 #[wv ah al, .int .i64 (n : Int)] w (GiveW (x / 2 ^ n) w) := by
  have hh := h
  obtain ⟨⟨a10, a11⟩, ⟨a20, a21⟩, _⟩ := h
  have h2 : ¬ (n : Int) ≤ 0 := by omega
  have h3 : 64 ≤ (n : Int) := by omega
  have hn0 : (n = 0) = False := by simp; omega
  by_cases h4 : 63 < n - 64
  · have h5 : (63 : Int) < (n : Int) - 64 := by omega
    have HL := Lib.hid (shr_far_law (y := ah / 9223372036854775808) hh h0 (div_far hh.1 (by omega)).symm)
    clear hh
    go_enter Tryd.func30, Tryd.ntmps30
    go_wp2
    all_goals exact bodyPost_ret (v := wv _ _) (by unfold results; simp only [Tryd.results30]; go_simp) rfl (give_w_res rfl (below_new (below_new (Below.refl _ _) _) _) HL.out)
  · have h5 : ¬ (63 : Int) < (n : Int) - 64 := by omega
    have HL := Lib.hid (shr_far_law (y := ah / 2 ^ (n - 64)) hh h0 rfl)
    clear hh
    go_enter Tryd.func30, Tryd.ntmps30
    go_wp2
    all_goals exact bodyPost_ret (v := wv _ _) (by unfold results; simp only [Tryd.results30]; go_simp) rfl (give_w_res rfl (below_new (below_new (Below.refl _ _) _) _) HL.out)
set_option maxRecDepth 100000 in
theorem wshr_none (x ah al n : Int) (hn : n ≤ 0) (h : W128 x ah al) (w : World) : Calls Tryd.prog 30 #[wv ah al, .int .i64 n] w fun e w' => e = .returned (wv ah al) ∧ Below w.heap.size w w' := by
  clear h
  go_enter Tryd.func30, Tryd.ntmps30
  go_wp2
  exact bodyPost_ret (v := wv _ _) (by unfold results; simp only [Tryd.results30]; go_simp) rfl ⟨rfl, below_new (below_new (Below.refl _ _) _) _⟩
theorem wshr (x ah al : Int) (n : Nat) (h1 : n ≤ 9223372036854775807) (h : W128 x ah al) (w : World) : Calls Tryd.prog 30 #[wv ah al, .int .i64 (n : Int)] w (GiveW (x / 2 ^ n) w) := by
  by_cases h0 : n = 0
  · subst h0
    refine (wshr_none x ah al 0 (by omega) h w).mono ?_
    rintro e w' ⟨rfl, hb⟩
    exact ⟨_, _, rfl, hb, by simpa using h⟩
  · by_cases h2 : n < 64
    · exact wshr_mid x ah al n (by omega) h2 h w
    · exact wshr_far x ah al n (by omega) h1 h w

def GiveW2 (z : Int) (w : World) (e : Ending) (w' : World) : Prop := ∃ hi lo k, e = .returned (wv hi lo) ∧ Below w.heap.size w w' ∧ W128 (z + k * 340282366920938463463374607431768211456) hi lo
theorem cmpI_nz {x : Int} (h : cmpI x 0 = 0) : x = 0 := by unfold cmpI at h; split at h <;> (try split at h) <;> omega
theorem W128.halves {z hi lo : Int} (h : W128 z hi lo) : hi = z / 18446744073709551616 ∧ lo = z % 18446744073709551616 := by unfold W128 U64 at h; omega
theorem W128.mk {z : Int} (h : I128 z) : W128 z (z / 18446744073709551616) (z % 18446744073709551616) := by unfold I128 at h; unfold W128 I64 U64; omega
theorem GiveW.fixed {z : Int} {w : World} {e : Ending} {w' : World} (h : GiveW z w e w') : e = .returned (wv (z / 18446744073709551616) (z % 18446744073709551616)) ∧ Below w.heap.size w w' := by
  obtain ⟨hi, lo, rfl, hb, h⟩ := h
  rw [← h.halves.1, ← h.halves.2]; exact ⟨rfl, hb⟩
theorem I128.shr {z : Int} (h : I128 z) (n : Nat) : I128 (z / 2 ^ n) := by
  have p := two_pos n
  have e := Int.mul_ediv_add_emod z (2 ^ n)
  unfold I128 at *
  rcases Int.lt_or_le z 0 with hz | hz
  · have h1 : z / 2 ^ n < 0 := Int.ediv_neg_of_neg_of_pos hz p
    have h2 : z * 1 ≤ z / 2 ^ n := by
      refine Int.le_ediv_of_mul_le p ?_
      rw [Int.mul_one]
      have : z * 2 ^ n ≤ z * 1 := Int.mul_le_mul_of_nonpos_left (by omega) (by omega)
      omega
    omega
  · have h1 : 0 ≤ z / 2 ^ n := Int.ediv_nonneg hz (by omega)
    have h2 : z / 2 ^ n ≤ z := Int.ediv_le_self _ hz
    omega
theorem I128.of_mul {x p : Int} (hp : 0 < p) (h : I128 (x * p)) : I128 x := by
  unfold I128 at *
  have h1 : x.natAbs ≤ (x * p).natAbs := by
    rw [Int.natAbs_mul]; exact Nat.le_mul_of_pos_right _ (by omega)
  rcases Int.lt_or_le x 0 with hx | hx
  · have : x * p ≤ x * 1 := Int.mul_le_mul_of_nonpos_left (by omega) (by omega)
    omega
  · have : x * 1 ≤ x * p := Int.mul_le_mul_of_nonneg_left (by omega) hx
    omega
theorem not_room {x : Int} (hx : x ≠ 0) {n : Nat} (hn : 128 ≤ n) : ¬ I128 (x * 2 ^ n) := by
  intro h
  have en : 128 + (n - 128) = n := by omega
  have e : (2 : Int) ^ n = 2 ^ 128 * 2 ^ (n - 128) := by rw [← Int.pow_add, en]
  rw [e, ← Int.mul_assoc] at h
  have h2 := I128.of_mul (two_pos _) h
  have e64 : (2 : Int) ^ 64 = 18446744073709551616 := by decide
  have e128 : (2 : Int) ^ 128 = 18446744073709551616 * 18446744073709551616 := by rw [← e64]; exact Int.pow_add 2 64 64
  rw [e128] at h2
  unfold I128 at h2; omega
theorem wide_eq {x y ah al bh bl : Int} (hx : W128 x ah al) (hy : W128 y bh bl) : (ah == bh && al == bl) = true ↔ x = y := by
  have := (W128.cmp hx hy).2
  simp only [Bool.and_eq_true, beq_iff_eq]; omega

end Go.Proofs.YthdbchghhpoadaaDoor

set_option linter.unusedVariables false
namespace Go.Proofs.YthdbchghhpoadaaDoor
open Go.RowKit

theorem ret_intbool {k : IntKind} {a b : Int} {c d : Bool} (h : a = b) (h' : c = d) : Ending.returned (.tuple #[.int k a, .bool c]) = .returned (.tuple #[.int k b, .bool d]) := by rw [h, h']

theorem tmod_neg_step {a b : Int} (ha : a < 0) (hb : 0 < b) (h : a.tmod b ≠ 0) : a.tmod b + b = a % b := by
  rw [Int.tmod_eq_emod, if_neg]
  · omega
  · rintro (h1 | h1)
    · omega
    · exact h (Int.tmod_eq_zero_of_dvd h1)

end Go.Proofs.YthdbchghhpoadaaDoor

set_option linter.unusedVariables false
namespace Go.Proofs.YthdbchghhpoadaaDoor
open Go.RowKit

/-- What is told of a quotient: itself where it has room and there is one. -/
def TQ (z : Int) (has : Bool) (x : Int) (is : Bool) : Prop := (has = true ∧ I64 z ∧ is = true ∧ x = z) ∨ (¬ (has = true ∧ I64 z) ∧ is = false ∧ x = 0)
def GiveQ (z : Int) (has : Bool) (w : World) (e : Ending) (w' : World) : Prop := ∃ x is, e = .returned (.tuple #[.int .i64 x, .bool is]) ∧ w = w' ∧ TQ z has x is

theorem fdiv_near {a b : Int} (h0 : b ≠ 0) : a.fdiv b = a.tdiv b ∨ a.fdiv b = a.tdiv b - 1 := by
  by_cases h : a.tmod b = 0
  · exact .inl (fdiv_exact h0 h).1.symm
  · by_cases h' : a.tmod b < 0 ↔ b < 0
    · exact .inl (fdiv_like h0 h').1.symm
    · exact .inr (fdiv_unlike h0 h h').1.symm
theorem fdiv_room {a b : Int} (ha : I64 a) (hb : I64 b) (h0 : b ≠ 0) (h : ¬ (a = -9223372036854775808 ∧ b = -1)) : I64 (a.fdiv b) := by
  by_cases h1 : b = 1
  · subst h1; rw [Int.fdiv_one]; exact ha
  · by_cases h2 : b = -1
    · subst h2
      rw [(fdiv_uniq (a := a) (b := -1) (q := -a) (r := 0) (by omega) (by omega) (by omega)).1]
      unfold I64 at *; omega
    · have e : (a.tdiv b).natAbs = a.natAbs / b.natAbs := Int.natAbs_tdiv a b
      have l : a.natAbs / b.natAbs ≤ a.natAbs / 2 := Nat.div_le_div_left (by omega) (by omega)
      have k := fdiv_near (a := a) h0
      unfold I64 at *
      omega

theorem tdiv_room {a b : Int} (ha : I64 a) (hb : I64 b) (h0 : b ≠ 0) (h : ¬ (a = -9223372036854775808 ∧ b = -1)) : I64 (a.tdiv b) := by
  by_cases h1 : b = 1
  · subst h1; rw [Int.tdiv_one]; exact ha
  · by_cases h2 : b = -1
    · subst h2
      rw [Int.tdiv_neg, Int.tdiv_one]
      unfold I64 at *; omega
    · have e : (a.tdiv b).natAbs = a.natAbs / b.natAbs := Int.natAbs_tdiv a b
      have l : a.natAbs / b.natAbs ≤ a.natAbs / 2 := Nat.div_le_div_left (by omega) (by omega)
      unfold I64 at *
      omega
theorem wrap64_room {x : Int} (h : I64 x) : wrap64 x = x := IntWalk.wrap64_in _ ⟨h.1, h.2⟩

end Go.Proofs.YthdbchghhpoadaaDoor

set_option linter.unusedVariables false
namespace Go.Proofs.YthdbchghhpoadaaDoor
open Go.RowKit

theorem qdiv_law {hi lo y : Int} (h1 : U64 hi) (h2 : U64 lo) (hy : 0 < y) (hy' : y ≤ 18446744073709551615) :
    S128 ((hi * 18446744073709551616 + lo) / y) (hi / y) ((hi % y * 18446744073709551616 + lo) / y) ∧ (hi % y * 18446744073709551616 + lo) % y = (hi * 18446744073709551616 + lo) % y ∧ 0 ≤ hi % y ∧ hi % y < y := by
  have m0 := Int.emod_nonneg hi (show y ≠ 0 by omega)
  have m1 := Int.emod_lt_of_pos hi hy
  have e := Int.mul_ediv_add_emod hi y
  have k : hi * 18446744073709551616 + lo = (hi % y * 18446744073709551616 + lo) + y * (hi / y * 18446744073709551616) := by
    have : y * (hi / y * 18446744073709551616) = y * (hi / y) * 18446744073709551616 := by rw [Int.mul_assoc]
    omega
  refine ⟨⟨⟨Int.ediv_nonneg h1.1 (by omega), Int.le_trans (Int.ediv_le_self _ h1.1) h1.2⟩, ⟨Int.ediv_nonneg (by unfold U64 at h2; omega) (by omega), ?_⟩, ?_⟩, ?_, m0, m1⟩
  · clear k
    have : (hi % y * 18446744073709551616 + lo) / y < 18446744073709551616 := by
      refine Int.ediv_lt_of_lt_mul hy ?_
      unfold U64 at h2
      have : 18446744073709551616 * (hi % y + 1) ≤ 18446744073709551616 * y := by omega
      omega
    omega
  · generalize hi % y * 18446744073709551616 + lo = m at *
    rw [k, Int.add_mul_ediv_left _ _ (by omega)]; omega
  · generalize hi % y * 18446744073709551616 + lo = m at *
    rw [k, Int.add_mul_emod_self_left]

/-- A quotient of sizes, and what is left. -/
def GiveDiv (n y : Int) (w : World) (e : Ending) (w' : World) : Prop := ∃ a b r, e = .returned (.tuple #[.int .u64 a, .int .u64 b, .int .u64 r]) ∧ Below w.heap.size w w' ∧ S128 (n / y) a b ∧ r = n % y
def GiveSz (n : Int) (w : World) (e : Ending) (w' : World) : Prop := ∃ h l, e = .returned (.tuple #[.int .u64 h, .int .u64 l]) ∧ Below w.heap.size w w' ∧ S128 n h l
/-- A number, and whether it has room. -/
def AW (n H L : Int) (ok : Bool) : Prop := (I128 n → ok = true ∧ W128 n H L) ∧ (¬ I128 n → ok = false)
def GiveAw (n : Int) (w : World) (e : Ending) (w' : World) : Prop := ∃ H L ok, e = .returned (.tuple #[wv H L, .bool ok]) ∧ Below w.heap.size w w' ∧ AW n H L ok

theorem qdiv (hi lo y : Int) (h1 : U64 hi) (h2 : U64 lo) (hy : 0 < y) (hy' : y ≤ 18446744073709551615) (w : World) :
    Calls Tryd.prog 59 #[.int .u64 hi, .int .u64 lo, .int .u64 y] w (GiveDiv (hi * 18446744073709551616 + lo) y w) := by
  obtain ⟨q1, q2, q3, q4⟩ := qdiv_law h1 h2 hy hy'
  have C1 := Lib.hid (fun w => div64_any 0 hi y (by omega) h1 hy hy' w)
  rw [Int.zero_mul, Int.zero_add] at C1
  have C2 := Lib.hid (fun w => div64_any (hi % y) lo y q3 h2 q4 hy' w)
  have HQ := Lib.hid (And.intro q1 q2)
  clear q1 q2 q3 q4 h1 h2 hy hy'
  generalize hi * 18446744073709551616 + lo = n at *
  generalize (hi % y * 18446744073709551616 + lo) / y = b at *
  generalize (hi % y * 18446744073709551616 + lo) % y = r at *
  generalize hi / y = a at *
  generalize hi % y = m at *
  go_enter Tryd.func59, Tryd.ntmps59
  go_wp2_with fail
  refine (C1.out _).mono ?_; rintro e w1 ⟨rfl, hb1⟩
  go_wp2_with fail
  refine (C2.out _).mono ?_; rintro e w2 ⟨rfl, hb2⟩
  go_wp2_with fail
  exact bodyPost_ret (v := .tuple #[.int .u64 a, .int .u64 b, .int .u64 r]) (by unfold results; simp only [Tryd.results59]; go_simp) rfl ⟨_, _, _, rfl, below_next hb1 hb2, HQ.out.1, HQ.out.2⟩

set_option maxRecDepth 100000 in
theorem qsize (x ah al : Int) (hx : W128 x ah al) (w : World) : Calls Tryd.prog 58 #[wv ah al] w (GiveSz (x.natAbs : Int) w) := by
  obtain ⟨a1, a2, rfl⟩ := hx
  rcases Decidable.em (ah < 0) with ha | ha
  · obtain ⟨s, c, hs, c0, c1, h1, A1⟩ := sub64_ex 0 al 0 ⟨by omega, by omega⟩ a2 (by omega) (by omega)
    obtain ⟨t, d, ht, d0, d1, h2, A2⟩ := sub64_ex 0 (IntKind.u64.wrap ah) c ⟨by omega, by omega⟩ (wrap_u64_in _) c0 c1
    have HL := Lib.hid (apart_law a1 a2 ha hs h1.out c0 c1 (wrap_u64_in _) (wrap_u64_mod _) ht h2.out d0 d1)
    clear h1 h2
    go_enter Tryd.func58, Tryd.ntmps58
    go_wp2
    go_ret2
    exact ⟨_, _, rfl, by repeat (first | exact Below.refl _ _ | apply below_new), HL.out⟩
  · have HL : Hid (S128 ((ah * 18446744073709551616 + al).natAbs : Int) (IntKind.u64.wrap ah) al) := by
      show S128 _ _ _
      rw [IntKind.wrap_u64]; unfold S128; unfold I64 U64 at *; omega
    go_enter Tryd.func58, Tryd.ntmps58
    go_wp2
    go_quiet (fail)
    go_wp2
    exact bodyPost_ret (v := .tuple #[.int .u64 (IntKind.u64.wrap ah), .int .u64 al]) (by unfold results; simp only [Tryd.results58]; go_simp) rfl ⟨_, _, rfl, by repeat (first | exact Below.refl _ _ | apply below_drawn | apply below_new), HL.out⟩

set_option maxRecDepth 100000 in
theorem qaway_pos (n hi lo : Int) (h : S128 n hi lo) (w : World) : Calls Tryd.prog 60 #[.int .u64 hi, .int .u64 lo, .bool false] w (GiveAw n w) := by
  rcases Decidable.em (hi < 9223372036854775808) with hh | hh
  · have HL : Hid (AW n (wrap64 hi) lo true) := by
      show AW _ _ _ _
      unfold S128 U64 at h
      rw [wr_in (by omega) (by omega)]
      exact ⟨fun _ => ⟨rfl, by unfold W128 I64 U64; omega⟩, fun hn => absurd (show I128 n by unfold I128; omega) hn⟩
    have e1 : decide (hi < 9223372036854775808) = true := by simpa using hh
    clear h
    go_enter Tryd.func60, Tryd.ntmps60
    go_wp2
    exact bodyPost_ret (v := .tuple #[wv (wrap64 hi) lo, .bool true]) (by unfold results; simp only [Tryd.results60]; go_simp) rfl ⟨_, _, _, rfl, by repeat (first | exact Below.refl _ _ | apply below_new), HL.out⟩
  · have HL : Hid (AW n (wrap64 hi) lo false) := by
      show AW _ _ _ _
      unfold S128 U64 at h
      exact ⟨fun hn => by unfold I128 at hn; omega, fun hn => rfl⟩
    have e1 : decide (hi < 9223372036854775808) = false := by simpa using hh
    clear h
    go_enter Tryd.func60, Tryd.ntmps60
    go_wp2
    exact bodyPost_ret (v := .tuple #[wv (wrap64 hi) lo, .bool false]) (by unfold results; simp only [Tryd.results60]; go_simp) rfl ⟨_, _, _, rfl, by repeat (first | exact Below.refl _ _ | apply below_new), HL.out⟩

set_option maxRecDepth 100000 in
theorem qaway_neg (n hi lo : Int) (h : S128 n hi lo) (w : World) : Calls Tryd.prog 60 #[.int .u64 hi, .int .u64 lo, .bool true] w (GiveAw (-n) w) := by
  obtain ⟨a1, a2, hn⟩ := h
  obtain ⟨s, c, hs, c0, c1, h1, A1⟩ := sub64_ex 0 lo 0 ⟨by omega, by omega⟩ a2 (by omega) (by omega)
  obtain ⟨t, d, ht, d0, d1, h2, A2⟩ := sub64_ex 0 hi c ⟨by omega, by omega⟩ a1 c0 c1
  have HL := Lib.hid (fun hn => minus_law a1 a2 hn hs h1.out c0 c1 ht h2.out d0 d1)
  rw [hn] at HL
  have HF : Hid (¬ (hi < 9223372036854775808 ∨ hi = 9223372036854775808 ∧ lo = 0) → AW (-n) 0 0 false) := fun hx => ⟨fun h => by unfold I128 at h; unfold U64 at a1 a2; omega, fun _ => rfl⟩
  have HT : Hid ((hi < 9223372036854775808 ∨ hi = 9223372036854775808 ∧ lo = 0) → AW (-n) (wrap64 t) s true) := fun hn => by
    rcases HL.out hn with ⟨g1, -, g3⟩ | ⟨-, g2, -⟩
    · exact ⟨fun _ => ⟨rfl, g3⟩, fun h => absurd g1 h⟩
    · cases g2
  clear hn
  have l0 := a2.1
  clear h1 h2 HL
  rcases Int.lt_trichotomy hi 9223372036854775808 with hh | hh | hh
  · have e1 : ¬ 9223372036854775808 < hi := by omega
    have e2 : (hi == 9223372036854775808) = false := by simp; omega
    replace HT := Lib.hid (HT.out (.inl hh))
    clear HF
    go_enter Tryd.func60, Tryd.ntmps60
    go_wp2
    exact bodyPost_ret (v := .tuple #[wv (wrap64 t) s, .bool true]) (by unfold results; simp only [Tryd.results60]; go_simp) rfl ⟨_, _, _, rfl, by repeat (first | exact Below.refl _ _ | apply below_new), HT.out⟩
  · subst hh
    rcases Int.lt_or_eq_of_le l0 with hl | hl
    · replace HF := Lib.hid (HF.out (by omega))
      clear HT
      go_enter Tryd.func60, Tryd.ntmps60
      go_wp2
      exact bodyPost_ret (v := .tuple #[wv 0 0, .bool false]) (by unfold results; simp only [Tryd.results60]; go_simp) rfl ⟨_, _, _, rfl, by repeat (first | exact Below.refl _ _ | apply below_new), HF.out⟩
    · subst hl
      replace HT := Lib.hid (HT.out (by omega))
      clear HF l0
      go_enter Tryd.func60, Tryd.ntmps60
      go_wp2
      exact bodyPost_ret (v := .tuple #[wv (wrap64 t) s, .bool true]) (by unfold results; simp only [Tryd.results60]; go_simp) rfl ⟨_, _, _, rfl, by repeat (first | exact Below.refl _ _ | apply below_new), HT.out⟩
  · replace HF := Lib.hid (HF.out (by omega))
    clear HT
    go_enter Tryd.func60, Tryd.ntmps60
    go_wp2
    exact bodyPost_ret (v := .tuple #[wv 0 0, .bool false]) (by unfold results; simp only [Tryd.results60]; go_simp) rfl ⟨_, _, _, rfl, by repeat (first | exact Below.refl _ _ | apply below_new), HF.out⟩

end Go.Proofs.YthdbchghhpoadaaDoor

set_option linter.unusedVariables false
namespace Go.Proofs.YthdbchghhpoadaaDoor
open Go.RowKit

/-- What is told of a quotient: it, and what is left, or that there is none, or no room. -/
def QW (z b hi lo r : Int) (ok : Bool) : Prop := (I128 (z.fdiv b) ∧ b ≠ 0 ∧ ok = true ∧ W128 (z.fdiv b) hi lo ∧ r = z.fmod b) ∨ ((b = 0 ∨ ¬ I128 (z.fdiv b)) ∧ ok = false ∧ hi = 0 ∧ lo = 0 ∧ r = 0)
def GiveQW (z b : Int) (w : World) (e : Ending) (w' : World) : Prop := ∃ hi lo r ok, e = .returned (.tuple #[wv hi lo, .int .i64 r, .bool ok]) ∧ Below w.heap.size w w' ∧ QW z b hi lo r ok

/-! ### The plain law: from sizes to quotients rounded down -/
theorem sizes_div {n y : Int} (hn : 0 ≤ n) (hy : 0 < y) : n = y * (n / y) + n % y ∧ 0 ≤ n % y ∧ n % y < y ∧ 0 ≤ n / y :=
  ⟨(Int.mul_ediv_add_emod n y).symm, Int.emod_nonneg _ (by omega), Int.emod_lt_of_pos _ hy, Int.ediv_nonneg hn (by omega)⟩
theorem quot_like {z b : Int} (hb : b ≠ 0) (h : z < 0 ↔ b < 0) :
    z.fdiv b = (z.natAbs : Int) / b.natAbs ∧ z.fmod b = if b < 0 then -((z.natAbs : Int) % b.natAbs) else (z.natAbs : Int) % b.natAbs := by
  obtain ⟨e, h1, h2, h3⟩ := sizes_div (n := (z.natAbs : Int)) (y := (b.natAbs : Int)) (by omega) (by omega)
  generalize (z.natAbs : Int) / b.natAbs = q at *
  generalize (z.natAbs : Int) % b.natAbs = r at *
  split
  · rename_i hb'
    have e1 : (b.natAbs : Int) = -b := by omega
    rw [e1, Int.neg_mul] at e
    exact fdiv_uniq hb (q := q) (r := -r) (by omega) (by omega)
  · have e1 : (b.natAbs : Int) = b := by omega
    rw [e1] at e
    exact fdiv_uniq hb (q := q) (r := r) (by omega) (by omega)
theorem quot_unlike0 {z b : Int} (hb : b ≠ 0) (h : ¬ (z < 0 ↔ b < 0)) (hr : (z.natAbs : Int) % b.natAbs = 0) :
    z.fdiv b = -((z.natAbs : Int) / b.natAbs) ∧ z.fmod b = 0 := by
  obtain ⟨e, h1, h2, h3⟩ := sizes_div (n := (z.natAbs : Int)) (y := (b.natAbs : Int)) (by omega) (by omega)
  generalize (z.natAbs : Int) / b.natAbs = q at *
  generalize (z.natAbs : Int) % b.natAbs = r at *
  refine fdiv_uniq hb (q := -q) (r := 0) ?_ (by omega)
  rw [Int.mul_neg]
  by_cases hb' : b < 0
  · rw [show (b.natAbs : Int) = -b by omega, Int.neg_mul] at e; omega
  · rw [show (b.natAbs : Int) = b by omega] at e; omega
theorem quot_unlike1 {z b : Int} (hb : b ≠ 0) (h : ¬ (z < 0 ↔ b < 0)) (hr : 0 < (z.natAbs : Int) % b.natAbs) :
    z.fdiv b = -((z.natAbs : Int) / b.natAbs + 1) ∧ z.fmod b = if b < 0 then -(b.natAbs - (z.natAbs : Int) % b.natAbs) else b.natAbs - (z.natAbs : Int) % b.natAbs := by
  obtain ⟨e, h1, h2, h3⟩ := sizes_div (n := (z.natAbs : Int)) (y := (b.natAbs : Int)) (by omega) (by omega)
  generalize (z.natAbs : Int) / b.natAbs = q at *
  generalize (z.natAbs : Int) % b.natAbs = r at *
  split
  · rename_i hb'
    have e1 : (b.natAbs : Int) = -b := by omega
    rw [e1, Int.neg_mul] at e
    refine fdiv_uniq hb (q := -(q + 1)) ?_ (by omega)
    rw [Int.mul_neg, Int.mul_add]; omega
  · have e1 : (b.natAbs : Int) = b := by omega
    rw [e1] at e
    refine fdiv_uniq hb (q := -(q + 1)) ?_ (by omega)
    rw [Int.mul_neg, Int.mul_add]; omega

set_option maxRecDepth 100000 in
set_option maxHeartbeats 1000000 in
theorem qwide_zero (ah al : Int) (z : Int) (w : World) : Calls Tryd.prog 32 #[wv ah al, .int .i64 0] w (GiveQW z 0 w) := by
  go_enter Tryd.func32, Tryd.ntmps32
  go_wp2
  refine bodyPost_ret (v := .tuple #[wv 0 0, .int .i64 0, .bool false]) (by unfold results; simp only [Tryd.results32]; go_simp) rfl ⟨_, _, _, _, rfl, ?_, .inr ⟨.inl rfl, rfl, rfl, rfl, rfl⟩⟩
  exact below_new (below_new (Below.refl _ _) _) _

/-- What is known of the sizes. -/
theorem wide_sizes {z ah al b : Int} (hz : W128 z ah al) (hb : I64 b) (h0 : b ≠ 0) : 0 < (b.natAbs : Int) ∧ (b.natAbs : Int) ≤ 9223372036854775808 ∧ 0 ≤ (z.natAbs : Int) ∧ (z.natAbs : Int) ≤ 170141183460469231731687303715884105728 ∧ (ah < 0 ↔ z < 0) := by
  have h := hz.room
  unfold W128 I64 U64 at hz; unfold I64 at hb; unfold I128 at h
  omega

set_option maxRecDepth 100000 in
set_option maxHeartbeats 4000000 in
theorem qwide_like (z ah al b : Int) (hz : W128 z ah al) (hb : I64 b) (h0 : b ≠ 0) (hs : ah < 0 ↔ b < 0) (w : World) : Calls Tryd.prog 32 #[wv ah al, .int .i64 b] w (GiveQW z b w) := by
  obtain ⟨y0, y1, n0, n1, hzs⟩ := wide_sizes hz hb h0
  obtain ⟨q1, q2⟩ := quot_like h0 (hzs.symm.trans hs)
  obtain ⟨-, m0, m1, -⟩ := sizes_div n0 y0
  have CS := Lib.hid (fun w => qsize z ah al hz w)
  have CD := Lib.hid (fun h l (hs : S128 (z.natAbs : Int) h l) w => qdiv h l b.natAbs hs.1 hs.2.1 y0 (by omega) w)
  have HQ : Hid (∀ hi lo r, W128 (z.fdiv b) hi lo → r = z.fmod b → QW z b hi lo r true) := fun hi lo r h1 h2 => .inl ⟨h1.room, h0, rfl, h1, h2⟩
  have HN : Hid (¬ I128 (z.fdiv b) → QW z b 0 0 0 false) := fun h => .inr ⟨.inr h, rfl, rfl, rfl, rfl⟩
  have hb1 : (b == 0) = false := by simpa using h0
  have EY : Hid (if b < 0 then IntKind.u64.wrap (-IntKind.u64.wrap b) = (b.natAbs : Int) else IntKind.u64.wrap b = (b.natAbs : Int)) := by
    show ite _ _ _; rw [IntKind.wrap_u64, IntKind.wrap_u64]; unfold I64 at hb; split <;> omega
  have ER : Hid (if b < 0 then wrap64 (IntKind.u64.wrap (-((z.natAbs : Int) % b.natAbs))) = z.fmod b else wrap64 ((z.natAbs : Int) % b.natAbs) = z.fmod b) := by
    show ite _ _ _; rw [q2, IntKind.wrap_u64]; unfold wrap64; split <;> omega
  rw [q1] at HQ HN
  clear q1 q2 hzs hz n0 n1 y0 y1 hb h0 m0 m1
  generalize z.fdiv b = Z at *
  generalize z.fmod b = R at *
  generalize (z.natAbs : Int) = n at *
  generalize (b.natAbs : Int) = y at *
  rcases Decidable.em (b < 0) with hbn | hbn
  · have ha : ah < 0 := hs.2 hbn
    rw [if_pos hbn] at EY ER
    have EY := EY.out
    clear hs
    go_enter Tryd.func32, Tryd.ntmps32
    go_wp2_with fail
    have BB := start2 w #[.int .i64 ah, .int .u64 al] 46 #[.int .i64 0, .int .u64 0] 46
    obtain ⟨BB, hsz, r_a, r_res⟩ := BB
    generalize ((w.alloc (.cells #[.int .i64 ah, .int .u64 al] 46)).alloc (.cells #[.int .i64 0, .int .u64 0] 46)) = w0 at *
    replace BB := Lib.hid BB
    replace r_a := Lib.hid r_a
    replace r_res := Lib.hid r_res
    clear hsz
    obtain ⟨c_a0, c_a1, f_a0, f_a1⟩ := reads2 r_a.out
    have l_a := r_a.out.lt
    go_wp2_with fail
    refine (CS.out _).mono ?_
    rintro e w1 ⟨h, l, rfl, hb, hs⟩
    clear c_a0 c_a1 f_a0 f_a1 l_a
    replace r_a := Lib.hid (r_a.out.keep hb)
    replace r_res := Lib.hid (r_res.out.keep hb)
    replace BB := Lib.hid (below_next BB.out hb)
    clear hb
    have CD1 := Lib.hid (fun w => CD.out h l hs w)
    rw [hs.2.2] at CD1
    clear CD hs CS
    go_wp2_with fail
    refine (CD1.out _).mono ?_
    rintro e w2 ⟨qh, ql, r, rfl, hb, hs, hr⟩
    replace r_a := Lib.hid (r_a.out.keep hb)
    replace r_res := Lib.hid (r_res.out.keep hb)
    replace BB := Lib.hid (below_next BB.out hb)
    clear hb
    have HS := Lib.hid hs
    have HR := Lib.hid hr
    clear CD1 hs hr
    obtain ⟨c_a0, c_a1, f_a0, f_a1⟩ := reads2 r_a.out
    have l_a := r_a.out.lt
    go_wp2_with fail
    refine (qaway_pos _ _ _ HS.out _).mono ?_
    rintro e w3 ⟨th, tl, ok, rfl, hb, hA, hB⟩
    clear c_a0 c_a1 f_a0 f_a1 l_a
    replace r_a := Lib.hid (r_a.out.keep hb)
    replace r_res := Lib.hid (r_res.out.keep hb)
    replace BB := Lib.hid (below_next BB.out hb)
    clear hb
    have HA := Lib.hid hA
    have HB := Lib.hid hB
    clear hA hB HS
    by_cases hI : I128 (n / y)
    · obtain ⟨rfl, hW⟩ := HA.out hI
      have HF := Lib.hid (HQ.out _ _ _ hW rfl)
      have HR2 := ER.out
      rw [← HR.out] at HR2
      clear HA HB HQ HN hW hI HR ER
      obtain ⟨c_a0, c_a1, f_a0, f_a1⟩ := reads2 r_a.out
      have l_a := r_a.out.lt
      obtain ⟨c_res0, c_res1, f_res0, f_res1⟩ := reads2 r_res.out
      have l_res := r_res.out.lt
      go_wp2_with fail
      refine bodyPost_ret (v := .tuple #[wv th tl, .int .i64 R, .bool true]) (by unfold results; simp only [Tryd.results32]; go_simp) rfl ⟨_, _, _, _, rfl, (by repeat (first | with_reducible exact BB.out | with_reducible exact Below.refl _ _ | with_reducible apply below_new | with_reducible apply below_drawn | with_reducible apply below_drew | (with_reducible refine below_set ?_ (by omega) _))), HF.out⟩
    · obtain rfl := HB.out hI
      have HF := Lib.hid (HN.out hI)
      clear HA HB HQ HN hI HR ER
      obtain ⟨c_a0, c_a1, f_a0, f_a1⟩ := reads2 r_a.out
      have l_a := r_a.out.lt
      obtain ⟨c_res0, c_res1, f_res0, f_res1⟩ := reads2 r_res.out
      have l_res := r_res.out.lt
      go_wp2_with fail
      refine bodyPost_ret (v := .tuple #[wv 0 0, .int .i64 0, .bool false]) (by unfold results; simp only [Tryd.results32]; go_simp) rfl ⟨_, _, _, _, rfl, (by repeat (first | with_reducible exact BB.out | with_reducible exact Below.refl _ _ | with_reducible apply below_new | with_reducible apply below_drawn | with_reducible apply below_drew | (with_reducible refine below_set ?_ (by omega) _))), HF.out⟩
  · have ha : ¬ ah < 0 := fun h => hbn (hs.1 h)
    rw [if_neg hbn] at EY ER
    have EY := EY.out
    clear hs
    go_enter Tryd.func32, Tryd.ntmps32
    go_wp2_with fail
    have BB := start2 w #[.int .i64 ah, .int .u64 al] 46 #[.int .i64 0, .int .u64 0] 46
    obtain ⟨BB, hsz, r_a, r_res⟩ := BB
    generalize ((w.alloc (.cells #[.int .i64 ah, .int .u64 al] 46)).alloc (.cells #[.int .i64 0, .int .u64 0] 46)) = w0 at *
    replace BB := Lib.hid BB
    replace r_a := Lib.hid r_a
    replace r_res := Lib.hid r_res
    clear hsz
    obtain ⟨c_a0, c_a1, f_a0, f_a1⟩ := reads2 r_a.out
    have l_a := r_a.out.lt
    go_wp2_with fail
    refine (CS.out _).mono ?_
    rintro e w1 ⟨h, l, rfl, hb, hs⟩
    clear c_a0 c_a1 f_a0 f_a1 l_a
    replace r_a := Lib.hid (r_a.out.keep hb)
    replace r_res := Lib.hid (r_res.out.keep hb)
    replace BB := Lib.hid (below_next BB.out hb)
    clear hb
    have CD1 := Lib.hid (fun w => CD.out h l hs w)
    rw [hs.2.2] at CD1
    clear CD hs CS
    go_wp2_with fail
    refine (CD1.out _).mono ?_
    rintro e w2 ⟨qh, ql, r, rfl, hb, hs, hr⟩
    replace r_a := Lib.hid (r_a.out.keep hb)
    replace r_res := Lib.hid (r_res.out.keep hb)
    replace BB := Lib.hid (below_next BB.out hb)
    clear hb
    have HS := Lib.hid hs
    have HR := Lib.hid hr
    clear CD1 hs hr
    obtain ⟨c_a0, c_a1, f_a0, f_a1⟩ := reads2 r_a.out
    have l_a := r_a.out.lt
    go_wp2_with fail
    refine (qaway_pos _ _ _ HS.out _).mono ?_
    rintro e w3 ⟨th, tl, ok, rfl, hb, hA, hB⟩
    clear c_a0 c_a1 f_a0 f_a1 l_a
    replace r_a := Lib.hid (r_a.out.keep hb)
    replace r_res := Lib.hid (r_res.out.keep hb)
    replace BB := Lib.hid (below_next BB.out hb)
    clear hb
    have HA := Lib.hid hA
    have HB := Lib.hid hB
    clear hA hB HS
    by_cases hI : I128 (n / y)
    · obtain ⟨rfl, hW⟩ := HA.out hI
      have HF := Lib.hid (HQ.out _ _ _ hW rfl)
      have HR2 := ER.out
      rw [← HR.out] at HR2
      clear HA HB HQ HN hW hI HR ER
      obtain ⟨c_a0, c_a1, f_a0, f_a1⟩ := reads2 r_a.out
      have l_a := r_a.out.lt
      obtain ⟨c_res0, c_res1, f_res0, f_res1⟩ := reads2 r_res.out
      have l_res := r_res.out.lt
      go_wp2_with fail
      refine bodyPost_ret (v := .tuple #[wv th tl, .int .i64 R, .bool true]) (by unfold results; simp only [Tryd.results32]; go_simp) rfl ⟨_, _, _, _, rfl, (by repeat (first | with_reducible exact BB.out | with_reducible exact Below.refl _ _ | with_reducible apply below_new | with_reducible apply below_drawn | with_reducible apply below_drew | (with_reducible refine below_set ?_ (by omega) _))), HF.out⟩
    · obtain rfl := HB.out hI
      have HF := Lib.hid (HN.out hI)
      clear HA HB HQ HN hI HR ER
      obtain ⟨c_a0, c_a1, f_a0, f_a1⟩ := reads2 r_a.out
      have l_a := r_a.out.lt
      obtain ⟨c_res0, c_res1, f_res0, f_res1⟩ := reads2 r_res.out
      have l_res := r_res.out.lt
      go_wp2_with fail
      refine bodyPost_ret (v := .tuple #[wv 0 0, .int .i64 0, .bool false]) (by unfold results; simp only [Tryd.results32]; go_simp) rfl ⟨_, _, _, _, rfl, (by repeat (first | with_reducible exact BB.out | with_reducible exact Below.refl _ _ | with_reducible apply below_new | with_reducible apply below_drawn | with_reducible apply below_drew | (with_reducible refine below_set ?_ (by omega) _))), HF.out⟩

set_option maxRecDepth 100000 in
set_option maxHeartbeats 4000000 in
theorem qwide_unlike (z ah al b : Int) (hz : W128 z ah al) (hb : I64 b) (h0 : b ≠ 0) (hs : ¬ (ah < 0 ↔ b < 0)) (w : World) : Calls Tryd.prog 32 #[wv ah al, .int .i64 b] w (GiveQW z b w) := by
  obtain ⟨y0, y1, n0, n1, hzs⟩ := wide_sizes hz hb h0
  have hs' : ¬ (z < 0 ↔ b < 0) := by rw [← hzs]; exact hs
  obtain ⟨-, m0, m1, d0⟩ := sizes_div n0 y0
  have CS := Lib.hid (fun w => qsize z ah al hz w)
  have CD := Lib.hid (fun h l (hs : S128 (z.natAbs : Int) h l) w => qdiv h l b.natAbs hs.1 hs.2.1 y0 (by omega) w)
  have HQ : Hid (∀ hi lo r, W128 (z.fdiv b) hi lo → r = z.fmod b → QW z b hi lo r true) := fun hi lo r h1 h2 => .inl ⟨h1.room, h0, rfl, h1, h2⟩
  have HN : Hid (¬ I128 (z.fdiv b) → QW z b 0 0 0 false) := fun h => .inr ⟨.inr h, rfl, rfl, rfl, rfl⟩
  have hb1 : (b == 0) = false := by simpa using h0
  have EY : Hid (if b < 0 then IntKind.u64.wrap (-IntKind.u64.wrap b) = (b.natAbs : Int) else IntKind.u64.wrap b = (b.natAbs : Int)) := by
    show ite _ _ _; rw [IntKind.wrap_u64, IntKind.wrap_u64]; unfold I64 at hb; split <;> omega
  have E0 : Hid ((z.natAbs : Int) % b.natAbs = 0 → z.fdiv b = -((z.natAbs : Int) / b.natAbs) ∧ z.fmod b = 0) := quot_unlike0 h0 hs'
  have E1 : Hid (0 < (z.natAbs : Int) % b.natAbs → z.fdiv b = -((z.natAbs : Int) / b.natAbs + 1) ∧ (if b < 0 then wrap64 (IntKind.u64.wrap (-IntKind.u64.wrap ((b.natAbs : Int) - (z.natAbs : Int) % b.natAbs))) = z.fmod b else wrap64 (IntKind.u64.wrap ((b.natAbs : Int) - (z.natAbs : Int) % b.natAbs)) = z.fmod b)) := fun hr => by
    obtain ⟨k1, k2⟩ := quot_unlike1 h0 hs' hr
    refine ⟨k1, ?_⟩
    rw [k2, IntKind.wrap_u64, IntKind.wrap_u64]; unfold wrap64; split <;> omega
  have MM : Hid (0 ≤ (z.natAbs : Int) % b.natAbs ∧ (z.natAbs : Int) % b.natAbs < b.natAbs) := ⟨m0, m1⟩
  have NN : Hid (0 ≤ (z.natAbs : Int) / b.natAbs ∧ (z.natAbs : Int) / b.natAbs ≤ 170141183460469231731687303715884105728) := ⟨d0, by have := Int.ediv_le_self (b.natAbs : Int) n0; omega⟩
  clear hzs hz n0 n1 y0 y1 hb h0 m0 m1 hs' d0
  generalize z.fdiv b = Z at *
  generalize z.fmod b = R at *
  generalize (z.natAbs : Int) = n at *
  generalize (b.natAbs : Int) = y at *
  rcases Decidable.em (b < 0) with hbn | hbn
  · have ha : decide (ah < 0) = false := decide_eq_false (fun h => hs ⟨fun _ => hbn, fun _ => h⟩)
    rw [if_pos hbn] at EY
    have E1 := Lib.hid (fun h => And.intro (E1.out h).1 ((if_pos hbn) ▸ (E1.out h).2))
    have EY := EY.out
    have hbd : decide (b < 0) = true := decide_eq_true hbn
    clear hs
    go_enter Tryd.func32, Tryd.ntmps32
    go_wp2_with fail
    have BB := start2 w #[.int .i64 ah, .int .u64 al] 46 #[.int .i64 0, .int .u64 0] 46
    obtain ⟨BB, hsz, r_a, r_res⟩ := BB
    generalize ((w.alloc (.cells #[.int .i64 ah, .int .u64 al] 46)).alloc (.cells #[.int .i64 0, .int .u64 0] 46)) = w0 at *
    replace BB := Lib.hid BB
    replace r_a := Lib.hid r_a
    replace r_res := Lib.hid r_res
    clear hsz
    obtain ⟨c_a0, c_a1, f_a0, f_a1⟩ := reads2 r_a.out
    have l_a := r_a.out.lt
    go_wp2_with fail
    refine (CS.out _).mono ?_
    rintro e w1 ⟨h, l, rfl, hb, hs⟩
    clear c_a0 c_a1 f_a0 f_a1 l_a
    replace r_a := Lib.hid (r_a.out.keep hb)
    replace r_res := Lib.hid (r_res.out.keep hb)
    replace BB := Lib.hid (below_next BB.out hb)
    clear hb
    have CD1 := Lib.hid (fun w => CD.out h l hs w)
    rw [hs.2.2] at CD1
    clear CD hs CS
    go_wp2_with fail
    refine (CD1.out _).mono ?_
    rintro e w2 ⟨qh, ql, r, rfl, hb, hs, hr⟩
    replace r_a := Lib.hid (r_a.out.keep hb)
    replace r_res := Lib.hid (r_res.out.keep hb)
    replace BB := Lib.hid (below_next BB.out hb)
    clear hb
    have HS := Lib.hid hs
    rw [← hr] at E0 E1 MM
    clear CD1 hs hr
    rcases Int.lt_or_eq_of_le MM.out.1 with hr | hr
    · obtain ⟨s, c, q1, q2, q3, Q, A1⟩ := add64_ex ql 1 0 HS.out.2.1 ⟨by omega, by omega⟩ (by omega) (by omega)
      have HS' : Hid (S128 (n / y + 1) (IntKind.u64.wrap (qh + c)) s) := by
        have h1 := HS.out; have h2 := Q.out; have h3 := NN.out
        show S128 _ _ _
        rw [IntKind.wrap_u64]; unfold S128; unfold S128 at h1; unfold U64 at *; omega
      have E := E1.out hr
      have HR2 := E.2
      rw [E.1] at HQ HN
      clear E E0 E1 NN HS MM Q q1 q2 q3
      obtain ⟨c_a0, c_a1, f_a0, f_a1⟩ := reads2 r_a.out
      have l_a := r_a.out.lt
      go_wp2_with fail
      refine (qaway_neg _ _ _ HS'.out _).mono ?_
      rintro e w3 ⟨th, tl, ok, rfl, hb, hA, hB⟩
      clear c_a0 c_a1 f_a0 f_a1 l_a
      replace r_a := Lib.hid (r_a.out.keep hb)
      replace r_res := Lib.hid (r_res.out.keep hb)
      replace BB := Lib.hid (below_next BB.out hb)
      clear hb
      have HA := Lib.hid hA
      have HB := Lib.hid hB
      clear hA hB HS'
      by_cases hI : I128 (-(n / y + 1))
      · obtain ⟨rfl, hW⟩ := HA.out hI
        have HF := Lib.hid (HQ.out _ _ _ hW rfl)
        clear HA HB HQ HN hW hI
        obtain ⟨c_a0, c_a1, f_a0, f_a1⟩ := reads2 r_a.out
        have l_a := r_a.out.lt
        obtain ⟨c_res0, c_res1, f_res0, f_res1⟩ := reads2 r_res.out
        have l_res := r_res.out.lt
        go_wp2_with fail
        refine bodyPost_ret (v := .tuple #[wv th tl, .int .i64 R, .bool true]) (by unfold results; simp only [Tryd.results32]; go_simp) rfl ⟨_, _, _, _, rfl, (by repeat (first | with_reducible exact BB.out | with_reducible exact Below.refl _ _ | with_reducible apply below_new | with_reducible apply below_drawn | with_reducible apply below_drew | (with_reducible refine below_set ?_ (by omega) _))), HF.out⟩
      · obtain rfl := HB.out hI
        have HF := Lib.hid (HN.out hI)
        clear HA HB HQ HN hI HR2
        obtain ⟨c_a0, c_a1, f_a0, f_a1⟩ := reads2 r_a.out
        have l_a := r_a.out.lt
        obtain ⟨c_res0, c_res1, f_res0, f_res1⟩ := reads2 r_res.out
        have l_res := r_res.out.lt
        go_wp2_with fail
        refine bodyPost_ret (v := .tuple #[wv 0 0, .int .i64 0, .bool false]) (by unfold results; simp only [Tryd.results32]; go_simp) rfl ⟨_, _, _, _, rfl, (by repeat (first | with_reducible exact BB.out | with_reducible exact Below.refl _ _ | with_reducible apply below_new | with_reducible apply below_drawn | with_reducible apply below_drew | (with_reducible refine below_set ?_ (by omega) _))), HF.out⟩
    · subst hr
      have E := E0.out rfl
      have HZ := Lib.hid E.2
      rw [E.1] at HQ HN
      clear E E0 E1 NN MM
      obtain ⟨c_a0, c_a1, f_a0, f_a1⟩ := reads2 r_a.out
      have l_a := r_a.out.lt
      go_wp2_with fail
      refine (qaway_neg _ _ _ HS.out _).mono ?_
      rintro e w3 ⟨th, tl, ok, rfl, hb, hA, hB⟩
      clear c_a0 c_a1 f_a0 f_a1 l_a
      replace r_a := Lib.hid (r_a.out.keep hb)
      replace r_res := Lib.hid (r_res.out.keep hb)
      replace BB := Lib.hid (below_next BB.out hb)
      clear hb
      have HA := Lib.hid hA
      have HB := Lib.hid hB
      clear hA hB HS
      by_cases hI : I128 (-(n / y))
      · obtain ⟨rfl, hW⟩ := HA.out hI
        have HF := Lib.hid (HQ.out _ _ 0 hW HZ.out.symm)
        clear HA HB HQ HN hW hI
        obtain ⟨c_a0, c_a1, f_a0, f_a1⟩ := reads2 r_a.out
        have l_a := r_a.out.lt
        obtain ⟨c_res0, c_res1, f_res0, f_res1⟩ := reads2 r_res.out
        have l_res := r_res.out.lt
        go_wp2_with fail
        refine bodyPost_ret (v := .tuple #[wv th tl, .int .i64 0, .bool true]) (by unfold results; simp only [Tryd.results32]; go_simp) rfl ⟨_, _, _, _, rfl, (by repeat (first | with_reducible exact BB.out | with_reducible exact Below.refl _ _ | with_reducible apply below_new | with_reducible apply below_drawn | with_reducible apply below_drew | (with_reducible refine below_set ?_ (by omega) _))), HF.out⟩
      · obtain rfl := HB.out hI
        have HF := Lib.hid (HN.out hI)
        clear HA HB HQ HN hI
        obtain ⟨c_a0, c_a1, f_a0, f_a1⟩ := reads2 r_a.out
        have l_a := r_a.out.lt
        obtain ⟨c_res0, c_res1, f_res0, f_res1⟩ := reads2 r_res.out
        have l_res := r_res.out.lt
        go_wp2_with fail
        refine bodyPost_ret (v := .tuple #[wv 0 0, .int .i64 0, .bool false]) (by unfold results; simp only [Tryd.results32]; go_simp) rfl ⟨_, _, _, _, rfl, (by repeat (first | with_reducible exact BB.out | with_reducible exact Below.refl _ _ | with_reducible apply below_new | with_reducible apply below_drawn | with_reducible apply below_drew | (with_reducible refine below_set ?_ (by omega) _))), HF.out⟩
  · have ha : decide (ah < 0) = true := decide_eq_true (Decidable.byContradiction fun h => hs ⟨fun h' => absurd h' h, fun h' => absurd h' hbn⟩)
    rw [if_neg hbn] at EY
    have E1 := Lib.hid (fun h => And.intro (E1.out h).1 ((if_neg hbn) ▸ (E1.out h).2))
    have EY := EY.out
    have hbd : decide (b < 0) = false := decide_eq_false hbn
    clear hs
    go_enter Tryd.func32, Tryd.ntmps32
    go_wp2_with fail
    have BB := start2 w #[.int .i64 ah, .int .u64 al] 46 #[.int .i64 0, .int .u64 0] 46
    obtain ⟨BB, hsz, r_a, r_res⟩ := BB
    generalize ((w.alloc (.cells #[.int .i64 ah, .int .u64 al] 46)).alloc (.cells #[.int .i64 0, .int .u64 0] 46)) = w0 at *
    replace BB := Lib.hid BB
    replace r_a := Lib.hid r_a
    replace r_res := Lib.hid r_res
    clear hsz
    obtain ⟨c_a0, c_a1, f_a0, f_a1⟩ := reads2 r_a.out
    have l_a := r_a.out.lt
    go_wp2_with fail
    refine (CS.out _).mono ?_
    rintro e w1 ⟨h, l, rfl, hb, hs⟩
    clear c_a0 c_a1 f_a0 f_a1 l_a
    replace r_a := Lib.hid (r_a.out.keep hb)
    replace r_res := Lib.hid (r_res.out.keep hb)
    replace BB := Lib.hid (below_next BB.out hb)
    clear hb
    have CD1 := Lib.hid (fun w => CD.out h l hs w)
    rw [hs.2.2] at CD1
    clear CD hs CS
    go_wp2_with fail
    refine (CD1.out _).mono ?_
    rintro e w2 ⟨qh, ql, r, rfl, hb, hs, hr⟩
    replace r_a := Lib.hid (r_a.out.keep hb)
    replace r_res := Lib.hid (r_res.out.keep hb)
    replace BB := Lib.hid (below_next BB.out hb)
    clear hb
    have HS := Lib.hid hs
    rw [← hr] at E0 E1 MM
    clear CD1 hs hr
    rcases Int.lt_or_eq_of_le MM.out.1 with hr | hr
    · obtain ⟨s, c, q1, q2, q3, Q, A1⟩ := add64_ex ql 1 0 HS.out.2.1 ⟨by omega, by omega⟩ (by omega) (by omega)
      have HS' : Hid (S128 (n / y + 1) (IntKind.u64.wrap (qh + c)) s) := by
        have h1 := HS.out; have h2 := Q.out; have h3 := NN.out
        show S128 _ _ _
        rw [IntKind.wrap_u64]; unfold S128; unfold S128 at h1; unfold U64 at *; omega
      have E := E1.out hr
      have HR2 := E.2
      rw [E.1] at HQ HN
      clear E E0 E1 NN HS MM Q q1 q2 q3
      obtain ⟨c_a0, c_a1, f_a0, f_a1⟩ := reads2 r_a.out
      have l_a := r_a.out.lt
      go_wp2_with fail
      refine (qaway_neg _ _ _ HS'.out _).mono ?_
      rintro e w3 ⟨th, tl, ok, rfl, hb, hA, hB⟩
      clear c_a0 c_a1 f_a0 f_a1 l_a
      replace r_a := Lib.hid (r_a.out.keep hb)
      replace r_res := Lib.hid (r_res.out.keep hb)
      replace BB := Lib.hid (below_next BB.out hb)
      clear hb
      have HA := Lib.hid hA
      have HB := Lib.hid hB
      clear hA hB HS'
      by_cases hI : I128 (-(n / y + 1))
      · obtain ⟨rfl, hW⟩ := HA.out hI
        have HF := Lib.hid (HQ.out _ _ _ hW rfl)
        clear HA HB HQ HN hW hI
        obtain ⟨c_a0, c_a1, f_a0, f_a1⟩ := reads2 r_a.out
        have l_a := r_a.out.lt
        obtain ⟨c_res0, c_res1, f_res0, f_res1⟩ := reads2 r_res.out
        have l_res := r_res.out.lt
        go_wp2_with fail
        refine bodyPost_ret (v := .tuple #[wv th tl, .int .i64 R, .bool true]) (by unfold results; simp only [Tryd.results32]; go_simp) rfl ⟨_, _, _, _, rfl, (by repeat (first | with_reducible exact BB.out | with_reducible exact Below.refl _ _ | with_reducible apply below_new | with_reducible apply below_drawn | with_reducible apply below_drew | (with_reducible refine below_set ?_ (by omega) _))), HF.out⟩
      · obtain rfl := HB.out hI
        have HF := Lib.hid (HN.out hI)
        clear HA HB HQ HN hI HR2
        obtain ⟨c_a0, c_a1, f_a0, f_a1⟩ := reads2 r_a.out
        have l_a := r_a.out.lt
        obtain ⟨c_res0, c_res1, f_res0, f_res1⟩ := reads2 r_res.out
        have l_res := r_res.out.lt
        go_wp2_with fail
        refine bodyPost_ret (v := .tuple #[wv 0 0, .int .i64 0, .bool false]) (by unfold results; simp only [Tryd.results32]; go_simp) rfl ⟨_, _, _, _, rfl, (by repeat (first | with_reducible exact BB.out | with_reducible exact Below.refl _ _ | with_reducible apply below_new | with_reducible apply below_drawn | with_reducible apply below_drew | (with_reducible refine below_set ?_ (by omega) _))), HF.out⟩
    · subst hr
      have E := E0.out rfl
      have HZ := Lib.hid E.2
      rw [E.1] at HQ HN
      clear E E0 E1 NN MM
      obtain ⟨c_a0, c_a1, f_a0, f_a1⟩ := reads2 r_a.out
      have l_a := r_a.out.lt
      go_wp2_with fail
      refine (qaway_neg _ _ _ HS.out _).mono ?_
      rintro e w3 ⟨th, tl, ok, rfl, hb, hA, hB⟩
      clear c_a0 c_a1 f_a0 f_a1 l_a
      replace r_a := Lib.hid (r_a.out.keep hb)
      replace r_res := Lib.hid (r_res.out.keep hb)
      replace BB := Lib.hid (below_next BB.out hb)
      clear hb
      have HA := Lib.hid hA
      have HB := Lib.hid hB
      clear hA hB HS
      by_cases hI : I128 (-(n / y))
      · obtain ⟨rfl, hW⟩ := HA.out hI
        have HF := Lib.hid (HQ.out _ _ 0 hW HZ.out.symm)
        clear HA HB HQ HN hW hI
        obtain ⟨c_a0, c_a1, f_a0, f_a1⟩ := reads2 r_a.out
        have l_a := r_a.out.lt
        obtain ⟨c_res0, c_res1, f_res0, f_res1⟩ := reads2 r_res.out
        have l_res := r_res.out.lt
        go_wp2_with fail
        refine bodyPost_ret (v := .tuple #[wv th tl, .int .i64 0, .bool true]) (by unfold results; simp only [Tryd.results32]; go_simp) rfl ⟨_, _, _, _, rfl, (by repeat (first | with_reducible exact BB.out | with_reducible exact Below.refl _ _ | with_reducible apply below_new | with_reducible apply below_drawn | with_reducible apply below_drew | (with_reducible refine below_set ?_ (by omega) _))), HF.out⟩
      · obtain rfl := HB.out hI
        have HF := Lib.hid (HN.out hI)
        clear HA HB HQ HN hI
        obtain ⟨c_a0, c_a1, f_a0, f_a1⟩ := reads2 r_a.out
        have l_a := r_a.out.lt
        obtain ⟨c_res0, c_res1, f_res0, f_res1⟩ := reads2 r_res.out
        have l_res := r_res.out.lt
        go_wp2_with fail
        refine bodyPost_ret (v := .tuple #[wv 0 0, .int .i64 0, .bool false]) (by unfold results; simp only [Tryd.results32]; go_simp) rfl ⟨_, _, _, _, rfl, (by repeat (first | with_reducible exact BB.out | with_reducible exact Below.refl _ _ | with_reducible apply below_new | with_reducible apply below_drawn | with_reducible apply below_drew | (with_reducible refine below_set ?_ (by omega) _))), HF.out⟩

theorem qwide (z ah al b : Int) (hz : W128 z ah al) (hb : I64 b) (w : World) : Calls Tryd.prog 32 #[wv ah al, .int .i64 b] w (GiveQW z b w) := by
  by_cases h0 : b = 0
  · subst h0; exact qwide_zero ah al z w
  · by_cases hs : ah < 0 ↔ b < 0
    · exact qwide_like z ah al b hz hb h0 hs w
    · exact qwide_unlike z ah al b hz hb h0 hs w

end Go.Proofs.YthdbchghhpoadaaDoor

set_option linter.unusedVariables false
namespace Go.Proofs.YthdbchghhpoadaaDoor
open Go.RowKit

def nearI (z b : Int) : Int := (2 * z + b).fdiv (2 * b)
theorem near_law {z b : Int} (h0 : b ≠ 0) : ((z.fmod b).natAbs < (b.natAbs : Int) - (z.fmod b).natAbs → nearI z b = z.fdiv b) ∧ (¬ (z.fmod b).natAbs < (b.natAbs : Int) - (z.fmod b).natAbs → nearI z b = z.fdiv b + 1) := by
  have e := fdiv_spec z b
  have hr := fmod_bounds (a := z) h0
  generalize z.fdiv b = q at *
  generalize z.fmod b = r at *
  unfold nearI
  have k : 2 * z + b = 2 * b * q + (2 * r + b) := by rw [e, Int.mul_assoc]; omega
  constructor
  · intro h
    exact (fdiv_uniq (q := q) (r := 2 * r + b) (by omega) k (by omega)).1
  · intro h
    exact (fdiv_uniq (q := q + 1) (r := 2 * r - b) (by omega) (by rw [k, Int.mul_add]; omega) (by omega)).1
theorem fdiv_abs_le {z b : Int} (h0 : b ≠ 0) : -(z.natAbs : Int) ≤ z.fdiv b ∧ z.fdiv b ≤ z.natAbs := by
  obtain ⟨e, h1, h2, h3⟩ := sizes_div (n := (z.natAbs : Int)) (y := (b.natAbs : Int)) (by omega) (by omega)
  have l := Int.ediv_le_self (b.natAbs : Int) (show 0 ≤ (z.natAbs : Int) by omega)
  by_cases hs : z < 0 ↔ b < 0
  · rw [(quot_like h0 hs).1]; omega
  · rcases Int.lt_or_eq_of_le h1 with hr | hr
    · rw [(quot_unlike1 h0 hs hr).1]
      have hy : 2 ≤ (b.natAbs : Int) := by omega
      have : 2 * ((z.natAbs : Int) / b.natAbs) ≤ b.natAbs * ((z.natAbs : Int) / b.natAbs) := Int.mul_le_mul_of_nonneg_right hy h3
      omega
    · rw [(quot_unlike0 h0 hs hr.symm).1]; omega
/-- Where the quotient has no room, the nearer one has none. -/
theorem near_room {z b : Int} (hz : I128 z) (h0 : b ≠ 0) (h : ¬ I128 (z.fdiv b)) : ¬ I128 (nearI z b) := by
  have l := fdiv_abs_le (z := z) h0
  have k := near_law (z := z) h0
  unfold I128 at *
  by_cases hc : (z.fmod b).natAbs < (b.natAbs : Int) - (z.fmod b).natAbs
  · rw [k.1 hc]; omega
  · rw [k.2 hc]; omega

/-- What is told of a quotient, rounded to the nearer one. -/
def HB (z b hi lo : Int) (ok : Bool) : Prop := (b ≠ 0 ∧ WB (nearI z b) hi lo ok) ∨ (b = 0 ∧ ok = false ∧ hi = 0 ∧ lo = 0)
def GiveHB (z b : Int) (w : World) (e : Ending) (w' : World) : Prop := ∃ hi lo ok, e = .returned (.tuple #[wv hi lo, .bool ok]) ∧ Below w.heap.size w w' ∧ HB z b hi lo ok

theorem half_left {b r : Int} (hb : I64 b) (hr : 0 ≤ r ∧ r < b ∨ b < r ∧ r ≤ 0) :
    (b < 0 → IntKind.u64.wrap (-IntKind.u64.wrap r) = r.natAbs ∧ IntKind.u64.wrap (-IntKind.u64.wrap b) = b.natAbs) ∧ (¬ b < 0 → IntKind.u64.wrap r = r.natAbs ∧ IntKind.u64.wrap b = b.natAbs) ∧
    IntKind.u64.wrap (b.natAbs - (r.natAbs : Int)) = b.natAbs - (r.natAbs : Int) := by
  unfold I64 at hb
  refine ⟨fun h => ?_, fun h => ?_, ?_⟩
  · rw [IntKind.wrap_u64, IntKind.wrap_u64, IntKind.wrap_u64, IntKind.wrap_u64]; omega
  · rw [IntKind.wrap_u64, IntKind.wrap_u64]; omega
  · rw [IntKind.wrap_u64]; omega

end Go.Proofs.YthdbchghhpoadaaDoor

set_option linter.unusedVariables false
namespace Go.Proofs.YthdbchghhpoadaaDoor
open Go.RowKit

theorem near_i128 {a b : Int} (ha : I64 a) (h0 : b ≠ 0) : I128 (nearI a b) := by
  have l := fdiv_abs_le (z := a) h0
  have k := near_law (z := a) h0
  unfold I128; unfold I64 at ha
  by_cases hc : (a.fmod b).natAbs < (b.natAbs : Int) - (a.fmod b).natAbs
  · rw [k.1 hc]; omega
  · rw [k.2 hc]; omega
def GiveQ1 (z : Int) (has : Bool) (w : World) (e : Ending) (w' : World) : Prop := ∃ x is, e = .returned (.tuple #[.int .i64 x, .bool is]) ∧ Below w.heap.size w w' ∧ TQ z has x is

/-- A number as a place. -/
def cutI (z : Int) : Int := if z < -70368744177664 then -70368744177664 else if 70368744177664 < z then 70368744177664 else z
theorem cut_far {z : Int} (h : ¬ (I64 z ∧ -70368744177664 ≤ z ∧ z ≤ 70368744177664)) : cutI z = if z < 0 then -70368744177664 else 70368744177664 := by
  unfold cutI; unfold I64 at h; split <;> split <;> (try split) <;> omega
theorem cut_near {z : Int} (h0 : -70368744177664 ≤ z) (h1 : z ≤ 70368744177664) : cutI z = z := by
  unfold cutI; rw [if_neg (by omega), if_neg (by omega)]
theorem cmp0_neg {z : Int} : decide (cmpI z 0 < 0) = decide (z < 0) := by
  rcases Int.lt_trichotomy z 0 with h | h | h
  · rw [cmpI_lt h]; simp [h]
  · subst h; rw [cmpI_eq]; all_goals simp
  · rw [cmpI_gt (by omega)]; all_goals simp [show ¬ z < 0 by omega]

theorem place_beyond {z b : Int} (hb : I64 b) (h0 : b ≠ 0) (h : ¬ I128 (z * 65536)) : cutI ((z * 65536).fdiv b) = if (z < 0 ↔ b < 0) then 70368744177664 else -70368744177664 := by
  have hx : z * 65536 < 0 ↔ z < 0 := by omega
  generalize z * 65536 = x at *
  have hn : 170141183460469231731687303715884105728 - 1 < (x.natAbs : Int) := by unfold I128 at h; omega
  have hq : 18446744073709551616 ≤ (x.natAbs : Int) / b.natAbs := Int.le_ediv_of_mul_le (by omega) (by unfold I64 at hb; omega)
  by_cases hs : x < 0 ↔ b < 0
  · rw [if_pos (hx.symm.trans hs), (quot_like h0 hs).1]; unfold cutI; rw [if_neg (by omega), if_pos (by omega)]
  · rw [if_neg (fun h => hs (hx.trans h))]
    have m := Int.emod_nonneg (x.natAbs : Int) (show (b.natAbs : Int) ≠ 0 by omega)
    rcases Int.lt_or_eq_of_le m with hr | hr
    · rw [(quot_unlike1 h0 hs hr).1]; unfold cutI; rw [if_pos (by omega)]
    · rw [(quot_unlike0 h0 hs hr.symm).1]; unfold cutI; rw [if_pos (by omega)]
theorem place_great {x b : Int} (hx : I128 x) (h0 : b ≠ 0) (h : ¬ I128 (x.fdiv b)) : cutI (x.fdiv b) = 70368744177664 := by
  have l := fdiv_abs_le (z := x) h0
  unfold I128 at *
  unfold cutI; rw [if_neg (by omega), if_pos (by omega)]

end Go.Proofs.YthdbchghhpoadaaDoor
