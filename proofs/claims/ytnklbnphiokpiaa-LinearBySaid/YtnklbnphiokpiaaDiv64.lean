/- math/bits.Div64: a number of two halves divided by one of 64 bits that is above the upper half. -/
import Derived.Test.YtnklbnphiokpiaaJA
import Derived.Test.YtnklbnphiokpiaaLen64
import Derived.Laws.Bits64b
import Derived.Deep.DeepCutAuto
import Derived.Deep.CutBlock
set_option linter.unusedVariables false
namespace Go.Proofs.Ytnklbnphiokpiaa
open Go.RowKit

theorem div64_small (lo y : Int) (hl : U64 lo) (hy : 0 < y) (hy' : y ≤ 18446744073709551615) (w : World) :
    Calls Try.prog 119 #[.int .u64 0, .int .u64 lo, .int .u64 y] w fun e w' => e = .returned (.tuple #[.int .u64 (lo / y), .int .u64 (lo % y)]) ∧ Below w.heap.size w w' := by
  obtain ⟨l0, l1⟩ := hl
  have h1 : (y == 0) = false := by simp; omega
  have h2 : ¬ y ≤ 0 := by omega
  go_enter Try.func119, Try.ntmps119
  go_wp2
  go_quiet (fail)
  go_wp2
  go_ret2
  exact ⟨by first | rfl | trivial, by repeat (first | exact Below.refl _ _ | apply below_drawn | apply below_new)⟩

theorem wrap_u64_inD (x : Int) : 0 ≤ IntKind.u64.wrap x ∧ IntKind.u64.wrap x ≤ 18446744073709551615 := by rw [IntKind.wrap_u64]; omega

/-- How far the divisor is moved up. -/
theorem norm_shift (y : Int) (h0 : 0 < y) (h1 : y ≤ 18446744073709551615) : ∃ s : Nat, (64 - (Lib.bitLen y.toNat : Int)) = s ∧ s ≤ 63 ∧ 9223372036854775808 ≤ y * (2 : Int) ^ s ∧ y * (2 : Int) ^ s ≤ 18446744073709551615 := by
  obtain ⟨n, rfl⟩ := Int.eq_ofNat_of_zero_le (show 0 ≤ y by omega)
  obtain ⟨a, b, c⟩ := bitLen_spec 64 n (by omega) (by omega) (by omega)
  have d := Lib.bitLen_le n 64 (by omega) (by omega)
  simp only [Int.toNat_natCast]
  generalize Lib.bitLen n = k at *
  refine ⟨64 - k, by omega, by omega, ?_, ?_⟩
  · have e : 2 ^ (k - 1) * 2 ^ (64 - k) = 2 ^ 63 := by rw [← Nat.pow_add]; congr 1; omega
    have := Nat.mul_le_mul_right (2 ^ (64 - k)) a
    rw [e] at this
    have h : ((n * 2 ^ (64 - k) : Nat) : Int) = (n : Int) * 2 ^ (64 - k) := by simp
    omega
  · have e : 2 ^ k * 2 ^ (64 - k) = 2 ^ 64 := by rw [← Nat.pow_add]; congr 1; omega
    have := Nat.mul_lt_mul_of_pos_right b (show 0 < 2 ^ (64 - k) from Nat.pow_pos (by omega))
    rw [e] at this
    have h : ((n * 2 ^ (64 - k) : Nat) : Int) = (n : Int) * 2 ^ (64 - k) := by simp
    omega

theorem or_join (a b : Int) (s : Nat) (hs : s ≤ 63) (h0 : 0 ≤ a) (h1 : a * (2 : Int) ^ s ≤ 18446744073709551615) (b0 : 0 ≤ b) (b1 : b < (2 : Int) ^ s) :
    bits .or .u64 (IntKind.u64.wrap (a * (2 : Int) ^ s)) b = a * (2 : Int) ^ s + b := by
  obtain ⟨m, rfl⟩ := Int.eq_ofNat_of_zero_le h0
  obtain ⟨n, rfl⟩ := Int.eq_ofNat_of_zero_le b0
  have e : ((m : Int) * 2 ^ s) = ((m * 2 ^ s : Nat) : Int) := by simp
  have hn : n < 2 ^ s := by
    have : ((2 ^ s : Nat) : Int) = (2 : Int) ^ s := by simp
    omega
  have h64 : 2 ^ s ≤ 2 ^ 63 := Nat.pow_le_pow_right (by omega) hs
  rw [e] at h1 ⊢
  rw [IntKind.wrap_u64, show ((m * 2 ^ s : Nat) : Int) % 18446744073709551616 = ((m * 2 ^ s : Nat) : Int) by omega, bits_or_u64_nat _ _ (by omega) (by omega)]
  rw [Nat.mul_comm m, ← Nat.two_pow_add_eq_or_of_lt hn]
  simp

/-- The low half. -/
theorem and_low (x : Int) (h0 : 0 ≤ x) (h1 : x ≤ 18446744073709551615) : bits .and .u64 x 4294967295 = x % 4294967296 := by
  obtain ⟨n, rfl⟩ := Int.eq_ofNat_of_zero_le h0
  have h := bits_and_u64_nat n 4294967295 (by omega) (by omega)
  have e : n &&& 4294967295 = n % 4294967296 := Nat.and_two_pow_sub_one_eq_mod n 32
  rw [e] at h
  exact h

theorem pow_split (lo : Int) (s : Nat) (hs : s ≤ 63) (h0 : 0 ≤ lo) (h1 : lo ≤ 18446744073709551615) :
    lo / (2 : Int) ^ (64 - s) < 2 ^ s ∧ 0 ≤ lo / (2 : Int) ^ (64 - s) ∧ (lo / (2 : Int) ^ (64 - s)) * 18446744073709551616 + IntKind.u64.wrap (lo * 2 ^ s) = lo * 2 ^ s := by
  have e : (2 : Int) ^ (64 - s) * 2 ^ s = 18446744073709551616 := by rw [← Int.pow_add, show 64 - s + s = 64 by omega]; decide
  have p1 : (0 : Int) < 2 ^ (64 - s) := Int.pow_pos (by omega)
  have p2 : (0 : Int) < 2 ^ s := Int.pow_pos (by omega)
  refine ⟨?_, Int.ediv_nonneg h0 (by omega), ?_⟩
  · refine Int.ediv_lt_of_lt_mul p1 ?_
    rw [Int.mul_comm, e]; omega
  · rw [IntKind.wrap_u64]
    have h2 : lo * 2 ^ s / 18446744073709551616 = lo / 2 ^ (64 - s) := by
      rw [← e]; exact Int.mul_ediv_mul_of_pos_left _ _ p2
    have h3 := Int.mul_ediv_add_emod (lo * 2 ^ s) 18446744073709551616
    rw [h2] at h3
    omega

set_option maxRecDepth 100000 in
set_option maxHeartbeats 4000000 in
theorem div64_long (hi lo y : Int) (h0 : 0 < hi) (hl : U64 lo) (hy : hi < y) (hy' : y ≤ 18446744073709551615) (w : World) :
    Calls Try.prog 119 #[.int .u64 hi, .int .u64 lo, .int .u64 y] w fun e w' => e = .returned (.tuple #[.int .u64 ((hi * 18446744073709551616 + lo) / y), .int .u64 ((hi * 18446744073709551616 + lo) % y)]) ∧ Below w.heap.size w w' := by
  have C := Lib.hid (fun w => lz64_any y ⟨by omega, hy'⟩ w)
  obtain ⟨s, es, s1, y0, y1⟩ := norm_shift y (by omega) hy'
  rw [es] at C
  clear es
  have h1 : (y == 0) = false := by simp; omega
  have h2 : ¬ y ≤ hi := by omega
  have h3 : (hi == 0) = false := by simp; omega
  obtain ⟨l0, l1⟩ := hl
  have p2 : (0 : Int) < 2 ^ s := Int.pow_pos (by omega)
  obtain ⟨a1, a2, a3⟩ := pow_split lo s s1 l0 l1
  have hm : (hi + 1) * (2 : Int) ^ s ≤ y * 2 ^ s := Int.mul_le_mul_of_nonneg_right (by omega) (by omega)
  rw [Int.add_mul, Int.one_mul] at hm
  have hh : 0 ≤ hi * (2 : Int) ^ s := Int.mul_nonneg (by omega) (by omega)
  have eU := or_join hi (lo / 2 ^ (64 - s)) s s1 (by omega) (by omega) a2 a1
  have eY := and_low (y * 2 ^ s) (by omega) (by omega)
  have eL := and_low (IntKind.u64.wrap (lo * 2 ^ s)) (wrap_u64_inD _).1 (wrap_u64_inD _).2
  have uL := wrap_u64_inD (lo * 2 ^ s)
  obtain ⟨sc1, sc2⟩ := div_scaled (N := hi * 18446744073709551616 + lo) (y := y) p2
  have hN : (hi * 18446744073709551616 + lo) * 2 ^ s = (hi * 2 ^ s + lo / 2 ^ (64 - s)) * 18446744073709551616 + IntKind.u64.wrap (lo * 2 ^ s) := by
    have : (hi * 18446744073709551616 + lo) * (2 : Int) ^ s = hi * 2 ^ s * 18446744073709551616 + lo * 2 ^ s := by grind
    omega
  rw [hN] at sc1 sc2
  have HD : Hid (∀ m : Int, m * 2 ^ s / 2 ^ s = m) := fun m => Int.mul_ediv_cancel m (by omega)
  rw [eU.symm] at sc1 sc2
  have hU : bits .or .u64 (IntKind.u64.wrap (hi * 2 ^ s)) (lo / 2 ^ (64 - s)) < y * 2 ^ s := by rw [eU]; omega
  have hU0 : 0 ≤ bits .or .u64 (IntKind.u64.wrap (hi * 2 ^ s)) (lo / 2 ^ (64 - s)) := by rw [eU]; omega
  have SC := Lib.hid (And.intro sc1 sc2)
  have EY := Lib.hid eY
  have EL := Lib.hid eL
  clear hN sc1 sc2 eU hm hh a1 a2 a3 eY eL p2
  go_enter Try.func119, Try.ntmps119
  go_wp2_with fail
  refine (C.out _).mono ?_; rintro e w' ⟨rfl, rfl⟩
  go_upto_block 0 with fail
  rw [EY.out, EL.out]
  generalize bits .or .u64 (IntKind.u64.wrap (hi * 2 ^ s)) (lo / 2 ^ (64 - s)) = U at *
  generalize IntKind.u64.wrap (lo * 2 ^ s) = L at *
  generalize y * 2 ^ s = Y at *
  obtain ⟨u0, u1⟩ := uL
  have hYY : Y / 4294967296 * 4294967296 + Y % 4294967296 = Y := by omega
  have hLL : L / 4294967296 * 4294967296 + L % 4294967296 = L := by omega
  have d1 : 2147483648 ≤ Y / 4294967296 := by omega
  have d2 : Y / 4294967296 ≤ 4294967295 := by omega
  have d3 : 0 ≤ Y % 4294967296 := by omega
  have d4 : Y % 4294967296 < 4294967296 := by omega
  have d5 : 0 ≤ L / 4294967296 := by omega
  have d6 : L / 4294967296 < 4294967296 := by omega
  have d7 : 0 ≤ L % 4294967296 := by omega
  have d8 : L % 4294967296 < 4294967296 := by omega
  generalize Y / 4294967296 = Y1 at *
  generalize Y % 4294967296 = Y0 at *
  generalize L / 4294967296 = L1 at *
  generalize L % 4294967296 = L0 at *
  have HN := Lib.hid (div_two (N := U * 18446744073709551616 + L) (y' := Y) (a := U * 4294967296 + L1) (by omega) L0 d7 d8 (by omega))
  have HY : Hid (Y = Y1 * 4294967296 + Y0) := by show _ = _; omega
  clear hYY hLL
  have er : IntKind.u64.wrap (U - IntKind.u64.wrap (U / Y1 * Y1)) = U % Y1 := by
    have e := Int.mul_ediv_add_emod U Y1
    rw [Int.mul_comm] at e
    have m0 := Int.emod_nonneg U (show Y1 ≠ 0 by omega)
    have m1 := Int.emod_lt_of_pos U (show 0 < Y1 by omega)
    rw [IntKind.wrap_u64, IntKind.wrap_u64]; omega
  rw [er]
  clear er
  have hYp : 0 < Y := by omega
  have hUY : U < Y1 * 4294967296 + Y0 := by rw [← HY.out]; exact hU
  obtain ⟨Q1, HQ1⟩ : ∃ Q1, Hid ((U * 4294967296 + L1) / (Y1 * 4294967296 + Y0) = Q1) := ⟨_, rfl⟩
  have HQ1' : (U * 4294967296 + L1) / Y = Q1 := by rw [HY.out]; exact HQ1.out
  obtain ⟨R1, HR1⟩ : ∃ R1, (U * 4294967296 + L1) % Y = R1 := ⟨_, rfl⟩
  have q10 : 0 ≤ Q1 := by rw [← HQ1']; exact Int.ediv_nonneg (by omega) (by omega)
  have q11 : Q1 ≤ 4294967295 := by
    have := Int.ediv_lt_of_lt_mul (a := U * 4294967296 + L1) (b := 4294967296) (c := Y) (by omega) (by omega)
    omega
  have r10 : 0 ≤ R1 := by rw [← HR1]; exact Int.emod_nonneg _ (by omega)
  have r11 : R1 < Y := by rw [← HR1]; exact Int.emod_lt_of_pos _ hYp
  have e1 := Int.mul_ediv_add_emod (U * 4294967296 + L1) Y
  rw [HQ1', HR1, Int.mul_comm] at e1
  rw [HQ1', HR1] at HN
  have E17 : Hid (IntKind.u64.wrap (IntKind.u64.wrap (IntKind.u64.wrap (U * 4294967296) + L1) - IntKind.u64.wrap (Q1 * Y)) = R1) := by
    show _ = _
    rw [IntKind.wrap_u64, IntKind.wrap_u64, IntKind.wrap_u64, IntKind.wrap_u64]; omega
  have rU : R1 < Y1 * 4294967296 + Y0 := by rw [← HY.out]; exact r11
  have E18 : Hid (IntKind.u64.wrap (R1.tdiv Y1) = R1 / Y1) := by
    show _ = _
    have : R1 / Y1 ≤ 4294967297 := by
      have := Int.ediv_lt_of_lt_mul (a := R1) (b := 4294967298) (c := Y1) (by omega) (by omega)
      omega
    have h0 : 0 ≤ R1 / Y1 := Int.ediv_nonneg r10 (by omega)
    rw [tdiv_pos r10, IntKind.wrap_u64]; omega
  have E16 : Hid (IntKind.u64.wrap (R1 - IntKind.u64.wrap (R1 / Y1 * Y1)) = R1 % Y1) := by
    show _ = _
    have e := Int.mul_ediv_add_emod R1 Y1
    rw [Int.mul_comm] at e
    have m0 := Int.emod_nonneg R1 (show Y1 ≠ 0 by omega)
    have m1 := Int.emod_lt_of_pos R1 (show 0 < Y1 by omega)
    rw [IntKind.wrap_u64, IntKind.wrap_u64]; omega
  obtain ⟨Q0, HQ0⟩ : ∃ Q0, Hid ((R1 * 4294967296 + L0) / (Y1 * 4294967296 + Y0) = Q0) := ⟨_, rfl⟩
  have HQ0' : (R1 * 4294967296 + L0) / Y = Q0 := by rw [HY.out]; exact HQ0.out
  obtain ⟨R0, HR0⟩ : ∃ R0, (R1 * 4294967296 + L0) % Y = R0 := ⟨_, rfl⟩
  have q00 : 0 ≤ Q0 := by rw [← HQ0']; exact Int.ediv_nonneg (by omega) (by omega)
  have q01 : Q0 ≤ 4294967295 := by
    have := Int.ediv_lt_of_lt_mul (a := R1 * 4294967296 + L0) (b := 4294967296) (c := Y) (by omega) (by omega)
    omega
  have r00 : 0 ≤ R0 := by rw [← HR0]; exact Int.emod_nonneg _ (by omega)
  have r01 : R0 < Y := by rw [← HR0]; exact Int.emod_lt_of_pos _ hYp
  have e0 := Int.mul_ediv_add_emod (R1 * 4294967296 + L0) Y
  rw [HQ0', HR0, Int.mul_comm] at e0
  rw [HQ0', HR0] at HN
  have E7 : Hid (IntKind.u64.wrap (IntKind.u64.wrap (IntKind.u64.wrap (R1 * 4294967296) + L0) - IntKind.u64.wrap (Q0 * Y)) = R0) := by
    show _ = _
    rw [IntKind.wrap_u64, IntKind.wrap_u64, IntKind.wrap_u64, IntKind.wrap_u64]; omega
  have FIN : Hid (Q1 * 4294967296 + Q0 = (hi * 18446744073709551616 + lo) / y ∧ R0 / 2 ^ s = (hi * 18446744073709551616 + lo) % y) := by
    refine ⟨HN.out.1.symm.trans SC.out.1, ?_⟩
    rw [← HN.out.2, SC.out.2]; exact HD.out _
  clear e0 e1 HQ0' HQ1' HR0 HR1 r00 r01 HN SC HD EY EL C
  go_cut [15, 16] (fun a b wc => ∃ r : Int, a = .int .u64 Q1 ∧ b = .int .u64 r ∧ wc = w)
  case first =>
    clear HQ0 FIN E7 E16 E17 E18
    have IS := Lib.hid (DInv.start (y1 := Y1) (y0 := Y0) (u := U) (u1 := L1) d1 d3 d4 (by omega) (by omega) (by omega) (by omega))
    have EM := Lib.hid (show 0 ≤ U % Y1 ∧ U % Y1 ≤ 4294967295 from ⟨Int.emod_nonneg _ (by omega), by have := Int.emod_lt_of_pos U (show 0 < Y1 by omega); omega⟩)
    have ST := Lib.hid (fun q r (h : DInv Y1 Y0 U L1 q r) hc => h.step d1 d3 (by omega) (by omega) (by omega) (by omega) hc)
    have EN := Lib.hid (fun q r (h : DInv Y1 Y0 U L1 q r) hc => (h.done d1 d3 d4 (by omega) hc).trans HQ1.out)
    have BR := Lib.hid (fun q r (h : DInv Y1 Y0 U L1 q r) hq hr => EN.out q r h (h.broke hq hr d3 d4 (by omega)))
    have RM := Lib.hid (fun q r (h : DInv Y1 Y0 U L1 q r) => h.room d3 d4)
    clear HQ1
    go_wp2_with fail
    go_loop [15, 16] (fun x z => ∃ q r : Int, x = .int .u64 q ∧ z = .int .u64 r ∧ 0 ≤ r ∧ r ≤ 4294967295 ∧ 0 ≤ q ∧ q ≤ 4294967297 ∧ Hid (DInv Y1 Y0 U L1 q r)) (fun x _ => (intOf x).toNat)
    case atStart => exact ⟨_, _, rfl, rfl, EM.out.1, EM.out.2, IS.out.2.2.1, IS.out.2.2.2.1, IS.out⟩
    case round =>
      obtain ⟨q, r, rfl, rfl, r0, r1, q0, q1, hI⟩ := hrel
      obtain ⟨m0, m1⟩ := RM.out q r hI.out
      by_cases c1 : 4294967296 ≤ q
      · obtain ⟨n1, n2, n3⟩ := ST.out q r hI.out (.inl c1)
        have n1 := Lib.hid n1
        by_cases c3 : 4294967296 ≤ r + Y1
        · have e := Lib.hid (BR.out _ _ n1.out n2 c3)
          clear IS EM ST EN BR RM
          go_wp2_with fail
          go_meet
          exact ⟨r + Y1, by rw [← e.out], rfl, rfl⟩
        · clear IS EM ST EN BR RM
          go_wp2_with fail
          go_round
          case rel => exact ⟨q - 1, r + Y1, rfl, rfl, by omega, by omega, by omega, by omega, n1.out⟩
          case measure => simp [intOf]; omega
      · by_cases c2 : 4294967296 * r + L1 < q * Y0
        · obtain ⟨n1, n2, n3⟩ := ST.out q r hI.out (.inr c2)
          have n1 := Lib.hid n1
          by_cases c3 : 4294967296 ≤ r + Y1
          · have e := Lib.hid (BR.out _ _ n1.out n2 c3)
            clear IS EM ST EN BR RM
            go_wp2_with fail
            go_meet
            exact ⟨r + Y1, by rw [← e.out], rfl, rfl⟩
          · clear IS EM ST EN BR RM
            go_wp2_with fail
            go_round
            case rel => exact ⟨q - 1, r + Y1, rfl, rfl, by omega, by omega, by omega, by omega, n1.out⟩
            case measure => simp [intOf]; omega
        · have e := Lib.hid (EN.out q r hI.out (by omega))
          have c2' : ¬ 4294967296 * r + L1 < q * Y0 := c2
          clear IS EM ST EN BR RM
          go_wp2_with fail
          go_meet
          exact ⟨r, by rw [← e.out], rfl, rfl⟩
  case rest =>
    obtain ⟨r, rfl, rfl, rfl⟩ := hcut
    clear HQ1
    go_upto_block 2 with fail
    rw [E17.out, E18.out, E16.out]
    clear E17 E18 E16
    go_cut [18, 16] (fun a b wc' => ∃ r : Int, a = .int .u64 Q0 ∧ b = .int .u64 r ∧ wc' = wc)
    case first =>
      clear FIN E7
      have IS := Lib.hid (DInv.start (y1 := Y1) (y0 := Y0) (u := R1) (u1 := L0) d1 d3 d4 (by omega) (by omega) (by omega) (by omega))
      have EM := Lib.hid (show 0 ≤ R1 % Y1 ∧ R1 % Y1 ≤ 4294967295 from ⟨Int.emod_nonneg _ (by omega), by have := Int.emod_lt_of_pos R1 (show 0 < Y1 by omega); omega⟩)
      have ST := Lib.hid (fun q r (h : DInv Y1 Y0 R1 L0 q r) hc => h.step d1 d3 (by omega) (by omega) (by omega) (by omega) hc)
      have EN := Lib.hid (fun q r (h : DInv Y1 Y0 R1 L0 q r) hc => (h.done d1 d3 d4 (by omega) hc).trans HQ0.out)
      have BR := Lib.hid (fun q r (h : DInv Y1 Y0 R1 L0 q r) hq hr => EN.out q r h (h.broke hq hr d3 d4 (by omega)))
      have RM := Lib.hid (fun q r (h : DInv Y1 Y0 R1 L0 q r) => h.room d3 d4)
      clear HQ0
      go_wp2_with fail
      go_loop [18, 16] (fun x z => ∃ q r : Int, x = .int .u64 q ∧ z = .int .u64 r ∧ 0 ≤ r ∧ r ≤ 4294967295 ∧ 0 ≤ q ∧ q ≤ 4294967297 ∧ Hid (DInv Y1 Y0 R1 L0 q r)) (fun x _ => (intOf x).toNat)
      case atStart => exact ⟨_, _, rfl, rfl, EM.out.1, EM.out.2, IS.out.2.2.1, IS.out.2.2.2.1, IS.out⟩
      case round =>
        obtain ⟨q, r, rfl, rfl, r0, r1, q0, q1, hI⟩ := hrel
        obtain ⟨m0, m1⟩ := RM.out q r hI.out
        by_cases c1 : 4294967296 ≤ q
        · obtain ⟨n1, n2, n3⟩ := ST.out q r hI.out (.inl c1)
          have n1 := Lib.hid n1
          by_cases c3 : 4294967296 ≤ r + Y1
          · have e := Lib.hid (BR.out _ _ n1.out n2 c3)
            clear IS EM ST EN BR RM
            go_wp2_with fail
            go_meet
            exact ⟨r + Y1, by rw [← e.out], rfl, rfl⟩
          · clear IS EM ST EN BR RM
            go_wp2_with fail
            go_round
            case rel => exact ⟨q - 1, r + Y1, rfl, rfl, by omega, by omega, by omega, by omega, n1.out⟩
            case measure => simp [intOf]; omega
        · by_cases c2 : 4294967296 * r + L0 < q * Y0
          · obtain ⟨n1, n2, n3⟩ := ST.out q r hI.out (.inr c2)
            have n1 := Lib.hid n1
            by_cases c3 : 4294967296 ≤ r + Y1
            · have e := Lib.hid (BR.out _ _ n1.out n2 c3)
              clear IS EM ST EN BR RM
              go_wp2_with fail
              go_meet
              exact ⟨r + Y1, by rw [← e.out], rfl, rfl⟩
            · clear IS EM ST EN BR RM
              go_wp2_with fail
              go_round
              case rel => exact ⟨q - 1, r + Y1, rfl, rfl, by omega, by omega, by omega, by omega, n1.out⟩
              case measure => simp [intOf]; omega
          · have e := Lib.hid (EN.out q r hI.out (by omega))
            have c2' : ¬ 4294967296 * r + L0 < q * Y0 := c2
            clear IS EM ST EN BR RM
            go_wp2_with fail
            go_meet
            exact ⟨r, by rw [← e.out], rfl, rfl⟩
    case rest =>
      obtain ⟨r, rfl, rfl, rfl⟩ := hcut
      clear HQ0
      go_wp2_with fail
      rw [E7.out]
      go_ret2
      exact ⟨ret_int2 FIN.out.1 FIN.out.2, Below.refl _ _⟩

theorem div64_any (hi lo y : Int) (h0 : 0 ≤ hi) (hl : U64 lo) (hy : hi < y) (hy' : y ≤ 18446744073709551615) (w : World) :
    Calls Try.prog 119 #[.int .u64 hi, .int .u64 lo, .int .u64 y] w fun e w' => e = .returned (.tuple #[.int .u64 ((hi * 18446744073709551616 + lo) / y), .int .u64 ((hi * 18446744073709551616 + lo) % y)]) ∧ Below w.heap.size w w' := by
  rcases Int.lt_or_eq_of_le h0 with h | h
  · exact div64_long hi lo y h hl hy hy' w
  · subst h
    rw [Int.zero_mul, Int.zero_add]
    exact div64_small lo y hl hy hy' w

end Go.Proofs.Ytnklbnphiokpiaa
