/- Parts of the proof: Bm2 Bm3 Bm4 Bm5 Bm6. -/
import Derived.Test.YtikpobembcgbfaaGreatDoorQ15
import Derived.Test.YtikpobembcgbfaaGreatDoorQ14
set_option linter.unusedVariables false
set_option linter.unusedSimpArgs false
set_option maxRecDepth 100000
set_option maxHeartbeats 40000000
namespace Go.Proofs.YtikpobembcgbfaaGreatDoor
open Go.RowKit Go.Lib
/-- A head, all of it. -/
abbrev HD (w : World) (h : Nat) (v : Nat → Nat) : Prop := AtB w h #[.int .u32 (v 0 : Int), .int .u32 (v 1 : Int), .int .u32 (v 2 : Int), .int .u32 (v 3 : Int), .int .u32 (v 4 : Int), .int .u32 (v 5 : Int), .int .u32 (v 6 : Int), .int .u32 (v 7 : Int), .int .u32 (v 8 : Int), .int .u32 (v 9 : Int), .int .u32 (v 10 : Int), .int .u32 (v 11 : Int), .int .u32 (v 12 : Int), .int .u32 (v 13 : Int)] HT
theorem hd_all {w : World} {h : Nat} {v : Nat → Nat} (H : AtB w h (hdV v 14) HT) : HD w h v := H
theorem hv_lt (l : List UInt8) (i : Nat) (hi : i < 14) : hv l i < 4294967296 := by
 have h1 := lowB_lt (fw i) (l.drop (fo i))
 have h2 : (256 : Nat) ^ fw i ≤ 256 ^ 4 := Nat.pow_le_pow_right (by omega) (fo_step i hi).2.2.1
 exact Nat.lt_of_lt_of_le h1 h2
theorem bdown (h : Nat) (v : Nat → Nat) (w : World) (H : HD w h v) : Calls Tryz.prog 258 #[.pointer (some ⟨h, 0, none⟩)] w fun e w' => e = .returned (.bool (decide (2147483648 ≤ v 5))) ∧ w = w' := by
 have c5 := H.cell 5 rfl
 have lt := H.lt
 have hd : (decide ((2147483648 : Int) ≤ (v 5 : Int))) = decide (2147483648 ≤ v 5) := by rw [decide_eq_decide]; omega
 clear H
 generalize v 5 = x at *
 generalize hb : decide (2147483648 ≤ x) = b at *
 replace hb := Lib.hid hb
 go_enter Tryz.func258, Tryz.ntmps258
 go_wp2_with fail
 go_ret
 exact ⟨ret_bool (by first | exact hd | (rw [← hb.out, decide_eq_decide])), rfl⟩
def rowsN (x : Nat) : Nat := if 2147483648 ≤ x then 4294967296 - x else x
theorem brows (h : Nat) (v : Nat → Nat) (w : World) (H : HD w h v) (hv5 : v 5 < 4294967296) : Calls Tryz.prog 336 #[.pointer (some ⟨h, 0, none⟩)] w fun e w' => e = .returned (.int .u32 (rowsN (v 5) : Int)) ∧ w = w' := by
 have C := Lib.hid (bdown h v w H)
 have c5 := H.cell 5 rfl
 have lt := H.lt
 clear H
 generalize v 5 = x at *
 by_cases hb : 2147483648 ≤ x
 · rw [decide_eq_true hb] at C
   have hr := Lib.hid (show rowsN x = 4294967296 - x from if_pos hb)
   have e1 : IntKind.u32.wrap (-(x : Int)) = ((4294967296 - x : Nat) : Int) := by simp [IntKind.wrap, IntKind.bits, IntKind.signed]; omega
   clear hv5 hb
   go_enter Tryz.func336, Tryz.ntmps336
   go_wp2_with fail
   refine C.out.mono ?_
   rintro e w9 ⟨rfl, rfl⟩
   go_wp2_with fail
   go_ret
   exact ⟨ret_int (by rw [hr.out]), rfl⟩
 · rw [decide_eq_false hb] at C
   have hr := Lib.hid (show rowsN x = x from if_neg hb)
   clear hv5 hb
   go_enter Tryz.func336, Tryz.ntmps336
   go_wp2_with fail
   refine C.out.mono ?_
   rintro e w9 ⟨rfl, rfl⟩
   go_wp2_with fail
   go_ret
   exact ⟨ret_int (by rw [hr.out]), rfl⟩
theorem nat_mask (x : Nat) (hx : x < 18446744073709551616) : x &&& 18446744073709551612 = x / 4 * 4 := by
 apply Nat.eq_of_testBit_eq
 intro i
 rw [Nat.testBit_and, show x / 4 * 4 = (x / 4) * 2 ^ 2 from rfl, Nat.testBit_mul_two_pow, show x / 4 = x / 2 ^ 2 from rfl, Nat.testBit_div_two_pow]
 by_cases h2 : 2 ≤ i
 · rw [decide_eq_true h2, Bool.true_and, show i - 2 + 2 = i by omega]
   by_cases h64 : i < 64
   · have : Nat.testBit 18446744073709551612 i = true := by
      rw [show (18446744073709551612 : Nat) = (2 ^ 62 - 1) * 2 ^ 2 from rfl, Nat.testBit_mul_two_pow, decide_eq_true h2, Bool.true_and, Nat.testBit_two_pow_sub_one]
      simp; omega
     rw [this, Bool.and_true]
   · have : Nat.testBit x i = false := Nat.testBit_lt_two_pow (Nat.lt_of_lt_of_le hx (show (2 : Nat) ^ 64 ≤ 2 ^ i from Nat.pow_le_pow_right (by omega) (by omega)))
     rw [this, Bool.false_and]
 · rw [decide_eq_false h2, Bool.false_and]
   have : i = 0 ∨ i = 1 := by omega
   have e : Nat.testBit 18446744073709551612 i = false := by rcases this with rfl | rfl <;> decide
   rw [e, Bool.and_false]
theorem mask_stride (x : Nat) (hx : x < 1000000000) : bits .andNot .i64 (x : Int) 3 = ((x / 4 * 4 : Nat) : Int) := by
 show IntKind.i64.wrap (((BitVec.ofInt 64 (x : Int) &&& ~~~ BitVec.ofInt 64 3) : BitVec 64).toNat : Int) = _
 rw [BitVec.toNat_and, BitVec.ofInt_natCast, BitVec.toNat_ofNat, Nat.mod_eq_of_lt (by omega)]
 rw [show (~~~ BitVec.ofInt 64 3 : BitVec 64).toNat = 18446744073709551612 by decide, nat_mask x (by omega)]
 exact iw ⟨by omega, by omega⟩
theorem bstride (x c : Nat) (hx : 1 ≤ x ∧ x ≤ 32768) (hc : c = 3 ∨ c = 4) (w : World) : Calls Tryz.prog 256 #[.int .i64 (x : Int), .int .i64 (c : Int)] w fun e w' => e = .returned (.int .i64 (strideN x c : Int)) ∧ w = w' := by
 have g1 : ¬ (x : Int) < 1 := by omega
 have g2 : ¬ (32768 : Int) < (x : Int) := by omega
 have em : (x : Int) * (c : Int) = ((x * c : Nat) : Int) := by rw [Int.natCast_mul]
 have hle : x * c ≤ 32768 * 4 := Nat.mul_le_mul hx.2 (by omega)
 have hs : Hid (strideN x c = (x * c + 3) / 4 * 4) := rfl
 have w1 : IntKind.i64.wrap ((x : Int) * (c : Int)) = ((x * c : Nat) : Int) := by rw [em]; exact iw ⟨by omega, by omega⟩
 have w2 : IntKind.i64.wrap (((x * c : Nat) : Int) + 3) = ((x * c + 3 : Nat) : Int) := by rw [show ((x * c : Nat) : Int) + 3 = ((x * c + 3 : Nat) : Int) by omega]; exact iw ⟨by omega, by omega⟩
 have w3 := mask_stride (x * c + 3) (by omega)
 clear hle em hx
 generalize hy : x * c + 3 = y at *
 generalize y / 4 * 4 = t at *
 replace hy := Lib.hid hy
 clear w1 w2
 rcases hc with rfl | rfl
 · have w4 : bits .andNot .i64 ((x : Int) * 3 + 3) 3 = (t : Int) := by rw [show (x : Int) * 3 + 3 = (y : Int) by have := hy.out; omega]; exact w3
   go_enter Tryz.func256, Tryz.ntmps256
   go_wp2_with fail
   go_ret
   exact ⟨ret_int (by rw [hs.out]), rfl⟩
 · have w4 : bits .andNot .i64 ((x : Int) * 4 + 3) 3 = (t : Int) := by rw [show (x : Int) * 4 + 3 = (y : Int) by have := hy.out; omega]; exact w3
   go_enter Tryz.func256, Tryz.ntmps256
   go_wp2_with fail
   go_ret
   exact ⟨ret_int (by rw [hs.out]), rfl⟩
theorem bsums (h : Nat) (v : Nat → Nat) (all : Nat) (hall : 54 ≤ all ∧ all ≤ 100000000) (w : World) (H : HD w h v) : Calls Tryz.prog 257 #[.pointer (some ⟨h, 0, none⟩), .int .i64 (all : Int)] w fun e w' => e = .returned (.bool (decide (v 0 = all ∧ (v 9 = 0 ∨ v 9 = all - 54)))) ∧ w = w' := by
 have c0 := H.cell 0 rfl
 have c9 := H.cell 9 rfl
 have lt := H.lt
 have e1 : IntKind.i64.wrap ((all : Int) - 54) = ((all - 54 : Nat) : Int) := by rw [show (all : Int) - 54 = ((all - 54 : Nat) : Int) by omega]; exact iw ⟨by omega, by omega⟩
 have e2 : IntKind.u32.wrap ((all - 54 : Nat) : Int) = ((all - 54 : Nat) : Int) := by simp [IntKind.wrap, IntKind.bits, IntKind.signed]; omega
 have e3 : IntKind.u32.wrap (all : Int) = (all : Int) := by simp [IntKind.wrap, IntKind.bits, IntKind.signed]; omega
 clear H hall
 generalize v 0 = x at *
 generalize v 9 = y at *
 generalize all - 54 = n at *
 by_cases h1 : x = all
 · have b1 : ((x : Int) == (all : Int)) = true := by simp; omega
   by_cases h2 : y = 0
   · have b2 : ((y : Int) == 0) = true := by simp; omega
     have hR := Lib.hid (show decide (x = all ∧ (y = 0 ∨ y = n)) = true from decide_eq_true ⟨h1, .inl h2⟩)
     clear h1 h2
     go_enter Tryz.func257, Tryz.ntmps257
     go_wp2_with fail
     go_ret
     exact ⟨ret_bool hR.out.symm, rfl⟩
   · have b2 : ((y : Int) == 0) = false := by rw [Bool.eq_false_iff]; intro q; have := eq_of_beq q; omega
     by_cases h3 : y = n
     · have b3 : ((y : Int) == (n : Int)) = true := by simp; omega
       have hR := Lib.hid (show decide (x = all ∧ (y = 0 ∨ y = n)) = true from decide_eq_true ⟨h1, .inr h3⟩)
       clear h1 h3
       replace h2 := Lib.hid h2
       go_enter Tryz.func257, Tryz.ntmps257
       go_wp2_with fail
       go_ret
       exact ⟨ret_bool hR.out.symm, rfl⟩
     · have b3 : ((y : Int) == (n : Int)) = false := by rw [Bool.eq_false_iff]; intro q; have := eq_of_beq q; omega
       have hR := Lib.hid (show decide (x = all ∧ (y = 0 ∨ y = n)) = false from decide_eq_false fun q => q.2.elim h2 h3)
       clear h1 h3
       replace h2 := Lib.hid h2
       go_enter Tryz.func257, Tryz.ntmps257
       go_wp2_with fail
       go_ret
       exact ⟨ret_bool hR.out.symm, rfl⟩
 · have b1 : ((x : Int) == (all : Int)) = false := by rw [Bool.eq_false_iff]; intro q; have := eq_of_beq q; omega
   have hR := Lib.hid (show decide (x = all ∧ (y = 0 ∨ y = n)) = false from decide_eq_false fun q => h1 q.1)
   clear h1
   go_enter Tryz.func257, Tryz.ntmps257
   go_wp2_with fail
   go_ret
   exact ⟨ret_bool hR.out.symm, rfl⟩
abbrev U4T : TypeId := 460
theorem ix4_0 (a b c d : Int) (w : World) : (Instr.index U4T (.agg #[.int .u32 a, .int .u32 b, .int .u32 c, .int .u32 d]) (.int .i64 0)).run Tryz.prog w = .ok (.int .u32 a) w := by kernel_rfl
theorem ix4_1 (a b c d : Int) (w : World) : (Instr.index U4T (.agg #[.int .u32 a, .int .u32 b, .int .u32 c, .int .u32 d]) (.int .i64 1)).run Tryz.prog w = .ok (.int .u32 b) w := by kernel_rfl
theorem ix4_2 (a b c d : Int) (w : World) : (Instr.index U4T (.agg #[.int .u32 a, .int .u32 b, .int .u32 c, .int .u32 d]) (.int .i64 2)).run Tryz.prog w = .ok (.int .u32 c) w := by kernel_rfl
theorem ix4_3 (a b c d : Int) (w : World) : (Instr.index U4T (.agg #[.int .u32 a, .int .u32 b, .int .u32 c, .int .u32 d]) (.int .i64 3)).run Tryz.prog w = .ok (.int .u32 d) w := by kernel_rfl
def zz (v : Nat → Nat) (j : Nat) : Nat := [v 1, v 8, v 12, v 13].getD j 0
theorem ix4 (v : Nat → Nat) (j : Nat) (hj : j < 4) (w : World) : (Instr.index U4T (.agg #[.int .u32 (v 1 : Int), .int .u32 (v 8 : Int), .int .u32 (v 12 : Int), .int .u32 (v 13 : Int)]) (.int .i64 (j : Int))).run Tryz.prog w = .ok (.int .u32 (zz v j : Int)) w := by
 match j, hj with
 | 0, _ => exact ix4_0 _ _ _ _ w
 | 1, _ => exact ix4_1 _ _ _ _ w
 | 2, _ => exact ix4_2 _ _ _ _ w
 | 3, _ => exact ix4_3 _ _ _ _ w
theorem zz_all (v : Nat → Nat) : (v 1 = 0 ∧ v 8 = 0 ∧ v 12 = 0 ∧ v 13 = 0) ↔ ∀ j, j < 4 → zz v j = 0 := by
 constructor
 · rintro ⟨a, b, c, d⟩ j hj
   match j, hj with
   | 0, _ => exact a
   | 1, _ => exact b
   | 2, _ => exact c
   | 3, _ => exact d
 · intro h
   exact ⟨h 0 (by omega), h 1 (by omega), h 2 (by omega), h 3 (by omega)⟩
def fmB (v : Nat → Nat) : Bool := decide ((v 1 = 0 ∧ v 8 = 0 ∧ v 12 = 0 ∧ v 13 = 0) ∧ v 2 = 54 ∧ v 3 = 40 ∧ v 6 = 1 ∧ (v 7 = 24 ∨ v 7 = 32))
theorem eq_tb {a : Nat} {b : Nat} (h : a = b) : ((a : Int) == (b : Int)) = true := by subst h; simp
theorem eq_fb {a : Nat} {b : Nat} (h : ¬ a = b) : ((a : Int) == (b : Int)) = false := by rw [Bool.eq_false_iff]; intro q; have := eq_of_beq q; omega
theorem bform_no (h : Nat) (v : Nat → Nat) (w : World) (H : HD w h v) (m : Nat) (hm : m < 4) (HZ : Hid (∀ j, j < m → zz v j = 0)) (hb : ¬ zz v m = 0) :
 Calls Tryz.prog 254 #[.pointer (some ⟨h, 0, none⟩)] w fun e w' => e = .returned (.bool false) ∧ Below w.heap.size w w' := by
 have H := Lib.hid H
 have c1 := H.out.cell 1 rfl
 have c8 := H.out.cell 8 rfl
 have c12 := H.out.cell 12 rfl
 have c13 := H.out.cell 13 rfl
 have lt := H.out.lt
 have IX := Lib.hid (ix4 v)
 have hne := Lib.hid (neq_t hb)
 clear hb
 go_enter Tryz.func254, Tryz.ntmps254
 go_wp2_with fail
 go_quiet (fail)
 have hbq := Lib.hid (below_drawn (Below.refl w.heap.size w) nq)
 have c2 := (H.out.keep hbq.out).cell 2 rfl
 have c3 := (H.out.keep hbq.out).cell 3 rfl
 have c6 := (H.out.keep hbq.out).cell 6 rfl
 have c7 := (H.out.keep hbq.out).cell 7 rfl
 have lt2 := (H.out.keep hbq.out).lt
 clear c1 c8 c12 c13 lt
 generalize w.drewN nq = w1 at *
 clear c2 c3 c6 c7 lt2
 go_wp2_with fail
 go_loop [22] (fun i => ∃ j : Nat, j ≤ m ∧ i = .int .i64 (j : Int)) (fun i => 4 - (intOf i).toNat)
 case atStart => exact ⟨0, Nat.zero_le _, rfl⟩
 case round =>
  obtain ⟨j, hj, rfl⟩ := hrel
  by_cases hlt : j < 4
  · have hx := IX.out j hlt w1
    have q0 : (0 : Int) ≤ (j : Int) := by omega
    have q1 : (j : Int) < 4 := by omega
    have ew : IntKind.i64.wrap ((j : Int) + 1) = ((j + 1 : Nat) : Int) := by rw [show (j : Int) + 1 = ((j + 1 : Nat) : Int) by omega]; exact iw ⟨by omega, by omega⟩
    by_cases hjm : j < m
    · have hz := HZ.out j hjm
      rw [hz] at hx
      have hj2 := Lib.hid (show j + 1 ≤ m by omega)
      clear hz hjm hj hlt
      have hx : (Instr.index U4T (.agg #[.int .u32 (v 1 : Int), .int .u32 (v 8 : Int), .int .u32 (v 12 : Int), .int .u32 (v 13 : Int)]) (.int .i64 (j : Int))).run Tryz.prog w1 = .ok (.int .u32 0) w1 := hx
      go_wp2_with fail
      go_round
      case rel => exact ⟨j + 1, hj2.out, by go_num⟩
      case measure => simp [intOf, ew]; omega
    · obtain rfl : j = m := by omega
      have hne := hne.out; generalize zz v j = z at *; clear hj hlt hjm HZ IX; go_wp2_with fail; go_ret; exact ⟨rfl, hbq.out⟩
  · obtain rfl : j = m := by omega
    have q1 : ¬ (j : Int) < 4 := by omega
    clear IX HZ hj hlt
    omega
theorem bform_1 (h : Nat) (v : Nat → Nat) (w : World) (H : HD w h v) (HZ : Hid (∀ j, j < 4 → zz v j = 0)) (h2 : ((v 2 : Int) == 54) = false) :
 Calls Tryz.prog 254 #[.pointer (some ⟨h, 0, none⟩)] w fun e w' => e = .returned (.bool false) ∧ Below w.heap.size w w' := by
 have H := Lib.hid H
 have c1 := H.out.cell 1 rfl
 have c8 := H.out.cell 8 rfl
 have c12 := H.out.cell 12 rfl
 have c13 := H.out.cell 13 rfl
 have lt := H.out.lt
 have IX := Lib.hid (ix4 v)
 obtain ⟨m, hm⟩ : ∃ m, m = 4 := ⟨_, rfl⟩
 rw [← hm] at HZ
 have hm4 : m ≤ 4 := by omega
 replace hm := Lib.hid hm
 go_enter Tryz.func254, Tryz.ntmps254
 go_wp2_with fail
 go_quiet (fail)
 have hbq := Lib.hid (below_drawn (Below.refl w.heap.size w) nq)
 have c2 := (H.out.keep hbq.out).cell 2 rfl
 have c3 := (H.out.keep hbq.out).cell 3 rfl
 have c6 := (H.out.keep hbq.out).cell 6 rfl
 have c7 := (H.out.keep hbq.out).cell 7 rfl
 have lt2 := (H.out.keep hbq.out).lt
 clear c1 c8 c12 c13 lt
 generalize w.drewN nq = w1 at *
 go_wp2_with fail
 go_loop [22] (fun i => ∃ j : Nat, j ≤ m ∧ i = .int .i64 (j : Int)) (fun i => 4 - (intOf i).toNat)
 case atStart => exact ⟨0, Nat.zero_le _, rfl⟩
 case round =>
  obtain ⟨j, hj, rfl⟩ := hrel
  by_cases hlt : j < 4
  · have hx := IX.out j hlt w1
    have q0 : (0 : Int) ≤ (j : Int) := by omega
    have q1 : (j : Int) < 4 := by omega
    have ew : IntKind.i64.wrap ((j : Int) + 1) = ((j + 1 : Nat) : Int) := by rw [show (j : Int) + 1 = ((j + 1 : Nat) : Int) by omega]; exact iw ⟨by omega, by omega⟩
    by_cases hjm : j < m
    · have hz := HZ.out j hjm
      rw [hz] at hx
      have hj2 := Lib.hid (show j + 1 ≤ m by omega)
      clear hz hjm hj hlt
      have hx : (Instr.index U4T (.agg #[.int .u32 (v 1 : Int), .int .u32 (v 8 : Int), .int .u32 (v 12 : Int), .int .u32 (v 13 : Int)]) (.int .i64 (j : Int))).run Tryz.prog w1 = .ok (.int .u32 0) w1 := hx
      go_wp2_with fail
      go_round
      case rel => exact ⟨j + 1, hj2.out, by go_num⟩
      case measure => simp [intOf, ew]; omega
    · obtain rfl : j = m := by omega
      exact absurd hlt (by have := hm.out; omega)
  · obtain rfl : j = m := by omega
    have q1 : ¬ (j : Int) < 4 := by omega
    clear IX HZ hj hlt
    go_wp2_with fail; go_ret; exact ⟨rfl, hbq.out⟩
theorem bform_2 (h : Nat) (v : Nat → Nat) (w : World) (H : HD w h v) (HZ : Hid (∀ j, j < 4 → zz v j = 0)) (h2 : ((v 2 : Int) == 54) = true) (h3 : ((v 3 : Int) == 40) = false) :
 Calls Tryz.prog 254 #[.pointer (some ⟨h, 0, none⟩)] w fun e w' => e = .returned (.bool false) ∧ Below w.heap.size w w' := by
 have H := Lib.hid H
 have c1 := H.out.cell 1 rfl
 have c8 := H.out.cell 8 rfl
 have c12 := H.out.cell 12 rfl
 have c13 := H.out.cell 13 rfl
 have lt := H.out.lt
 have IX := Lib.hid (ix4 v)
 obtain ⟨m, hm⟩ : ∃ m, m = 4 := ⟨_, rfl⟩
 rw [← hm] at HZ
 have hm4 : m ≤ 4 := by omega
 replace hm := Lib.hid hm
 go_enter Tryz.func254, Tryz.ntmps254
 go_wp2_with fail
 go_quiet (fail)
 have hbq := Lib.hid (below_drawn (Below.refl w.heap.size w) nq)
 have c2 := (H.out.keep hbq.out).cell 2 rfl
 have c3 := (H.out.keep hbq.out).cell 3 rfl
 have c6 := (H.out.keep hbq.out).cell 6 rfl
 have c7 := (H.out.keep hbq.out).cell 7 rfl
 have lt2 := (H.out.keep hbq.out).lt
 clear c1 c8 c12 c13 lt
 generalize w.drewN nq = w1 at *
 go_wp2_with fail
 go_loop [22] (fun i => ∃ j : Nat, j ≤ m ∧ i = .int .i64 (j : Int)) (fun i => 4 - (intOf i).toNat)
 case atStart => exact ⟨0, Nat.zero_le _, rfl⟩
 case round =>
  obtain ⟨j, hj, rfl⟩ := hrel
  by_cases hlt : j < 4
  · have hx := IX.out j hlt w1
    have q0 : (0 : Int) ≤ (j : Int) := by omega
    have q1 : (j : Int) < 4 := by omega
    have ew : IntKind.i64.wrap ((j : Int) + 1) = ((j + 1 : Nat) : Int) := by rw [show (j : Int) + 1 = ((j + 1 : Nat) : Int) by omega]; exact iw ⟨by omega, by omega⟩
    by_cases hjm : j < m
    · have hz := HZ.out j hjm
      rw [hz] at hx
      have hj2 := Lib.hid (show j + 1 ≤ m by omega)
      clear hz hjm hj hlt
      have hx : (Instr.index U4T (.agg #[.int .u32 (v 1 : Int), .int .u32 (v 8 : Int), .int .u32 (v 12 : Int), .int .u32 (v 13 : Int)]) (.int .i64 (j : Int))).run Tryz.prog w1 = .ok (.int .u32 0) w1 := hx
      go_wp2_with fail
      go_round
      case rel => exact ⟨j + 1, hj2.out, by go_num⟩
      case measure => simp [intOf, ew]; omega
    · obtain rfl : j = m := by omega
      exact absurd hlt (by have := hm.out; omega)
  · obtain rfl : j = m := by omega
    have q1 : ¬ (j : Int) < 4 := by omega
    clear IX HZ hj hlt
    go_wp2_with fail; go_ret; exact ⟨rfl, hbq.out⟩
theorem bform_3 (h : Nat) (v : Nat → Nat) (w : World) (H : HD w h v) (HZ : Hid (∀ j, j < 4 → zz v j = 0)) (h2 : ((v 2 : Int) == 54) = true) (h3 : ((v 3 : Int) == 40) = true) (h6 : ((v 6 : Int) == 1) = false) :
 Calls Tryz.prog 254 #[.pointer (some ⟨h, 0, none⟩)] w fun e w' => e = .returned (.bool false) ∧ Below w.heap.size w w' := by
 have H := Lib.hid H
 have c1 := H.out.cell 1 rfl
 have c8 := H.out.cell 8 rfl
 have c12 := H.out.cell 12 rfl
 have c13 := H.out.cell 13 rfl
 have lt := H.out.lt
 have IX := Lib.hid (ix4 v)
 obtain ⟨m, hm⟩ : ∃ m, m = 4 := ⟨_, rfl⟩
 rw [← hm] at HZ
 have hm4 : m ≤ 4 := by omega
 replace hm := Lib.hid hm
 go_enter Tryz.func254, Tryz.ntmps254
 go_wp2_with fail
 go_quiet (fail)
 have hbq := Lib.hid (below_drawn (Below.refl w.heap.size w) nq)
 have c2 := (H.out.keep hbq.out).cell 2 rfl
 have c3 := (H.out.keep hbq.out).cell 3 rfl
 have c6 := (H.out.keep hbq.out).cell 6 rfl
 have c7 := (H.out.keep hbq.out).cell 7 rfl
 have lt2 := (H.out.keep hbq.out).lt
 clear c1 c8 c12 c13 lt
 generalize w.drewN nq = w1 at *
 go_wp2_with fail
 go_loop [22] (fun i => ∃ j : Nat, j ≤ m ∧ i = .int .i64 (j : Int)) (fun i => 4 - (intOf i).toNat)
 case atStart => exact ⟨0, Nat.zero_le _, rfl⟩
 case round =>
  obtain ⟨j, hj, rfl⟩ := hrel
  by_cases hlt : j < 4
  · have hx := IX.out j hlt w1
    have q0 : (0 : Int) ≤ (j : Int) := by omega
    have q1 : (j : Int) < 4 := by omega
    have ew : IntKind.i64.wrap ((j : Int) + 1) = ((j + 1 : Nat) : Int) := by rw [show (j : Int) + 1 = ((j + 1 : Nat) : Int) by omega]; exact iw ⟨by omega, by omega⟩
    by_cases hjm : j < m
    · have hz := HZ.out j hjm
      rw [hz] at hx
      have hj2 := Lib.hid (show j + 1 ≤ m by omega)
      clear hz hjm hj hlt
      have hx : (Instr.index U4T (.agg #[.int .u32 (v 1 : Int), .int .u32 (v 8 : Int), .int .u32 (v 12 : Int), .int .u32 (v 13 : Int)]) (.int .i64 (j : Int))).run Tryz.prog w1 = .ok (.int .u32 0) w1 := hx
      go_wp2_with fail
      go_round
      case rel => exact ⟨j + 1, hj2.out, by go_num⟩
      case measure => simp [intOf, ew]; omega
    · obtain rfl : j = m := by omega
      exact absurd hlt (by have := hm.out; omega)
  · obtain rfl : j = m := by omega
    have q1 : ¬ (j : Int) < 4 := by omega
    clear IX HZ hj hlt
    go_wp2_with fail; go_ret; exact ⟨rfl, hbq.out⟩
theorem bform_4 (h : Nat) (v : Nat → Nat) (w : World) (H : HD w h v) (HZ : Hid (∀ j, j < 4 → zz v j = 0)) (h2 : ((v 2 : Int) == 54) = true) (h3 : ((v 3 : Int) == 40) = true) (h6 : ((v 6 : Int) == 1) = true) (h7 : ((v 7 : Int) == 24) = true) :
 Calls Tryz.prog 254 #[.pointer (some ⟨h, 0, none⟩)] w fun e w' => e = .returned (.bool true) ∧ Below w.heap.size w w' := by
 have H := Lib.hid H
 have c1 := H.out.cell 1 rfl
 have c8 := H.out.cell 8 rfl
 have c12 := H.out.cell 12 rfl
 have c13 := H.out.cell 13 rfl
 have lt := H.out.lt
 have IX := Lib.hid (ix4 v)
 obtain ⟨m, hm⟩ : ∃ m, m = 4 := ⟨_, rfl⟩
 rw [← hm] at HZ
 have hm4 : m ≤ 4 := by omega
 replace hm := Lib.hid hm
 go_enter Tryz.func254, Tryz.ntmps254
 go_wp2_with fail
 go_quiet (fail)
 have hbq := Lib.hid (below_drawn (Below.refl w.heap.size w) nq)
 have c2 := (H.out.keep hbq.out).cell 2 rfl
 have c3 := (H.out.keep hbq.out).cell 3 rfl
 have c6 := (H.out.keep hbq.out).cell 6 rfl
 have c7 := (H.out.keep hbq.out).cell 7 rfl
 have lt2 := (H.out.keep hbq.out).lt
 clear c1 c8 c12 c13 lt
 generalize w.drewN nq = w1 at *
 go_wp2_with fail
 go_loop [22] (fun i => ∃ j : Nat, j ≤ m ∧ i = .int .i64 (j : Int)) (fun i => 4 - (intOf i).toNat)
 case atStart => exact ⟨0, Nat.zero_le _, rfl⟩
 case round =>
  obtain ⟨j, hj, rfl⟩ := hrel
  by_cases hlt : j < 4
  · have hx := IX.out j hlt w1
    have q0 : (0 : Int) ≤ (j : Int) := by omega
    have q1 : (j : Int) < 4 := by omega
    have ew : IntKind.i64.wrap ((j : Int) + 1) = ((j + 1 : Nat) : Int) := by rw [show (j : Int) + 1 = ((j + 1 : Nat) : Int) by omega]; exact iw ⟨by omega, by omega⟩
    by_cases hjm : j < m
    · have hz := HZ.out j hjm
      rw [hz] at hx
      have hj2 := Lib.hid (show j + 1 ≤ m by omega)
      clear hz hjm hj hlt
      have hx : (Instr.index U4T (.agg #[.int .u32 (v 1 : Int), .int .u32 (v 8 : Int), .int .u32 (v 12 : Int), .int .u32 (v 13 : Int)]) (.int .i64 (j : Int))).run Tryz.prog w1 = .ok (.int .u32 0) w1 := hx
      go_wp2_with fail
      go_round
      case rel => exact ⟨j + 1, hj2.out, by go_num⟩
      case measure => simp [intOf, ew]; omega
    · obtain rfl : j = m := by omega
      exact absurd hlt (by have := hm.out; omega)
  · obtain rfl : j = m := by omega
    have q1 : ¬ (j : Int) < 4 := by omega
    clear IX HZ hj hlt
    go_wp2_with fail; go_ret; exact ⟨rfl, hbq.out⟩
theorem bform_5 (h : Nat) (v : Nat → Nat) (w : World) (H : HD w h v) (HZ : Hid (∀ j, j < 4 → zz v j = 0)) (h2 : ((v 2 : Int) == 54) = true) (h3 : ((v 3 : Int) == 40) = true) (h6 : ((v 6 : Int) == 1) = true) (h7 : ((v 7 : Int) == 24) = false) (h8 : ((v 7 : Int) == 32) = true) :
 Calls Tryz.prog 254 #[.pointer (some ⟨h, 0, none⟩)] w fun e w' => e = .returned (.bool true) ∧ Below w.heap.size w w' := by
 have H := Lib.hid H
 have c1 := H.out.cell 1 rfl
 have c8 := H.out.cell 8 rfl
 have c12 := H.out.cell 12 rfl
 have c13 := H.out.cell 13 rfl
 have lt := H.out.lt
 have IX := Lib.hid (ix4 v)
 obtain ⟨m, hm⟩ : ∃ m, m = 4 := ⟨_, rfl⟩
 rw [← hm] at HZ
 have hm4 : m ≤ 4 := by omega
 replace hm := Lib.hid hm
 go_enter Tryz.func254, Tryz.ntmps254
 go_wp2_with fail
 go_quiet (fail)
 have hbq := Lib.hid (below_drawn (Below.refl w.heap.size w) nq)
 have c2 := (H.out.keep hbq.out).cell 2 rfl
 have c3 := (H.out.keep hbq.out).cell 3 rfl
 have c6 := (H.out.keep hbq.out).cell 6 rfl
 have c7 := (H.out.keep hbq.out).cell 7 rfl
 have lt2 := (H.out.keep hbq.out).lt
 clear c1 c8 c12 c13 lt
 generalize w.drewN nq = w1 at *
 go_wp2_with fail
 go_loop [22] (fun i => ∃ j : Nat, j ≤ m ∧ i = .int .i64 (j : Int)) (fun i => 4 - (intOf i).toNat)
 case atStart => exact ⟨0, Nat.zero_le _, rfl⟩
 case round =>
  obtain ⟨j, hj, rfl⟩ := hrel
  by_cases hlt : j < 4
  · have hx := IX.out j hlt w1
    have q0 : (0 : Int) ≤ (j : Int) := by omega
    have q1 : (j : Int) < 4 := by omega
    have ew : IntKind.i64.wrap ((j : Int) + 1) = ((j + 1 : Nat) : Int) := by rw [show (j : Int) + 1 = ((j + 1 : Nat) : Int) by omega]; exact iw ⟨by omega, by omega⟩
    by_cases hjm : j < m
    · have hz := HZ.out j hjm
      rw [hz] at hx
      have hj2 := Lib.hid (show j + 1 ≤ m by omega)
      clear hz hjm hj hlt
      have hx : (Instr.index U4T (.agg #[.int .u32 (v 1 : Int), .int .u32 (v 8 : Int), .int .u32 (v 12 : Int), .int .u32 (v 13 : Int)]) (.int .i64 (j : Int))).run Tryz.prog w1 = .ok (.int .u32 0) w1 := hx
      go_wp2_with fail
      go_round
      case rel => exact ⟨j + 1, hj2.out, by go_num⟩
      case measure => simp [intOf, ew]; omega
    · obtain rfl : j = m := by omega
      exact absurd hlt (by have := hm.out; omega)
  · obtain rfl : j = m := by omega
    have q1 : ¬ (j : Int) < 4 := by omega
    clear IX HZ hj hlt
    go_wp2_with fail; go_ret; exact ⟨rfl, hbq.out⟩
theorem bform_6 (h : Nat) (v : Nat → Nat) (w : World) (H : HD w h v) (HZ : Hid (∀ j, j < 4 → zz v j = 0)) (h2 : ((v 2 : Int) == 54) = true) (h3 : ((v 3 : Int) == 40) = true) (h6 : ((v 6 : Int) == 1) = true) (h7 : ((v 7 : Int) == 24) = false) (h8 : ((v 7 : Int) == 32) = false) :
 Calls Tryz.prog 254 #[.pointer (some ⟨h, 0, none⟩)] w fun e w' => e = .returned (.bool false) ∧ Below w.heap.size w w' := by
 have H := Lib.hid H
 have c1 := H.out.cell 1 rfl
 have c8 := H.out.cell 8 rfl
 have c12 := H.out.cell 12 rfl
 have c13 := H.out.cell 13 rfl
 have lt := H.out.lt
 have IX := Lib.hid (ix4 v)
 obtain ⟨m, hm⟩ : ∃ m, m = 4 := ⟨_, rfl⟩
 rw [← hm] at HZ
 have hm4 : m ≤ 4 := by omega
 replace hm := Lib.hid hm
 go_enter Tryz.func254, Tryz.ntmps254
 go_wp2_with fail
 go_quiet (fail)
 have hbq := Lib.hid (below_drawn (Below.refl w.heap.size w) nq)
 have c2 := (H.out.keep hbq.out).cell 2 rfl
 have c3 := (H.out.keep hbq.out).cell 3 rfl
 have c6 := (H.out.keep hbq.out).cell 6 rfl
 have c7 := (H.out.keep hbq.out).cell 7 rfl
 have lt2 := (H.out.keep hbq.out).lt
 clear c1 c8 c12 c13 lt
 generalize w.drewN nq = w1 at *
 go_wp2_with fail
 go_loop [22] (fun i => ∃ j : Nat, j ≤ m ∧ i = .int .i64 (j : Int)) (fun i => 4 - (intOf i).toNat)
 case atStart => exact ⟨0, Nat.zero_le _, rfl⟩
 case round =>
  obtain ⟨j, hj, rfl⟩ := hrel
  by_cases hlt : j < 4
  · have hx := IX.out j hlt w1
    have q0 : (0 : Int) ≤ (j : Int) := by omega
    have q1 : (j : Int) < 4 := by omega
    have ew : IntKind.i64.wrap ((j : Int) + 1) = ((j + 1 : Nat) : Int) := by rw [show (j : Int) + 1 = ((j + 1 : Nat) : Int) by omega]; exact iw ⟨by omega, by omega⟩
    by_cases hjm : j < m
    · have hz := HZ.out j hjm
      rw [hz] at hx
      have hj2 := Lib.hid (show j + 1 ≤ m by omega)
      clear hz hjm hj hlt
      have hx : (Instr.index U4T (.agg #[.int .u32 (v 1 : Int), .int .u32 (v 8 : Int), .int .u32 (v 12 : Int), .int .u32 (v 13 : Int)]) (.int .i64 (j : Int))).run Tryz.prog w1 = .ok (.int .u32 0) w1 := hx
      go_wp2_with fail
      go_round
      case rel => exact ⟨j + 1, hj2.out, by go_num⟩
      case measure => simp [intOf, ew]; omega
    · obtain rfl : j = m := by omega
      exact absurd hlt (by have := hm.out; omega)
  · obtain rfl : j = m := by omega
    have q1 : ¬ (j : Int) < 4 := by omega
    clear IX HZ hj hlt
    go_wp2_with fail; go_ret; exact ⟨rfl, hbq.out⟩
theorem first_not {z : Nat → Nat} : ∀ {n : Nat}, ¬ (∀ j, j < n → z j = 0) → ∃ m, m < n ∧ (∀ j, j < m → z j = 0) ∧ ¬ z m = 0
 | 0, h => absurd (fun j hj => by omega) h
 | n + 1, h => by
   by_cases k : ∀ j, j < n → z j = 0
   · refine ⟨n, by omega, k, fun e => h fun j hj => ?_⟩
     by_cases hjn : j < n
     · exact k j hjn
     · obtain rfl : j = n := by omega
       exact e
   · obtain ⟨m, h1, h2, h3⟩ := first_not k
     exact ⟨m, by omega, h2, h3⟩
theorem bform (h : Nat) (v : Nat → Nat) (w : World) (H : HD w h v) :
 Calls Tryz.prog 254 #[.pointer (some ⟨h, 0, none⟩)] w fun e w' => e = .returned (.bool (fmB v)) ∧ Below w.heap.size w w' := by
 by_cases hz : ∀ j, j < 4 → zz v j = 0
 · by_cases h2 : v 2 = 54
   · by_cases h3 : v 3 = 40
     · by_cases h6 : v 6 = 1
       · by_cases h7 : v 7 = 24
         · rw [show fmB v = true from decide_eq_true ⟨(zz_all v).2 hz, h2, h3, h6, .inl h7⟩]
           exact bform_4 h v w H hz (eq_tb h2) (eq_tb h3) (eq_tb h6) (eq_tb h7)
         · by_cases h8 : v 7 = 32
           · rw [show fmB v = true from decide_eq_true ⟨(zz_all v).2 hz, h2, h3, h6, .inr h8⟩]
             exact bform_5 h v w H hz (eq_tb h2) (eq_tb h3) (eq_tb h6) (eq_fb h7) (eq_tb h8)
           · rw [show fmB v = false from decide_eq_false fun q => q.2.2.2.2.elim h7 h8]
             exact bform_6 h v w H hz (eq_tb h2) (eq_tb h3) (eq_tb h6) (eq_fb h7) (eq_fb h8)
       · rw [show fmB v = false from decide_eq_false fun q => h6 q.2.2.2.1]
         exact bform_3 h v w H hz (eq_tb h2) (eq_tb h3) (eq_fb h6)
     · rw [show fmB v = false from decide_eq_false fun q => h3 q.2.2.1]
       exact bform_2 h v w H hz (eq_tb h2) (eq_fb h3)
   · rw [show fmB v = false from decide_eq_false fun q => h2 q.2.1]
     exact bform_1 h v w H hz (eq_fb h2)
 · rw [show fmB v = false from decide_eq_false fun q => hz ((zz_all v).1 q.1)]
   obtain ⟨m, h1, h2, h3⟩ := first_not hz
   exact bform_no h v w H m h1 h2 h3
attribute [go_sem] Tryz.results255
/-- The size: the code; the size where it is 0. -/
def shC (x y : Nat) : Nat := if x = 0 ∨ y = 0 then 12 else if 32768 < x ∨ 32768 < y ∨ 4194304 < x * y then 30 else 0
def GiveShape (x y z : Nat) (w : World) (e : Ending) (w' : World) : Prop := ∃ X Y Z : Int, e = .returned (.tuple #[imv X Y Z (.slice none 0 0), .int .i64 (shC x y : Int)]) ∧ Below w.heap.size w w' ∧ (shC x y = 0 → X = x ∧ Y = y ∧ Z = z)
theorem bshape (h : Nat) (v : Nat → Nat) (w : World) (H : HD w h v) (hv4 : v 4 < 4294967296) (hv5 : v 5 < 4294967296) (hv7 : v 7 < 4294967296) :
 Calls Tryz.prog 255 #[.pointer (some ⟨h, 0, none⟩)] w (GiveShape (v 4) (rowsN (v 5)) (v 7 / 8) w) := by
 have hr : rowsN (v 5) < 4294967296 := by unfold rowsN; split <;> omega
 by_cases h1 : v 4 = 0
 · have b1 : ((v 4 : Int) == 0) = true := eq_tb h1
   have S := Hi (show shC (v 4) (rowsN (v 5)) = 12 from if_pos (.inl h1))
   clear h1
   have H := Hi H
   go_enter Tryz.func255, Tryz.ntmps255
   go_wp2_with fail
   obtain ⟨w0, e, BB, q0⟩ := en1 w #[.int .i64 0, .int .i64 0, .int .i64 0, .slice none 0 0] IT
   rw [e]; clear e
   have H1 := Hi (H.out.keep BB.out)
   have c4 := H1.out.cell 4 rfl
   have lt := H1.out.lt
   have Q_0 := Hi (fun n => quiet_same (brows h v (w0.drewN n) (H1.out.keep (below_drawn (Below.refl w0.heap.size w0) n)) hv5))
   go_quiet ((first | (go_at_call 336; with_reducible exact Q_0.out _)))
   clear Q_0
   have hb := below_drawn (Below.refl w0.heap.size w0) nq
   generalize w0.drewN nq = w1 at *
   replace q0 := kp q0 hb
   replace H1 := Hi (AtB.keep H1.out hb)
   replace BB := nx BB hb
   clear hb nq
   clear c4 lt
   obtain ⟨q1, q2, q6, q7, q8, q9, qa, qb⟩ := reads4 q0.out
   have qc := q0.out.lt
   go_wp2_with fail
   clear H1
   clear q1 q2 q6 q7 q8 q9 qa qb qc
   have F := st4 q0 BB 0 (.int .i64 0) 1 (.int .i64 0) 2 (.int .i64 0) 3 (.slice none 0 0)
   clear q0 BB
   obtain ⟨w2, e, q0, BB, F⟩ := F
   rw [e]; clear e
   clear F
   obtain ⟨q1, q2, q6, q7, q8, q9, qa, qb⟩ := reads4 q0.out
   have qc := q0.out.lt
   refine bret (.tuple #[imv 0 0 0 (.slice none 0 0), .int .i64 12]) ?_
   exact ⟨0, 0, 0, by rw [S.out]; rfl, BB.out, fun e => by rw [S.out] at e; simp at e⟩
 · have b1 : ((v 4 : Int) == 0) = false := eq_fb h1
   by_cases h2 : rowsN (v 5) = 0
   · have b2 : ((rowsN (v 5) : Int) == 0) = true := eq_tb h2
     have S := Hi (show shC (v 4) (rowsN (v 5)) = 12 from if_pos (.inr h2))
     replace h1 := Hi h1
     clear h2
     have H := Hi H
     go_enter Tryz.func255, Tryz.ntmps255
     go_wp2_with fail
     obtain ⟨w0, e, BB, q0⟩ := en1 w #[.int .i64 0, .int .i64 0, .int .i64 0, .slice none 0 0] IT
     rw [e]; clear e
     have H1 := Hi (H.out.keep BB.out)
     have c4 := H1.out.cell 4 rfl
     have lt := H1.out.lt
     have Q_0 := Hi (fun n => quiet_same (brows h v (w0.drewN n) (H1.out.keep (below_drawn (Below.refl w0.heap.size w0) n)) hv5))
     go_quiet ((first | (go_at_call 336; with_reducible exact Q_0.out _)))
     clear Q_0
     have hb := below_drawn (Below.refl w0.heap.size w0) nq
     generalize w0.drewN nq = w1 at *
     replace q0 := kp q0 hb
     replace H1 := Hi (AtB.keep H1.out hb)
     replace BB := nx BB hb
     clear hb nq
     clear c4 lt
     obtain ⟨q1, q2, q6, q7, q8, q9, qa, qb⟩ := reads4 q0.out
     have qc := q0.out.lt
     go_wp2_with fail
     clear H1
     clear q1 q2 q6 q7 q8 q9 qa qb qc
     have F := st4 q0 BB 0 (.int .i64 0) 1 (.int .i64 0) 2 (.int .i64 0) 3 (.slice none 0 0)
     clear q0 BB
     obtain ⟨w2, e, q0, BB, F⟩ := F
     rw [e]; clear e
     clear F
     obtain ⟨q1, q2, q6, q7, q8, q9, qa, qb⟩ := reads4 q0.out
     have qc := q0.out.lt
     refine bret (.tuple #[imv 0 0 0 (.slice none 0 0), .int .i64 12]) ?_
     exact ⟨0, 0, 0, by rw [S.out]; rfl, BB.out, fun e => by rw [S.out] at e; simp at e⟩
   · have b2 : ((rowsN (v 5) : Int) == 0) = false := eq_fb h2
     have S0 : shC (v 4) (rowsN (v 5)) = if 32768 < v 4 ∨ 32768 < rowsN (v 5) ∨ 4194304 < v 4 * rowsN (v 5) then 30 else 0 := if_neg (fun q => q.elim h1 h2)
     replace h1 := Hi h1
     replace h2 := Hi h2
     by_cases h3 : 32768 < v 4
     · have S := Hi (S0.trans (if_pos (.inl h3)))
       have q3 : (32768 : Int) < (v 4 : Int) := by omega
       clear S0 h3
       have H := Hi H
       go_enter Tryz.func255, Tryz.ntmps255
       go_wp2_with fail
       obtain ⟨w0, e, BB, q0⟩ := en1 w #[.int .i64 0, .int .i64 0, .int .i64 0, .slice none 0 0] IT
       rw [e]; clear e
       have H1 := Hi (H.out.keep BB.out)
       have c4 := H1.out.cell 4 rfl
       have lt := H1.out.lt
       have Q_0 := Hi (fun n => quiet_same (brows h v (w0.drewN n) (H1.out.keep (below_drawn (Below.refl w0.heap.size w0) n)) hv5))
       go_quiet ((first | (go_at_call 336; with_reducible exact Q_0.out _)))
       clear Q_0
       have hb := below_drawn (Below.refl w0.heap.size w0) nq
       generalize w0.drewN nq = w1 at *
       replace q0 := kp q0 hb
       replace H1 := Hi (AtB.keep H1.out hb)
       replace BB := nx BB hb
       clear hb nq
       clear c4 lt
       obtain ⟨q1, q2, q6, q7, q8, q9, qa, qb⟩ := reads4 q0.out
       have qc := q0.out.lt
       go_wp2_with fail
       clear H1
       clear q1 q2 q6 q7 q8 q9 qa qb qc
       have F := st4 q0 BB 0 (.int .i64 0) 1 (.int .i64 0) 2 (.int .i64 0) 3 (.slice none 0 0)
       clear q0 BB
       obtain ⟨w2, e, q0, BB, F⟩ := F
       rw [e]; clear e
       clear F
       obtain ⟨q1, q2, q6, q7, q8, q9, qa, qb⟩ := reads4 q0.out
       have qc := q0.out.lt
       refine bret (.tuple #[imv 0 0 0 (.slice none 0 0), .int .i64 30]) ?_
       exact ⟨0, 0, 0, by rw [S.out]; rfl, BB.out, fun e => by rw [S.out] at e; simp at e⟩
     · have q3 : ¬ (32768 : Int) < (v 4 : Int) := by omega
       by_cases h4 : 32768 < rowsN (v 5)
       · have S := Hi (S0.trans (if_pos (.inr (.inl h4))))
         have q4 : (32768 : Int) < (rowsN (v 5) : Int) := by omega
         clear S0 h3 h4
         have H := Hi H
         go_enter Tryz.func255, Tryz.ntmps255
         go_wp2_with fail
         obtain ⟨w0, e, BB, q0⟩ := en1 w #[.int .i64 0, .int .i64 0, .int .i64 0, .slice none 0 0] IT
         rw [e]; clear e
         have H1 := Hi (H.out.keep BB.out)
         have c4 := H1.out.cell 4 rfl
         have lt := H1.out.lt
         have Q_0 := Hi (fun n => quiet_same (brows h v (w0.drewN n) (H1.out.keep (below_drawn (Below.refl w0.heap.size w0) n)) hv5))
         go_quiet ((first | (go_at_call 336; with_reducible exact Q_0.out _)))
         clear Q_0
         have hb := below_drawn (Below.refl w0.heap.size w0) nq
         generalize w0.drewN nq = w1 at *
         replace q0 := kp q0 hb
         replace H1 := Hi (AtB.keep H1.out hb)
         replace BB := nx BB hb
         clear hb nq
         clear c4 lt
         obtain ⟨q1, q2, q6, q7, q8, q9, qa, qb⟩ := reads4 q0.out
         have qc := q0.out.lt
         go_wp2_with fail
         clear H1
         clear q1 q2 q6 q7 q8 q9 qa qb qc
         have F := st4 q0 BB 0 (.int .i64 0) 1 (.int .i64 0) 2 (.int .i64 0) 3 (.slice none 0 0)
         clear q0 BB
         obtain ⟨w2, e, q0, BB, F⟩ := F
         rw [e]; clear e
         clear F
         obtain ⟨q1, q2, q6, q7, q8, q9, qa, qb⟩ := reads4 q0.out
         have qc := q0.out.lt
         refine bret (.tuple #[imv 0 0 0 (.slice none 0 0), .int .i64 30]) ?_
         exact ⟨0, 0, 0, by rw [S.out]; rfl, BB.out, fun e => by rw [S.out] at e; simp at e⟩
       · have q4 : ¬ (32768 : Int) < (rowsN (v 5) : Int) := by omega
         have hle : v 4 * rowsN (v 5) ≤ 32768 * 32768 := Nat.mul_le_mul (by omega) (by omega)
         have em : (v 4 : Int) * (rowsN (v 5) : Int) = ((v 4 * rowsN (v 5) : Nat) : Int) := by rw [Int.natCast_mul]
         have ew : IntKind.u32.wrap ((v 4 : Int) * (rowsN (v 5) : Int)) = ((v 4 * rowsN (v 5) : Nat) : Int) := by rw [em]; generalize v 4 * rowsN (v 5) = p at *; simp [IntKind.wrap, IntKind.bits, IntKind.signed]; omega
         by_cases h5 : 4194304 < v 4 * rowsN (v 5)
         · have S := Hi (S0.trans (if_pos (.inr (.inr h5))))
           have q5 : (4194304 : Int) < ((v 4 * rowsN (v 5) : Nat) : Int) := by omega
           clear S0 h3 h4 h5 hle em
           generalize v 4 * rowsN (v 5) = p at *
           have H := Hi H
           go_enter Tryz.func255, Tryz.ntmps255
           go_wp2_with fail
           obtain ⟨w0, e, BB, q0⟩ := en1 w #[.int .i64 0, .int .i64 0, .int .i64 0, .slice none 0 0] IT
           rw [e]; clear e
           have H1 := Hi (H.out.keep BB.out)
           have c4 := H1.out.cell 4 rfl
           have lt := H1.out.lt
           have Q_0 := Hi (fun n => quiet_same (brows h v (w0.drewN n) (H1.out.keep (below_drawn (Below.refl w0.heap.size w0) n)) hv5))
           go_quiet ((first | (go_at_call 336; with_reducible exact Q_0.out _)))
           clear Q_0
           have hb := below_drawn (Below.refl w0.heap.size w0) nq
           generalize w0.drewN nq = w1 at *
           replace q0 := kp q0 hb
           replace H1 := Hi (AtB.keep H1.out hb)
           replace BB := nx BB hb
           clear hb nq
           clear c4 lt
           obtain ⟨q1, q2, q6, q7, q8, q9, qa, qb⟩ := reads4 q0.out
           have qc := q0.out.lt
           go_wp2_with fail
           clear H1
           clear q1 q2 q6 q7 q8 q9 qa qb qc
           have F := st4 q0 BB 0 (.int .i64 0) 1 (.int .i64 0) 2 (.int .i64 0) 3 (.slice none 0 0)
           clear q0 BB
           obtain ⟨w2, e, q0, BB, F⟩ := F
           rw [e]; clear e
           clear F
           obtain ⟨q1, q2, q6, q7, q8, q9, qa, qb⟩ := reads4 q0.out
           have qc := q0.out.lt
           refine bret (.tuple #[imv 0 0 0 (.slice none 0 0), .int .i64 30]) ?_
           exact ⟨0, 0, 0, by rw [S.out]; rfl, BB.out, fun e => by rw [S.out] at e; simp at e⟩
         · have S := Hi (S0.trans (if_neg (by omega)))
           have q5 : ¬ (4194304 : Int) < ((v 4 * rowsN (v 5) : Nat) : Int) := by omega
           have e1 : IntKind.i64.wrap (v 4 : Int) = (v 4 : Int) := iw ⟨by omega, by omega⟩
           have e2 : IntKind.i64.wrap (rowsN (v 5) : Int) = (rowsN (v 5) : Int) := iw ⟨by omega, by omega⟩
           have e3 : (v 7 : Int).tdiv 8 = ((v 7 / 8 : Nat) : Int) := by rw [Int.natCast_ediv]; exact Int.tdiv_eq_ediv_of_nonneg (by omega)
           have e4 : IntKind.i64.wrap ((v 7 / 8 : Nat) : Int) = ((v 7 / 8 : Nat) : Int) := iw ⟨by omega, by omega⟩
           have e5 : IntKind.u32.wrap ((v 7 / 8 : Nat) : Int) = ((v 7 / 8 : Nat) : Int) := by simp [IntKind.wrap, IntKind.bits, IntKind.signed]; omega
           clear S0 h3 h4 h5 hle em hr
           generalize v 4 * rowsN (v 5) = p at *
           generalize hz : v 7 / 8 = z at *
           replace hz := Hi hz
           have H := Hi H
           go_enter Tryz.func255, Tryz.ntmps255
           go_wp2_with fail
           obtain ⟨w0, e, BB, q0⟩ := en1 w #[.int .i64 0, .int .i64 0, .int .i64 0, .slice none 0 0] IT
           rw [e]; clear e
           have H1 := Hi (H.out.keep BB.out)
           have c4 := H1.out.cell 4 rfl
           have lt := H1.out.lt
           have Q_0 := Hi (fun n => quiet_same (brows h v (w0.drewN n) (H1.out.keep (below_drawn (Below.refl w0.heap.size w0) n)) hv5))
           go_quiet ((first | (go_at_call 336; with_reducible exact Q_0.out _)))
           clear Q_0
           have hb := below_drawn (Below.refl w0.heap.size w0) nq
           generalize w0.drewN nq = w1 at *
           replace q0 := kp q0 hb
           replace H1 := Hi (AtB.keep H1.out hb)
           replace BB := nx BB hb
           clear hb nq
           clear c4 lt
           obtain ⟨q1, q2, q6, q7, q8, q9, qa, qb⟩ := reads4 q0.out
           have qc := q0.out.lt
           have c7 := H1.out.cell 7 rfl
           have lt7 := H1.out.lt
           go_wp2_with fail
           clear H1
           clear q1 q2 q6 q7 q8 q9 qa qb qc
           have F := st4 q0 BB 0 (.int .i64 (v 4 : Int)) 1 (.int .i64 (rowsN (v 5) : Int)) 2 (.int .i64 (z : Int)) 3 (.slice none 0 0)
           clear q0 BB
           obtain ⟨w2, e, q0, BB, F⟩ := F
           rw [e]; clear e
           clear F
           obtain ⟨q1, q2, q6, q7, q8, q9, qa, qb⟩ := reads4 q0.out
           have qc := q0.out.lt
           refine bret (.tuple #[imv (v 4 : Int) (rowsN (v 5) : Int) (z : Int) (.slice none 0 0), .int .i64 0]) ?_
           exact ⟨_, _, z, by rw [S.out]; rfl, BB.out, fun _ => ⟨rfl, rfl, rfl⟩⟩
/-- Which row of the bytes is a row of the image; the same, the other way round. -/
def srcR (down : Bool) (H t : Nat) : Nat := if down then t else H - 1 - t
def rdR (l : List UInt8) (W H C : Nat) (down : Bool) (t : Nat) : List UInt8 := turnL C ((l.drop (54 + srcR down H t * strideN W C)).take (W * C))
def fR (l : List UInt8) (W H C : Nat) (down : Bool) (j t : Nat) : List UInt8 := if srcR down H t < j then rdR l W H C down t else List.replicate (W * C) 0
def pixP (l : List UInt8) (W H C : Nat) (down : Bool) (j : Nat) : List UInt8 := (List.range H).flatMap (fR l W H C down j)
def preP (l : List UInt8) (W H C : Nat) (down : Bool) (j t : Nat) : List UInt8 := (List.range t).flatMap (fR l W H C down j)
def postP (l : List UInt8) (W H C : Nat) (down : Bool) (j t : Nat) : List UInt8 := (List.range' (t + 1) (H - t - 1)).flatMap (fR l W H C down j)
theorem rowsB_flat (l : List UInt8) (W H C : Nat) (down : Bool) : ∀ n, rowsB l W H C down n = (List.range n).flatMap (rdR l W H C down)
 | 0 => rfl
 | n + 1 => by
   rw [List.range_succ, List.flatMap_append, ← rowsB_flat l W H C down n]
   simp [rowsB, rdR, srcR]
section
variable {l : List UInt8} {W H C : Nat} {down : Bool}
theorem srcR_lt {t : Nat} (h : t < H) : srcR down H t < H := by unfold srcR; split <;> omega
theorem srcR_back {j : Nat} (h : j < H) : srcR down H (srcR down H j) = j := by unfold srcR; split <;> omega
theorem srcR_inj {t u : Nat} (h : t < H) (k : u < H) (e : srcR down H t = srcR down H u) : t = u := by unfold srcR at e; split at e <;> omega
theorem range_split {t : Nat} (h : t < H) : List.range H = List.range t ++ t :: List.range' (t + 1) (H - t - 1) := by
 rw [List.range_eq_range', List.range_eq_range']
 have e : List.range' 0 H = List.range' 0 t ++ List.range' (0 + 1 * t) (H - t) := by rw [List.range'_append]; congr 1; omega
 rw [e]
 congr 1
 rw [show H - t = (H - t - 1) + 1 by omega, List.range'_succ]
 simp
theorem pixP_split {j t : Nat} (h : t < H) : pixP l W H C down j = preP l W H C down j t ++ (fR l W H C down j t ++ postP l W H C down j t) := by
 unfold pixP preP postP
 rw [range_split h, List.flatMap_append, List.flatMap_cons]
theorem pixP_zero : pixP l W H C down 0 = List.replicate (H * (W * C)) 0 := by
 unfold pixP
 have : ∀ n, (List.range n).flatMap (fR l W H C down 0) = List.replicate (n * (W * C)) 0 := by
  intro n
  induction n with
  | zero => simp
  | succ n ih =>
    rw [List.range_succ, List.flatMap_append, ih]
    have e : fR l W H C down 0 n = List.replicate (W * C) 0 := if_neg (by omega)
    simp only [List.flatMap_cons, List.flatMap_nil, List.append_nil, e]
    rw [Nat.add_mul, Nat.one_mul, List.replicate_append_replicate]
 exact this H
theorem flatMap_same {f g : Nat → List UInt8} : ∀ {xs : List Nat}, (∀ x, x ∈ xs → f x = g x) → xs.flatMap f = xs.flatMap g
 | [], _ => rfl
 | x :: xs, h => by
   rw [List.flatMap_cons, List.flatMap_cons, h x (by simp), flatMap_same (fun y hy => h y (by simp [hy]))]
theorem pixP_all : pixP l W H C down H = rowsB l W H C down H := by
 rw [rowsB_flat]
 refine flatMap_same fun t ht => if_pos (srcR_lt (List.mem_range.1 ht))
theorem preP_next {j : Nat} (h : j < H) : preP l W H C down (j + 1) (srcR down H j) = preP l W H C down j (srcR down H j) := by
 refine flatMap_same fun u hu => ?_
 have hu' := List.mem_range.1 hu
 have hs := srcR_lt (down := down) h
 have hne : srcR down H u ≠ j := fun e => by
  have := srcR_inj (down := down) (t := u) (u := srcR down H j) (by omega) hs (by rw [srcR_back h]; exact e)
  omega
 unfold fR
 by_cases k : srcR down H u < j
 · rw [if_pos (by omega), if_pos k]
 · rw [if_neg (by omega), if_neg k]
theorem postP_next {j : Nat} (h : j < H) : postP l W H C down (j + 1) (srcR down H j) = postP l W H C down j (srcR down H j) := by
 refine flatMap_same fun u hu => ?_
 have hu' := List.mem_range'_1.1 hu
 have hs := srcR_lt (down := down) h
 have hne : srcR down H u ≠ j := fun e => by
  have := srcR_inj (down := down) (t := u) (u := srcR down H j) (by omega) hs (by rw [srcR_back h]; exact e)
  omega
 unfold fR
 by_cases k : srcR down H u < j
 · rw [if_pos (by omega), if_pos k]
 · rw [if_neg (by omega), if_neg k]
theorem fR_now {j : Nat} (h : j < H) : fR l W H C down j (srcR down H j) = List.replicate (W * C) 0 := if_neg (by rw [srcR_back h]; omega)
theorem fR_next {j : Nat} (h : j < H) : fR l W H C down (j + 1) (srcR down H j) = turnL C ((l.drop (54 + j * strideN W C)).take (W * C)) := by
 unfold fR
 rw [srcR_back h, if_pos (by omega)]
 unfold rdR
 rw [srcR_back h]
theorem fR_len (hb : 54 + strideN W C * H ≤ l.length) (j : Nat) {t : Nat} (h : t < H) : (fR l W H C down j t).length = W * C := by
 unfold fR
 split
 · unfold rdR
   have h1 := srcR_lt (down := down) h
   have h2 := Nat.mul_le_mul_right (strideN W C) (show srcR down H t + 1 ≤ H by omega)
   rw [Nat.add_mul, Nat.one_mul, Nat.mul_comm H] at h2
   have h3 := stride_ge W C
   rw [turnL_len, List.length_take, List.length_drop]
   omega
 · simp
theorem preP_len (hb : 54 + strideN W C * H ≤ l.length) (j : Nat) : ∀ t, t ≤ H → (preP l W H C down j t).length = t * (W * C)
 | 0, _ => by simp [preP]
 | t + 1, h => by
   unfold preP
   rw [List.range_succ, List.flatMap_append, List.length_append]
   have ih := preP_len hb j t (by omega)
   unfold preP at ih
   rw [ih]
   simp only [List.flatMap_cons, List.flatMap_nil, List.append_nil]
   rw [fR_len hb j (by omega), Nat.add_mul, Nat.one_mul]
end
/-- The program's way of bmpR. -/
def bmpP (l : List UInt8) : Nat × Nat × Nat × Nat × List UInt8 :=
 if tkC l ≠ 0 then (tkC l, 0, 0, 0, []) else
 if fmB (hv l) = false then (21, 0, 0, 0, []) else
 if shC (hv l 4) (rowsN (hv l 5)) ≠ 0 then (shC (hv l 4) (rowsN (hv l 5)), 0, 0, 0, []) else
 if l.length - 54 < strideN (hv l 4) (hv l 7 / 8) * rowsN (hv l 5) then (20, 0, 0, 0, []) else
 if strideN (hv l 4) (hv l 7 / 8) * rowsN (hv l 5) < l.length - 54 then (22, 0, 0, 0, []) else
 if decide (hv l 0 = l.length ∧ (hv l 9 = 0 ∨ hv l 9 = l.length - 54)) = false then (21, 0, 0, 0, []) else
 (0, hv l 4, rowsN (hv l 5), hv l 7 / 8, rowsB l (hv l 4) (rowsN (hv l 5)) (hv l 7 / 8) (decide (2147483648 ≤ hv l 5)) (rowsN (hv l 5)))
theorem bmpF_eq (l : List UInt8) : bmpF l = if tkC l ≠ 0 then tkC l else if fmB (hv l) = false then 21 else 0 := by
 match l with
 | [] => rfl
 | [x] =>
   by_cases h : x = 66
   · subst h; rfl
   · have e1 : wrd 66 77 [x] = 21 := by simp [wrd, h]
     have e2 : tkC [x] = 21 := by unfold tkC; rw [e1]; rfl
     rw [e2]
     simp [bmpF, h]
 | x :: y :: t =>
   by_cases h1 : x = 66 ∧ y = 77
   · have e1 : wrd 66 77 (x :: y :: t) = 0 := by simp [wrd, h1.1, h1.2]
     have e2 : tkC (x :: y :: t) = if t.length < 52 then 20 else 0 := by
      unfold tkC
      rw [e1, if_neg (by simp)]
      rfl
     rw [e2]
     unfold bmpF
     rw [if_neg (by simp), if_neg (by simp [h1.1, h1.2])]
     by_cases h2 : t.length < 52
     · rw [if_pos (by simp; omega), if_pos h2]; rfl
     · rw [if_neg (by simp; omega), if_neg h2, if_neg (show ¬ (0 : Nat) ≠ 0 by simp)]
       have f : fmB (hv (x :: y :: t)) = decide ((hdB (x :: y :: t) 6 4 = 0 ∧ hdB (x :: y :: t) 30 4 = 0 ∧ hdB (x :: y :: t) 46 4 = 0 ∧ hdB (x :: y :: t) 50 4 = 0) ∧ hdB (x :: y :: t) 10 4 = 54 ∧ hdB (x :: y :: t) 14 4 = 40 ∧ hdB (x :: y :: t) 26 2 = 1 ∧ (hdB (x :: y :: t) 28 2 = 24 ∨ hdB (x :: y :: t) 28 2 = 32)) := rfl
       rw [f]
       simp only [decide_eq_false_iff_not]
       generalize hdB (x :: y :: t) 6 4 = a1
       generalize hdB (x :: y :: t) 10 4 = a2
       generalize hdB (x :: y :: t) 14 4 = a3
       generalize hdB (x :: y :: t) 26 2 = a4
       generalize hdB (x :: y :: t) 30 4 = a5
       generalize hdB (x :: y :: t) 46 4 = a6
       generalize hdB (x :: y :: t) 50 4 = a7
       generalize hdB (x :: y :: t) 28 2 = a8
       by_cases k : (a1 = 0 ∧ a5 = 0 ∧ a6 = 0 ∧ a7 = 0) ∧ a2 = 54 ∧ a3 = 40 ∧ a4 = 1 ∧ (a8 = 24 ∨ a8 = 32)
       · rw [if_neg (by omega), if_neg (by omega), if_neg (fun q => q k)]
       · rw [if_pos k]
         by_cases k2 : a1 ≠ 0 ∨ a2 ≠ 54 ∨ a3 ≠ 40 ∨ a4 ≠ 1 ∨ a5 ≠ 0 ∨ a6 ≠ 0 ∨ a7 ≠ 0
         · rw [if_pos k2]
         · rw [if_neg k2, if_pos (by omega)]
   · have e1 : wrd 66 77 (x :: y :: t) = 21 := by simp only [wrd]; rw [if_neg h1]
     have e2 : tkC (x :: y :: t) = 21 := by unfold tkC; rw [e1]; rfl
     rw [e2]
     unfold bmpF
     rw [if_neg (by simp), if_pos (by
      by_cases hx : x = 66
      · have hy : y ≠ 77 := fun e => h1 ⟨hx, e⟩
        simp [hx, hy]
      · simp [hx])]
     rfl
theorem bmpP_eq (l : List UInt8) : bmpP l = bmpR l := by
 unfold bmpP bmpR
 have hF := bmpF_eq l
 have eH : bmpH l = rowsN (hv l 5) := rfl
 have e4 : hdB l 18 4 = hv l 4 := rfl
 have e7 : hdB l 28 2 = hv l 7 := rfl
 have e0 : hdB l 2 4 = hv l 0 := rfl
 have e9 : hdB l 34 4 = hv l 9 := rfl
 have e5 : hdB l 22 4 = hv l 5 := rfl
 rw [eH, e4, e7, e0, e9, e5]
 by_cases h1 : tkC l = 0
 · rw [if_neg (by omega)] at hF ⊢
   by_cases h2 : fmB (hv l) = false
   · rw [if_pos h2] at hF ⊢
     rw [hF, if_pos (by omega)]
   · rw [if_neg h2] at hF ⊢
     rw [hF, if_neg (show ¬ (0 : Nat) ≠ 0 by simp)]
     generalize hv l 4 = x
     generalize rowsN (hv l 5) = y
     unfold shC
     by_cases h3 : x = 0 ∨ y = 0
     · rw [if_pos h3, if_pos (by omega), if_pos h3]
     · rw [if_neg h3, if_neg h3]
       by_cases h4 : 32768 < x ∨ 32768 < y ∨ 4194304 < x * y
       · rw [if_pos h4, if_pos (by omega), if_pos h4]
       · rw [if_neg h4, if_neg (by omega), if_neg h4]
         generalize strideN x (hv l 7 / 8) * y = n
         by_cases h5 : l.length - 54 < n
         · rw [if_pos h5, if_pos h5]
         rw [if_neg h5, if_neg h5]
         by_cases h6 : n < l.length - 54
         · rw [if_pos h6, if_pos h6]
         rw [if_neg h6, if_neg h6]
         have hn : l.length - 54 = n := by omega
         rw [hn]
         generalize hv l 0 = a
         generalize hv l 9 = b
         by_cases h7 : a ≠ l.length ∨ (b ≠ 0 ∧ b ≠ n)
         · rw [if_pos h7, if_pos (by rw [decide_eq_false_iff_not]; omega)]
         · rw [if_neg h7, if_neg (by rw [decide_eq_false_iff_not]; omega)]
 · rw [if_pos h1] at hF ⊢
   rw [hF, if_pos h1]
attribute [go_sem] Tryz.results171
theorem below_pt {B : Nat} {w w1 w2 : World} (h : Below w.heap.size w w1) (k : Below B w1 w2) (hB : w.heap.size ≤ B) : Below w.heap.size w w2 := h.trans (k.mono hB)
theorem AtB.blk {B x : Nat} {w1 w2 : World} {cs : Array Value} {T : TypeId} (h : AtB w1 x cs T) (k : Below B w1 w2) (hB : x < B) : AtB w2 x cs T := (k.block x hB).trans h
theorem bread_1 (v : Value) (l : List UInt8) (hl : l.length ≤ 100000000) (w : World) (h : BY w v l) (h0 : tkC l ≠ 0) : Calls Tryz.prog 171 #[v] w (GiveImg (tkC l, 0, 0, 0, []) w) := by
 have CN := Hi (fun w1 (hb : Below w.heap.size w w1) => cnew v l hl w1 (h.below hb))
 obtain ⟨A, cap, rfl⟩ := h.form
 clear h
 have q1 := neq_t h0
 replace h0 := Hi h0
 go_enter Tryz.func171, Tryz.ntmps171
 go_wp2_with fail
 obtain ⟨w0, e, BB, q0⟩ := en1 w #[.int .i64 0, .int .i64 0, .int .i64 0, .slice none 0 0] IT
 rw [e]; clear e
 have hsz := Hi q0.out.lt
 refine (CN.out _ BB.out).mono ?_
 rintro e w1 ⟨g, s, rfl, hb, hge, hc, hown⟩
 replace q0 := kp q0 hb
 replace BB := nx BB hb
 clear hb
 have hg := Hi (show w.heap.size < g from by have := hsz.out; omega)
 have hs := Hi (fun b e => (hown.lt b e).2)
 have gs := Hi (cu_lt hc)
 replace hc := Hi hc
 clear CN hge hown
 go_upto_region 2 with fail
 have qe := Hi (And.intro BB.out.size (And.intro q0.out.lt (True.intro)))
 obtain ⟨hb, qb⟩ := laid w1 #[.int .u32 0, .int .u32 0, .int .u32 0, .int .u32 0, .int .u32 0, .int .u32 0, .int .u32 0, .int .u32 0, .int .u32 0, .int .u32 0, .int .u32 0, .int .u32 0, .int .u32 0, .int .u32 0] HT
 replace q0 := kp q0 hb
 replace hc := Hi (CU.below hc.out hb)
 replace BB := nx BB hb
 replace qb := Hi qb
 clear hb
 generalize w1.alloc (.cells #[.int .u32 0, .int .u32 0, .int .u32 0, .int .u32 0, .int .u32 0, .int .u32 0, .int .u32 0, .int .u32 0, .int .u32 0, .int .u32 0, .int .u32 0, .int .u32 0, .int .u32 0, .int .u32 0] HT) = w2 at *
 generalize w1.heap.size = g_h at *
 have hgh := Hi (show g < g_h from gs.out)
 have hsh := Hi (show s.ownBlock ≠ some g_h from fun e => by have := hs.out _ e; omega)
 have D2 := Hi (btake g g g_h s l w2 hc.out qb.out (by have := hgh.out; omega) hsh.out (Nat.le_refl _) (by have := hgh.out; omega))
 clear hs gs
 clear hc
 go_wp2_with fail
 refine D2.out.mono ?_
 rintro e w5 ⟨rfl, hbg, hk⟩
 clear D2 qb
 replace q0 := Hi (q0.out.blk hbg hg.out)
 replace BB := Hi (below_pt BB.out hbg (Nat.le_of_lt hg.out))
 replace hk := Hi hk
 clear hbg
 clear hk
 obtain ⟨q3, q4, q5, q6, q7, q8, q9, qa⟩ := reads4 q0.out
 have qc := q0.out.lt
 go_wp2_with fail
 clear q3 q4 q5 q6 q7 q8 q9 qa qc
 have F := st4 q0 BB 0 (.int .i64 0) 1 (.int .i64 0) 2 (.int .i64 0) 3 (.slice none 0 0)
 clear q0 BB
 obtain ⟨w3, e, q0, BB, F⟩ := F
 rw [e]; clear e
 clear F
 go_wp2_with fail
 obtain ⟨q3, q4, q5, q6, q7, q8, q9, qa⟩ := reads4 q0.out
 have qc := q0.out.lt
 refine bret (.tuple #[imv 0 0 0 (.slice none 0 0), .int .i64 (tkC l : Int)]) ?_
 exact ⟨0, 0, 0, _, rfl, BB.out, ⟨_, _, _, rfl⟩, fun _ => ⟨rfl, rfl, rfl, rfl⟩, fun e => absurd e h0.out⟩
theorem bread_2 (v : Value) (l : List UInt8) (hl : l.length ≤ 100000000) (w : World) (h : BY w v l) (h0 : tkC l = 0) (h1 : fmB (hv l) = false) : Calls Tryz.prog 171 #[v] w (GiveImg (21, 0, 0, 0, []) w) := by
 have CN := Hi (fun w1 (hb : Below w.heap.size w w1) => cnew v l hl w1 (h.below hb))
 obtain ⟨A, cap, rfl⟩ := h.form
 clear h
 have q1 : ((tkC l : Int) != 0) = false := neq_f h0
 replace h0 := Hi h0
 replace h1 := Hi h1
 go_enter Tryz.func171, Tryz.ntmps171
 go_wp2_with fail
 obtain ⟨w0, e, BB, q0⟩ := en1 w #[.int .i64 0, .int .i64 0, .int .i64 0, .slice none 0 0] IT
 rw [e]; clear e
 have hsz := Hi q0.out.lt
 refine (CN.out _ BB.out).mono ?_
 rintro e w1 ⟨g, s, rfl, hb, hge, hc, hown⟩
 replace q0 := kp q0 hb
 replace BB := nx BB hb
 clear hb
 have hg := Hi (show w.heap.size < g from by have := hsz.out; omega)
 have hs := Hi (fun b e => (hown.lt b e).2)
 have gs := Hi (cu_lt hc)
 replace hc := Hi hc
 clear CN hge hown
 go_upto_region 2 with fail
 have qe := Hi (And.intro BB.out.size (And.intro q0.out.lt (True.intro)))
 obtain ⟨hb, qb⟩ := laid w1 #[.int .u32 0, .int .u32 0, .int .u32 0, .int .u32 0, .int .u32 0, .int .u32 0, .int .u32 0, .int .u32 0, .int .u32 0, .int .u32 0, .int .u32 0, .int .u32 0, .int .u32 0, .int .u32 0] HT
 replace q0 := kp q0 hb
 replace hc := Hi (CU.below hc.out hb)
 replace BB := nx BB hb
 replace qb := Hi qb
 clear hb
 generalize w1.alloc (.cells #[.int .u32 0, .int .u32 0, .int .u32 0, .int .u32 0, .int .u32 0, .int .u32 0, .int .u32 0, .int .u32 0, .int .u32 0, .int .u32 0, .int .u32 0, .int .u32 0, .int .u32 0, .int .u32 0] HT) = w2 at *
 generalize w1.heap.size = g_h at *
 have hgh := Hi (show g < g_h from gs.out)
 have hsh := Hi (show s.ownBlock ≠ some g_h from fun e => by have := hs.out _ e; omega)
 have D2 := Hi (btake g g g_h s l w2 hc.out qb.out (by have := hgh.out; omega) hsh.out (Nat.le_refl _) (by have := hgh.out; omega))
 clear hs gs
 clear hc
 go_wp2_with fail
 refine D2.out.mono ?_
 rintro e w5 ⟨rfl, hbg, hk⟩
 clear D2 qb
 replace q0 := Hi (q0.out.blk hbg hg.out)
 replace BB := Hi (below_pt BB.out hbg (Nat.le_of_lt hg.out))
 replace hk := Hi hk
 clear hbg
 obtain ⟨hc, hh⟩ := hk.out h0.out
 clear hk
 replace hc := Hi hc
 replace hh := Hi (hd_all hh)
 have CF := Hi (bform g_h (hv l) _ hh.out)
 go_wp2_with fail
 rw [h1.out] at CF
 refine (CF.out).mono ?_
 rintro e w3 ⟨rfl, hb⟩
 replace q0 := kp q0 hb
 replace hc := Hi (CU.below hc.out hb)
 replace hh := Hi (AtB.keep hh.out hb)
 replace BB := nx BB hb
 clear hb
 clear CF
 obtain ⟨q3, q4, q5, q6, q7, q8, q9, qa⟩ := reads4 q0.out
 have qc := q0.out.lt
 go_wp2_with fail
 clear q3 q4 q5 q6 q7 q8 q9 qa qc
 have F := st4 q0 BB 0 (.int .i64 0) 1 (.int .i64 0) 2 (.int .i64 0) 3 (.slice none 0 0)
 clear q0 BB
 obtain ⟨w4, e, q0, BB, F⟩ := F
 rw [e]; clear e
 clear F
 go_wp2_with fail
 obtain ⟨q3, q4, q5, q6, q7, q8, q9, qa⟩ := reads4 q0.out
 have qc := q0.out.lt
 refine bret (.tuple #[imv 0 0 0 (.slice none 0 0), .int .i64 21]) ?_
 exact ⟨0, 0, 0, _, rfl, BB.out, ⟨_, _, _, rfl⟩, fun _ => ⟨rfl, rfl, rfl, rfl⟩, fun e => absurd e (by simp)⟩
theorem bread_3 (v : Value) (l : List UInt8) (hl : l.length ≤ 100000000) (w : World) (h : BY w v l) (h0 : tkC l = 0) (h1 : fmB (hv l) = true) (h2 : shC (hv l 4) (rowsN (hv l 5)) ≠ 0) : Calls Tryz.prog 171 #[v] w (GiveImg (shC (hv l 4) (rowsN (hv l 5)), 0, 0, 0, []) w) := by
 have CN := Hi (fun w1 (hb : Below w.heap.size w w1) => cnew v l hl w1 (h.below hb))
 obtain ⟨A, cap, rfl⟩ := h.form
 clear h
 have q1 : ((tkC l : Int) != 0) = false := neq_f h0
 have q2 := neq_t h2
 replace h0 := Hi h0
 replace h1 := Hi h1
 replace h2 := Hi h2
 go_enter Tryz.func171, Tryz.ntmps171
 go_wp2_with fail
 obtain ⟨w0, e, BB, q0⟩ := en1 w #[.int .i64 0, .int .i64 0, .int .i64 0, .slice none 0 0] IT
 rw [e]; clear e
 have hsz := Hi q0.out.lt
 refine (CN.out _ BB.out).mono ?_
 rintro e w1 ⟨g, s, rfl, hb, hge, hc, hown⟩
 replace q0 := kp q0 hb
 replace BB := nx BB hb
 clear hb
 have hg := Hi (show w.heap.size < g from by have := hsz.out; omega)
 have hs := Hi (fun b e => (hown.lt b e).2)
 have gs := Hi (cu_lt hc)
 replace hc := Hi hc
 clear CN hge hown
 go_upto_region 2 with fail
 have qe := Hi (And.intro BB.out.size (And.intro q0.out.lt (True.intro)))
 obtain ⟨hb, qb⟩ := laid w1 #[.int .u32 0, .int .u32 0, .int .u32 0, .int .u32 0, .int .u32 0, .int .u32 0, .int .u32 0, .int .u32 0, .int .u32 0, .int .u32 0, .int .u32 0, .int .u32 0, .int .u32 0, .int .u32 0] HT
 replace q0 := kp q0 hb
 replace hc := Hi (CU.below hc.out hb)
 replace BB := nx BB hb
 replace qb := Hi qb
 clear hb
 generalize w1.alloc (.cells #[.int .u32 0, .int .u32 0, .int .u32 0, .int .u32 0, .int .u32 0, .int .u32 0, .int .u32 0, .int .u32 0, .int .u32 0, .int .u32 0, .int .u32 0, .int .u32 0, .int .u32 0, .int .u32 0] HT) = w2 at *
 generalize w1.heap.size = g_h at *
 have hgh := Hi (show g < g_h from gs.out)
 have hsh := Hi (show s.ownBlock ≠ some g_h from fun e => by have := hs.out _ e; omega)
 have D2 := Hi (btake g g g_h s l w2 hc.out qb.out (by have := hgh.out; omega) hsh.out (Nat.le_refl _) (by have := hgh.out; omega))
 clear hs gs
 clear hc
 go_wp2_with fail
 refine D2.out.mono ?_
 rintro e w5 ⟨rfl, hbg, hk⟩
 clear D2 qb
 replace q0 := Hi (q0.out.blk hbg hg.out)
 replace BB := Hi (below_pt BB.out hbg (Nat.le_of_lt hg.out))
 replace hk := Hi hk
 clear hbg
 obtain ⟨hc, hh⟩ := hk.out h0.out
 clear hk
 replace hc := Hi hc
 replace hh := Hi (hd_all hh)
 have CF := Hi (bform g_h (hv l) _ hh.out)
 go_wp2_with fail
 rw [h1.out] at CF
 refine (CF.out).mono ?_
 rintro e w3 ⟨rfl, hb⟩
 replace q0 := kp q0 hb
 replace hc := Hi (CU.below hc.out hb)
 replace hh := Hi (AtB.keep hh.out hb)
 replace BB := nx BB hb
 clear hb
 clear CF
 have CS := Hi (bshape g_h (hv l) _ hh.out (hv_lt l 4 (by omega)) (hv_lt l 5 (by omega)) (hv_lt l 7 (by omega)))
 go_wp2_with fail
 refine (CS.out).mono ?_
 rintro e w4 ⟨X, Y, Z, rfl, hb, hks⟩
 replace q0 := kp q0 hb
 replace hc := Hi (CU.below hc.out hb)
 replace hh := Hi (AtB.keep hh.out hb)
 replace BB := nx BB hb
 clear hb
 replace hks := Hi hks
 clear CS
 go_upto_region 8 with fail
 have gm := Hi (And.intro (cu_lt hc.out) (And.intro hh.out.lt (fun b (e : s.ownBlock = some b) => (hc.out.own.lt b e).2)))
 have qn := Hi (And.intro BB.out.size (And.intro q0.out.lt (True.intro)))
 obtain ⟨hb, qd⟩ := laid w4 #[.int .i64 X, .int .i64 Y, .int .i64 Z, .slice none 0 0] IT
 replace q0 := kp q0 hb
 replace hc := Hi (CU.below hc.out hb)
 replace hh := Hi (AtB.keep hh.out hb)
 replace BB := nx BB hb
 replace qd := Hi qd
 clear hb
 generalize w4.alloc (.cells #[.int .i64 X, .int .i64 Y, .int .i64 Z, .slice none 0 0] IT) = w5 at *
 generalize w4.heap.size = g_m at *
 obtain ⟨qf, qg, qh, qi, qj, qk, ql, qm⟩ := reads4 qd.out
 have qo := qd.out.lt
 obtain ⟨q3, q4, q5, q6, q7, q8, q9, qa⟩ := reads4 q0.out
 have qc := q0.out.lt
 go_wp2_with fail
 clear qf qg qh qi qj qk ql qm qo q3 q4 q5 q6 q7 q8 q9 qa qc
 have F := st4 q0 BB 0 (.int .i64 0) 1 (.int .i64 0) 2 (.int .i64 0) 3 (.slice none 0 0)
 clear q0 BB
 obtain ⟨w6, e, q0, BB, F⟩ := F
 rw [e]; clear e
 replace qd := F _ _ _ (by have dd_m := qn.out; omega) qd
 clear F
 go_wp2_with fail
 obtain ⟨q3, q4, q5, q6, q7, q8, q9, qa⟩ := reads4 q0.out
 have qc := q0.out.lt
 refine bret (.tuple #[imv 0 0 0 (.slice none 0 0), .int .i64 (shC (hv l 4) (rowsN (hv l 5)) : Int)]) ?_
 exact ⟨0, 0, 0, _, rfl, BB.out, ⟨_, _, _, rfl⟩, fun _ => ⟨rfl, rfl, rfl, rfl⟩, fun e => absurd e h2.out⟩
/-- A head that is right: what the numbers are. -/
structure HdOk (l : List UInt8) (x y z n : Nat) : Prop where
 tk : tkC l = 0
 fm : fmB (hv l) = true
 sh : shC (hv l 4) (rowsN (hv l 5)) = 0
 ex : x = hv l 4
 ey : y = rowsN (hv l 5)
 ez : z = hv l 7 / 8
 en : n = strideN x z
theorem HdOk.facts {l : List UInt8} {x y z n : Nat} (h : HdOk l x y z n) : (1 ≤ x ∧ x ≤ 32768) ∧ (1 ≤ y ∧ y ≤ 32768) ∧ x * y ≤ 4194304 ∧ (z = 3 ∨ z = 4) ∧ 54 ≤ l.length := by
 have hs := h.sh
 rw [← h.ex, ← h.ey] at hs
 have hf := of_decide_eq_true h.fm
 have ht := h.tk
 have hz : z = 3 ∨ z = 4 := by rw [h.ez]; have := hf.2.2.2.2; omega
 have hl : 54 ≤ l.length := by
  unfold tkC at ht
  split at ht
  · rename_i k; exact absurd ht k
  · split at ht
    · omega
    · rename_i k; rw [List.length_drop] at k; omega
 unfold shC at hs
 split at hs
 · omega
 · split at hs
   · omega
   · rename_i k1 k2
     exact ⟨by omega, by omega, by omega, hz, hl⟩
end Go.Proofs.YtikpobembcgbfaaGreatDoor
