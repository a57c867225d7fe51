/- Contract of fix.parts at digits. -/
import Derived.Test.YthdbchghhpoadaaDoorFx2
import Derived.Test.YthdbchghhpoadaaDoorJD
import Derived.Test.YthdbchghhpoadaaDoorBoxS
set_option linter.unusedVariables false
set_option linter.unusedSimpArgs false
namespace Go.Proofs.YthdbchghhpoadaaDoor
open Go.RowKit
abbrev WTX : TypeId := 46
set_option maxRecDepth 100000 in
set_option maxHeartbeats 2000000 in
theorem parts_ok (s : ByteArray) (h0 : 0 < s.size) (h1 : s.size ≤ 16) (hs : (s.toList == []) = false) (hd : ∀ k, k < s.size → 48 ≤ dgt s k ∧ dgt s k ≤ 57) (w : World) :
    Calls Tryd.prog 49 #[.string s] w fun e w' => e = .returned (.tuple #[.int .i64 ((decV s s.size : Int) * 65536 / ((10 ^ s.size : Nat) : Int)), .bool true]) ∧ Below w.heap.size w w' := by
  have CN := Lib.hid (fun w => number_ok s h0 (by omega) hs hd w)
  have hV := decV_lt hd s.size (Nat.le_refl _)
  have hP : 10 ^ s.size ≤ 10 ^ 16 := Nat.pow_le_pow_right (by omega) h1
  have hP0 : 0 < 10 ^ s.size := Nat.pow_pos (by omega)
  have hPk := Lib.hid (fun k (hk : k ≤ s.size) => show 10 ^ k ≤ 10 ^ 16 from Nat.pow_le_pow_right (by omega) (Nat.le_trans hk h1))
  have g1 : ¬ ((16 : Int) < (s.size : Int)) := by omega
  have hha : Hid (∀ k (h : k < s.size), (s[k]'h).toNat < 128) := fun k h => by have := hd k h; rw [dgt_at h] at this; omega
  obtain ⟨P, hPe⟩ : ∃ P, P = 10 ^ s.size := ⟨_, rfl⟩
  rw [← hPe] at hV hP hP0 ⊢
  generalize decV s s.size = n at *
  have hz : 0 ≤ ((n : Int) * 65536).fdiv (P : Int) ∧ ((n : Int) * 65536).fdiv (P : Int) < 65536 := by
    rw [Int.fdiv_eq_ediv_of_nonneg _ (by omega)]
    exact ⟨Int.ediv_nonneg (by omega) (by omega), Int.ediv_lt_of_lt_mul (by omega) (by omega)⟩
  have hq : ((n : Int) * 65536).fdiv (P : Int) = (n : Int) * 65536 / (P : Int) := Int.fdiv_eq_ediv_of_nonneg _ (by omega)
  have iN : I64 (n : Int) := by unfold I64; omega
  have iP : I64 (P : Int) := by unfold I64; omega
  have CM := Lib.hid (fun w => wmul (n : Int) 65536 iN (by unfold I64; omega) w)
  have CQ := Lib.hid (fun hi lo hz w => qwide ((n : Int) * 65536) hi lo (P : Int) hz iP w)
  have CF := Lib.hid (fun q hi lo hz w => wfits q hi lo hz w)
  rw [← hq]
  obtain ⟨q, hqd⟩ : ∃ q, q = ((n : Int) * 65536).fdiv (P : Int) := ⟨_, rfl⟩
  rw [← hqd] at hz ⊢
  replace hqd := Lib.hid hqd
  have e1 : IntKind.i64.wrap (n : Int) = (n : Int) := iw iN
  have hfit : Hid (fitX q = q ∧ fitsB q 63 = true) := by
    have : fitsB q 63 = true := fits_63.2 (by unfold I64; omega)
    exact ⟨by unfold fitX; rw [if_pos this], this⟩
  have hqr := Lib.hid (And.intro hz (show (P : Int) ≠ 0 by omega))
  replace hPe := Lib.hid hPe
  clear hV hP hP0 iN iP hz hq hs hd
  go_enter Tryd.func49, Tryd.ntmps49
  go_wp2_with fail
  have BB : Hid (Below w.heap.size w w) := Below.refl _ _
  refine (CN.out _).mono ?_
  rintro e w1 ⟨rfl, hb⟩
  replace BB := Lib.hid (below_next BB.out hb)
  clear hb
  go_wp2_with fail
  go_loopw [6] (fun a wr => ∃ k : Nat, k ≤ s.size ∧ a = .int .i64 ((10 ^ k : Nat) : Int) ∧ wr = w1.iter s k) (fun a wr => s.size - (match wr.heap[w1.heap.size]? with | some (.stringIter _ p) => p | _ => 0))
  case atStart => exact ⟨0, by omega, rfl, rfl⟩
  case round =>
    obtain ⟨k, hk, rfl, rfl⟩ := hrel
    by_cases hlt : k < s.size
    · have hnx := fun ty => run_next_ascii (P := Tryd.prog) w1 s k ty hlt (hha.out k hlt)
      generalize (s[k]'hlt).toNat = c at *
      obtain ⟨T, hT⟩ : ∃ T, T = 10 ^ (k + 1) := ⟨_, rfl⟩
      have hT2 := hPk.out (k + 1) hlt
      obtain ⟨U, hU⟩ : ∃ U, U = 10 ^ k := ⟨_, rfl⟩
      have hTU : T = U * 10 := by rw [hT, hU, Nat.pow_succ]
      have e2 : IntKind.i64.wrap ((U : Int) * 10) = (T : Int) := by rw [show (T : Int) = (U : Int) * 10 by omega]; exact iw ⟨by omega, by omega⟩
      rw [← hU]
      replace hT := Lib.hid hT
      clear hTU hT2 hU
      go_wp2_with fail
      go_roundw
      case rel => exact ⟨k + 1, hlt, by rw [← hT.out], rfl⟩
      case measure => rw [World.iter_heap, World.iter_heap]; exact Nat.sub_succ_lt_self _ _ hlt
    · obtain rfl : s.size = k := by omega
      have hnx := fun ty => run_next_end (P := Tryd.prog) w1 s s.size ty (by omega)
      rw [← hPe.out]
      have hb1 := Lib.hid (show Below w1.heap.size w1 (w1.iter s s.size) from below_new (Below.refl _ _) _)
      go_wp2_with fail
      replace BB := Lib.hid (below_next BB.out hb1.out)
      generalize w1.iter s s.size = wq at *
      clear hb1 hnx
      refine (CM.out _).mono ?_
      rintro e w2 ⟨hi, lo, rfl, hb, hm⟩
      replace BB := Lib.hid (below_next BB.out hb)
      clear hb
      replace hm := Lib.hid hm
      go_wp2_with fail
      refine (CQ.out _ _ hm.out _).mono ?_
      rintro e w3 ⟨i2, l2, r, ok, rfl, hb, hqw⟩
      replace BB := Lib.hid (below_next BB.out hb)
      clear hb
      obtain ⟨rfl, hW⟩ : ok = true ∧ W128 q i2 l2 := by
        unfold QW at hqw
        rw [← hqd.out] at hqw
        rcases hqw with ⟨-, -, k1, k2, -⟩ | ⟨k, -⟩
        · exact ⟨k1, k2⟩
        · rcases k with k | k
          · exact absurd k hqr.out.2
          · have := hqr.out.1; exact absurd (show I128 q by unfold I128; omega) k
      replace hW := Lib.hid hW
      clear hqw
      have CF2 := Lib.hid (fun w => CF.out q i2 l2 hW.out w)
      rw [hfit.out.1, hfit.out.2] at CF2
      go_wp2_with fail
      have d_q0 := Lib.hid (And.intro BB.out.size (True.intro))
      obtain ⟨hb, r_q0⟩ := laid w3 #[.int .i64 i2, .int .u64 l2] WTX
      replace BB := Lib.hid (below_next BB.out hb)
      replace r_q0 := Lib.hid r_q0
      clear hb
      generalize w3.alloc (.cells #[.int .i64 i2, .int .u64 l2] WTX) = w4 at *
      generalize w3.heap.size = g_q0 at *
      refine (CF2.out _).mono ?_
      rintro e w5 ⟨rfl, hb⟩
      replace r_q0 := Lib.hid (r_q0.out.keep hb)
      replace BB := Lib.hid (below_next BB.out hb)
      clear hb
      go_wp2_with fail
      refine bodyPost_ret (v := .tuple #[.int .i64 q, .bool true]) (by unfold results; simp only [Tryd.results49]; go_simp) rfl ?_
      exact ⟨rfl, BB.out⟩
end Go.Proofs.YthdbchghhpoadaaDoor
