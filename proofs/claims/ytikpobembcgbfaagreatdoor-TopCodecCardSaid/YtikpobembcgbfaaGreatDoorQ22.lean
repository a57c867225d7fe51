/- Parts of the proof: Hd1. -/
import Derived.Test.YtikpobembcgbfaaGreatDoorQ03
import Derived.Test.YtikpobembcgbfaaGreatDoorQ08
import Derived.Test.YtikpobembcgbfaaGreatDoorQ09
import Derived.Test.YtikpobembcgbfaaGreatDoorQ21
import Derived.Laws.Concat
set_option linter.unusedVariables false
set_option linter.unusedSimpArgs false
set_option maxRecDepth 100000
set_option maxHeartbeats 40000000
namespace Go.Proofs.YtikpobembcgbfaaGreatDoor
open Go.RowKit Go.Lib
theorem lowD_dec : ∀ (f u : Nat), 0 < u → u < 10 ^ f → (lowD f (u : Int)).reverse = decDigits u
 | 0, u, h0, h1 => by simp at h1; omega
 | f + 1, u, h0, h1 => by
   have e8 : dig8 (u : Int) = UInt8.ofNat (48 + u % 10) := by
    unfold dig8
    rw [show (48 + (u : Int) % 10).toNat = 48 + u % 10 by omega]
   have e : lowD (f + 1) (u : Int) = dig8 (u : Int) :: lowD f ((u / 10 : Nat) : Int) := by
    show (if (u : Int) ≤ 0 then [] else _) = _
    rw [if_neg (by omega), show (u : Int) / 10 = ((u / 10 : Nat) : Int) by omega]
   rw [e, List.reverse_cons, e8]
   by_cases h : u < 10
   · rw [decDigits, dif_pos h, show u / 10 = 0 by omega, show ((0 : Nat) : Int) = 0 from rfl, lowD_zero, show u % 10 = u by omega]; rfl
   · rw [decDigits, dif_neg h, lowD_dec f (u / 10) (by omega) (by rw [Nat.pow_succ] at h1; omega)]
theorem digL_dec (u : Nat) (h : u < 10 ^ 50) : (digL (u : Int)).reverse = decDigits u := by
 unfold digL
 by_cases h0 : u = 0
 · subst h0; rw [if_pos (by omega), decDigits, dif_pos (by omega)]; rfl
 · rw [if_neg (by omega), lowD_dec 50 u (by omega) h]
theorem txt_nat (u : Nat) (h : u < 10 ^ 50) : txt (u : Int) = ⟨(decDigits u).toArray⟩ := by
 unfold txt txtL
 rw [if_neg (by omega), List.nil_append, show ((u : Int).natAbs : Int) = (u : Int) by omega, digL_dec u h]
theorem head_join (c : UInt8) (a b : List UInt8) : ((((⟨#[80, c, 10]⟩ : ByteArray) ++ ⟨a.toArray⟩) ++ ⟨#[32]⟩) ++ ⟨b.toArray⟩) ++ ⟨#[10, 50, 53, 53, 10]⟩ = ⟨([80, c, 10] ++ (a ++ 32 :: (b ++ [10, 50, 53, 53, 10]))).toArray⟩ := by
 apply ByteArray.ext; simp
theorem dec_few {W : Nat} (h : W ≤ 32768) : (⟨(decDigits W).toArray⟩ : ByteArray).size ≤ 5 := by
 rw [str_size]; exact dec_len 4 W (by omega)
theorem add_is {a b s : ByteArray} (n : Nat) (h : a ++ b = s) (hn : a.size + b.size ≤ n) (hm : n ≤ 9223372036854775807) : s.size ≤ n ∧ ∀ w, (Op.stringOp .add a b).run Tryz.prog w = .ok (.string s) w := by
 subst h
 exact ⟨by rw [ByteArray.size_append]; exact hn, fun w => run_string_add_sum (P := Tryz.prog) w a b (Nat.le_trans hn hm)⟩
def GiveStr (l : List UInt8) (w : World) (e : Ending) (w' : World) : Prop := e = .returned (.string ⟨l.toArray⟩) ∧ Below w.heap.size w w'
theorem hhead_1 (W H : Nat) (hW : W ≤ 32768) (hH : H ≤ 32768) (w : World) (ht : Tab w) : Calls Tryz.prog 363 #[.int .i64 (W : Int), .int .i64 (H : Int), .int .i64 1] w (GiveStr (pnmHd W H 1) w) := by
 have C1 := Lib.hid (itoa_any W (by omega) w ht)
 have C2 := Lib.hid (fun w1 (hb : Below w.heap.size w w1) => itoa_any H (by omega) w1 (tab_on ht hb))
 clear ht
 unfold GiveStr pnmHd
 have hj := head_join 53 (decDigits W) (decDigits H)
 have ha := dec_few hW
 have hb := dec_few hH
 generalize (⟨(decDigits W).toArray⟩ : ByteArray) = a at *
 generalize (⟨(decDigits H).toArray⟩ : ByteArray) = b at *
 obtain ⟨s1, h1⟩ : ∃ s, (⟨#[80, 53, 10]⟩ : ByteArray) ++ a = s := ⟨_, rfl⟩
 rw [h1] at hj
 obtain ⟨k1, A1⟩ := add_is 8 h1 (by show 3 + _ ≤ 8; omega) (by decide)
 obtain ⟨s2, h2⟩ : ∃ s, s1 ++ (⟨#[32]⟩ : ByteArray) = s := ⟨_, rfl⟩
 rw [h2] at hj
 obtain ⟨k2, A2⟩ := add_is 9 h2 (by show _ + 1 ≤ 9; omega) (by decide)
 obtain ⟨s3, h3⟩ : ∃ s, s2 ++ b = s := ⟨_, rfl⟩
 rw [h3] at hj
 obtain ⟨k3, A3⟩ := add_is 14 h3 (by omega) (by decide)
 obtain ⟨s4, h4⟩ : ∃ s, s3 ++ (⟨#[10, 50, 53, 53, 10]⟩ : ByteArray) = s := ⟨_, rfl⟩
 rw [h4] at hj
 obtain ⟨k4, A4⟩ := add_is 19 h4 (by show _ + 5 ≤ 19; omega) (by decide)
 clear ha hb h1 h2 h3 h4 k1 k2 k3 k4
 replace hj := Lib.hid hj
 go_enter Tryz.func363, Tryz.ntmps363
 go_wp2_with fail
 refine C1.out.mono ?_
 rintro e w1 ⟨rfl, hb⟩
 go_wp2_with fail
 refine (C2.out _ hb).mono ?_
 rintro e w2 ⟨rfl, hb2⟩
 go_wp2_with fail
 go_ret
 exact ⟨by rw [hj.out]; rfl, below_next hb hb2⟩
theorem rhead15_1 (W H : Nat) (hW : W ≤ 32768) (hH : H ≤ 32768) (w : World) : Calls Tryz.prog 32 #[.int .i64 (W : Int), .int .i64 (H : Int), .int .i64 1] w (GiveStr (pnmHd W H 1) w) := by
 have C1 := Lib.hid (of_any (W : Int) ⟨by omega, by omega⟩ w)
 have C2 := Lib.hid (fun w1 => of_any (H : Int) ⟨by omega, by omega⟩ w1)
 have T1 := Lib.hid (fun v w1 (hv : BR w1 v (W : Int)) => rtext_any v _ w1 hv (by unfold Wd; omega))
 have T2 := Lib.hid (fun v w1 (hv : BR w1 v (H : Int)) => rtext_any v _ w1 hv (by unfold Wd; omega))
 rw [txt_nat _ (by omega)] at T1 T2
 unfold GiveStr pnmHd
 have hj := head_join 53 (decDigits W) (decDigits H)
 have ha := dec_few hW
 have hb := dec_few hH
 generalize (⟨(decDigits W).toArray⟩ : ByteArray) = a at *
 generalize (⟨(decDigits H).toArray⟩ : ByteArray) = b at *
 obtain ⟨s1, h1⟩ : ∃ s, (⟨#[80, 53, 10]⟩ : ByteArray) ++ a = s := ⟨_, rfl⟩
 rw [h1] at hj
 obtain ⟨k1, A1⟩ := add_is 8 h1 (by show 3 + _ ≤ 8; omega) (by decide)
 obtain ⟨s2, h2⟩ : ∃ s, s1 ++ (⟨#[32]⟩ : ByteArray) = s := ⟨_, rfl⟩
 rw [h2] at hj
 obtain ⟨k2, A2⟩ := add_is 9 h2 (by show _ + 1 ≤ 9; omega) (by decide)
 obtain ⟨s3, h3⟩ : ∃ s, s2 ++ b = s := ⟨_, rfl⟩
 rw [h3] at hj
 obtain ⟨k3, A3⟩ := add_is 14 h3 (by omega) (by decide)
 obtain ⟨s4, h4⟩ : ∃ s, s3 ++ (⟨#[10, 50, 53, 53, 10]⟩ : ByteArray) = s := ⟨_, rfl⟩
 rw [h4] at hj
 obtain ⟨k4, A4⟩ := add_is 19 h4 (by show _ + 5 ≤ 19; omega) (by decide)
 clear ha hb h1 h2 h3 h4 k1 k2 k3 k4
 replace hj := Lib.hid hj
 have A0 : ∀ w, (Op.stringOp .add (⟨#[80, 53]⟩ : ByteArray) ⟨#[10]⟩).run Tryz.prog w = .ok (.string ⟨#[80, 53, 10]⟩) w := fun w => run_string_add_sum (P := Tryz.prog) w _ _ (by decide)
 go_enter Tryz.func32, Tryz.ntmps32
 go_wp2_with fail
 refine C1.out.mono ?_
 rintro e w1 ⟨v, rfl, hb, hv⟩
 go_wp2_with fail
 refine (T1.out _ _ hv).mono ?_
 rintro e w2 ⟨rfl, hb2⟩
 replace hb := below_next hb hb2
 clear hb2 hv
 go_wp2_with fail
 refine (C2.out _).mono ?_
 rintro e w3 ⟨v, rfl, hb3, hv⟩
 replace hb := below_next hb hb3
 clear hb3
 go_wp2_with fail
 refine (T2.out _ _ hv).mono ?_
 rintro e w4 ⟨rfl, hb4⟩
 replace hb := below_next hb hb4
 clear hb4 hv
 go_wp2_with fail
 go_ret
 exact ⟨by rw [hj.out]; rfl, hb⟩
theorem hhead_3 (W H : Nat) (hW : W ≤ 32768) (hH : H ≤ 32768) (w : World) (ht : Tab w) : Calls Tryz.prog 363 #[.int .i64 (W : Int), .int .i64 (H : Int), .int .i64 3] w (GiveStr (pnmHd W H 3) w) := by
 have C1 := Lib.hid (itoa_any W (by omega) w ht)
 have C2 := Lib.hid (fun w1 (hb : Below w.heap.size w w1) => itoa_any H (by omega) w1 (tab_on ht hb))
 clear ht
 unfold GiveStr pnmHd
 have hj := head_join 54 (decDigits W) (decDigits H)
 have ha := dec_few hW
 have hb := dec_few hH
 generalize (⟨(decDigits W).toArray⟩ : ByteArray) = a at *
 generalize (⟨(decDigits H).toArray⟩ : ByteArray) = b at *
 obtain ⟨s1, h1⟩ : ∃ s, (⟨#[80, 54, 10]⟩ : ByteArray) ++ a = s := ⟨_, rfl⟩
 rw [h1] at hj
 obtain ⟨k1, A1⟩ := add_is 8 h1 (by show 3 + _ ≤ 8; omega) (by decide)
 obtain ⟨s2, h2⟩ : ∃ s, s1 ++ (⟨#[32]⟩ : ByteArray) = s := ⟨_, rfl⟩
 rw [h2] at hj
 obtain ⟨k2, A2⟩ := add_is 9 h2 (by show _ + 1 ≤ 9; omega) (by decide)
 obtain ⟨s3, h3⟩ : ∃ s, s2 ++ b = s := ⟨_, rfl⟩
 rw [h3] at hj
 obtain ⟨k3, A3⟩ := add_is 14 h3 (by omega) (by decide)
 obtain ⟨s4, h4⟩ : ∃ s, s3 ++ (⟨#[10, 50, 53, 53, 10]⟩ : ByteArray) = s := ⟨_, rfl⟩
 rw [h4] at hj
 obtain ⟨k4, A4⟩ := add_is 19 h4 (by show _ + 5 ≤ 19; omega) (by decide)
 clear ha hb h1 h2 h3 h4 k1 k2 k3 k4
 replace hj := Lib.hid hj
 go_enter Tryz.func363, Tryz.ntmps363
 go_wp2_with fail
 refine C1.out.mono ?_
 rintro e w1 ⟨rfl, hb⟩
 go_wp2_with fail
 refine (C2.out _ hb).mono ?_
 rintro e w2 ⟨rfl, hb2⟩
 go_wp2_with fail
 go_ret
 exact ⟨by rw [hj.out]; rfl, below_next hb hb2⟩
theorem rhead15_3 (W H : Nat) (hW : W ≤ 32768) (hH : H ≤ 32768) (w : World) : Calls Tryz.prog 32 #[.int .i64 (W : Int), .int .i64 (H : Int), .int .i64 3] w (GiveStr (pnmHd W H 3) w) := by
 have C1 := Lib.hid (of_any (W : Int) ⟨by omega, by omega⟩ w)
 have C2 := Lib.hid (fun w1 => of_any (H : Int) ⟨by omega, by omega⟩ w1)
 have T1 := Lib.hid (fun v w1 (hv : BR w1 v (W : Int)) => rtext_any v _ w1 hv (by unfold Wd; omega))
 have T2 := Lib.hid (fun v w1 (hv : BR w1 v (H : Int)) => rtext_any v _ w1 hv (by unfold Wd; omega))
 rw [txt_nat _ (by omega)] at T1 T2
 unfold GiveStr pnmHd
 have hj := head_join 54 (decDigits W) (decDigits H)
 have ha := dec_few hW
 have hb := dec_few hH
 generalize (⟨(decDigits W).toArray⟩ : ByteArray) = a at *
 generalize (⟨(decDigits H).toArray⟩ : ByteArray) = b at *
 obtain ⟨s1, h1⟩ : ∃ s, (⟨#[80, 54, 10]⟩ : ByteArray) ++ a = s := ⟨_, rfl⟩
 rw [h1] at hj
 obtain ⟨k1, A1⟩ := add_is 8 h1 (by show 3 + _ ≤ 8; omega) (by decide)
 obtain ⟨s2, h2⟩ : ∃ s, s1 ++ (⟨#[32]⟩ : ByteArray) = s := ⟨_, rfl⟩
 rw [h2] at hj
 obtain ⟨k2, A2⟩ := add_is 9 h2 (by show _ + 1 ≤ 9; omega) (by decide)
 obtain ⟨s3, h3⟩ : ∃ s, s2 ++ b = s := ⟨_, rfl⟩
 rw [h3] at hj
 obtain ⟨k3, A3⟩ := add_is 14 h3 (by omega) (by decide)
 obtain ⟨s4, h4⟩ : ∃ s, s3 ++ (⟨#[10, 50, 53, 53, 10]⟩ : ByteArray) = s := ⟨_, rfl⟩
 rw [h4] at hj
 obtain ⟨k4, A4⟩ := add_is 19 h4 (by show _ + 5 ≤ 19; omega) (by decide)
 clear ha hb h1 h2 h3 h4 k1 k2 k3 k4
 replace hj := Lib.hid hj
 have A0 : ∀ w, (Op.stringOp .add (⟨#[80, 54]⟩ : ByteArray) ⟨#[10]⟩).run Tryz.prog w = .ok (.string ⟨#[80, 54, 10]⟩) w := fun w => run_string_add_sum (P := Tryz.prog) w _ _ (by decide)
 go_enter Tryz.func32, Tryz.ntmps32
 go_wp2_with fail
 refine C1.out.mono ?_
 rintro e w1 ⟨v, rfl, hb, hv⟩
 go_wp2_with fail
 refine (T1.out _ _ hv).mono ?_
 rintro e w2 ⟨rfl, hb2⟩
 replace hb := below_next hb hb2
 clear hb2 hv
 go_wp2_with fail
 refine (C2.out _).mono ?_
 rintro e w3 ⟨v, rfl, hb3, hv⟩
 replace hb := below_next hb hb3
 clear hb3
 go_wp2_with fail
 refine (T2.out _ _ hv).mono ?_
 rintro e w4 ⟨rfl, hb4⟩
 replace hb := below_next hb hb4
 clear hb4 hv
 go_wp2_with fail
 go_ret
 exact ⟨by rw [hj.out]; rfl, hb⟩
end Go.Proofs.YtikpobembcgbfaaGreatDoor
