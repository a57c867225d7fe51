/- Parts of the proof: Txt RText. -/
import Derived.Test.YtikpobembcgbfaaGreatDoorQ06
import Derived.Test.YtikpobembcgbfaaGreatDoorQ07
import Derived.Laws.IdiomStrings
import Derived.Deep.DeepCutAuto
import Derived.Laws.BitsAllLaws
set_option linter.unusedVariables false
set_option linter.unusedSimpArgs false
set_option maxRecDepth 100000
set_option maxHeartbeats 40000000
namespace Go.Proofs.YtikpobembcgbfaaGreatDoor
def dig8 (n : Int) : UInt8 := UInt8.ofNat (48 + (n % 10)).toNat
/-- The digits, the lowest first (at most so many). -/
def lowD : Nat → Int → List UInt8
 | 0, _ => []
 | f + 1, n => if n ≤ 0 then [] else dig8 n :: lowD f (n / 10)
theorem lowD_zero (f : Nat) : lowD f 0 = [] := by cases f <;> simp [lowD]
/-- The digits of a size; 0 has one. -/
def digL (n : Int) : List UInt8 := if n = 0 then [48] else lowD 50 n
/-- The text of a number. -/
def txtL (z : Int) : List UInt8 := (if z < 0 then [45] else []) ++ (digL (z.natAbs : Int)).reverse
def txt (z : Int) : ByteArray := ⟨(txtL z).toArray⟩
/-- What has been told of a size N, and what is left of it. -/
def TI (N x : Int) (bs : List UInt8) (f : Nat) : Prop := 0 ≤ x ∧ x < (10 : Int) ^ f ∧ ((bs ++ lowD f x = digL N ∧ (0 < x ∨ bs ≠ [])) ∨ (N = 0 ∧ x = 0 ∧ bs = []))
theorem TI.start {N : Int} (h0 : 0 ≤ N) (h1 : N < (10 : Int) ^ 50) : TI N N [] 50 := by
 refine ⟨h0, h1, ?_⟩
 by_cases h : N = 0
 · exact .inr ⟨h, h, rfl⟩
 · exact .inl ⟨by unfold digL; rw [if_neg h]; rfl, .inl (by omega)⟩
theorem TI.step {N x : Int} {bs : List UInt8} {f : Nat} (h : TI N x bs f) (hx : 0 < x ∨ bs = []) : TI N (x / 10) (bs ++ [dig8 x]) (f - 1) ∧ bs.length + 1 + (f - 1) ≤ bs.length + max f 1 := by
 obtain ⟨h0, h1, h2⟩ := h
 have hlt : x / 10 < (10 : Int) ^ (f - 1) ∨ x = 0 := by
  cases f with
  | zero => right; simp at h1; omega
  | succ f => left; rw [Int.pow_succ] at h1; simp; omega
 refine ⟨⟨by omega, ?_, ?_⟩, by omega⟩
 · rcases hlt with h | h
   · exact h
   · subst h; exact Int.pow_pos (by omega)
 · left
   refine ⟨?_, .inr (by simp)⟩
   rcases h2 with ⟨h2, h3⟩ | ⟨rfl, rfl, rfl⟩
   · by_cases hp : 0 < x
     · cases f with
       | zero => simp at h1; omega
       | succ f =>
         rw [lowD, if_neg (by omega)] at h2
         simp only [Nat.add_sub_cancel, List.append_assoc, List.singleton_append]
         exact h2
     · have hb : bs = [] := by
        rcases hx with h | h
        · exact absurd h hp
        · exact h
       rcases h3 with h | h
       · exact absurd h hp
       · exact absurd hb h
   · rw [show (0 : Int) / 10 = 0 by decide, lowD_zero]
     decide
theorem TI.len {N x : Int} {bs : List UInt8} {f : Nat} (h : TI N x bs f) (hx : 0 < x ∨ bs = []) (hl : bs.length + f ≤ 51) (hb : bs = [] → f = 50) : (bs ++ [dig8 x]).length + (f - 1) ≤ 51 := by
 obtain ⟨h0, h1, _⟩ := h
 simp only [List.length_append, List.length_singleton]
 by_cases e : bs = []
 · have := hb e; subst e; simp; omega
 · have hp : 0 < x := by
    rcases hx with h | h
    · exact h
    · exact absurd h e
   cases f with
   | zero => simp at h1; omega
   | succ f => omega
theorem TI.done {N : Int} {bs : List UInt8} {f : Nat} (h : TI N 0 bs f) (hb : bs ≠ []) : bs = digL N := by
 obtain ⟨_, _, ⟨h, _⟩ | ⟨_, _, h⟩⟩ := h
 · rw [lowD_zero, List.append_nil] at h; exact h
 · exact absurd h hb
open Go.RowKit
def strLen : Value → Nat
 | .string s => s.size
 | _ => 0
/-- A new byte, read as a text. -/
theorem byte_str (n : Int) (h0 : 0 ≤ n) (h1 : n ≤ 255) (w : World) : (convert 22 9 (.slice (some ⟨w.heap.size, 0, none⟩) 1 1)).run Tryz.prog (w.alloc (.cells #[.int .u8 n] 5)) =
 .ok (.string ⟨[UInt8.ofNat n.toNat].toArray⟩) (w.alloc (.cells #[.int .u8 n] 5)) := by
 have h := run_convert_bytes_back (P := Tryz.prog) (w.alloc (.cells #[.int .u8 n] 5)) 22 9 5 ⟨w.heap.size, 0, none⟩ 1 [UInt8.ofNat n.toNat] Tryz.underlying22 Tryz.underlying5 Tryz.underlying9
  (fun j hj => by
    obtain rfl : j = 0 := by simpa using hj
    simp [Addr.add]; omega)
 exact h
theorem two_ten : (2 : Int) ^ 127 < 10 ^ 50 := by decide
theorem ret_txt {a b : ByteArray} (h : a = b) : Ending.returned (.string a) = .returned (.string b) := by rw [h]
theorem str_size (a : List UInt8) : (⟨a.toArray⟩ : ByteArray).size = a.length := by simp [ByteArray.size]
theorem rtext_any (v : Value) (z : Int) (w : World) (hv : BR w v z) (hz : Wd 127 z) :
 Calls Tryz.prog 49 #[v] w fun e w' => e = .returned (.string (txt z)) ∧ Below w.heap.size w w' := by
 obtain ⟨A, m, cap, rfl, -⟩ := id hv.form
 have hn := hv.nr
 obtain ⟨N, hN⟩ : ∃ N : Int, N = (z.natAbs : Int) := ⟨_, rfl⟩
 rw [← hN] at hn
 have hN0 : 0 ≤ N := by omega
 have hN1 : N ≤ 2 ^ 127 := by have := Wd.abs.1 hz; omega
 have HX0 : Hid (BR w (.agg #[.bool (sgn N), .slice A m cap]) N) := ⟨_, rfl, by rw [show (N.natAbs : Int) = N by omega]; exact hn⟩
 have HS0 := Lib.hid (sgn_f hN0)
 have CT := Lib.hid (fun w => of_any 10 ⟨by omega, by omega⟩ w)
 have CF := Lib.hid (fun (a b : Value) X w1 (ha : BR w1 a X) (hb : BR w1 b 10) (h0 : 0 ≤ X) (h1 : X ≤ 2 ^ 127) => floor_any a b X 10 w1 ha hb ((show Wd 127 X from ⟨by have := two_pos 127; omega, h1⟩).mid (by omega)) (i64_wd (show I64 10 from ⟨by omega, by omega⟩) |>.low (by omega)) (by omega))
 have CM := Lib.hid (fun (a b : Value) X w1 (ha : BR w1 a (X / 10)) (hb : BR w1 b 10) (h0 : 0 ≤ X) (h1 : X ≤ 2 ^ 127) => mul_any a b (X / 10) 10 w1 ha hb ((show Wd 127 (X / 10) from ⟨by have := two_pos 127; omega, by omega⟩).mid (by omega)) (i64_mid' ⟨by omega, by omega⟩))
 have CS := Lib.hid (fun (a b : Value) X w1 (ha : BR w1 a X) (hb : BR w1 b (X / 10 * 10)) (h0 : 0 ≤ X) (h1 : X ≤ 2 ^ 127) => sub_any a b X (X / 10 * 10) w1 ha hb ((show Wd 127 X from ⟨by have := two_pos 127; omega, h1⟩).mid (by omega)) ((show Wd 127 (X / 10 * 10) from ⟨by have := two_pos 127; omega, by omega⟩).mid (by omega)))
 have CU := Lib.hid (fun (a : Value) X w1 (ha : BR w1 a (X - X / 10 * 10)) => unsigned_any a (X - X / 10 * 10) w1 ha (by omega))
 have TS := Lib.hid (TI.start hN0 (show N < (10 : Int) ^ 50 from Int.lt_of_le_of_lt hN1 two_ten))
 have HB1 := Lib.hid hN1
 replace hN := Lib.hid hN
 clear hv hn hz hN1
 go_enter Tryz.func49, Tryz.ntmps49
 go_wp2_with fail
 have BB := start2 w #[.bool (sgn z), .slice A m cap] 116 #[.bool false, .slice A m cap] 116
 obtain ⟨BB, hsz, q1, q0⟩ := BB
 generalize ((w.alloc (.cells #[.bool (sgn z), .slice A m cap] 116)).alloc (.cells #[.bool false, .slice A m cap] 116)) = w0 at *
 replace BB := Lib.hid BB
 replace q1 := Lib.hid q1
 replace q0 := Lib.hid q0
 clear hsz
 have qO := Lib.hid (show w.heap.size < w.heap.size + 1 by omega)
 have q3 := Lib.hid (HX0.out.below BB.out)
 rw [HS0.out] at q3
 clear HX0
 go_loopw [3, 5] (fun s _ wr => ∃ (X : Int) (A' : Option Addr) (m' cap' : Nat) (bs : List UInt8) (f : Nat), s = .string ⟨bs.reverse.toArray⟩ ∧
  Hid (AtB wr (w.heap.size + 1) #[.bool (sgn X), .slice A' m' cap'] 116 ∧ BR wr (.agg #[.bool (sgn X), .slice A' m' cap']) X ∧ AtB wr w.heap.size #[.bool (sgn z), .slice A m cap] 116 ∧
   TI N X bs f ∧ X ≤ 2 ^ 127 ∧ bs.length + f ≤ 51 ∧ (bs = [] → f = 50) ∧ (bs = [] → X = N) ∧ Below w.heap.size w wr)) (fun s _ _ => 60 - strLen s)
 case atStart => exact ⟨N, A, m, cap, [], 50, rfl, ⟨by rw [HS0.out]; exact q0.out, by rw [HS0.out]; exact q3.out, q1.out, TS.out, HB1.out, by simp, fun _ => rfl, fun _ => rfl, BB.out⟩⟩
 case round =>
  clear q3 q0 q1 BB TS HB1
  obtain ⟨X, A', m', cap', bs, f, rfl, hI⟩ := hrel
  obtain ⟨q0, q3, q1, hT, hX, hl, hbf, hbN, BB⟩ := hI.out
  clear hI
  replace BB := Lib.hid BB; replace q1 := Lib.hid q1; replace q0 := Lib.hid q0
  have hX0 := hT.1
  have hform := q3.nr.form
  replace q3 := Lib.hid q3
  obtain ⟨_, _, _, hf, h0⟩ := hform
  injection hf with e1 e2 e3
  subst e2
  clear e1 e3
  by_cases hgo : 0 < X
  · have hm : 0 < m' := by
     rcases Nat.eq_zero_or_pos m' with h | h
     · have := h0.1 h; omega
     · exact h
    clear h0
    obtain ⟨q7, q8, q9, qa⟩ := reads2 q0.out
    have qn := q0.out.lt
    have CF' := Lib.hid (fun (a b : Value) w1 (ha : BR w1 a X) (hb : BR w1 b 10) => (Int.fdiv_eq_ediv_of_nonneg X (show 0 ≤ 10 by omega) ▸ CF.out a b X w1 ha hb hX0 hX : Calls _ _ _ w1 (GiveB (X / 10) w1)))
    have CM' := Lib.hid (fun (a b : Value) w1 (ha : BR w1 a (X / 10)) (hb : BR w1 b 10) => CM.out a b X w1 ha hb hX0 hX)
    have CS' := Lib.hid (fun (a b : Value) w1 (ha : BR w1 a X) (hb : BR w1 b (X / 10 * 10)) => CS.out a b X w1 ha hb hX0 hX)
    have CU' := Lib.hid (fun (a : Value) w1 (ha : BR w1 a (X - X / 10 * 10)) => CU.out a X w1 ha)
    have hd : ((X - X / 10 * 10).natAbs : Int) = X % 10 := by omega
    rw [hd] at CU'
    have HT2 := Lib.hid (TI.step hT (.inl hgo))
    have H51 := Lib.hid (TI.len hT (.inl hgo) hl hbf)
    have HXd := Lib.hid (show X / 10 ≤ 2 ^ 127 by omega)
    have hq0 : 0 ≤ X % 10 := by omega
    have hq1 : X % 10 < 10 := by omega
    have HCV := byte_str (48 + X % 10) (by omega) (by omega)
    rw [show [UInt8.ofNat (48 + X % 10).toNat] = [dig8 X] from rfl] at HCV
    have HSA := fun w => run_string_add_lists (P := Tryz.prog) w [dig8 X] bs.reverse (by simp) (by simp; omega)
    have HLN := Lib.hid hl
    have HSZ := Lib.hid q0.out.lt
    clear CF CM CS CU hd hT hl hbf hbN hX hX0 hgo
    have HX10 := Lib.hid (show X / 10 / 1 = X / 10 by omega)
    generalize hxq : X / 10 = Xq at *
    replace hxq := Lib.hid hxq
    generalize X % 10 = d at *
    go_upto_region 4 with fail
    go_cut [5] (fun s5 wc => ∃ gq A1 n1 c1, s5 = .pointer (some ⟨gq, 0, none⟩) ∧ Hid (AtB wc gq #[.bool (sgn Xq), .slice A1 n1 c1] 116 ∧ BR wc (.agg #[.bool (sgn Xq), .slice A1 n1 c1]) Xq ∧ Below wr.heap.size wr wc ∧ wr.heap.size ≤ gq))
    case first =>
     clear CM' CS' CU' HCV
     clear q7 q8 q9 qa qn
     have KK := Lib.hid (fun (w9 : World) (h : Below wr.heap.size wr w9) => (cells2 (q0.out.keep h) : (w9.cell? ⟨w.heap.size + 1, 0, none⟩ = some (.bool (sgn X)) ∧ w9.cell? ⟨w.heap.size + 1, 1, none⟩ = some (.slice A' m' cap'))))
     have K0 := KK.out wr (Below.refl _ _)
     have KD := KK.out wr.drew (below_drew (Below.refl _ _))
     go_region_held3 (fun w9 => (w9.cell? ⟨w.heap.size + 1, 0, none⟩ = some (.bool (sgn X)) ∧ w9.cell? ⟨w.heap.size + 1, 1, none⟩ = some (.slice A' m' cap')))
      (first | with_reducible exact KD | with_reducible exact K0 | with_reducible exact qy | with_reducible exact qz | (refine KK.out _ ?_; repeat' (first | with_reducible exact Below.refl _ _ | with_reducible exact q5.out | with_reducible exact qo.out | with_reducible apply below_new | with_reducible apply below_drew | with_reducible apply below_set | omega)))
      (first
        | (go_at_call 50
           refine (CT.out _).mono ?_
           rintro e w1 ⟨v_t, rfl, hb, q2⟩
           obtain ⟨qQ, qR, qF, rfl, -⟩ := id q2.form
           replace q2 := Lib.hid q2
           have q5 := Lib.hid (reg_next (w0 := wr) (by repeat (first | with_reducible exact Below.refl _ _ | with_reducible apply below_drew | with_reducible apply below_new)) hb)
           have qy := KK.out _ q5.out
           obtain ⟨hc_w1, hf_w1⟩ := below_reads hb
           have qq := hb.size
           try simp at qq
           try (have z1_w1 := Nat.lt_of_succ_le qq)
           try (have z2_w1 := Nat.lt_of_succ_lt z1_w1)
           have qr := Lib.hid hb
           clear hb)
        | (go_at_call 87
           refine (CF'.out _ _ _ (q3.out.below ?_) (q2.out.below ?_)).mono ?_
           · repeat (first | with_reducible exact Below.refl _ _ | with_reducible exact q5.out | with_reducible apply below_drew | with_reducible apply below_new)
           · repeat (first | with_reducible exact Below.refl _ _ | with_reducible exact q5.out | with_reducible apply below_drew | with_reducible apply below_new)
           rintro e w2 ⟨v_q, rfl, hb, q4⟩
           obtain ⟨qS, qT, qG, rfl, -⟩ := id q4.form
           replace q4 := Lib.hid q4
           replace q2 := Lib.hid (q2.out.below (below_next (by repeat (first | with_reducible exact Below.refl _ _ | with_reducible apply below_new | with_reducible apply below_drew)) hb))
           have qo := Lib.hid (below_next (by repeat (first | with_reducible exact q5.out | with_reducible apply below_new | with_reducible apply below_drew)) hb)
           have qz := KK.out _ qo.out
           obtain ⟨hc_w2, hf_w2⟩ := below_reads hb
           have qs := hb.size
           try simp at qs
           try (have z1_w2 := Nat.lt_of_succ_le qs)
           try (have z2_w2 := Nat.lt_of_succ_lt z1_w2)
           have qH := Lib.hid hb
           have qc := Nat.le_trans qr.out.size (Nat.le_trans (by (try simp only [World.size_alloc]); omega) hb.size)
           try simp at qc
           try (have z3_w2_w1 := Nat.lt_of_succ_le qc)
           try (have z4_w2_w1 := Nat.lt_of_succ_lt z3_w2_w1)
           clear hb))
     all_goals clear KK K0 KD qy qz
     all_goals go_wp2_with fail
     all_goals go_meet
     all_goals refine ⟨_, qS, qT, qG, rfl, ⟨?_, ?_, ?_, ?_⟩⟩
     all_goals repeat' (first | with_reducible exact q4.out | with_reducible exact qo.out | with_reducible exact q5.out | with_reducible exact Below.refl _ _ | with_reducible apply below_new | with_reducible apply below_drew | (with_reducible refine below_set ?_ ?_ _) | (with_reducible refine AtB.set2 (a := .bool false) (b := .slice none 0 0) ?_ _ _) | (with_reducible refine AtB.far2 ?_ ?_ _ _) | (with_reducible refine BR.alloc ?_ _) | (with_reducible refine BR.far2 (a := .bool false) (b := .slice none 0 0) (T := 116) ?_ ?_ (by decide) _ _) | (with_reducible refine new_at_eq ?_ _ _; first | rfl | (simp; done)) | (with_reducible refine AtB.alloc ?_ _) | with_reducible apply AtB.drew | (with_reducible refine AtB.keep ?_ qH.out) | (with_reducible refine AtB.keep ?_ qr.out) | omega)
    case rest =>
     obtain ⟨gq, A1, n1, c1, rfl, hcut⟩ := hcut
     obtain ⟨qb, q4, hb, hgq⟩ := hcut.out
     clear hcut
     replace qb := Lib.hid qb; replace q4 := Lib.hid q4
     replace q1 := Lib.hid (q1.out.keep hb); replace q0 := Lib.hid (q0.out.keep hb); replace q3 := Lib.hid (q3.out.below hb); replace BB := Lib.hid (below_next BB.out hb)
     clear hb CF'
     obtain ⟨wa, hwa⟩ : ∃ wa : World, wa = wc := ⟨_, rfl⟩
     subst hwa
     have w1' : IntKind.u64.wrap (48 + d) = 48 + d := by rw [IntKind.wrap_u64]; omega
     have w2' : IntKind.u8.wrap (48 + d) = 48 + d := by rw [IntKind.wrap_u8']; omega
     go_upto_region 5 with fail
     go_cut [3] (fun s3 wd => s3 = .string ⟨([dig8 X] ++ bs.reverse).toArray⟩ ∧ Hid (Below wa.heap.size wa wd))
     case first =>
      clear HT2 H51 HXd HLN q1 BB hgq
      have KK := Lib.hid (fun (w9 : World) (h : Below wa.heap.size wa w9) => (⟨cells2 (q0.out.keep h), cells2 (qb.out.keep h)⟩ : (w9.cell? ⟨w.heap.size + 1, 0, none⟩ = some (.bool (sgn X)) ∧ w9.cell? ⟨w.heap.size + 1, 1, none⟩ = some (.slice A' m' cap')) ∧ (w9.cell? ⟨gq, 0, none⟩ = some (.bool (sgn Xq)) ∧ w9.cell? ⟨gq, 1, none⟩ = some (.slice A1 n1 c1))))
      have K0 := KK.out wa (Below.refl _ _)
      have KD := KK.out wa.drew (below_drew (Below.refl _ _))
      first
      | (go_region_with (first
          | (go_at_call 50
             refine (CT.out _).mono ?_
             rintro e w3 ⟨v_t, rfl, hb, q2⟩
             obtain ⟨qQ, qR, qF, rfl, -⟩ := id q2.form
             replace q2 := Lib.hid q2
             have qk := Lib.hid (reg_next (w0 := wa) (by repeat (first | with_reducible exact Below.refl _ _ | with_reducible apply below_drew | with_reducible apply below_new)) hb)
             have qK := KK.out _ qk.out
             obtain ⟨hc_w3, hf_w3⟩ := below_reads hb
             have qt := hb.size
             try simp at qt
             try (have z1_w3 := Nat.lt_of_succ_le qt)
             try (have z2_w3 := Nat.lt_of_succ_lt z1_w3)
             have ql := Lib.hid hb
             clear hb)
          | (go_at_call 84
             refine (CM'.out _ _ _ (q4.out.below ?_) (q2.out.below ?_)).mono ?_
             · repeat (first | with_reducible exact Below.refl _ _ | with_reducible exact qk.out | with_reducible apply below_drew | with_reducible apply below_new)
             · repeat (first | with_reducible exact Below.refl _ _ | with_reducible exact qk.out | with_reducible apply below_drew | with_reducible apply below_new)
             rintro e w4 ⟨v_p, rfl, hb, q6⟩
             obtain ⟨A_p, n_p, cap_p, rfl, -⟩ := id q6.form
             replace q6 := Lib.hid q6
             replace q2 := Lib.hid (q2.out.below (below_next (by repeat (first | with_reducible exact Below.refl _ _ | with_reducible apply below_new | with_reducible apply below_drew)) hb))
             have qm := Lib.hid (below_next (by repeat (first | with_reducible exact qk.out | with_reducible apply below_new | with_reducible apply below_drew)) hb)
             have qL := KK.out _ qm.out
             obtain ⟨hc_w4, hf_w4⟩ := below_reads hb
             have qu := hb.size
             try simp at qu
             try (have z1_w4 := Nat.lt_of_succ_le qu)
             try (have z2_w4 := Nat.lt_of_succ_lt z1_w4)
             have qv := Lib.hid hb
             have qd := Nat.le_trans ql.out.size (Nat.le_trans (by (try simp only [World.size_alloc]); omega) hb.size)
             try simp at qd
             try (have z3_w4_w3 := Nat.lt_of_succ_le qd)
             try (have z4_w4_w3 := Nat.lt_of_succ_lt z3_w4_w3)
             clear hb)
          | (go_at_call 89
             refine (CS'.out _ _ _ (q3.out.below ?_) (q6.out.below ?_)).mono ?_
             · repeat (first | with_reducible exact Below.refl _ _ | with_reducible exact qm.out | with_reducible apply below_drew | with_reducible apply below_new)
             · repeat (first | with_reducible exact Below.refl _ _ | with_reducible exact qm.out | with_reducible apply below_drew | with_reducible apply below_new)
             rintro e w5 ⟨v_s, rfl, hb, qe⟩
             obtain ⟨A_s, n_s, cap_s, rfl, -⟩ := id qe.form
             replace qe := Lib.hid qe
             replace q2 := Lib.hid (q2.out.below (below_next (by repeat (first | with_reducible exact Below.refl _ _ | with_reducible apply below_new | with_reducible apply below_drew)) hb))
             replace q6 := Lib.hid (q6.out.below (below_next (by repeat (first | with_reducible exact Below.refl _ _ | with_reducible apply below_new | with_reducible apply below_drew)) hb))
             have qp := Lib.hid (below_next (by repeat (first | with_reducible exact qm.out | with_reducible apply below_new | with_reducible apply below_drew)) hb)
             have qM := KK.out _ qp.out
             obtain ⟨hc_w5, hf_w5⟩ := below_reads hb
             have qw := hb.size
             try simp at qw
             try (have z1_w5 := Nat.lt_of_succ_le qw)
             try (have z2_w5 := Nat.lt_of_succ_lt z1_w5)
             have qI := Lib.hid hb
             have qf := Nat.le_trans ql.out.size (Nat.le_trans (by (try simp only [World.size_alloc]); omega) hb.size)
             try simp at qf
             try (have z3_w5_w3 := Nat.lt_of_succ_le qf)
             try (have z4_w5_w3 := Nat.lt_of_succ_lt z3_w5_w3)
             have qg := Nat.le_trans qv.out.size (Nat.le_trans (by (try simp only [World.size_alloc]); omega) hb.size)
             try simp at qg
             try (have z3_w5_w4 := Nat.lt_of_succ_le qg)
             try (have z4_w5_w4 := Nat.lt_of_succ_lt z3_w5_w4)
             clear hb)
          | (go_at_call 88
             refine (CU'.out _ _ (qe.out.below ?_)).mono ?_
             · repeat (first | with_reducible exact Below.refl _ _ | with_reducible exact qp.out | with_reducible apply below_drew | with_reducible apply below_new)
             rintro e w6 ⟨rfl, hb⟩
             replace q2 := Lib.hid (q2.out.below (below_next (by repeat (first | with_reducible exact Below.refl _ _ | with_reducible apply below_new | with_reducible apply below_drew)) hb))
             replace q6 := Lib.hid (q6.out.below (below_next (by repeat (first | with_reducible exact Below.refl _ _ | with_reducible apply below_new | with_reducible apply below_drew)) hb))
             replace qe := Lib.hid (qe.out.below (below_next (by repeat (first | with_reducible exact Below.refl _ _ | with_reducible apply below_new | with_reducible apply below_drew)) hb))
             have qA := Lib.hid (below_next (by repeat (first | with_reducible exact qp.out | with_reducible apply below_new | with_reducible apply below_drew)) hb)
             have qN := KK.out _ qA.out
             obtain ⟨hc_w6, hf_w6⟩ := below_reads hb
             have qx := hb.size
             try simp at qx
             try (have z1_w6 := Nat.lt_of_succ_le qx)
             try (have z2_w6 := Nat.lt_of_succ_lt z1_w6)
             have HB_w6 := Lib.hid hb
             have qh := Nat.le_trans ql.out.size (Nat.le_trans (by (try simp only [World.size_alloc]); omega) hb.size)
             try simp at qh
             try (have z3_w6_w3 := Nat.lt_of_succ_le qh)
             try (have z4_w6_w3 := Nat.lt_of_succ_lt z3_w6_w3)
             have qi := Nat.le_trans qv.out.size (Nat.le_trans (by (try simp only [World.size_alloc]); omega) hb.size)
             try simp at qi
             try (have z3_w6_w4 := Nat.lt_of_succ_le qi)
             try (have z4_w6_w4 := Nat.lt_of_succ_lt z3_w6_w4)
             have qj := Nat.le_trans qI.out.size (Nat.le_trans (by (try simp only [World.size_alloc]); omega) hb.size)
             try simp at qj
             try (have z3_w6_w5 := Nat.lt_of_succ_le qj)
             try (have z4_w6_w5 := Nat.lt_of_succ_lt z3_w6_w5)
             clear hb)))
      | fail "region"
      all_goals clear KK K0 KD qK qL qM qN
      all_goals go_wp2_with fail
      all_goals go_meet
      all_goals refine ⟨rfl, ?_⟩
      all_goals show Below wa.heap.size wa _
      all_goals repeat (first | with_reducible exact qA.out | with_reducible apply below_new | with_reducible apply below_drew)
     case rest =>
      obtain ⟨rfl, hcut⟩ := hcut
      clear CM' CS' CU' HCV HSA w1' w2'
      have hb := hcut.out
      clear hcut
      replace qb := Lib.hid (qb.out.keep hb); replace q4 := Lib.hid (q4.out.below hb)
      replace q1 := Lib.hid (q1.out.keep hb); replace q0 := Lib.hid (q0.out.keep hb); replace q3 := Lib.hid (q3.out.below hb); replace BB := Lib.hid (below_next BB.out hb)
      clear hb
      have hd := qO.out
      have hgq' : w.heap.size + 1 < gq := by have := HSZ.out; omega
      obtain ⟨q7, q8, q9, qa⟩ := reads2 q0.out
      have qn := q0.out.lt
      obtain ⟨c_q0, c_q1, f_q0, f_q1⟩ := reads2 qb.out
      have l_q := qb.out.lt
      go_wp2_with fail
      go_roundw
      case rel =>
       refine ⟨Xq, A1, n1, c1, bs ++ [dig8 X], f - 1, ?_, ⟨?_, ?_, ?_, ?_, HXd.out, H51.out, fun h => by simp at h, fun h => by simp at h, ?_⟩⟩
       · simp
       · exact q0.out.set2 _ _
       · exact q4.out.far2 q0.out (by decide) _ _
       · exact q1.out.far2 (by omega) _ _
       · exact HT2.out.1
       · exact below_far2 BB.out (by omega) _ _
      case measure => simp [strLen, str_size]; have := HLN.out; omega
  · obtain rfl : X = 0 := by omega
    obtain rfl : m' = 0 := h0.2 rfl
    have HE : Hid (txt z = if bs = [] then ⟨#[48]⟩ else ⟨((if sgn z then [45] else []) ++ bs.reverse).toArray⟩) := by
     show _ = _
     have hsg : (if z < 0 then [(45 : UInt8)] else []) = if sgn z then [45] else [] := by unfold sgn; simp
     unfold txt txtL
     rw [hsg, ← hN.out]
     by_cases hb : bs = []
     · rw [if_pos hb]
       have h0' := hbN hb
       rw [← h0']
       have hz : z = 0 := by have := hN.out; omega
       subst hz; decide
     · rw [if_neg hb, hT.done hb]
    have HSA := fun w => run_string_add_lists (P := Tryz.prog) w [45] bs.reverse (by simp) (by simp; omega)
    clear hT hX hl hbf hbN hX0 h0 hgo hN
    cases bs with
    | nil =>
      rw [if_pos rfl] at HE
      obtain ⟨qB, qC, qD, qE⟩ := reads2 q1.out
      have qJ := q1.out.lt
      obtain ⟨q7, q8, q9, qa⟩ := reads2 q0.out
      have qn := q0.out.lt
      go_wp2_with fail
      go_ret
      exact ⟨ret_txt HE.out.symm, BB.out⟩
    | cons c cs =>
      rw [if_neg (by simp)] at HE
      have hne : ((c :: cs).reverse.toArray.toList == ([] : List UInt8)) = false := by simp
      generalize (c :: cs).reverse = rv at *
      cases hs : sgn z
      · rw [hs] at HE q1
        obtain ⟨qB, qC, qD, qE⟩ := reads2 q1.out
        have qJ := q1.out.lt
        obtain ⟨q7, q8, q9, qa⟩ := reads2 q0.out
        have qn := q0.out.lt
        go_wp2_with fail
        go_ret
        exact ⟨ret_txt HE.out.symm, BB.out⟩
      · rw [hs] at HE q1
        obtain ⟨qB, qC, qD, qE⟩ := reads2 q1.out
        have qJ := q1.out.lt
        obtain ⟨q7, q8, q9, qa⟩ := reads2 q0.out
        have qn := q0.out.lt
        go_wp2_with fail
        go_ret
        exact ⟨ret_txt HE.out.symm, BB.out⟩
end Go.Proofs.YtikpobembcgbfaaGreatDoor
