/- Walk of the document's 'Text': the decimal digits of a number. -/
import Derived.Test.YthdbchghhpoadaaDoorFlo4
import Derived.Test.YthdbchghhpoadaaDoorJC
import Derived.Test.YthdbchghhpoadaaDoorTxt
import Derived.Laws.IdiomStrings
import Derived.Deep.DeepCutAuto
import Derived.Laws.BitsAllLaws
set_option linter.unusedVariables false
namespace Go.Proofs.YthdbchghhpoadaaDoor
open Go.RowKit

def strLen : Value → Nat
  | .string s => s.size
  | _ => 0
/-- A new byte, read as a text. -/
theorem byte_str (n : Int) (h0 : 0 ≤ n) (h1 : n ≤ 255) (w : World) : (convert 65 9 (.slice (some ⟨w.heap.size, 0, none⟩) 1 1)).run Tryd.prog (w.alloc (.cells #[.int .u8 n] 5)) =
    .ok (.string ⟨[UInt8.ofNat n.toNat].toArray⟩) (w.alloc (.cells #[.int .u8 n] 5)) := by
  have h := run_convert_bytes_back (P := Tryd.prog) (w.alloc (.cells #[.int .u8 n] 5)) 65 9 5 ⟨w.heap.size, 0, none⟩ 1 [UInt8.ofNat n.toNat] Tryd.underlying65 Tryd.underlying5 Tryd.underlying9
    (fun j hj => by
      obtain rfl : j = 0 := by simpa using hj
      simp [Addr.add]; omega)
  exact h
theorem str_join (a b : List UInt8) : (⟨a.toArray⟩ : ByteArray) ++ ⟨b.toArray⟩ = ⟨(a ++ b).toArray⟩ := by
  apply ByteArray.ext; simp
theorem two_ten : (2 : Int) ^ 127 < 10 ^ 50 := by decide
theorem ret_txt {a b : ByteArray} (h : a = b) : Ending.returned (.string a) = .returned (.string b) := by rw [h]
theorem str_size (a : List UInt8) : (⟨a.toArray⟩ : ByteArray).size = a.length := by simp [ByteArray.size]

set_option maxHeartbeats 4000000 in
set_option maxRecDepth 100000 in
theorem rtext_any (v : Value) (z : Int) (w : World) (hv : BR w v z) (hz : Wd 127 z) :
    Calls Tryd.prog 52 #[v] w fun e w' => e = .returned (.string (txt z)) ∧ Below w.heap.size w w' := by
  obtain ⟨A, m, cap, rfl, -⟩ := id hv.form
  have hn := hv.nr
  obtain ⟨N, hN⟩ : ∃ N : Int, N = (z.natAbs : Int) := ⟨_, rfl⟩
  rw [← hN] at hn
  have hN0 : 0 ≤ N := by omega
  have hN1 : N ≤ 2 ^ 127 := by have := Wd.abs.1 hz; omega
  have HX0 : Hid (BR w (.agg #[.bool (sgn N), .slice A m cap]) N) := ⟨_, rfl, by rw [show (N.natAbs : Int) = N by omega]; exact hn⟩
  have HS0 := Lib.hid (sgn_f hN0)
  have CT := Lib.hid (fun w => of_any 10 ⟨by omega, by omega⟩ w)
  have CF := Lib.hid (fun (a b : Value) X w1 (ha : BR w1 a X) (hb : BR w1 b 10) (h0 : 0 ≤ X) (h1 : X ≤ 2 ^ 127) => floor_any a b X 10 w1 ha hb ((show Wd 127 X from ⟨by have := two_pos 127; omega, h1⟩).mid (by omega)) (i64_wd (show I64 10 from ⟨by omega, by omega⟩) |>.low (by omega)) (by omega))
  have CM := Lib.hid (fun (a b : Value) X w1 (ha : BR w1 a (X / 10)) (hb : BR w1 b 10) (h0 : 0 ≤ X) (h1 : X ≤ 2 ^ 127) => mul_any a b (X / 10) 10 w1 ha hb ((show Wd 127 (X / 10) from ⟨by have := two_pos 127; omega, by omega⟩).mid (by omega)) (i64_mid' ⟨by omega, by omega⟩))
  have CS := Lib.hid (fun (a b : Value) X w1 (ha : BR w1 a X) (hb : BR w1 b (X / 10 * 10)) (h0 : 0 ≤ X) (h1 : X ≤ 2 ^ 127) => sub_any a b X (X / 10 * 10) w1 ha hb ((show Wd 127 X from ⟨by have := two_pos 127; omega, h1⟩).mid (by omega)) ((show Wd 127 (X / 10 * 10) from ⟨by have := two_pos 127; omega, by omega⟩).mid (by omega)))
  have CU := Lib.hid (fun (a : Value) X w1 (ha : BR w1 a (X - X / 10 * 10)) => unsigned_any a (X - X / 10 * 10) w1 ha (by omega))
  have TS := Lib.hid (TI.start hN0 (show N < (10 : Int) ^ 50 from Int.lt_of_le_of_lt hN1 two_ten))
  have HB1 := Lib.hid hN1
  replace hN := Lib.hid hN
  clear hv hn hz hN1
  go_enter Tryd.func52, Tryd.ntmps52
  go_wp2_with fail
  have BB := start2 w #[.bool (sgn z), .slice A m cap] 24 #[.bool false, .slice A m cap] 24
  obtain ⟨BB, hsz, r_a, r_x⟩ := BB
  generalize ((w.alloc (.cells #[.bool (sgn z), .slice A m cap] 24)).alloc (.cells #[.bool false, .slice A m cap] 24)) = w0 at *
  replace BB := Lib.hid BB
  replace r_a := Lib.hid r_a
  replace r_x := Lib.hid r_x
  clear hsz
  have d_x := Lib.hid (show w.heap.size < w.heap.size + 1 by omega)
  have h_x := Lib.hid (HX0.out.below BB.out)
  rw [HS0.out] at h_x
  clear HX0
  go_loopw [3, 5] (fun s _ wr => ∃ (X : Int) (A' : Option Addr) (m' cap' : Nat) (bs : List UInt8) (f : Nat), s = .string ⟨bs.reverse.toArray⟩ ∧
      Hid (AtB wr (w.heap.size + 1) #[.bool (sgn X), .slice A' m' cap'] 24 ∧ BR wr (.agg #[.bool (sgn X), .slice A' m' cap']) X ∧ AtB wr w.heap.size #[.bool (sgn z), .slice A m cap] 24 ∧
        TI N X bs f ∧ X ≤ 2 ^ 127 ∧ bs.length + f ≤ 51 ∧ (bs = [] → f = 50) ∧ (bs = [] → X = N) ∧ Below w.heap.size w wr)) (fun s _ _ => 60 - strLen s)
  case atStart => exact ⟨N, A, m, cap, [], 50, rfl, ⟨by rw [HS0.out]; exact r_x.out, by rw [HS0.out]; exact h_x.out, r_a.out, TS.out, HB1.out, by simp, fun _ => rfl, fun _ => rfl, BB.out⟩⟩
  case round =>
    clear h_x r_x r_a BB TS HB1
    obtain ⟨X, A', m', cap', bs, f, rfl, hI⟩ := hrel
    obtain ⟨r_x, h_x, r_a, hT, hX, hl, hbf, hbN, BB⟩ := hI.out
    clear hI
    replace BB := Lib.hid BB; replace r_a := Lib.hid r_a; replace r_x := Lib.hid r_x
    have hX0 := hT.1
    have hform := h_x.nr.form
    replace h_x := Lib.hid h_x
    obtain ⟨_, _, _, hf, h0⟩ := hform
    injection hf with e1 e2 e3
    subst e2
    clear e1 e3
    by_cases hgo : 0 < X
    · have hm : 0 < m' := by
        rcases Nat.eq_zero_or_pos m' with h | h
        · have := h0.1 h; omega
        · exact h
      clear h0
      obtain ⟨c_x0, c_x1, f_x0, f_x1⟩ := reads2 r_x.out
      have l_x := r_x.out.lt
      have CF' := Lib.hid (fun (a b : Value) w1 (ha : BR w1 a X) (hb : BR w1 b 10) => (Int.fdiv_eq_ediv_of_nonneg X (show 0 ≤ 10 by omega) ▸ CF.out a b X w1 ha hb hX0 hX : Calls _ _ _ w1 (GiveB (X / 10) w1)))
      have CM' := Lib.hid (fun (a b : Value) w1 (ha : BR w1 a (X / 10)) (hb : BR w1 b 10) => CM.out a b X w1 ha hb hX0 hX)
      have CS' := Lib.hid (fun (a b : Value) w1 (ha : BR w1 a X) (hb : BR w1 b (X / 10 * 10)) => CS.out a b X w1 ha hb hX0 hX)
      have CU' := Lib.hid (fun (a : Value) w1 (ha : BR w1 a (X - X / 10 * 10)) => CU.out a X w1 ha)
      have hd : ((X - X / 10 * 10).natAbs : Int) = X % 10 := by omega
      rw [hd] at CU'
      have HT2 := Lib.hid (TI.step hT (.inl hgo))
      have H51 := Lib.hid (TI.len hT (.inl hgo) hl hbf)
      have HXd := Lib.hid (show X / 10 ≤ 2 ^ 127 by omega)
      have hq0 : 0 ≤ X % 10 := by omega
      have hq1 : X % 10 < 10 := by omega
      have HCV := byte_str (48 + X % 10) (by omega) (by omega)
      rw [show [UInt8.ofNat (48 + X % 10).toNat] = [dig8 X] from rfl] at HCV
      have HSA := fun w => run_string_add_lists (P := Tryd.prog) w [dig8 X] bs.reverse (by simp) (by simp; omega)
      have HLN := Lib.hid hl
      have HSZ := Lib.hid r_x.out.lt
      clear CF CM CS CU hd hT hl hbf hbN hX hX0 hgo
      have HX10 := Lib.hid (show X / 10 / 1 = X / 10 by omega)
      generalize hxq : X / 10 = Xq at *
      replace hxq := Lib.hid hxq
      generalize X % 10 = d at *
      go_upto_region 4 with fail
      go_cut [5] (fun s5 wc => ∃ gq A1 n1 c1, s5 = .pointer (some ⟨gq, 0, none⟩) ∧ Hid (AtB wc gq #[.bool (sgn Xq), .slice A1 n1 c1] 24 ∧ BR wc (.agg #[.bool (sgn Xq), .slice A1 n1 c1]) Xq ∧ Below wr.heap.size wr wc ∧ wr.heap.size ≤ gq))
      case first =>
        clear CM' CS' CU' HCV
        clear c_x0 c_x1 f_x0 f_x1 l_x
        have KK := Lib.hid (fun (w9 : World) (h : Below wr.heap.size wr w9) => (cells2 (r_x.out.keep h) : (w9.cell? ⟨w.heap.size + 1, 0, none⟩ = some (.bool (sgn X)) ∧ w9.cell? ⟨w.heap.size + 1, 1, none⟩ = some (.slice A' m' cap'))))
        have K0 := KK.out wr (Below.refl _ _)
        have KD := KK.out wr.drew (below_drew (Below.refl _ _))
        go_region_held3 (fun w9 => (w9.cell? ⟨w.heap.size + 1, 0, none⟩ = some (.bool (sgn X)) ∧ w9.cell? ⟨w.heap.size + 1, 1, none⟩ = some (.slice A' m' cap')))
            (first | with_reducible exact KD | with_reducible exact K0 | with_reducible exact K_w1 | with_reducible exact K_w2 | (refine KK.out _ ?_; repeat' (first | with_reducible exact Below.refl _ _ | with_reducible exact B_w1.out | with_reducible exact B_w2.out | with_reducible apply below_new | with_reducible apply below_drew | with_reducible apply below_set | omega)))
            (first
              | (go_at_call 6
                 refine (CT.out _).mono ?_
                 rintro e w1 ⟨v_t, rfl, hb, h_t⟩
                 obtain ⟨A_t, n_t, cap_t, rfl, -⟩ := id h_t.form
                 replace h_t := Lib.hid h_t
                 have B_w1 := Lib.hid (reg_next (w0 := wr) (by repeat (first | with_reducible exact Below.refl _ _ | with_reducible apply below_drew | with_reducible apply below_new)) hb)
                 have K_w1 := KK.out _ B_w1.out
                 obtain ⟨hc_w1, hf_w1⟩ := below_reads hb
                 have hz_w1 := hb.size
                 try simp at hz_w1
                 try (have z1_w1 := Nat.lt_of_succ_le hz_w1)
                 try (have z2_w1 := Nat.lt_of_succ_lt z1_w1)
                 have HB_w1 := Lib.hid hb
                 clear hb)
              | (go_at_call 43
                 refine (CF'.out _ _ _ (h_x.out.below ?_) (h_t.out.below ?_)).mono ?_
                 · repeat (first | with_reducible exact Below.refl _ _ | with_reducible exact B_w1.out | with_reducible apply below_drew | with_reducible apply below_new)
                 · repeat (first | with_reducible exact Below.refl _ _ | with_reducible exact B_w1.out | with_reducible apply below_drew | with_reducible apply below_new)
                 rintro e w2 ⟨v_q, rfl, hb, h_q⟩
                 obtain ⟨A_q, n_q, cap_q, rfl, -⟩ := id h_q.form
                 replace h_q := Lib.hid h_q
                 replace h_t := Lib.hid (h_t.out.below (below_next (by repeat (first | with_reducible exact Below.refl _ _ | with_reducible apply below_new | with_reducible apply below_drew)) hb))
                 have B_w2 := Lib.hid (below_next (by repeat (first | with_reducible exact B_w1.out | with_reducible apply below_new | with_reducible apply below_drew)) hb)
                 have K_w2 := KK.out _ B_w2.out
                 obtain ⟨hc_w2, hf_w2⟩ := below_reads hb
                 have hz_w2 := hb.size
                 try simp at hz_w2
                 try (have z1_w2 := Nat.lt_of_succ_le hz_w2)
                 try (have z2_w2 := Nat.lt_of_succ_lt z1_w2)
                 have HB_w2 := Lib.hid hb
                 have y_w2_w1 := Nat.le_trans HB_w1.out.size (Nat.le_trans (by (try simp only [World.size_alloc]); omega) hb.size)
                 try simp at y_w2_w1
                 try (have z3_w2_w1 := Nat.lt_of_succ_le y_w2_w1)
                 try (have z4_w2_w1 := Nat.lt_of_succ_lt z3_w2_w1)
                 clear hb))
        all_goals clear KK K0 KD K_w1 K_w2
        all_goals go_wp2_with fail
        all_goals go_meet
        all_goals refine ⟨_, A_q, n_q, cap_q, rfl, ⟨?_, ?_, ?_, ?_⟩⟩
        all_goals repeat' (first | with_reducible exact h_q.out | with_reducible exact B_w2.out | with_reducible exact B_w1.out | with_reducible exact Below.refl _ _ | with_reducible apply below_new | with_reducible apply below_drew | (with_reducible refine below_set ?_ ?_ _) | (with_reducible refine AtB.set2 (a := .bool false) (b := .slice none 0 0) ?_ _ _) | (with_reducible refine AtB.far2 ?_ ?_ _ _) | (with_reducible refine BR.alloc ?_ _) | (with_reducible refine BR.far2 (a := .bool false) (b := .slice none 0 0) (T := 24) ?_ ?_ (by decide) _ _) | (with_reducible refine new_at_eq ?_ _ _; first | rfl | (simp; done)) | (with_reducible refine AtB.alloc ?_ _) | with_reducible apply AtB.drew | (with_reducible refine AtB.keep ?_ HB_w2.out) | (with_reducible refine AtB.keep ?_ HB_w1.out) | omega)
      case rest =>
        obtain ⟨gq, A1, n1, c1, rfl, hcut⟩ := hcut
        obtain ⟨r_q, h_q, hb, hgq⟩ := hcut.out
        clear hcut
        replace r_q := Lib.hid r_q; replace h_q := Lib.hid h_q
        replace r_a := Lib.hid (r_a.out.keep hb); replace r_x := Lib.hid (r_x.out.keep hb); replace h_x := Lib.hid (h_x.out.below hb); replace BB := Lib.hid (below_next BB.out hb)
        clear hb CF'
        obtain ⟨wa, hwa⟩ : ∃ wa : World, wa = wc := ⟨_, rfl⟩
        subst hwa
        have w1' : IntKind.u64.wrap (48 + d) = 48 + d := by rw [IntKind.wrap_u64]; omega
        have w2' : IntKind.u8.wrap (48 + d) = 48 + d := by rw [IntKind.wrap_u8']; omega
        go_upto_region 5 with fail
        go_cut [3] (fun s3 wd => s3 = .string ⟨([dig8 X] ++ bs.reverse).toArray⟩ ∧ Hid (Below wa.heap.size wa wd))
        case first =>
          clear HT2 H51 HXd HLN r_a BB hgq
          have KK := Lib.hid (fun (w9 : World) (h : Below wa.heap.size wa w9) => (⟨cells2 (r_x.out.keep h), cells2 (r_q.out.keep h)⟩ : (w9.cell? ⟨w.heap.size + 1, 0, none⟩ = some (.bool (sgn X)) ∧ w9.cell? ⟨w.heap.size + 1, 1, none⟩ = some (.slice A' m' cap')) ∧ (w9.cell? ⟨gq, 0, none⟩ = some (.bool (sgn Xq)) ∧ w9.cell? ⟨gq, 1, none⟩ = some (.slice A1 n1 c1))))
          have K0 := KK.out wa (Below.refl _ _)
          have KD := KK.out wa.drew (below_drew (Below.refl _ _))
          first
          | (go_region_with (first
                | (go_at_call 6
                   refine (CT.out _).mono ?_
                   rintro e w3 ⟨v_t, rfl, hb, h_t⟩
                   obtain ⟨A_t, n_t, cap_t, rfl, -⟩ := id h_t.form
                   replace h_t := Lib.hid h_t
                   have B_w3 := Lib.hid (reg_next (w0 := wa) (by repeat (first | with_reducible exact Below.refl _ _ | with_reducible apply below_drew | with_reducible apply below_new)) hb)
                   have K_w3 := KK.out _ B_w3.out
                   obtain ⟨hc_w3, hf_w3⟩ := below_reads hb
                   have hz_w3 := hb.size
                   try simp at hz_w3
                   try (have z1_w3 := Nat.lt_of_succ_le hz_w3)
                   try (have z2_w3 := Nat.lt_of_succ_lt z1_w3)
                   have HB_w3 := Lib.hid hb
                   clear hb)
                | (go_at_call 34
                   refine (CM'.out _ _ _ (h_q.out.below ?_) (h_t.out.below ?_)).mono ?_
                   · repeat (first | with_reducible exact Below.refl _ _ | with_reducible exact B_w3.out | with_reducible apply below_drew | with_reducible apply below_new)
                   · repeat (first | with_reducible exact Below.refl _ _ | with_reducible exact B_w3.out | with_reducible apply below_drew | with_reducible apply below_new)
                   rintro e w4 ⟨v_p, rfl, hb, h_p⟩
                   obtain ⟨A_p, n_p, cap_p, rfl, -⟩ := id h_p.form
                   replace h_p := Lib.hid h_p
                   replace h_t := Lib.hid (h_t.out.below (below_next (by repeat (first | with_reducible exact Below.refl _ _ | with_reducible apply below_new | with_reducible apply below_drew)) hb))
                   have B_w4 := Lib.hid (below_next (by repeat (first | with_reducible exact B_w3.out | with_reducible apply below_new | with_reducible apply below_drew)) hb)
                   have K_w4 := KK.out _ B_w4.out
                   obtain ⟨hc_w4, hf_w4⟩ := below_reads hb
                   have hz_w4 := hb.size
                   try simp at hz_w4
                   try (have z1_w4 := Nat.lt_of_succ_le hz_w4)
                   try (have z2_w4 := Nat.lt_of_succ_lt z1_w4)
                   have HB_w4 := Lib.hid hb
                   have y_w4_w3 := Nat.le_trans HB_w3.out.size (Nat.le_trans (by (try simp only [World.size_alloc]); omega) hb.size)
                   try simp at y_w4_w3
                   try (have z3_w4_w3 := Nat.lt_of_succ_le y_w4_w3)
                   try (have z4_w4_w3 := Nat.lt_of_succ_lt z3_w4_w3)
                   clear hb)
                | (go_at_call 14
                   refine (CS'.out _ _ _ (h_x.out.below ?_) (h_p.out.below ?_)).mono ?_
                   · repeat (first | with_reducible exact Below.refl _ _ | with_reducible exact B_w4.out | with_reducible apply below_drew | with_reducible apply below_new)
                   · repeat (first | with_reducible exact Below.refl _ _ | with_reducible exact B_w4.out | with_reducible apply below_drew | with_reducible apply below_new)
                   rintro e w5 ⟨v_s, rfl, hb, h_s⟩
                   obtain ⟨A_s, n_s, cap_s, rfl, -⟩ := id h_s.form
                   replace h_s := Lib.hid h_s
                   replace h_t := Lib.hid (h_t.out.below (below_next (by repeat (first | with_reducible exact Below.refl _ _ | with_reducible apply below_new | with_reducible apply below_drew)) hb))
                   replace h_p := Lib.hid (h_p.out.below (below_next (by repeat (first | with_reducible exact Below.refl _ _ | with_reducible apply below_new | with_reducible apply below_drew)) hb))
                   have B_w5 := Lib.hid (below_next (by repeat (first | with_reducible exact B_w4.out | with_reducible apply below_new | with_reducible apply below_drew)) hb)
                   have K_w5 := KK.out _ B_w5.out
                   obtain ⟨hc_w5, hf_w5⟩ := below_reads hb
                   have hz_w5 := hb.size
                   try simp at hz_w5
                   try (have z1_w5 := Nat.lt_of_succ_le hz_w5)
                   try (have z2_w5 := Nat.lt_of_succ_lt z1_w5)
                   have HB_w5 := Lib.hid hb
                   have y_w5_w3 := Nat.le_trans HB_w3.out.size (Nat.le_trans (by (try simp only [World.size_alloc]); omega) hb.size)
                   try simp at y_w5_w3
                   try (have z3_w5_w3 := Nat.lt_of_succ_le y_w5_w3)
                   try (have z4_w5_w3 := Nat.lt_of_succ_lt z3_w5_w3)
                   have y_w5_w4 := Nat.le_trans HB_w4.out.size (Nat.le_trans (by (try simp only [World.size_alloc]); omega) hb.size)
                   try simp at y_w5_w4
                   try (have z3_w5_w4 := Nat.lt_of_succ_le y_w5_w4)
                   try (have z4_w5_w4 := Nat.lt_of_succ_lt z3_w5_w4)
                   clear hb)
                | (go_at_call 64
                   refine (CU'.out _ _ (h_s.out.below ?_)).mono ?_
                   · repeat (first | with_reducible exact Below.refl _ _ | with_reducible exact B_w5.out | with_reducible apply below_drew | with_reducible apply below_new)
                   rintro e w6 ⟨rfl, hb⟩
                   replace h_t := Lib.hid (h_t.out.below (below_next (by repeat (first | with_reducible exact Below.refl _ _ | with_reducible apply below_new | with_reducible apply below_drew)) hb))
                   replace h_p := Lib.hid (h_p.out.below (below_next (by repeat (first | with_reducible exact Below.refl _ _ | with_reducible apply below_new | with_reducible apply below_drew)) hb))
                   replace h_s := Lib.hid (h_s.out.below (below_next (by repeat (first | with_reducible exact Below.refl _ _ | with_reducible apply below_new | with_reducible apply below_drew)) hb))
                   have B_w6 := Lib.hid (below_next (by repeat (first | with_reducible exact B_w5.out | with_reducible apply below_new | with_reducible apply below_drew)) hb)
                   have K_w6 := KK.out _ B_w6.out
                   obtain ⟨hc_w6, hf_w6⟩ := below_reads hb
                   have hz_w6 := hb.size
                   try simp at hz_w6
                   try (have z1_w6 := Nat.lt_of_succ_le hz_w6)
                   try (have z2_w6 := Nat.lt_of_succ_lt z1_w6)
                   have HB_w6 := Lib.hid hb
                   have y_w6_w3 := Nat.le_trans HB_w3.out.size (Nat.le_trans (by (try simp only [World.size_alloc]); omega) hb.size)
                   try simp at y_w6_w3
                   try (have z3_w6_w3 := Nat.lt_of_succ_le y_w6_w3)
                   try (have z4_w6_w3 := Nat.lt_of_succ_lt z3_w6_w3)
                   have y_w6_w4 := Nat.le_trans HB_w4.out.size (Nat.le_trans (by (try simp only [World.size_alloc]); omega) hb.size)
                   try simp at y_w6_w4
                   try (have z3_w6_w4 := Nat.lt_of_succ_le y_w6_w4)
                   try (have z4_w6_w4 := Nat.lt_of_succ_lt z3_w6_w4)
                   have y_w6_w5 := Nat.le_trans HB_w5.out.size (Nat.le_trans (by (try simp only [World.size_alloc]); omega) hb.size)
                   try simp at y_w6_w5
                   try (have z3_w6_w5 := Nat.lt_of_succ_le y_w6_w5)
                   try (have z4_w6_w5 := Nat.lt_of_succ_lt z3_w6_w5)
                   clear hb)))
          | fail "region"
          all_goals clear KK K0 KD K_w3 K_w4 K_w5 K_w6
          all_goals go_wp2_with fail
          all_goals go_meet
          all_goals refine ⟨rfl, ?_⟩
          all_goals show Below wa.heap.size wa _
          all_goals repeat (first | with_reducible exact B_w6.out | with_reducible apply below_new | with_reducible apply below_drew)
        case rest =>
          obtain ⟨rfl, hcut⟩ := hcut
          clear CM' CS' CU' HCV HSA w1' w2'
          have hb := hcut.out
          clear hcut
          replace r_q := Lib.hid (r_q.out.keep hb); replace h_q := Lib.hid (h_q.out.below hb)
          replace r_a := Lib.hid (r_a.out.keep hb); replace r_x := Lib.hid (r_x.out.keep hb); replace h_x := Lib.hid (h_x.out.below hb); replace BB := Lib.hid (below_next BB.out hb)
          clear hb
          have hd := d_x.out
          have hgq' : w.heap.size + 1 < gq := by have := HSZ.out; omega
          obtain ⟨c_x0, c_x1, f_x0, f_x1⟩ := reads2 r_x.out
          have l_x := r_x.out.lt
          obtain ⟨c_q0, c_q1, f_q0, f_q1⟩ := reads2 r_q.out
          have l_q := r_q.out.lt
          go_wp2_with fail
          go_roundw
          case rel =>
            refine ⟨Xq, A1, n1, c1, bs ++ [dig8 X], f - 1, ?_, ⟨?_, ?_, ?_, ?_, HXd.out, H51.out, fun h => by simp at h, fun h => by simp at h, ?_⟩⟩
            · simp
            · exact r_x.out.set2 _ _
            · exact h_q.out.far2 r_x.out (by decide) _ _
            · exact r_a.out.far2 (by omega) _ _
            · exact HT2.out.1
            · exact below_far2 BB.out (by omega) _ _
          case measure => simp [strLen, str_size]; have := HLN.out; omega
    · obtain rfl : X = 0 := by omega
      obtain rfl : m' = 0 := h0.2 rfl
      have HE : Hid (txt z = if bs = [] then ⟨#[48]⟩ else ⟨((if sgn z then [45] else []) ++ bs.reverse).toArray⟩) := by
        show _ = _
        have hsg : (if z < 0 then [(45 : UInt8)] else []) = if sgn z then [45] else [] := by unfold sgn; simp
        unfold txt txtL
        rw [hsg, ← hN.out]
        by_cases hb : bs = []
        · rw [if_pos hb]
          have h0' := hbN hb
          rw [← h0']
          have hz : z = 0 := by have := hN.out; omega
          subst hz; decide
        · rw [if_neg hb, hT.done hb]
      have HSA := fun w => run_string_add_lists (P := Tryd.prog) w [45] bs.reverse (by simp) (by simp; omega)
      clear hT hX hl hbf hbN hX0 h0 hgo hN
      cases bs with
      | nil =>
        rw [if_pos rfl] at HE
        obtain ⟨c_a0, c_a1, f_a0, f_a1⟩ := reads2 r_a.out
        have l_a := r_a.out.lt
        obtain ⟨c_x0, c_x1, f_x0, f_x1⟩ := reads2 r_x.out
        have l_x := r_x.out.lt
        go_wp2_with fail
        go_ret
        exact ⟨ret_txt HE.out.symm, BB.out⟩
      | cons c cs =>
        rw [if_neg (by simp)] at HE
        have hne : ((c :: cs).reverse.toArray.toList == ([] : List UInt8)) = false := by simp
        generalize (c :: cs).reverse = rv at *
        cases hs : sgn z
        · rw [hs] at HE r_a
          obtain ⟨c_a0, c_a1, f_a0, f_a1⟩ := reads2 r_a.out
          have l_a := r_a.out.lt
          obtain ⟨c_x0, c_x1, f_x0, f_x1⟩ := reads2 r_x.out
          have l_x := r_x.out.lt
          go_wp2_with fail
          go_ret
          exact ⟨ret_txt HE.out.symm, BB.out⟩
        · rw [hs] at HE r_a
          obtain ⟨c_a0, c_a1, f_a0, f_a1⟩ := reads2 r_a.out
          have l_a := r_a.out.lt
          obtain ⟨c_x0, c_x1, f_x0, f_x1⟩ := reads2 r_x.out
          have l_x := r_x.out.lt
          go_wp2_with fail
          go_ret
          exact ⟨ret_txt HE.out.symm, BB.out⟩

end Go.Proofs.YthdbchghhpoadaaDoor
