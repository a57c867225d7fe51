/- Parts of the proof: Rnu Rh. -/
import Derived.Test.YtikpobembcgbfaaGreatDoorQ25
import Derived.Test.YtikpobembcgbfaaGreatDoorQ14
set_option linter.unusedVariables false
set_option linter.unusedSimpArgs false
set_option maxRecDepth 100000
set_option maxHeartbeats 40000000
namespace Go.Proofs.YtikpobembcgbfaaGreatDoor
open Go.RowKit Go.Lib
attribute [go_sem] Tryz.results47
abbrev BT14 : TypeId := 116
def GiveN3 (x n c : Nat) (w : World) (e : Ending) (w' : World) : Prop := e = .returned (.tuple #[.int .i64 (x : Int), .int .i64 (n : Int), .int .i64 (c : Int)]) ∧ Below w.heap.size w w'
theorem rnum_no (n cap most : Nat) (A : Option Addr) (hn : n = 0) (w : World) : Calls Tryz.prog 47 #[.slice A n cap, .int .i64 (most : Int)] w (GiveN3 0 0 20 w) := by
 subst hn
 have CO := Hi (fun w => of_any 0 (by unfold I64; omega) w)
 go_enter Tryz.func47, Tryz.ntmps47
 go_wp2_with fail
 have BB : Hid (Below w.heap.size w w) := Below.refl _ _
 refine (CO.out _).mono ?_
 rintro e w1 ⟨v_s, rfl, hb, q4⟩
 obtain ⟨qc, qd, qa, rfl, -⟩ := id q4.form
 replace q4 := Hi q4
 replace BB := nx BB hb
 clear hb
 go_upto_region 3 with fail
 have qM := Hi (And.intro BB.out.size (True.intro))
 obtain ⟨w2, q5, e1, e2, hb, q0⟩ := bx w1 #[.bool (sgn 0), .slice qc qd qa] BT14
 rw [e2] at qM; rw [e1, e2]
 replace q4 := Hi (q4.out.below hb)
 replace BB := nx BB hb
 clear hb e1 e2
 go_wp2_with fail
 go_loopw [7] (fun i wr => i = .int .i64 0 ∧ Hid (Below w.heap.size w wr)) (fun i _ => 0)
 case atStart => exact ⟨rfl, BB.out⟩
 case round =>
  clear BB q4 q0
  obtain ⟨rfl, BB⟩ := hrel
  go_wp2_with fail
  refine bret (.tuple #[.int .i64 0, .int .i64 0, .int .i64 20]) ?_
  exact ⟨rfl, BB.out⟩
theorem rnum_q (l : List UInt8) (N cap b off most : Nat) (hN : N = l.length) (hl : N ≤ 20000) (h0 : N ≠ 0) (hm : most ≤ 32768) (w : World)
 (hc : ∀ i, i < N → ∀ w1, Below w.heap.size w w1 → w1.cell? ⟨b, off + i, none⟩ = some (.int .u8 ((l.getD i 0).toNat : Int))) :
 Calls Tryz.prog 47 #[.slice (some ⟨b, off, none⟩) N cap, .int .i64 (most : Int)] w (GiveN3 (numR l most).2.1 (numR l most).2.2 (numR l most).1 w) := by
 have CO := Hi (fun w => of_any 0 (by unfold I64; omega) w)
 have CT := Hi (fun w => of_any 10 (by unfold I64; omega) w)
 have CW := Hi (fun w => of_any (most : Int) (by unfold I64; omega) w)
 have CN := Hi (fun (c : Nat) (hc : c < 10) w => of_any (c : Int) (by unfold I64; omega) w)
 have hpos : (0 : Int) < HUGE := P2_pos 5000
 have hlN : l.length ≤ 20000 := by omega
 have CM : Hid (∀ k, k < dgN l → ∀ u v w, BR w u ((decL (l.take k) : Nat) : Int) → BR w v 10 → Calls Tryz.prog 84 #[u, v] w (GiveB ((10 * decL (l.take k) : Nat) : Int) w)) := by
  intro k hk u v w hu hv
  have h1 := dec_mid hlN (Nat.le_of_lt hk)
  have := mul_any u v _ 10 w hu hv ⟨by omega, h1⟩ (small_mid (by omega) (by omega))
  rw [show ((decL (l.take k) : Nat) : Int) * 10 = ((10 * decL (l.take k) : Nat) : Int) by omega] at this
  exact this
 have CA : Hid (∀ k, k < dgN l → ∀ u v w, BR w u ((10 * decL (l.take k) : Nat) : Int) → BR w v (((l.getD k 0).toNat - 48 : Nat) : Int) → Calls Tryz.prog 83 #[u, v] w (GiveB ((decL (l.take (k + 1)) : Nat) : Int) w)) := by
  intro k hk u v w hu hv
  obtain ⟨h1, h2⟩ := dec_mids hlN hk
  obtain ⟨d0, d1⟩ := dgN_in hk
  have := add_any u v _ _ w hu hv ⟨by omega, h1⟩ (small_mid (by omega) (by omega))
  rw [dec_step hk, Int.natCast_add]
  exact this
 have CC : Hid (∀ u v w, BR w u ((decL (l.take (dgN l)) : Nat) : Int) → BR w v (most : Int) → Calls Tryz.prog 85 #[u, v] w fun e w' => e = .returned (.int .i64 (cmpI ((decL (l.take (dgN l)) : Nat) : Int) (most : Int))) ∧ Below w.heap.size w w') := by
  intro u v w hu hv
  exact cmp_any u v _ _ w hu hv ⟨by omega, dec_mid hlN (Nat.le_refl _)⟩ (small_mid (by omega) (by omega))
 have CS : Hid (∀ u w, BR w u ((decL (l.take (dgN l)) : Nat) : Int) → I64 ((decL (l.take (dgN l)) : Nat) : Int) → Calls Tryz.prog 86 #[u] w fun e w' => e = .returned (.int .i64 ((decL (l.take (dgN l)) : Nat) : Int)) ∧ Below w.heap.size w w') := fun u w hu h => small_any u _ w hu h
 have D0 : Hid (decL (l.take 0) = 0) := by show _ = _; rw [List.take_zero]; rfl
 have HX : Hid (∀ k, k < dgN l → 48 ≤ (l.getD k 0).toNat ∧ (l.getD k 0).toNat ≤ 57) := fun k hk => dgN_in hk
 have HE : Hid (dgN l < N → ¬ (48 ≤ (l.getD (dgN l) 0).toNat ∧ (l.getD (dgN l) 0).toNat ≤ 57)) := fun h => dgN_end (by omega)
 have hne : l ≠ [] := by rintro rfl; exact h0 hN
 have hh : l.head? = some 48 ↔ (l.getD 0 0).toNat = 48 := by
  rw [head_getD (l := l) (by omega)]
  constructor
  · intro e; rw [Option.some.injEq] at e; rw [e]; rfl
  · intro e; rw [Option.some.injEq]; exact UInt8.toNat.inj e
 have R1 : Hid (dgN l = 0 ∨ (1 < dgN l ∧ (l.getD 0 0).toNat = 48) → numR l most = (21, 0, 0)) := fun h => by
  unfold numR; rw [if_neg hne, if_pos (by rw [hh]; exact h)]
 have R2 : Hid (¬ (dgN l = 0 ∨ (1 < dgN l ∧ (l.getD 0 0).toNat = 48)) → most < decL (l.take (dgN l)) → numR l most = (30, 0, 0)) := fun h h2 => by
  unfold numR; rw [if_neg hne, if_neg (by rw [hh]; exact h), if_pos h2]
 have R3 : Hid (¬ (dgN l = 0 ∨ (1 < dgN l ∧ (l.getD 0 0).toNat = 48)) → ¬ most < decL (l.take (dgN l)) → numR l most = (0, decL (l.take (dgN l)), dgN l)) := fun h h2 => by
  unfold numR; rw [if_neg hne, if_neg (by rw [hh]; exact h), if_neg h2]
 have hmN : dgN l ≤ N := by rw [hN]; exact dgN_le l
 have h0' := Hi h0
 have g0 : ((N : Int) == 0) = false := by rw [beq_eq_false_iff_ne]; omega
 have gN : (0 : Int) < (N : Int) := by omega
 generalize numR l most = R at *
 generalize dgN l = m at *
 obtain ⟨D, hD⟩ : ∃ D : Nat → Nat, D = fun k => decL (l.take k) := ⟨_, rfl⟩
 obtain ⟨X, hX⟩ : ∃ X : Nat → Nat, X = fun k => (l.getD k 0).toNat := ⟨_, rfl⟩
 have eD : ∀ k, decL (l.take k) = D k := fun k => by rw [hD]
 have eX : ∀ k, (l.getD k 0).toNat = X k := fun k => by rw [hX]
 simp only [eD, eX] at *
 clear eD eX hD hX hh hne hpos hlN h0 hN
 replace hc := Hi hc
 replace hl := Hi hl
 replace hm := Hi hm
 replace hmN := Hi hmN
 go_enter Tryz.func47, Tryz.ntmps47
 go_wp2_with fail
 have BB : Hid (Below w.heap.size w w) := Below.refl _ _
 refine (CO.out _).mono ?_
 rintro e w1 ⟨v_s, rfl, hb, q4⟩
 obtain ⟨qc, qd, qa, rfl, -⟩ := id q4.form
 replace q4 := Hi q4
 replace BB := nx BB hb
 clear hb
 go_upto_region 3 with fail
 have qM := Hi (And.intro BB.out.size (True.intro))
 obtain ⟨w2, q5, e1, e2, hb, q0⟩ := bx w1 #[.bool (sgn 0), .slice qc qd qa] BT14
 rw [e2] at qM; rw [e1, e2]
 replace q4 := Hi (q4.out.below hb)
 replace BB := nx BB hb
 clear hb e1 e2
 go_wp2_with fail
 go_loopw [7] (fun i wr => ∃ k A n' c, k ≤ m ∧ i = .int .i64 ((k : Nat) : Int) ∧ Hid (AtB wr q5 #[.bool (sgn (D k : Int)), .slice A n' c] BT14 ∧ BR wr (.agg #[.bool (sgn (D k : Int)), .slice A n' c]) (D k : Int) ∧ Below w.heap.size w wr)) (fun i _ => m - (RowKit.intOf i).toNat)
 case atStart => exact ⟨0, qc, qd, qa, Nat.zero_le _, rfl, by rw [D0.out]; exact ⟨q0.out, q4.out, BB.out⟩⟩
 case round =>
  clear BB q4 q0 CO D0
  obtain ⟨k, qc, qd, qa, hk, rfl, hinv⟩ := hrel
  obtain ⟨q0, q4, BB⟩ := hinv.out
  replace q0 := Hi q0; replace q4 := Hi q4; replace BB := Hi BB
  clear hinv
  have d_s' := qM
  by_cases hlt : k < m
  · obtain ⟨x0, x1⟩ := HX.out k hlt
    have hmN' := hmN.out
    have hl' := hl.out
    have cj := Hi (fun w9 (hb : Below wr.heap.size wr w9) => hc.out k (by omega) w9 (below_next BB.out hb))
    have E1 := Hi (CM.out k hlt)
    have E2 := Hi (CA.out k hlt)
    have E3 := Hi (CN.out (X k - 48) (by omega))
    have k0 : (0 : Int) ≤ (k : Int) := by omega
    have k1 : (k : Int) < (N : Int) := by omega
    generalize X k = x at *
    obtain ⟨d, hd⟩ : ∃ d, d = x - 48 := ⟨_, rfl⟩
    have q1 : (48 : Int) ≤ (x : Int) := by omega
    have q2 : (x : Int) ≤ (57 : Int) := by omega
    have bd : I64 (d : Int) := ⟨by omega, by omega⟩
    have bk : I64 ((k + 1 : Nat) : Int) := ⟨by omega, by omega⟩
    have kk : (k : Int) + 1 = ((k + 1 : Nat) : Int) := by omega
    have e1 : IntKind.u8.wrap ((x : Int) - 48) = (d : Int) := by rw [show (x : Int) - 48 = (d : Int) by omega, IntKind.wrap_u8']; omega
    have hlt' := Hi hlt
    rw [← hd] at E2 E3
    obtain ⟨t, ht⟩ : ∃ t, t = D (k + 1) := ⟨_, rfl⟩
    rw [← ht] at E2
    replace ht := Hi ht
    clear hd x0 x1 hmN' hl' hk hlt HX HE CM CA CN CC CS R1 R2 R3
    have e2 : wrap64 (d : Int) = (d : Int) := ww bd
    have e3 : IntKind.i64.wrap (d : Int) = (d : Int) := iw bd
    have ew : IntKind.i64.wrap ((k : Int) + 1) = ((k + 1 : Nat) : Int) := by rw [kk]; exact iw bk
    clear bd bk kk
    generalize 10 * D k = p at *
    generalize D k = a at *
    have cj0 := cj.out _ (Below.refl _ _)
    obtain ⟨q6, q7, q8, q9⟩ := reads2 q0.out
    have qb := q0.out.lt
    go_wp2_with fail
    clear q6 q7 q8 q9 qb
    have KK := Hi fun w9 (h : Below wr.heap.size wr w9) => And.intro (cells2 (q0.out.keep h)) (cj.out _ h)
    have KD := kd KK
    have tok0 : Hid True := trivial
    have tok2 : Hid True := trivial
    refine g_bg KK 11 ?_
    refine g_tk 0 ?_
    refine g_tk 3 ?_
    refine g_tk 4 ?_
    refine g_tk 5 ?_
    refine g_tk 6 ?_
    refine g_tk 7 ?_
    refine g_tk 8 ?_
    refine g_sc 1 (fun K hK => ?_)
    go_simp
    go_at_call 50
    have t_k := tok0
    refine (CT.out _).mono ?_
    rintro e w3 ⟨v_ten, rfl, hb, qf⟩
    obtain ⟨A_ten, n_ten, cap_ten, rfl, -⟩ := id qf.form
    replace qf := Hi qf
    have qK := rn (w0 := wr) hb
    have jf := KK.out _ qK.out
    clear hb
    clear t_k tok0
    refine hK.out _ _ (fun _ => jf) (fun hHeld => ?_)
    replace hHeld := hHeld (by decide)
    clear hK
    refine g_pt ?_
    refine g_sc 2 (fun K hK => ?_)
    go_simp
    go_at_call 84
    refine (E1.out _ _ _ (q4.out.below qK.out) qf.out).mono ?_
    rintro e w4 ⟨v_p, rfl, hb, qw⟩
    obtain ⟨A_p, n_p, cap_p, rfl, -⟩ := id qw.form
    replace qw := Hi qw
    replace qf := Hi (qf.out.below hb)
    have qQ := Hi (below_next qK.out hb)
    have jg := KK.out _ qQ.out
    clear hb
    refine hK.out _ _ (fun _ => jg) (fun hHeld => ?_)
    replace hHeld := hHeld (by decide)
    clear hK
    refine g_pt ?_
    refine g_sc 9 (fun K hK => ?_)
    go_simp
    go_at_call 50
    have t_k := tok2
    refine (E3.out _).mono ?_
    rintro e w5 ⟨v_q, rfl, hb, qI⟩
    obtain ⟨A_q, n_q, cap_q, rfl, -⟩ := id qI.form
    replace qI := Hi qI
    replace qf := Hi (qf.out.below hb)
    replace qw := Hi (qw.out.below hb)
    have qR := Hi (below_next qQ.out hb)
    have jh := KK.out _ qR.out
    clear hb
    clear t_k tok2
    refine hK.out _ _ (fun _ => jh) (fun hHeld => ?_)
    replace hHeld := hHeld (by decide)
    clear hK
    refine g_pt ?_
    refine g_sc 10 (fun K hK => ?_)
    go_simp
    go_at_call 83
    refine (E2.out _ _ _ qw.out qI.out).mono ?_
    rintro e w6 ⟨v_t, rfl, hb, qJ⟩
    obtain ⟨qN, qO, qj, rfl, -⟩ := id qJ.form
    replace qJ := Hi qJ
    replace qf := Hi (qf.out.below hb)
    replace qw := Hi (qw.out.below hb)
    replace qI := Hi (qI.out.below hb)
    have qi := Hi (below_next qR.out hb)
    have ji := KK.out _ qi.out
    obtain ⟨rc_s0, rc_s1, rf_s0, rf_s1⟩ := reads2 (q0.out.keep qi.out)
    have rl_s := (q0.out.keep qi.out).lt
    clear hb
    refine hK.out _ _ (fun _ => ji) (fun hHeld => ?_)
    replace hHeld := hHeld (by decide)
    clear hK
    refine g_pt ?_
    refine g_ts 11 ?_
    refine g_dn ?_
    clear KK KD jf jg jh ji
    replace q0 := kp q0 qi.out
    replace q4 := Hi (q4.out.below qi.out)
    replace BB := nx BB qi.out
    clear qK qQ qR qi
    replace qJ := Hi (qJ.out.far2 q0.out (by decide) (.bool (sgn (t : Int))) (.slice qN qO qj))
    replace q0 := Hi (q0.out.set2 (.bool (sgn (t : Int))) (.slice qN qO qj))
    replace BB := Hi (below_far2 BB.out (p := q5) (by have dd := qM.out; omega) (.bool (sgn (t : Int))) (.slice qN qO qj))
    generalize ((w6.setCell ⟨q5, 0, none⟩ (.bool (sgn (t : Int)))).setCell ⟨q5, 1, none⟩ (.slice qN qO qj)) = w7 at *
    go_wp2_with fail
    go_roundw
    case rel => exact ⟨k + 1, qN, qO, qj, hlt'.out, by go_num, by rw [← ht.out]; exact ⟨q0.out, qJ.out, BB.out⟩⟩
    case measure => have := hlt'.out; simp [RowKit.intOf, ew]; clear e1 e2 e3 ew; omega
  · obtain rfl : k = m := by omega
    obtain ⟨z, hz⟩ : ∃ z, z = D k := ⟨_, rfl⟩
    obtain ⟨y, hy⟩ : ∃ y, y = X 0 := ⟨_, rfl⟩
    rw [← hz] at q0 q4 CC CS R2 R3
    have hw0 := hc.out 0 (by have := h0'.out; omega) wr BB.out
    rw [Nat.add_zero, ← hy] at hw0
    rw [← hy] at R1 R2 R3
    have hex : ¬ (k : Int) < (N : Int) ∨ ((k : Int) < (N : Int) ∧ ∃ x : Nat, wr.cell? ⟨b, off + k, none⟩ = some (.int .u8 (x : Int)) ∧ (¬ (48 : Int) ≤ (x : Int) ∨ ((48 : Int) ≤ (x : Int) ∧ ¬ (x : Int) ≤ 57))) := by
     by_cases hkN : k < N
     · right
       refine ⟨by omega, X k, hc.out k hkN wr BB.out, ?_⟩
       have := HE.out hkN
       omega
     · left; omega
    have k0 : (0 : Int) ≤ (k : Int) := by omega
    clear HX HE CM CA CN CT hz hy hc hk hlt hl hmN
    clear X
    rcases hex with e | ⟨e, x, cx, q | ⟨q, q2⟩⟩
    · skip
      by_cases a1 : k = 0
      · have hR := Hi (R1.out (.inl a1))
        have v0 : ((k : Int) == 0) = true := by rw [beq_iff_eq]; omega
        clear CC CS CW R1 R2 R3 hw0 a1
        go_wp2_with fail
        refine bret (.tuple #[.int .i64 0, .int .i64 0, .int .i64 21]) ?_
        exact ⟨by rw [hR.out]; rfl, BB.out⟩
      · have v0 : ((k : Int) == 0) = false := by rw [beq_eq_false_iff_ne]; omega
        have v1 : ¬ (k : Int) = 0 := by omega
        by_cases a2 : 1 < k
        · have v2 : (1 : Int) < (k : Int) := by omega
          by_cases a3 : y = 48
          · have v3 : ((y : Int) == 48) = true := by rw [beq_iff_eq]; omega
            have hR := Hi (R1.out (.inr ⟨a2, a3⟩))
            clear CC CS CW R1 R2 R3 a1 a2 a3
            go_wp2_with fail
            refine bret (.tuple #[.int .i64 0, .int .i64 0, .int .i64 21]) ?_
            exact ⟨by rw [hR.out]; rfl, BB.out⟩
          · have v3 : ((y : Int) == 48) = false := by rw [beq_eq_false_iff_ne]; omega
            have v4 : ¬ (y : Int) = 48 := by omega
            have hN := Hi (show ¬ (k = 0 ∨ (1 < k ∧ y = 48)) by omega)
            clear a1 a2 a3
            by_cases a4 : most < z
            · have hc4 : decide (cmpI (z : Int) (most : Int) > 0) = true := by rw [cmpI_gt (by omega)]; rfl
              have hR := Hi (R2.out hN.out a4)
              clear CS R1 R2 R3 a4
              generalize cmpI (z : Int) (most : Int) = c at *
              obtain ⟨q6, q7, q8, q9⟩ := reads2 q0.out
              have qb := q0.out.lt
              go_wp2_with fail
              clear q6 q7 q8 q9 qb
              have KK := Hi (fun (w9 : World) (h : Below wr.heap.size wr w9) => (cells2 (q0.out.keep h) : (w9.cell? ⟨q5, 0, none⟩ = some (.bool (sgn (↑z))) ∧ w9.cell? ⟨q5, 1, none⟩ = some (.slice qc qd qa))))
              have K0 := KK.out wr (Below.refl _ _)
              have KD := KK.out wr.drew (below_drew (Below.refl _ _))
              go_region_held3 (fun w9 => (w9.cell? ⟨q5, 0, none⟩ = some (.bool (sgn (↑z))) ∧ w9.cell? ⟨q5, 1, none⟩ = some (.slice qc qd qa)))
               (first | with_reducible exact KD | with_reducible exact K0 | with_reducible exact jj | with_reducible exact qS)
               (first
                 | (go_at_call 50
                    refine (CW.out _).mono ?_
                    rintro e w8 ⟨v_o, rfl, hb, q3⟩
                    obtain ⟨qg, qh, qe, rfl, -⟩ := id q3.form
                    replace q3 := Hi q3
                    have qL := rn (w0 := wr) hb
                    have jj := KK.out _ qL.out
                    clear hb)
                 | (go_at_call 85
                    refine (CC.out _ _ _ (q4.out.below qL.out) q3.out).mono ?_
                    rintro e w10 ⟨rfl, hb⟩
                    replace q3 := Hi (q3.out.below hb)
                    have qk := Hi (below_next qL.out hb)
                    have qS := KK.out _ qk.out
                    clear hb))
              clear KK K0 KD jj qS
              replace q0 := kp q0 qk.out
              replace q4 := Hi (q4.out.below qk.out)
              replace BB := nx BB qk.out
              clear qL qk
              go_wp2_with fail
              refine bret (.tuple #[.int .i64 0, .int .i64 0, .int .i64 30]) ?_
              exact ⟨by rw [hR.out]; rfl, BB.out⟩
            · have hc4 : decide (cmpI (z : Int) (most : Int) > 0) = false := decide_eq_false (by
               have : cmpI (z : Int) (most : Int) ≤ 0 := by unfold cmpI; split <;> (try split) <;> omega
               omega)
              have hR := Hi (R3.out hN.out a4)
              have CS2 := Hi (fun u w hu => CS.out u w hu (by have := hm.out; exact ⟨by omega, by omega⟩))
              clear CS R1 R2 R3 a4
              generalize cmpI (z : Int) (most : Int) = c at *
              obtain ⟨q6, q7, q8, q9⟩ := reads2 q0.out
              have qb := q0.out.lt
              go_wp2_with fail
              clear q6 q7 q8 q9 qb
              have KK := Hi (fun (w9 : World) (h : Below wr.heap.size wr w9) => (cells2 (q0.out.keep h) : (w9.cell? ⟨q5, 0, none⟩ = some (.bool (sgn (↑z))) ∧ w9.cell? ⟨q5, 1, none⟩ = some (.slice qc qd qa))))
              have K0 := KK.out wr (Below.refl _ _)
              have KD := KK.out wr.drew (below_drew (Below.refl _ _))
              go_region_held3 (fun w9 => (w9.cell? ⟨q5, 0, none⟩ = some (.bool (sgn (↑z))) ∧ w9.cell? ⟨q5, 1, none⟩ = some (.slice qc qd qa)))
               (first | with_reducible exact KD | with_reducible exact K0 | with_reducible exact qT | with_reducible exact qU)
               (first
                 | (go_at_call 50
                    refine (CW.out _).mono ?_
                    rintro e w11 ⟨v_o, rfl, hb, q3⟩
                    obtain ⟨qg, qh, qe, rfl, -⟩ := id q3.form
                    replace q3 := Hi q3
                    have qx := rn (w0 := wr) hb
                    have qT := KK.out _ qx.out
                    clear hb)
                 | (go_at_call 85
                    refine (CC.out _ _ _ (q4.out.below qx.out) q3.out).mono ?_
                    rintro e w12 ⟨rfl, hb⟩
                    replace q3 := Hi (q3.out.below hb)
                    have ql := Hi (below_next qx.out hb)
                    have qU := KK.out _ ql.out
                    clear hb))
              clear KK K0 KD qT qU
              replace q0 := kp q0 ql.out
              replace q4 := Hi (q4.out.below ql.out)
              replace BB := nx BB ql.out
              clear qx ql
              obtain ⟨q6, q7, q8, q9⟩ := reads2 q0.out
              have qb := q0.out.lt
              go_wp2_with fail
              refine (CS2.out _ _ q4.out).mono ?_
              rintro e w13 ⟨rfl, hb⟩
              clear q6 q7 q8 q9 qb
              replace q0 := kp q0 hb
              replace q4 := Hi (q4.out.below hb)
              replace q3 := Hi (q3.out.below hb)
              replace BB := nx BB hb
              clear hb
              go_wp2_with fail
              refine bret (.tuple #[.int .i64 (z : Int), .int .i64 (k : Int), .int .i64 0]) ?_
              exact ⟨by rw [hR.out]; rfl, BB.out⟩
        · have v2 : ¬ (1 : Int) < (k : Int) := by omega
          have hN := Hi (show ¬ (k = 0 ∨ (1 < k ∧ y = 48)) by omega)
          clear a1 a2 hw0
          by_cases a4 : most < z
          · have hc4 : decide (cmpI (z : Int) (most : Int) > 0) = true := by rw [cmpI_gt (by omega)]; rfl
            have hR := Hi (R2.out hN.out a4)
            clear CS R1 R2 R3 a4
            generalize cmpI (z : Int) (most : Int) = c at *
            obtain ⟨q6, q7, q8, q9⟩ := reads2 q0.out
            have qb := q0.out.lt
            go_wp2_with fail
            clear q6 q7 q8 q9 qb
            have KK := Hi (fun (w9 : World) (h : Below wr.heap.size wr w9) => (cells2 (q0.out.keep h) : (w9.cell? ⟨q5, 0, none⟩ = some (.bool (sgn (↑z))) ∧ w9.cell? ⟨q5, 1, none⟩ = some (.slice qc qd qa))))
            have K0 := KK.out wr (Below.refl _ _)
            have KD := KK.out wr.drew (below_drew (Below.refl _ _))
            go_region_held3 (fun w9 => (w9.cell? ⟨q5, 0, none⟩ = some (.bool (sgn (↑z))) ∧ w9.cell? ⟨q5, 1, none⟩ = some (.slice qc qd qa)))
             (first | with_reducible exact KD | with_reducible exact K0 | with_reducible exact qV | with_reducible exact qW)
             (first
               | (go_at_call 50
                  refine (CW.out _).mono ?_
                  rintro e w14 ⟨v_o, rfl, hb, q3⟩
                  obtain ⟨qg, qh, qe, rfl, -⟩ := id q3.form
                  replace q3 := Hi q3
                  have qy := rn (w0 := wr) hb
                  have qV := KK.out _ qy.out
                  clear hb)
               | (go_at_call 85
                  refine (CC.out _ _ _ (q4.out.below qy.out) q3.out).mono ?_
                  rintro e w15 ⟨rfl, hb⟩
                  replace q3 := Hi (q3.out.below hb)
                  have qm := Hi (below_next qy.out hb)
                  have qW := KK.out _ qm.out
                  clear hb))
            clear KK K0 KD qV qW
            replace q0 := kp q0 qm.out
            replace q4 := Hi (q4.out.below qm.out)
            replace BB := nx BB qm.out
            clear qy qm
            go_wp2_with fail
            refine bret (.tuple #[.int .i64 0, .int .i64 0, .int .i64 30]) ?_
            exact ⟨by rw [hR.out]; rfl, BB.out⟩
          · have hc4 : decide (cmpI (z : Int) (most : Int) > 0) = false := decide_eq_false (by
             have : cmpI (z : Int) (most : Int) ≤ 0 := by unfold cmpI; split <;> (try split) <;> omega
             omega)
            have hR := Hi (R3.out hN.out a4)
            have CS2 := Hi (fun u w hu => CS.out u w hu (by have := hm.out; exact ⟨by omega, by omega⟩))
            clear CS R1 R2 R3 a4
            generalize cmpI (z : Int) (most : Int) = c at *
            obtain ⟨q6, q7, q8, q9⟩ := reads2 q0.out
            have qb := q0.out.lt
            go_wp2_with fail
            clear q6 q7 q8 q9 qb
            have KK := Hi (fun (w9 : World) (h : Below wr.heap.size wr w9) => (cells2 (q0.out.keep h) : (w9.cell? ⟨q5, 0, none⟩ = some (.bool (sgn (↑z))) ∧ w9.cell? ⟨q5, 1, none⟩ = some (.slice qc qd qa))))
            have K0 := KK.out wr (Below.refl _ _)
            have KD := KK.out wr.drew (below_drew (Below.refl _ _))
            go_region_held3 (fun w9 => (w9.cell? ⟨q5, 0, none⟩ = some (.bool (sgn (↑z))) ∧ w9.cell? ⟨q5, 1, none⟩ = some (.slice qc qd qa)))
             (first | with_reducible exact KD | with_reducible exact K0 | with_reducible exact qX | with_reducible exact qY)
             (first
               | (go_at_call 50
                  refine (CW.out _).mono ?_
                  rintro e w16 ⟨v_o, rfl, hb, q3⟩
                  obtain ⟨qg, qh, qe, rfl, -⟩ := id q3.form
                  replace q3 := Hi q3
                  have qz := rn (w0 := wr) hb
                  have qX := KK.out _ qz.out
                  clear hb)
               | (go_at_call 85
                  refine (CC.out _ _ _ (q4.out.below qz.out) q3.out).mono ?_
                  rintro e w17 ⟨rfl, hb⟩
                  replace q3 := Hi (q3.out.below hb)
                  have qn := Hi (below_next qz.out hb)
                  have qY := KK.out _ qn.out
                  clear hb))
            clear KK K0 KD qX qY
            replace q0 := kp q0 qn.out
            replace q4 := Hi (q4.out.below qn.out)
            replace BB := nx BB qn.out
            clear qz qn
            obtain ⟨q6, q7, q8, q9⟩ := reads2 q0.out
            have qb := q0.out.lt
            go_wp2_with fail
            refine (CS2.out _ _ q4.out).mono ?_
            rintro e w18 ⟨rfl, hb⟩
            clear q6 q7 q8 q9 qb
            replace q0 := kp q0 hb
            replace q4 := Hi (q4.out.below hb)
            replace q3 := Hi (q3.out.below hb)
            replace BB := nx BB hb
            clear hb
            go_wp2_with fail
            refine bret (.tuple #[.int .i64 (z : Int), .int .i64 (k : Int), .int .i64 0]) ?_
            exact ⟨by rw [hR.out]; rfl, BB.out⟩
    · skip
      by_cases a1 : k = 0
      · have hR := Hi (R1.out (.inl a1))
        have v0 : ((k : Int) == 0) = true := by rw [beq_iff_eq]; omega
        clear CC CS CW R1 R2 R3 hw0 a1
        go_wp2_with fail
        refine bret (.tuple #[.int .i64 0, .int .i64 0, .int .i64 21]) ?_
        exact ⟨by rw [hR.out]; rfl, BB.out⟩
      · have v0 : ((k : Int) == 0) = false := by rw [beq_eq_false_iff_ne]; omega
        have v1 : ¬ (k : Int) = 0 := by omega
        by_cases a2 : 1 < k
        · have v2 : (1 : Int) < (k : Int) := by omega
          by_cases a3 : y = 48
          · have v3 : ((y : Int) == 48) = true := by rw [beq_iff_eq]; omega
            have hR := Hi (R1.out (.inr ⟨a2, a3⟩))
            clear CC CS CW R1 R2 R3 a1 a2 a3
            go_wp2_with fail
            refine bret (.tuple #[.int .i64 0, .int .i64 0, .int .i64 21]) ?_
            exact ⟨by rw [hR.out]; rfl, BB.out⟩
          · have v3 : ((y : Int) == 48) = false := by rw [beq_eq_false_iff_ne]; omega
            have v4 : ¬ (y : Int) = 48 := by omega
            have hN := Hi (show ¬ (k = 0 ∨ (1 < k ∧ y = 48)) by omega)
            clear a1 a2 a3
            by_cases a4 : most < z
            · have hc4 : decide (cmpI (z : Int) (most : Int) > 0) = true := by rw [cmpI_gt (by omega)]; rfl
              have hR := Hi (R2.out hN.out a4)
              clear CS R1 R2 R3 a4
              generalize cmpI (z : Int) (most : Int) = c at *
              obtain ⟨q6, q7, q8, q9⟩ := reads2 q0.out
              have qb := q0.out.lt
              go_wp2_with fail
              clear q6 q7 q8 q9 qb
              have KK := Hi (fun (w9 : World) (h : Below wr.heap.size wr w9) => (cells2 (q0.out.keep h) : (w9.cell? ⟨q5, 0, none⟩ = some (.bool (sgn (↑z))) ∧ w9.cell? ⟨q5, 1, none⟩ = some (.slice qc qd qa))))
              have K0 := KK.out wr (Below.refl _ _)
              have KD := KK.out wr.drew (below_drew (Below.refl _ _))
              go_region_held3 (fun w9 => (w9.cell? ⟨q5, 0, none⟩ = some (.bool (sgn (↑z))) ∧ w9.cell? ⟨q5, 1, none⟩ = some (.slice qc qd qa)))
               (first | with_reducible exact KD | with_reducible exact K0 | with_reducible exact qZ | with_reducible exact j0)
               (first
                 | (go_at_call 50
                    refine (CW.out _).mono ?_
                    rintro e w19 ⟨v_o, rfl, hb, q3⟩
                    obtain ⟨qg, qh, qe, rfl, -⟩ := id q3.form
                    replace q3 := Hi q3
                    have qA := rn (w0 := wr) hb
                    have qZ := KK.out _ qA.out
                    clear hb)
                 | (go_at_call 85
                    refine (CC.out _ _ _ (q4.out.below qA.out) q3.out).mono ?_
                    rintro e w20 ⟨rfl, hb⟩
                    replace q3 := Hi (q3.out.below hb)
                    have qo := Hi (below_next qA.out hb)
                    have j0 := KK.out _ qo.out
                    clear hb))
              clear KK K0 KD qZ j0
              replace q0 := kp q0 qo.out
              replace q4 := Hi (q4.out.below qo.out)
              replace BB := nx BB qo.out
              clear qA qo
              go_wp2_with fail
              refine bret (.tuple #[.int .i64 0, .int .i64 0, .int .i64 30]) ?_
              exact ⟨by rw [hR.out]; rfl, BB.out⟩
            · have hc4 : decide (cmpI (z : Int) (most : Int) > 0) = false := decide_eq_false (by
               have : cmpI (z : Int) (most : Int) ≤ 0 := by unfold cmpI; split <;> (try split) <;> omega
               omega)
              have hR := Hi (R3.out hN.out a4)
              have CS2 := Hi (fun u w hu => CS.out u w hu (by have := hm.out; exact ⟨by omega, by omega⟩))
              clear CS R1 R2 R3 a4
              generalize cmpI (z : Int) (most : Int) = c at *
              obtain ⟨q6, q7, q8, q9⟩ := reads2 q0.out
              have qb := q0.out.lt
              go_wp2_with fail
              clear q6 q7 q8 q9 qb
              have KK := Hi (fun (w9 : World) (h : Below wr.heap.size wr w9) => (cells2 (q0.out.keep h) : (w9.cell? ⟨q5, 0, none⟩ = some (.bool (sgn (↑z))) ∧ w9.cell? ⟨q5, 1, none⟩ = some (.slice qc qd qa))))
              have K0 := KK.out wr (Below.refl _ _)
              have KD := KK.out wr.drew (below_drew (Below.refl _ _))
              go_region_held3 (fun w9 => (w9.cell? ⟨q5, 0, none⟩ = some (.bool (sgn (↑z))) ∧ w9.cell? ⟨q5, 1, none⟩ = some (.slice qc qd qa)))
               (first | with_reducible exact KD | with_reducible exact K0 | with_reducible exact j1 | with_reducible exact j2)
               (first
                 | (go_at_call 50
                    refine (CW.out _).mono ?_
                    rintro e w21 ⟨v_o, rfl, hb, q3⟩
                    obtain ⟨qg, qh, qe, rfl, -⟩ := id q3.form
                    replace q3 := Hi q3
                    have qB := rn (w0 := wr) hb
                    have j1 := KK.out _ qB.out
                    clear hb)
                 | (go_at_call 85
                    refine (CC.out _ _ _ (q4.out.below qB.out) q3.out).mono ?_
                    rintro e w22 ⟨rfl, hb⟩
                    replace q3 := Hi (q3.out.below hb)
                    have qp := Hi (below_next qB.out hb)
                    have j2 := KK.out _ qp.out
                    clear hb))
              clear KK K0 KD j1 j2
              replace q0 := kp q0 qp.out
              replace q4 := Hi (q4.out.below qp.out)
              replace BB := nx BB qp.out
              clear qB qp
              obtain ⟨q6, q7, q8, q9⟩ := reads2 q0.out
              have qb := q0.out.lt
              go_wp2_with fail
              refine (CS2.out _ _ q4.out).mono ?_
              rintro e w23 ⟨rfl, hb⟩
              clear q6 q7 q8 q9 qb
              replace q0 := kp q0 hb
              replace q4 := Hi (q4.out.below hb)
              replace q3 := Hi (q3.out.below hb)
              replace BB := nx BB hb
              clear hb
              go_wp2_with fail
              refine bret (.tuple #[.int .i64 (z : Int), .int .i64 (k : Int), .int .i64 0]) ?_
              exact ⟨by rw [hR.out]; rfl, BB.out⟩
        · have v2 : ¬ (1 : Int) < (k : Int) := by omega
          have hN := Hi (show ¬ (k = 0 ∨ (1 < k ∧ y = 48)) by omega)
          clear a1 a2 hw0
          by_cases a4 : most < z
          · have hc4 : decide (cmpI (z : Int) (most : Int) > 0) = true := by rw [cmpI_gt (by omega)]; rfl
            have hR := Hi (R2.out hN.out a4)
            clear CS R1 R2 R3 a4
            generalize cmpI (z : Int) (most : Int) = c at *
            obtain ⟨q6, q7, q8, q9⟩ := reads2 q0.out
            have qb := q0.out.lt
            go_wp2_with fail
            clear q6 q7 q8 q9 qb
            have KK := Hi (fun (w9 : World) (h : Below wr.heap.size wr w9) => (cells2 (q0.out.keep h) : (w9.cell? ⟨q5, 0, none⟩ = some (.bool (sgn (↑z))) ∧ w9.cell? ⟨q5, 1, none⟩ = some (.slice qc qd qa))))
            have K0 := KK.out wr (Below.refl _ _)
            have KD := KK.out wr.drew (below_drew (Below.refl _ _))
            go_region_held3 (fun w9 => (w9.cell? ⟨q5, 0, none⟩ = some (.bool (sgn (↑z))) ∧ w9.cell? ⟨q5, 1, none⟩ = some (.slice qc qd qa)))
             (first | with_reducible exact KD | with_reducible exact K0 | with_reducible exact j3 | with_reducible exact j4)
             (first
               | (go_at_call 50
                  refine (CW.out _).mono ?_
                  rintro e w24 ⟨v_o, rfl, hb, q3⟩
                  obtain ⟨qg, qh, qe, rfl, -⟩ := id q3.form
                  replace q3 := Hi q3
                  have qC := rn (w0 := wr) hb
                  have j3 := KK.out _ qC.out
                  clear hb)
               | (go_at_call 85
                  refine (CC.out _ _ _ (q4.out.below qC.out) q3.out).mono ?_
                  rintro e w25 ⟨rfl, hb⟩
                  replace q3 := Hi (q3.out.below hb)
                  have qq := Hi (below_next qC.out hb)
                  have j4 := KK.out _ qq.out
                  clear hb))
            clear KK K0 KD j3 j4
            replace q0 := kp q0 qq.out
            replace q4 := Hi (q4.out.below qq.out)
            replace BB := nx BB qq.out
            clear qC qq
            go_wp2_with fail
            refine bret (.tuple #[.int .i64 0, .int .i64 0, .int .i64 30]) ?_
            exact ⟨by rw [hR.out]; rfl, BB.out⟩
          · have hc4 : decide (cmpI (z : Int) (most : Int) > 0) = false := decide_eq_false (by
             have : cmpI (z : Int) (most : Int) ≤ 0 := by unfold cmpI; split <;> (try split) <;> omega
             omega)
            have hR := Hi (R3.out hN.out a4)
            have CS2 := Hi (fun u w hu => CS.out u w hu (by have := hm.out; exact ⟨by omega, by omega⟩))
            clear CS R1 R2 R3 a4
            generalize cmpI (z : Int) (most : Int) = c at *
            obtain ⟨q6, q7, q8, q9⟩ := reads2 q0.out
            have qb := q0.out.lt
            go_wp2_with fail
            clear q6 q7 q8 q9 qb
            have KK := Hi (fun (w9 : World) (h : Below wr.heap.size wr w9) => (cells2 (q0.out.keep h) : (w9.cell? ⟨q5, 0, none⟩ = some (.bool (sgn (↑z))) ∧ w9.cell? ⟨q5, 1, none⟩ = some (.slice qc qd qa))))
            have K0 := KK.out wr (Below.refl _ _)
            have KD := KK.out wr.drew (below_drew (Below.refl _ _))
            go_region_held3 (fun w9 => (w9.cell? ⟨q5, 0, none⟩ = some (.bool (sgn (↑z))) ∧ w9.cell? ⟨q5, 1, none⟩ = some (.slice qc qd qa)))
             (first | with_reducible exact KD | with_reducible exact K0 | with_reducible exact j5 | with_reducible exact j6)
             (first
               | (go_at_call 50
                  refine (CW.out _).mono ?_
                  rintro e w26 ⟨v_o, rfl, hb, q3⟩
                  obtain ⟨qg, qh, qe, rfl, -⟩ := id q3.form
                  replace q3 := Hi q3
                  have qD := rn (w0 := wr) hb
                  have j5 := KK.out _ qD.out
                  clear hb)
               | (go_at_call 85
                  refine (CC.out _ _ _ (q4.out.below qD.out) q3.out).mono ?_
                  rintro e w27 ⟨rfl, hb⟩
                  replace q3 := Hi (q3.out.below hb)
                  have qr := Hi (below_next qD.out hb)
                  have j6 := KK.out _ qr.out
                  clear hb))
            clear KK K0 KD j5 j6
            replace q0 := kp q0 qr.out
            replace q4 := Hi (q4.out.below qr.out)
            replace BB := nx BB qr.out
            clear qD qr
            obtain ⟨q6, q7, q8, q9⟩ := reads2 q0.out
            have qb := q0.out.lt
            go_wp2_with fail
            refine (CS2.out _ _ q4.out).mono ?_
            rintro e w28 ⟨rfl, hb⟩
            clear q6 q7 q8 q9 qb
            replace q0 := kp q0 hb
            replace q4 := Hi (q4.out.below hb)
            replace q3 := Hi (q3.out.below hb)
            replace BB := nx BB hb
            clear hb
            go_wp2_with fail
            refine bret (.tuple #[.int .i64 (z : Int), .int .i64 (k : Int), .int .i64 0]) ?_
            exact ⟨by rw [hR.out]; rfl, BB.out⟩
    · skip
      by_cases a1 : k = 0
      · have hR := Hi (R1.out (.inl a1))
        have v0 : ((k : Int) == 0) = true := by rw [beq_iff_eq]; omega
        clear CC CS CW R1 R2 R3 hw0 a1
        go_wp2_with fail
        refine bret (.tuple #[.int .i64 0, .int .i64 0, .int .i64 21]) ?_
        exact ⟨by rw [hR.out]; rfl, BB.out⟩
      · have v0 : ((k : Int) == 0) = false := by rw [beq_eq_false_iff_ne]; omega
        have v1 : ¬ (k : Int) = 0 := by omega
        by_cases a2 : 1 < k
        · have v2 : (1 : Int) < (k : Int) := by omega
          by_cases a3 : y = 48
          · have v3 : ((y : Int) == 48) = true := by rw [beq_iff_eq]; omega
            have hR := Hi (R1.out (.inr ⟨a2, a3⟩))
            clear CC CS CW R1 R2 R3 a1 a2 a3
            go_wp2_with fail
            refine bret (.tuple #[.int .i64 0, .int .i64 0, .int .i64 21]) ?_
            exact ⟨by rw [hR.out]; rfl, BB.out⟩
          · have v3 : ((y : Int) == 48) = false := by rw [beq_eq_false_iff_ne]; omega
            have v4 : ¬ (y : Int) = 48 := by omega
            have hN := Hi (show ¬ (k = 0 ∨ (1 < k ∧ y = 48)) by omega)
            clear a1 a2 a3
            by_cases a4 : most < z
            · have hc4 : decide (cmpI (z : Int) (most : Int) > 0) = true := by rw [cmpI_gt (by omega)]; rfl
              have hR := Hi (R2.out hN.out a4)
              clear CS R1 R2 R3 a4
              generalize cmpI (z : Int) (most : Int) = c at *
              obtain ⟨q6, q7, q8, q9⟩ := reads2 q0.out
              have qb := q0.out.lt
              go_wp2_with fail
              clear q6 q7 q8 q9 qb
              have KK := Hi (fun (w9 : World) (h : Below wr.heap.size wr w9) => (cells2 (q0.out.keep h) : (w9.cell? ⟨q5, 0, none⟩ = some (.bool (sgn (↑z))) ∧ w9.cell? ⟨q5, 1, none⟩ = some (.slice qc qd qa))))
              have K0 := KK.out wr (Below.refl _ _)
              have KD := KK.out wr.drew (below_drew (Below.refl _ _))
              go_region_held3 (fun w9 => (w9.cell? ⟨q5, 0, none⟩ = some (.bool (sgn (↑z))) ∧ w9.cell? ⟨q5, 1, none⟩ = some (.slice qc qd qa)))
               (first | with_reducible exact KD | with_reducible exact K0 | with_reducible exact j7 | with_reducible exact j8)
               (first
                 | (go_at_call 50
                    refine (CW.out _).mono ?_
                    rintro e w29 ⟨v_o, rfl, hb, q3⟩
                    obtain ⟨qg, qh, qe, rfl, -⟩ := id q3.form
                    replace q3 := Hi q3
                    have qE := rn (w0 := wr) hb
                    have j7 := KK.out _ qE.out
                    clear hb)
                 | (go_at_call 85
                    refine (CC.out _ _ _ (q4.out.below qE.out) q3.out).mono ?_
                    rintro e w30 ⟨rfl, hb⟩
                    replace q3 := Hi (q3.out.below hb)
                    have qs := Hi (below_next qE.out hb)
                    have j8 := KK.out _ qs.out
                    clear hb))
              clear KK K0 KD j7 j8
              replace q0 := kp q0 qs.out
              replace q4 := Hi (q4.out.below qs.out)
              replace BB := nx BB qs.out
              clear qE qs
              go_wp2_with fail
              refine bret (.tuple #[.int .i64 0, .int .i64 0, .int .i64 30]) ?_
              exact ⟨by rw [hR.out]; rfl, BB.out⟩
            · have hc4 : decide (cmpI (z : Int) (most : Int) > 0) = false := decide_eq_false (by
               have : cmpI (z : Int) (most : Int) ≤ 0 := by unfold cmpI; split <;> (try split) <;> omega
               omega)
              have hR := Hi (R3.out hN.out a4)
              have CS2 := Hi (fun u w hu => CS.out u w hu (by have := hm.out; exact ⟨by omega, by omega⟩))
              clear CS R1 R2 R3 a4
              generalize cmpI (z : Int) (most : Int) = c at *
              obtain ⟨q6, q7, q8, q9⟩ := reads2 q0.out
              have qb := q0.out.lt
              go_wp2_with fail
              clear q6 q7 q8 q9 qb
              have KK := Hi (fun (w9 : World) (h : Below wr.heap.size wr w9) => (cells2 (q0.out.keep h) : (w9.cell? ⟨q5, 0, none⟩ = some (.bool (sgn (↑z))) ∧ w9.cell? ⟨q5, 1, none⟩ = some (.slice qc qd qa))))
              have K0 := KK.out wr (Below.refl _ _)
              have KD := KK.out wr.drew (below_drew (Below.refl _ _))
              go_region_held3 (fun w9 => (w9.cell? ⟨q5, 0, none⟩ = some (.bool (sgn (↑z))) ∧ w9.cell? ⟨q5, 1, none⟩ = some (.slice qc qd qa)))
               (first | with_reducible exact KD | with_reducible exact K0 | with_reducible exact j9 | with_reducible exact ja)
               (first
                 | (go_at_call 50
                    refine (CW.out _).mono ?_
                    rintro e w31 ⟨v_o, rfl, hb, q3⟩
                    obtain ⟨qg, qh, qe, rfl, -⟩ := id q3.form
                    replace q3 := Hi q3
                    have qF := rn (w0 := wr) hb
                    have j9 := KK.out _ qF.out
                    clear hb)
                 | (go_at_call 85
                    refine (CC.out _ _ _ (q4.out.below qF.out) q3.out).mono ?_
                    rintro e w32 ⟨rfl, hb⟩
                    replace q3 := Hi (q3.out.below hb)
                    have qt := Hi (below_next qF.out hb)
                    have ja := KK.out _ qt.out
                    clear hb))
              clear KK K0 KD j9 ja
              replace q0 := kp q0 qt.out
              replace q4 := Hi (q4.out.below qt.out)
              replace BB := nx BB qt.out
              clear qF qt
              obtain ⟨q6, q7, q8, q9⟩ := reads2 q0.out
              have qb := q0.out.lt
              go_wp2_with fail
              refine (CS2.out _ _ q4.out).mono ?_
              rintro e w33 ⟨rfl, hb⟩
              clear q6 q7 q8 q9 qb
              replace q0 := kp q0 hb
              replace q4 := Hi (q4.out.below hb)
              replace q3 := Hi (q3.out.below hb)
              replace BB := nx BB hb
              clear hb
              go_wp2_with fail
              refine bret (.tuple #[.int .i64 (z : Int), .int .i64 (k : Int), .int .i64 0]) ?_
              exact ⟨by rw [hR.out]; rfl, BB.out⟩
        · have v2 : ¬ (1 : Int) < (k : Int) := by omega
          have hN := Hi (show ¬ (k = 0 ∨ (1 < k ∧ y = 48)) by omega)
          clear a1 a2 hw0
          by_cases a4 : most < z
          · have hc4 : decide (cmpI (z : Int) (most : Int) > 0) = true := by rw [cmpI_gt (by omega)]; rfl
            have hR := Hi (R2.out hN.out a4)
            clear CS R1 R2 R3 a4
            generalize cmpI (z : Int) (most : Int) = c at *
            obtain ⟨q6, q7, q8, q9⟩ := reads2 q0.out
            have qb := q0.out.lt
            go_wp2_with fail
            clear q6 q7 q8 q9 qb
            have KK := Hi (fun (w9 : World) (h : Below wr.heap.size wr w9) => (cells2 (q0.out.keep h) : (w9.cell? ⟨q5, 0, none⟩ = some (.bool (sgn (↑z))) ∧ w9.cell? ⟨q5, 1, none⟩ = some (.slice qc qd qa))))
            have K0 := KK.out wr (Below.refl _ _)
            have KD := KK.out wr.drew (below_drew (Below.refl _ _))
            go_region_held3 (fun w9 => (w9.cell? ⟨q5, 0, none⟩ = some (.bool (sgn (↑z))) ∧ w9.cell? ⟨q5, 1, none⟩ = some (.slice qc qd qa)))
             (first | with_reducible exact KD | with_reducible exact K0 | with_reducible exact jb | with_reducible exact jc)
             (first
               | (go_at_call 50
                  refine (CW.out _).mono ?_
                  rintro e w34 ⟨v_o, rfl, hb, q3⟩
                  obtain ⟨qg, qh, qe, rfl, -⟩ := id q3.form
                  replace q3 := Hi q3
                  have qG := rn (w0 := wr) hb
                  have jb := KK.out _ qG.out
                  clear hb)
               | (go_at_call 85
                  refine (CC.out _ _ _ (q4.out.below qG.out) q3.out).mono ?_
                  rintro e w35 ⟨rfl, hb⟩
                  replace q3 := Hi (q3.out.below hb)
                  have qu := Hi (below_next qG.out hb)
                  have jc := KK.out _ qu.out
                  clear hb))
            clear KK K0 KD jb jc
            replace q0 := kp q0 qu.out
            replace q4 := Hi (q4.out.below qu.out)
            replace BB := nx BB qu.out
            clear qG qu
            go_wp2_with fail
            refine bret (.tuple #[.int .i64 0, .int .i64 0, .int .i64 30]) ?_
            exact ⟨by rw [hR.out]; rfl, BB.out⟩
          · have hc4 : decide (cmpI (z : Int) (most : Int) > 0) = false := decide_eq_false (by
             have : cmpI (z : Int) (most : Int) ≤ 0 := by unfold cmpI; split <;> (try split) <;> omega
             omega)
            have hR := Hi (R3.out hN.out a4)
            have CS2 := Hi (fun u w hu => CS.out u w hu (by have := hm.out; exact ⟨by omega, by omega⟩))
            clear CS R1 R2 R3 a4
            generalize cmpI (z : Int) (most : Int) = c at *
            obtain ⟨q6, q7, q8, q9⟩ := reads2 q0.out
            have qb := q0.out.lt
            go_wp2_with fail
            clear q6 q7 q8 q9 qb
            have KK := Hi (fun (w9 : World) (h : Below wr.heap.size wr w9) => (cells2 (q0.out.keep h) : (w9.cell? ⟨q5, 0, none⟩ = some (.bool (sgn (↑z))) ∧ w9.cell? ⟨q5, 1, none⟩ = some (.slice qc qd qa))))
            have K0 := KK.out wr (Below.refl _ _)
            have KD := KK.out wr.drew (below_drew (Below.refl _ _))
            go_region_held3 (fun w9 => (w9.cell? ⟨q5, 0, none⟩ = some (.bool (sgn (↑z))) ∧ w9.cell? ⟨q5, 1, none⟩ = some (.slice qc qd qa)))
             (first | with_reducible exact KD | with_reducible exact K0 | with_reducible exact jd | with_reducible exact je)
             (first
               | (go_at_call 50
                  refine (CW.out _).mono ?_
                  rintro e w36 ⟨v_o, rfl, hb, q3⟩
                  obtain ⟨qg, qh, qe, rfl, -⟩ := id q3.form
                  replace q3 := Hi q3
                  have qH := rn (w0 := wr) hb
                  have jd := KK.out _ qH.out
                  clear hb)
               | (go_at_call 85
                  refine (CC.out _ _ _ (q4.out.below qH.out) q3.out).mono ?_
                  rintro e w37 ⟨rfl, hb⟩
                  replace q3 := Hi (q3.out.below hb)
                  have qv := Hi (below_next qH.out hb)
                  have je := KK.out _ qv.out
                  clear hb))
            clear KK K0 KD jd je
            replace q0 := kp q0 qv.out
            replace q4 := Hi (q4.out.below qv.out)
            replace BB := nx BB qv.out
            clear qH qv
            obtain ⟨q6, q7, q8, q9⟩ := reads2 q0.out
            have qb := q0.out.lt
            go_wp2_with fail
            refine (CS2.out _ _ q4.out).mono ?_
            rintro e w38 ⟨rfl, hb⟩
            clear q6 q7 q8 q9 qb
            replace q0 := kp q0 hb
            replace q4 := Hi (q4.out.below hb)
            replace q3 := Hi (q3.out.below hb)
            replace BB := nx BB hb
            clear hb
            go_wp2_with fail
            refine bret (.tuple #[.int .i64 (z : Int), .int .i64 (k : Int), .int .i64 0]) ?_
            exact ⟨by rw [hR.out]; rfl, BB.out⟩
theorem rnumber (v : Value) (l : List UInt8) (most : Nat) (hm : most ≤ 32768) (hl : l.length ≤ 20000) (w : World) (h : BY w v l) : Calls Tryz.prog 47 #[v, .int .i64 (most : Int)] w (GiveN3 (numR l most).2.1 (numR l most).2.2 (numR l most).1 w) := by
 obtain ⟨A, cap, e⟩ := h.form
 subst e
 cases l with
 | nil => exact rnum_no 0 cap most A rfl w
 | cons c t =>
   obtain ⟨b, off, c', e, -, -, hlt, hc⟩ := h.some (by simp)
   simp only [Value.slice.injEq] at e
   obtain ⟨rfl, -, -⟩ := e
   exact rnum_q (c :: t) _ cap b off most rfl hl (by simp) hm w (fun i hi w1 hb => (hb.cell (p := ⟨b, off + i, none⟩) hlt).trans (hc i hi))
attribute [go_sem] Tryz.results26
theorem blk_le : ∀ (b : Bool) (l : List UInt8), blk b l ≤ l.length
 | true, [] => Nat.le_refl _
 | false, [] => Nat.le_refl _
 | false, c :: t => by
   have h1 := blk_le false t
   have h2 := blk_le true t
   show (if blankB c = true then 1 + blk false t else if c = 35 then 1 + blk true t else 0) ≤ t.length + 1
   split
   · omega
   · split <;> omega
 | true, c :: t => by
   have := blk_le (decide (c ≠ 10)) t
   show 1 + blk (decide (c ≠ 10)) t ≤ t.length + 1
   omega
theorem blkR_le (r : List UInt8) : (blkR r).2 ≤ r.length := by
 have := blk_le false r
 unfold blkR
 split
 · exact Nat.zero_le _
 split
 · exact Nat.zero_le _
 · exact this
theorem numR_len (r : List UInt8) (m : Nat) : (numR r m).2.2 ≤ r.length := by
 have := dgN_le r
 unfold numR
 split
 · exact Nat.zero_le _
 split
 · exact Nat.zero_le _
 split
 · exact Nat.zero_le _
 · exact this
/-- A round: blanks, then a number. -/
structure RD (n cap b off : Nat) (w : World) (M a cb t cn x a' : Nat) : Prop where
 la : a ≤ n
 le : a ≤ t
 le2 : t ≤ a'
 blank : ∀ w1, Below w.heap.size w w1 → a ≠ cap → Calls Tryz.prog 46 #[.slice (some ⟨b, off + a, none⟩) (n - a) (cap - a)] w1 (GiveTwo (t - a) cb w1)
 cap1 : a = cap → cb = 20
 lb : t ≤ n
 num : ∀ w1, Below w.heap.size w w1 → t ≠ cap → Calls Tryz.prog 47 #[.slice (some ⟨b, off + t, none⟩) (n - t) (cap - t), .int .i64 (M : Int)] w1 (GiveN3 x (a' - t) cn w1)
 cap2 : t = cap → cn = 20
 ln : a' ≤ n
theorem rd_mk (l : List UInt8) (n cap b off : Nat) (hn : n = l.length) (hl : n ≤ 20000) (w : World) (h : BY w (.slice (some ⟨b, off, none⟩) n cap) l) (M a : Nat) (hM : M ≤ 32768) (ha : a ≤ n) :
 RD n cap b off w M a (blkR (l.drop a)).1 (a + (blkR (l.drop a)).2) (numR ((l.drop a).drop (blkR (l.drop a)).2) M).1 (numR ((l.drop a).drop (blkR (l.drop a)).2) M).2.1 (a + (blkR (l.drop a)).2 + (numR ((l.drop a).drop (blkR (l.drop a)).2) M).2.2) := by
 have h1 := blkR_le (l.drop a)
 rw [List.length_drop] at h1
 have h2 := numR_len ((l.drop a).drop (blkR (l.drop a)).2) M
 rw [List.length_drop, List.length_drop] at h2
 obtain ⟨g1, g2, -⟩ := by_cap hn.symm h
 have hd : ∀ k, k ≤ n → ∀ w1, Below w.heap.size w w1 → BY w1 (.slice (some ⟨b, off + k, none⟩) (n - k) (cap - k)) (l.drop k) := fun k hk w1 hb => (by_drop hn.symm h b off rfl k hk).below hb
 refine ⟨ha, by omega, by omega, fun w1 hb hk => ?_, fun e => ?_, by omega, fun w1 hb hk => ?_, fun e => ?_, by omega⟩
 · rw [Nat.add_sub_cancel_left]
   exact rblank _ _ (by rw [List.length_drop]; omega) w1 (hd a ha w1 hb)
 · rw [List.drop_of_length_le (by omega)]; rfl
 · rw [Nat.add_sub_cancel_left, List.drop_drop]
   exact rnumber _ _ M hM (by rw [List.length_drop]; omega) w1 (hd _ (by omega) w1 hb)
 · rw [List.drop_drop, List.drop_of_length_le (show l.length ≤ a + (blkR (l.drop a)).2 by omega)]; rfl
def GiveHd15 (c : Nat) (P : Nat → Prop) (x y z : Nat) (w : World) (e : Ending) (w' : World) : Prop :=
 ∃ A X Y Z : Int, e = .returned (.tuple #[.int .i64 A, imv X Y Z (.slice none 0 0), .int .i64 (c : Int)]) ∧ Below w.heap.size w w' ∧ (c = 0 → ∃ a : Nat, P a ∧ A = (a : Int) ∧ X = (x : Int) ∧ Y = (y : Int) ∧ Z = (z : Int))
abbrev C8 (w : World) (b o : Nat) (x : Int) : Prop := Hid (∀ w1, Below w.heap.size w w1 → w1.cell? ⟨b, o, none⟩ = some (.int .u8 x))
theorem rhead_nil (n cap : Nat) (A : Option Addr) (hn : n = 0) (P : Nat → Prop) (x y z : Nat) (w : World) : Calls Tryz.prog 26 #[.slice A n cap] w (GiveHd15 20 P x y z w) := by
 subst hn
 go_enter Tryz.func26, Tryz.ntmps26
 go_upto_region 1 with fail
 obtain ⟨w0, e, BB, q0⟩ := en1 w #[.int .i64 0, .int .i64 0, .int .i64 0, .slice none 0 0] IT
 rw [e]; clear e
 obtain ⟨q2, q3, q4, q5, q6, q7, q8, q9⟩ := reads4 q0.out
 have qa := q0.out.lt
 go_wp2_with fail
 clear q2 q3 q4 q5 q6 q7 q8 q9 qa
 have F := st4 q0 BB 0 (.int .i64 0) 1 (.int .i64 0) 2 (.int .i64 0) 3 (.slice none 0 0)
 clear q0 BB
 obtain ⟨w1, e, q0, BB, F⟩ := F
 rw [e]; clear e
 clear F
 obtain ⟨q2, q3, q4, q5, q6, q7, q8, q9⟩ := reads4 q0.out
 have qa := q0.out.lt
 refine bret (.tuple #[.int .i64 0, imv 0 0 0 (.slice none 0 0), .int .i64 20]) ?_
 exact ⟨0, 0, 0, 0, rfl, BB.out, fun e => absurd e (by simp)⟩
theorem rhead_P (n cap b off : Nat) (hn : n = 1) (P : Nat → Prop) (x y z : Nat) (w : World) (C0 : C8 w b off 80) : Calls Tryz.prog 26 #[.slice (some ⟨b, off, none⟩) n cap] w (GiveHd15 20 P x y z w) := by
 subst hn
 go_enter Tryz.func26, Tryz.ntmps26
 go_upto_region 1 with fail
 obtain ⟨w0, e, BB, q0⟩ := en1 w #[.int .i64 0, .int .i64 0, .int .i64 0, .slice none 0 0] IT
 rw [e]; clear e
 have c0 := C0.out _ BB.out
 obtain ⟨q2, q3, q4, q5, q6, q7, q8, q9⟩ := reads4 q0.out
 have qa := q0.out.lt
 go_wp2_with fail
 clear q2 q3 q4 q5 q6 q7 q8 q9 qa
 have F := st4 q0 BB 0 (.int .i64 0) 1 (.int .i64 0) 2 (.int .i64 0) 3 (.slice none 0 0)
 clear q0 BB
 obtain ⟨w1, e, q0, BB, F⟩ := F
 rw [e]; clear e
 clear F
 obtain ⟨q2, q3, q4, q5, q6, q7, q8, q9⟩ := reads4 q0.out
 have qa := q0.out.lt
 refine bret (.tuple #[.int .i64 0, imv 0 0 0 (.slice none 0 0), .int .i64 20]) ?_
 exact ⟨0, 0, 0, 0, rfl, BB.out, fun e => absurd e (by simp)⟩
theorem rhead_x (n cap b off : Nat) (c : Int) (hn : (0 : Int) < n) (hn0 : ((n : Int) == 0) = false) (hc : (c == 80) = false) (hc2 : (c != 80) = true) (P : Nat → Prop) (x y z : Nat) (w : World) (C0 : C8 w b off c) : Calls Tryz.prog 26 #[.slice (some ⟨b, off, none⟩) n cap] w (GiveHd15 21 P x y z w) := by
 go_enter Tryz.func26, Tryz.ntmps26
 go_upto_region 1 with fail
 obtain ⟨w0, e, BB, q0⟩ := en1 w #[.int .i64 0, .int .i64 0, .int .i64 0, .slice none 0 0] IT
 rw [e]; clear e
 have c0 := C0.out _ BB.out
 by_cases h1 : n = 1
 · have q1 : ((n : Int) == 1) = true := by rw [beq_iff_eq]; omega
   obtain ⟨q2, q3, q4, q5, q6, q7, q8, q9⟩ := reads4 q0.out
   have qa := q0.out.lt
   go_wp2_with fail
   clear q2 q3 q4 q5 q6 q7 q8 q9 qa
   have F := st4 q0 BB 0 (.int .i64 0) 1 (.int .i64 0) 2 (.int .i64 0) 3 (.slice none 0 0)
   clear q0 BB
   obtain ⟨w1, e, q0, BB, F⟩ := F
   rw [e]; clear e
   clear F
   obtain ⟨q2, q3, q4, q5, q6, q7, q8, q9⟩ := reads4 q0.out
   have qa := q0.out.lt
   refine bret (.tuple #[.int .i64 0, imv 0 0 0 (.slice none 0 0), .int .i64 21]) ?_
   exact ⟨0, 0, 0, 0, rfl, BB.out, fun e => absurd e (by simp)⟩
 · have q1 : ((n : Int) == 1) = false := by rw [beq_eq_false_iff_ne]; omega
   clear h1
   obtain ⟨q2, q3, q4, q5, q6, q7, q8, q9⟩ := reads4 q0.out
   have qa := q0.out.lt
   go_wp2_with fail
   clear q2 q3 q4 q5 q6 q7 q8 q9 qa
   have F := st4 q0 BB 0 (.int .i64 0) 1 (.int .i64 0) 2 (.int .i64 0) 3 (.slice none 0 0)
   clear q0 BB
   obtain ⟨w1, e, q0, BB, F⟩ := F
   rw [e]; clear e
   clear F
   obtain ⟨q2, q3, q4, q5, q6, q7, q8, q9⟩ := reads4 q0.out
   have qa := q0.out.lt
   refine bret (.tuple #[.int .i64 0, imv 0 0 0 (.slice none 0 0), .int .i64 21]) ?_
   exact ⟨0, 0, 0, 0, rfl, BB.out, fun e => absurd e (by simp)⟩
theorem rhead_y (n cap b off : Nat) (c : Int) (hn : (0 : Int) < n) (hn1 : (1 : Int) < n) (hn2 : ¬ (n : Int) < 2) (hn0 : ((n : Int) == 0) = false) (hn3 : ((n : Int) == 1) = false) (h5 : (c != 53) = true) (h6 : (c != 54) = true) (P : Nat → Prop) (x y z : Nat) (w : World) (C0 : C8 w b off 80) (C1 : C8 w b (off + 1) c) : Calls Tryz.prog 26 #[.slice (some ⟨b, off, none⟩) n cap] w (GiveHd15 21 P x y z w) := by
 go_enter Tryz.func26, Tryz.ntmps26
 go_upto_region 1 with fail
 obtain ⟨w0, e, BB, q0⟩ := en1 w #[.int .i64 0, .int .i64 0, .int .i64 0, .slice none 0 0] IT
 rw [e]; clear e
 have c0 := C0.out _ BB.out
 have c1 := C1.out _ BB.out
 obtain ⟨q2, q3, q4, q5, q6, q7, q8, q9⟩ := reads4 q0.out
 have qa := q0.out.lt
 go_wp2_with fail
 clear q2 q3 q4 q5 q6 q7 q8 q9 qa
 have F := st4 q0 BB 0 (.int .i64 0) 1 (.int .i64 0) 2 (.int .i64 0) 3 (.slice none 0 0)
 clear q0 BB
 obtain ⟨w1, e, q0, BB, F⟩ := F
 rw [e]; clear e
 clear F
 obtain ⟨q2, q3, q4, q5, q6, q7, q8, q9⟩ := reads4 q0.out
 have qa := q0.out.lt
 refine bret (.tuple #[.int .i64 0, imv 0 0 0 (.slice none 0 0), .int .i64 21]) ?_
 exact ⟨0, 0, 0, 0, rfl, BB.out, fun e => absurd e (by simp)⟩
/-- The code. -/
def hdS (cb0 cn0 cb1 cn1 cb2 cn2 x0 x1 x2 co : Nat) : Nat :=
 if cb0 ≠ 0 then cb0 else if cn0 ≠ 0 then cn0 else if cb1 ≠ 0 then cb1 else if cn1 ≠ 0 then cn1 else if x0 < 1 ∨ x1 < 1 then 12 else if 4194304 < x0 * x1 then 30 else
 if cb2 ≠ 0 then cb2 else if cn2 ≠ 0 then cn2 else if x2 ≠ 255 then 21 else co
end Go.Proofs.YtikpobembcgbfaaGreatDoor
