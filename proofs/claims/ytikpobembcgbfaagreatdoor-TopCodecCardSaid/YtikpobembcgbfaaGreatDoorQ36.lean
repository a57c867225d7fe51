/- Parts of the proof: Rh1 RhP. -/
import Derived.Test.YtikpobembcgbfaaGreatDoorQ26
import Derived.Test.YtikpobembcgbfaaGreatDoorQ14
set_option linter.unusedVariables false
set_option linter.unusedSimpArgs false
set_option maxRecDepth 100000
set_option maxHeartbeats 40000000
namespace Go.Proofs.YtikpobembcgbfaaGreatDoor
open Go.RowKit Go.Lib
attribute [go_sem] Tryz.results26
theorem rhead_k (n cap b off : Nat) (c1v : Int) (hn0 : (0 : Int) < n) (hn1 : (1 : Int) < n) (hn2 : ¬ (n : Int) < 2) (hn3 : ((n : Int) == 0) = false) (hn4 : ((n : Int) == 1) = false) (hcap : Hid (n ≤ cap)) (hcap2 : Hid ((cap : Int) ≤ 9223372036854775807)) (hn20 : Hid (n ≤ 20000)) (w : World) (C0 : C8 w b off 80) (C1 : C8 w b (off + 1) c1v)
 (a0 cb0 t0 cn0 x0 a1 cb1 t1 cn1 x1 a2 cb2 t2 cn2 x2 a3 co no S : Nat) (zn : Nat) (z : Int) (hz : z = zn) (hk : c1v = 53 ∧ zn = 1 ∨ c1v = 54 ∧ zn = 3) (P : Nat → Prop) (ha0 : a0 = 2)
 (R0 : Hid (RD n cap b off w 32768 a0 cb0 t0 cn0 x0 a1)) (R1 : Hid (RD n cap b off w 32768 a1 cb1 t1 cn1 x1 a2)) (R2 : Hid (RD n cap b off w 255 a2 cb2 t2 cn2 x2 a3))
 (RO : Hid (∀ w1, Below w.heap.size w w1 → a3 ≠ cap → Calls Tryz.prog 48 #[.slice (some ⟨b, off + a3, none⟩) (n - a3) (cap - a3)] w1 (GiveTwo no co w1)))
 (RO2 : Hid (a3 = cap → co = 20)) (RO3 : Hid (no ≤ 1)) (hx : Hid (x0 ≤ 32768 ∧ x1 ≤ 32768)) (ES : Hid (S = hdS cb0 cn0 cb1 cn1 cb2 cn2 x0 x1 x2 co)) (HP : Hid (S = 0 → P (a3 + no))) :
 Calls Tryz.prog 26 #[.slice (some ⟨b, off, none⟩) n cap] w (GiveHd15 S P x0 x1 zn w) := by
 have NB := Hi (fun n cap A hn w => rblank_no n cap A hn w)
 have NN := Hi (fun n cap most A hn w => rnum_no n cap most A hn w)
 have NO := Hi (fun n cap A hn w => rone_no n cap A hn w)
 replace ha0 := Hi ha0
 replace hz := Hi hz
 go_enter Tryz.func26, Tryz.ntmps26
 go_upto_region 1 with fail
 obtain ⟨w0, e, BB, q0⟩ := en1 w #[.int .i64 0, .int .i64 0, .int .i64 0, .slice none 0 0] IT
 rw [e]; clear e
 have c0 := C0.out _ BB.out
 have c1 := C1.out _ BB.out
 obtain ⟨q2, q3, q4, q5, q6, q7, q8, q9⟩ := reads4 q0.out
 have qa := q0.out.lt
 go_upto_region 3 with fail
 clear q2 q3 q4 q5 q6 q7 q8 q9 qa
 go_cut [51] from 31 to 51 (fun u wc => u = .bool false ∧ Hid (AtB wc w.heap.size #[.int .i64 0, .int .i64 0, .int .i64 0, .slice none 0 0] IT ∧ Below w.heap.size w wc))
 case first =>
  rcases hk with ⟨rfl, -⟩ | ⟨rfl, -⟩
  · go_wp2_with fail
    go_meet
    exact ⟨rfl, q0.out, BB.out⟩
  · go_wp2_with fail
    go_meet
    exact ⟨rfl, q0.out, BB.out⟩
 case rest =>
 clear q0 BB c0 c1
 obtain ⟨rfl, hI⟩ := hcut
 obtain ⟨q0, BB⟩ := hI.out
 replace q0 := Hi q0; replace BB := Hi BB
 clear hI
 go_upto_region 6 with fail
 have qt := Hi (And.intro BB.out.size (And.intro q0.out.lt (True.intro)))
 obtain ⟨w1, qu, e1, e2, hb, q1⟩ := bx wc #[.int .i64 0, .int .i64 0, .int .i64 1, .slice none 0 0] IT
 rw [e2] at qt; rw [e1, e2]
 replace q0 := kp q0 hb
 replace BB := nx BB hb
 clear hb e1 e2
 have c1 := C1.out _ BB.out
 obtain ⟨qb, qc, qd, qe, qf, qg, qh, qi⟩ := reads4 q1.out
 have qr := q1.out.lt
 go_upto_if 57 with fail
 clear qb qc qd qe qf qg qh qi qr
 go_cut [] (fun wd => Hid (AtB wd qu #[.int .i64 0, .int .i64 0, .int .i64 z, .slice none 0 0] IT ∧ AtB wd w.heap.size #[.int .i64 0, .int .i64 0, .int .i64 0, .slice none 0 0] IT ∧ Below w.heap.size w wd))
 case first =>
  rcases hk with ⟨rfl, rfl⟩ | ⟨rfl, rfl⟩
  ·
   obtain ⟨qb, qc, qd, qe, qf, qg, qh, qi⟩ := reads4 q1.out
   have qr := q1.out.lt
   go_wp2_with fail
   go_meet
   exact ⟨by rw [hz.out]; exact q1.out, q0.out, BB.out⟩
  ·
   obtain ⟨qb, qc, qd, qe, qf, qg, qh, qi⟩ := reads4 q1.out
   have qr := q1.out.lt
   go_wp2_with fail
   clear qb qc qd qe qf qg qh qi qr
   have F := st1 q1 BB 2 (.int .i64 3) (hg := by have dd := qt.out; omega)
   clear q1 BB
   obtain ⟨w2, e, q1, BB, F⟩ := F
   rw [e]; clear e
   replace q0 := F _ _ _ (by have dd_m := qt.out; omega) q0
   clear F
   go_wp2_with fail
   go_meet
   exact ⟨by rw [hz.out]; exact q1.out, q0.out, BB.out⟩
 case rest =>
 clear q0 q1 BB c1
 obtain ⟨q1, q0, BB⟩ := hcut.out
 replace q0 := Hi q0; replace q1 := Hi q1; replace BB := Hi BB
 clear hcut
 go_wp2_with fail
 go_loopw [6, 7, 8, 9, 10, 11, 12, 13] (fun av i _ _ _ _ _ _ wr => ∃ X Y : Int, Hid ((i = .int .i64 0 ∧ av = .int .i64 (a0 : Int) ∧ X = 0 ∧ Y = 0) ∨
  (i = .int .i64 1 ∧ av = .int .i64 (a1 : Int) ∧ X = (x0 : Int) ∧ Y = 0 ∧ cb0 = 0 ∧ cn0 = 0) ∨
  (i = .int .i64 2 ∧ av = .int .i64 (a2 : Int) ∧ X = (x0 : Int) ∧ Y = (x1 : Int) ∧ cb0 = 0 ∧ cn0 = 0 ∧ cb1 = 0 ∧ cn1 = 0 ∧ (1 ≤ x0 ∧ 1 ≤ x1 ∧ x0 * x1 ≤ 4194304)) ∨
  (i = .int .i64 3 ∧ av = .int .i64 (a3 : Int) ∧ X = (x0 : Int) ∧ Y = (x1 : Int) ∧ cb0 = 0 ∧ cn0 = 0 ∧ cb1 = 0 ∧ cn1 = 0 ∧ (1 ≤ x0 ∧ 1 ≤ x1 ∧ x0 * x1 ≤ 4194304) ∧ cb2 = 0 ∧ cn2 = 0 ∧ x2 = 255)) ∧
  AtB wr qu #[.int .i64 X, .int .i64 Y, .int .i64 z, .slice none 0 0] IT ∧ AtB wr w.heap.size #[.int .i64 0, .int .i64 0, .int .i64 0, .slice none 0 0] IT ∧ Below w.heap.size w wr) (fun _ i _ _ _ _ _ _ _ => 3 - (RowKit.intOf i).toNat)
 case atStart => exact ⟨0, 0, by exact .inl ⟨rfl, by rw [ha0.out]; rfl, rfl, rfl⟩, q1.out, q0.out, BB.out⟩
 case round =>
  clear BB q1 q0 C0 C1 hn0 hn1 hn2 hn3 hn4
  obtain ⟨X, Y, hd, q1, q0, BB⟩ := hrel
  replace q1 := Hi q1; replace q0 := Hi q0; replace BB := Hi BB
  have d_m' := qt
  rcases hd.out with ⟨rfl, rfl, rfl, rfl⟩ | ⟨rfl, rfl, rfl, rfl, o1, o2⟩ | ⟨rfl, rfl, rfl, rfl, o1, o2, o3, o4, o5⟩ | ⟨rfl, rfl, rfl, rfl, o1, o2, o3, o4, o5, o6, o7, o8⟩
  · clear hd
    obtain ⟨la, le1, le2, Bk, p1, lb, Nm, p2, ln⟩ := R0.out
    replace Bk := Hi Bk
    replace Nm := Hi Nm
    replace p1 := Hi p1
    replace p2 := Hi p2
    have hn20' := hn20.out
    have hc1 := hcap.out
    have hc2 := hcap2.out
    by_cases kc : a0 = cap
    · have hS := Hi (show S = 20 by have := p1.out kc; rw [ES.out, this]; simp [hdS, ES.out])
      have hcb := p1.out kc
      have en : n = a0 := by omega
      clear hn20' Bk Nm p1 p2 lb ln le1 le2 la ES R0 R1 R2 RO RO2
      subst en
      subst kc
      clear hc1
      obtain ⟨qb, qc, qd, qe, qf, qg, qh, qi⟩ := reads4 q1.out
      have qr := q1.out.lt
      obtain ⟨q2, q3, q4, q5, q6, q7, q8, q9⟩ := reads4 q0.out
      have qa := q0.out.lt
      go_wp2_with fail
      refine (NB.out _ _ _ (by first | rfl | simp) _).mono ?_
      rintro e w3 ⟨rfl, hb⟩
      clear qb qc qd qe qf qg qh qi qr q2 q3 q4 q5 q6 q7 q8 q9 qa
      replace q0 := kp q0 hb
      replace q1 := kp q1 hb
      replace BB := nx BB hb
      clear hb
      obtain ⟨qb, qc, qd, qe, qf, qg, qh, qi⟩ := reads4 q1.out
      have qr := q1.out.lt
      obtain ⟨q2, q3, q4, q5, q6, q7, q8, q9⟩ := reads4 q0.out
      have qa := q0.out.lt
      go_wp2_with fail
      clear qb qc qd qe qf qg qh qi qr q2 q3 q4 q5 q6 q7 q8 q9 qa
      have KK := Hi fun w9 (h : Below w3.heap.size w3 w9) => And.intro (cells4 (q1.out.keep h)) (cells4 (q0.out.keep h))
      have KD := kd KK
      obtain ⟨qj, qk, ql, qm, qn, qo, qp, qq⟩ := reads4 q0.out
      have qs := q0.out.lt
      refine g_bg KK 3 ?_
      refine g_tk 0 ?_
      refine g_tp 1 ?_
      refine g_tk 2 ?_
      refine g_ts 3 ?_
      refine g_ts 4 ?_
      refine g_dn ?_
      clear KK KD
      clear qj qk ql qm qn qo qp qq qs
      have F := st4 q0 BB 0 (.int .i64 0) 1 (.int .i64 0) 2 (.int .i64 z) 3 (.slice none 0 0)
      clear q0 BB
      obtain ⟨w4, e, q0, BB, F⟩ := F
      rw [e]; clear e
      replace q1 := F _ _ _ (by have dd_m := qt.out; omega) q1
      clear F
      have hb := below_drew (Below.refl w4.heap.size w4)
      generalize w4.drew = w5 at *
      replace q0 := kp q0 hb
      replace q1 := kp q1 hb
      replace BB := nx BB hb
      clear hb
      go_wp2_with fail
      obtain ⟨q2, q3, q4, q5, q6, q7, q8, q9⟩ := reads4 q0.out
      have qa := q0.out.lt
      refine bret (.tuple #[.int .i64 0, imv 0 0 z (.slice none 0 0), .int .i64 20]) ?_
      exact ⟨0, 0, 0, z, by rw [hS.out] <;> rfl, BB.out, fun e => absurd e (by rw [hS.out]; simp)⟩
    · have kt : (a0 : Int) + ((t0 - a0 : Nat) : Int) = (t0 : Int) := by omega
      have kn : (t0 : Int) + ((a1 - t0 : Nat) : Int) = (a1 : Int) := by omega
      have i1 : I64 (t0 : Int) := ⟨by omega, by omega⟩
      have i2 : I64 (a1 : Int) := ⟨by omega, by omega⟩
      have z0 : (0 : Int) ≤ (t0 : Int) := by omega
      have z1 : (t0 : Int) ≤ (n : Int) := by omega
      have s0 : (0 : Int) ≤ (a0 : Int) := by omega
      have s1 : (a0 : Int) ≤ (n : Int) := by omega
      have s2 : ¬ a0 = cap := kc
      have s3 : ¬ cap = a0 := fun e => s2 e.symm
      have hBk := Hi (fun w9 hb => Bk.out w9 hb kc)
      obtain ⟨nb, hnb⟩ : ∃ x, x = t0 - a0 := ⟨_, rfl⟩
      obtain ⟨nn, hnn⟩ : ∃ x, x = a1 - t0 := ⟨_, rfl⟩
      rw [← hnb] at hBk kt
      rw [← hnn] at Nm kn
      clear Bk p1 hnb hnn kc
      obtain ⟨qb, qc, qd, qe, qf, qg, qh, qi⟩ := reads4 q1.out
      have qr := q1.out.lt
      obtain ⟨q2, q3, q4, q5, q6, q7, q8, q9⟩ := reads4 q0.out
      have qa := q0.out.lt
      go_wp2_with fail
      refine (hBk.out _ BB.out).mono ?_
      rintro e w6 ⟨rfl, hb⟩
      clear qb qc qd qe qf qg qh qi qr q2 q3 q4 q5 q6 q7 q8 q9 qa
      replace q0 := kp q0 hb
      replace q1 := kp q1 hb
      replace BB := nx BB hb
      clear hb
      by_cases kb : cb0 = 0
      · have kb1 : ((cb0 : Int) != 0) = false := neq_f kb
        by_cases kc : t0 = cap
        · have hS := Hi (show S = 20 by have := p2.out kc; rw [ES.out, this]; simp [hdS, kb, ES.out])
          have hcn := p2.out kc
          have en : n = t0 := by omega
          clear hn20' Nm p2 lb ln le1 le2 la ES R0 R1 R2 RO RO2 kn i2 z1 z0
          have w1' : IntKind.i64.wrap ((a0 : Int) + (nb : Int)) = (t0 : Int) := by rw [kt]; exact iw i1
          clear kt i1
          subst en
          subst kc
          clear hc1
          obtain ⟨qb, qc, qd, qe, qf, qg, qh, qi⟩ := reads4 q1.out
          have qr := q1.out.lt
          obtain ⟨q2, q3, q4, q5, q6, q7, q8, q9⟩ := reads4 q0.out
          have qa := q0.out.lt
          go_wp2_with fail
          refine (NN.out _ _ _ _ (by first | rfl | simp) _).mono ?_
          rintro e w7 ⟨rfl, hb⟩
          clear qb qc qd qe qf qg qh qi qr q2 q3 q4 q5 q6 q7 q8 q9 qa
          replace q0 := kp q0 hb
          replace q1 := kp q1 hb
          replace BB := nx BB hb
          clear hb
          obtain ⟨qb, qc, qd, qe, qf, qg, qh, qi⟩ := reads4 q1.out
          have qr := q1.out.lt
          obtain ⟨q2, q3, q4, q5, q6, q7, q8, q9⟩ := reads4 q0.out
          have qa := q0.out.lt
          go_wp2_with fail
          clear qb qc qd qe qf qg qh qi qr q2 q3 q4 q5 q6 q7 q8 q9 qa
          have KK := Hi fun w9 (h : Below w7.heap.size w7 w9) => And.intro (cells4 (q1.out.keep h)) (cells4 (q0.out.keep h))
          have KD := kd KK
          obtain ⟨qj, qk, ql, qm, qn, qo, qp, qq⟩ := reads4 q0.out
          have qs := q0.out.lt
          refine g_bg KK 3 ?_
          refine g_tk 0 ?_
          refine g_tp 1 ?_
          refine g_tk 2 ?_
          refine g_ts 3 ?_
          refine g_ts 4 ?_
          refine g_dn ?_
          clear KK KD
          clear qj qk ql qm qn qo qp qq qs
          have F := st4 q0 BB 0 (.int .i64 0) 1 (.int .i64 0) 2 (.int .i64 z) 3 (.slice none 0 0)
          clear q0 BB
          obtain ⟨w8, e, q0, BB, F⟩ := F
          rw [e]; clear e
          replace q1 := F _ _ _ (by have dd_m := qt.out; omega) q1
          clear F
          have hb := below_drew (Below.refl w8.heap.size w8)
          generalize w8.drew = w10 at *
          replace q0 := kp q0 hb
          replace q1 := kp q1 hb
          replace BB := nx BB hb
          clear hb
          go_wp2_with fail
          obtain ⟨q2, q3, q4, q5, q6, q7, q8, q9⟩ := reads4 q0.out
          have qa := q0.out.lt
          refine bret (.tuple #[.int .i64 0, imv 0 0 z (.slice none 0 0), .int .i64 20]) ?_
          exact ⟨0, 0, 0, z, by rw [hS.out] <;> rfl, BB.out, fun e => absurd e (by rw [hS.out]; simp)⟩
        · have z2 : ¬ t0 = cap := kc
          have z3 : ¬ cap = t0 := fun e => kc e.symm
          have hNm := Hi (fun w9 hb => Nm.out w9 hb kc)
          clear Nm p2 la le1 le2 lb ln kc
          have w1' : IntKind.i64.wrap ((a0 : Int) + (nb : Int)) = (t0 : Int) := by rw [kt]; exact iw i1
          have w2' : IntKind.i64.wrap ((t0 : Int) + (nn : Int)) = (a1 : Int) := by rw [kn]; exact iw i2
          clear kt kn i1 i2
          by_cases kn : cn0 = 0
          · have kn1 : ((cn0 : Int) != 0) = false := neq_f kn
            replace kb := Hi kb
            replace kn := Hi kn
            obtain ⟨qb, qc, qd, qe, qf, qg, qh, qi⟩ := reads4 q1.out
            have qr := q1.out.lt
            obtain ⟨q2, q3, q4, q5, q6, q7, q8, q9⟩ := reads4 q0.out
            have qa := q0.out.lt
            go_wp2_with fail
            refine (hNm.out _ BB.out).mono ?_
            rintro e w7 ⟨rfl, hb⟩
            clear qb qc qd qe qf qg qh qi qr q2 q3 q4 q5 q6 q7 q8 q9 qa
            replace q0 := kp q0 hb
            replace q1 := kp q1 hb
            replace BB := nx BB hb
            clear hb
            obtain ⟨qb, qc, qd, qe, qf, qg, qh, qi⟩ := reads4 q1.out
            have qr := q1.out.lt
            go_wp2_with fail
            clear qb qc qd qe qf qg qh qi qr
            have F := st1 q1 BB 0 (.int .i64 (x0 : Int)) (hg := by have dd := qt.out; omega)
            clear q1 BB
            obtain ⟨w8, e, q1, BB, F⟩ := F
            rw [e]; clear e
            replace q0 := F _ _ _ (by have dd_m := qt.out; omega) q0
            clear F
            go_roundw
            case rel => exact ⟨_, _, by exact .inr (.inl ⟨rfl, rfl, rfl, rfl, kb.out, kn.out⟩), q1.out, q0.out, BB.out⟩
            case measure => simp [RowKit.intOf]
          · have kn1 : ((cn0 : Int) != 0) = true := neq_t kn
            have hS := Hi (show S = cn0 by rw [ES.out]; simp [hdS, kb, kn, ES.out])
            replace kb := Hi kb
            replace kn := Hi kn
            obtain ⟨qb, qc, qd, qe, qf, qg, qh, qi⟩ := reads4 q1.out
            have qr := q1.out.lt
            obtain ⟨q2, q3, q4, q5, q6, q7, q8, q9⟩ := reads4 q0.out
            have qa := q0.out.lt
            go_wp2_with fail
            refine (hNm.out _ BB.out).mono ?_
            rintro e w7 ⟨rfl, hb⟩
            clear qb qc qd qe qf qg qh qi qr q2 q3 q4 q5 q6 q7 q8 q9 qa
            replace q0 := kp q0 hb
            replace q1 := kp q1 hb
            replace BB := nx BB hb
            clear hb
            obtain ⟨qb, qc, qd, qe, qf, qg, qh, qi⟩ := reads4 q1.out
            have qr := q1.out.lt
            obtain ⟨q2, q3, q4, q5, q6, q7, q8, q9⟩ := reads4 q0.out
            have qa := q0.out.lt
            go_wp2_with fail
            clear qb qc qd qe qf qg qh qi qr q2 q3 q4 q5 q6 q7 q8 q9 qa
            have KK := Hi fun w9 (h : Below w7.heap.size w7 w9) => And.intro (cells4 (q1.out.keep h)) (cells4 (q0.out.keep h))
            have KD := kd KK
            obtain ⟨qj, qk, ql, qm, qn, qo, qp, qq⟩ := reads4 q0.out
            have qs := q0.out.lt
            refine g_bg KK 3 ?_
            refine g_tk 0 ?_
            refine g_tp 1 ?_
            refine g_tk 2 ?_
            refine g_ts 3 ?_
            refine g_ts 4 ?_
            refine g_dn ?_
            clear KK KD
            clear qj qk ql qm qn qo qp qq qs
            have F := st4 q0 BB 0 (.int .i64 0) 1 (.int .i64 0) 2 (.int .i64 z) 3 (.slice none 0 0)
            clear q0 BB
            obtain ⟨w8, e, q0, BB, F⟩ := F
            rw [e]; clear e
            replace q1 := F _ _ _ (by have dd_m := qt.out; omega) q1
            clear F
            have hb := below_drew (Below.refl w8.heap.size w8)
            generalize w8.drew = w10 at *
            replace q0 := kp q0 hb
            replace q1 := kp q1 hb
            replace BB := nx BB hb
            clear hb
            go_wp2_with fail
            obtain ⟨q2, q3, q4, q5, q6, q7, q8, q9⟩ := reads4 q0.out
            have qa := q0.out.lt
            refine bret (.tuple #[.int .i64 0, imv 0 0 z (.slice none 0 0), .int .i64 (cn0 : Int)]) ?_
            exact ⟨0, 0, 0, z, by rw [hS.out] <;> rfl, BB.out, fun e => absurd e (by rw [hS.out]; exact kn.out)⟩
      · have kb1 : ((cb0 : Int) != 0) = true := neq_t kb
        have hS := Hi (show S = cb0 by rw [ES.out]; simp [hdS, kb, ES.out])
        clear Nm p2 la le1 le2 lb ln kt kn i1 i2
        replace kb := Hi kb
        obtain ⟨qb, qc, qd, qe, qf, qg, qh, qi⟩ := reads4 q1.out
        have qr := q1.out.lt
        obtain ⟨q2, q3, q4, q5, q6, q7, q8, q9⟩ := reads4 q0.out
        have qa := q0.out.lt
        go_wp2_with fail
        clear qb qc qd qe qf qg qh qi qr q2 q3 q4 q5 q6 q7 q8 q9 qa
        have KK := Hi fun w9 (h : Below w6.heap.size w6 w9) => And.intro (cells4 (q1.out.keep h)) (cells4 (q0.out.keep h))
        have KD := kd KK
        obtain ⟨qj, qk, ql, qm, qn, qo, qp, qq⟩ := reads4 q0.out
        have qs := q0.out.lt
        refine g_bg KK 3 ?_
        refine g_tk 0 ?_
        refine g_tp 1 ?_
        refine g_tk 2 ?_
        refine g_ts 3 ?_
        refine g_ts 4 ?_
        refine g_dn ?_
        clear KK KD
        clear qj qk ql qm qn qo qp qq qs
        have F := st4 q0 BB 0 (.int .i64 0) 1 (.int .i64 0) 2 (.int .i64 z) 3 (.slice none 0 0)
        clear q0 BB
        obtain ⟨w7, e, q0, BB, F⟩ := F
        rw [e]; clear e
        replace q1 := F _ _ _ (by have dd_m := qt.out; omega) q1
        clear F
        have hb := below_drew (Below.refl w7.heap.size w7)
        generalize w7.drew = w8 at *
        replace q0 := kp q0 hb
        replace q1 := kp q1 hb
        replace BB := nx BB hb
        clear hb
        go_wp2_with fail
        obtain ⟨q2, q3, q4, q5, q6, q7, q8, q9⟩ := reads4 q0.out
        have qa := q0.out.lt
        refine bret (.tuple #[.int .i64 0, imv 0 0 z (.slice none 0 0), .int .i64 (cb0 : Int)]) ?_
        exact ⟨0, 0, 0, z, by rw [hS.out] <;> rfl, BB.out, fun e => absurd e (by rw [hS.out]; exact kb.out)⟩
  · clear hd
    replace o1 := Hi o1; replace o2 := Hi o2
    obtain ⟨la, le1, le2, Bk, p1, lb, Nm, p2, ln⟩ := R1.out
    replace Bk := Hi Bk
    replace Nm := Hi Nm
    replace p1 := Hi p1
    replace p2 := Hi p2
    have hn20' := hn20.out
    have hc1 := hcap.out
    have hc2 := hcap2.out
    by_cases kc : a1 = cap
    · have hS := Hi (show S = 20 by have := p1.out kc; rw [ES.out, this]; simp [hdS, o1.out, o2.out])
      have hcb := p1.out kc
      have en : n = a1 := by omega
      clear hn20' Bk Nm p1 p2 lb ln le1 le2 la ES R0 R1 R2 RO RO2
      subst en
      subst kc
      clear hc1
      obtain ⟨qb, qc, qd, qe, qf, qg, qh, qi⟩ := reads4 q1.out
      have qr := q1.out.lt
      obtain ⟨q2, q3, q4, q5, q6, q7, q8, q9⟩ := reads4 q0.out
      have qa := q0.out.lt
      go_wp2_with fail
      refine (NB.out _ _ _ (by first | rfl | simp) _).mono ?_
      rintro e w10 ⟨rfl, hb⟩
      clear qb qc qd qe qf qg qh qi qr q2 q3 q4 q5 q6 q7 q8 q9 qa
      replace q0 := kp q0 hb
      replace q1 := kp q1 hb
      replace BB := nx BB hb
      clear hb
      obtain ⟨qb, qc, qd, qe, qf, qg, qh, qi⟩ := reads4 q1.out
      have qr := q1.out.lt
      obtain ⟨q2, q3, q4, q5, q6, q7, q8, q9⟩ := reads4 q0.out
      have qa := q0.out.lt
      go_wp2_with fail
      clear qb qc qd qe qf qg qh qi qr q2 q3 q4 q5 q6 q7 q8 q9 qa
      have KK := Hi fun w9 (h : Below w10.heap.size w10 w9) => And.intro (cells4 (q1.out.keep h)) (cells4 (q0.out.keep h))
      have KD := kd KK
      obtain ⟨qj, qk, ql, qm, qn, qo, qp, qq⟩ := reads4 q0.out
      have qs := q0.out.lt
      refine g_bg KK 3 ?_
      refine g_tk 0 ?_
      refine g_tp 1 ?_
      refine g_tk 2 ?_
      refine g_ts 3 ?_
      refine g_ts 4 ?_
      refine g_dn ?_
      clear KK KD
      clear qj qk ql qm qn qo qp qq qs
      have F := st4 q0 BB 0 (.int .i64 ↑x0) 1 (.int .i64 0) 2 (.int .i64 z) 3 (.slice none 0 0)
      clear q0 BB
      obtain ⟨w11, e, q0, BB, F⟩ := F
      rw [e]; clear e
      replace q1 := F _ _ _ (by have dd_m := qt.out; omega) q1
      clear F
      have hb := below_drew (Below.refl w11.heap.size w11)
      generalize w11.drew = w12 at *
      replace q0 := kp q0 hb
      replace q1 := kp q1 hb
      replace BB := nx BB hb
      clear hb
      go_wp2_with fail
      obtain ⟨q2, q3, q4, q5, q6, q7, q8, q9⟩ := reads4 q0.out
      have qa := q0.out.lt
      refine bret (.tuple #[.int .i64 0, imv ↑x0 0 z (.slice none 0 0), .int .i64 20]) ?_
      exact ⟨0, ↑x0, 0, z, by rw [hS.out] <;> rfl, BB.out, fun e => absurd e (by rw [hS.out]; simp)⟩
    · have kt : (a1 : Int) + ((t1 - a1 : Nat) : Int) = (t1 : Int) := by omega
      have kn : (t1 : Int) + ((a2 - t1 : Nat) : Int) = (a2 : Int) := by omega
      have i1 : I64 (t1 : Int) := ⟨by omega, by omega⟩
      have i2 : I64 (a2 : Int) := ⟨by omega, by omega⟩
      have z0 : (0 : Int) ≤ (t1 : Int) := by omega
      have z1 : (t1 : Int) ≤ (n : Int) := by omega
      have s0 : (0 : Int) ≤ (a1 : Int) := by omega
      have s1 : (a1 : Int) ≤ (n : Int) := by omega
      have s2 : ¬ a1 = cap := kc
      have s3 : ¬ cap = a1 := fun e => s2 e.symm
      have hBk := Hi (fun w9 hb => Bk.out w9 hb kc)
      obtain ⟨nb, hnb⟩ : ∃ x, x = t1 - a1 := ⟨_, rfl⟩
      obtain ⟨nn, hnn⟩ : ∃ x, x = a2 - t1 := ⟨_, rfl⟩
      rw [← hnb] at hBk kt
      rw [← hnn] at Nm kn
      clear Bk p1 hnb hnn kc
      obtain ⟨qb, qc, qd, qe, qf, qg, qh, qi⟩ := reads4 q1.out
      have qr := q1.out.lt
      obtain ⟨q2, q3, q4, q5, q6, q7, q8, q9⟩ := reads4 q0.out
      have qa := q0.out.lt
      go_wp2_with fail
      refine (hBk.out _ BB.out).mono ?_
      rintro e w13 ⟨rfl, hb⟩
      clear qb qc qd qe qf qg qh qi qr q2 q3 q4 q5 q6 q7 q8 q9 qa
      replace q0 := kp q0 hb
      replace q1 := kp q1 hb
      replace BB := nx BB hb
      clear hb
      by_cases kb : cb1 = 0
      · have kb1 : ((cb1 : Int) != 0) = false := neq_f kb
        by_cases kc : t1 = cap
        · have hS := Hi (show S = 20 by have := p2.out kc; rw [ES.out, this]; simp [hdS, kb, o1.out, o2.out])
          have hcn := p2.out kc
          have en : n = t1 := by omega
          clear hn20' Nm p2 lb ln le1 le2 la ES R0 R1 R2 RO RO2 kn i2 z1 z0
          have w1' : IntKind.i64.wrap ((a1 : Int) + (nb : Int)) = (t1 : Int) := by rw [kt]; exact iw i1
          clear kt i1
          subst en
          subst kc
          clear hc1
          obtain ⟨qb, qc, qd, qe, qf, qg, qh, qi⟩ := reads4 q1.out
          have qr := q1.out.lt
          obtain ⟨q2, q3, q4, q5, q6, q7, q8, q9⟩ := reads4 q0.out
          have qa := q0.out.lt
          go_wp2_with fail
          refine (NN.out _ _ _ _ (by first | rfl | simp) _).mono ?_
          rintro e w14 ⟨rfl, hb⟩
          clear qb qc qd qe qf qg qh qi qr q2 q3 q4 q5 q6 q7 q8 q9 qa
          replace q0 := kp q0 hb
          replace q1 := kp q1 hb
          replace BB := nx BB hb
          clear hb
          obtain ⟨qb, qc, qd, qe, qf, qg, qh, qi⟩ := reads4 q1.out
          have qr := q1.out.lt
          obtain ⟨q2, q3, q4, q5, q6, q7, q8, q9⟩ := reads4 q0.out
          have qa := q0.out.lt
          go_wp2_with fail
          clear qb qc qd qe qf qg qh qi qr q2 q3 q4 q5 q6 q7 q8 q9 qa
          have KK := Hi fun w9 (h : Below w14.heap.size w14 w9) => And.intro (cells4 (q1.out.keep h)) (cells4 (q0.out.keep h))
          have KD := kd KK
          obtain ⟨qj, qk, ql, qm, qn, qo, qp, qq⟩ := reads4 q0.out
          have qs := q0.out.lt
          refine g_bg KK 3 ?_
          refine g_tk 0 ?_
          refine g_tp 1 ?_
          refine g_tk 2 ?_
          refine g_ts 3 ?_
          refine g_ts 4 ?_
          refine g_dn ?_
          clear KK KD
          clear qj qk ql qm qn qo qp qq qs
          have F := st4 q0 BB 0 (.int .i64 ↑x0) 1 (.int .i64 0) 2 (.int .i64 z) 3 (.slice none 0 0)
          clear q0 BB
          obtain ⟨w15, e, q0, BB, F⟩ := F
          rw [e]; clear e
          replace q1 := F _ _ _ (by have dd_m := qt.out; omega) q1
          clear F
          have hb := below_drew (Below.refl w15.heap.size w15)
          generalize w15.drew = w16 at *
          replace q0 := kp q0 hb
          replace q1 := kp q1 hb
          replace BB := nx BB hb
          clear hb
          go_wp2_with fail
          obtain ⟨q2, q3, q4, q5, q6, q7, q8, q9⟩ := reads4 q0.out
          have qa := q0.out.lt
          refine bret (.tuple #[.int .i64 0, imv ↑x0 0 z (.slice none 0 0), .int .i64 20]) ?_
          exact ⟨0, ↑x0, 0, z, by rw [hS.out] <;> rfl, BB.out, fun e => absurd e (by rw [hS.out]; simp)⟩
        · have z2 : ¬ t1 = cap := kc
          have z3 : ¬ cap = t1 := fun e => kc e.symm
          have hNm := Hi (fun w9 hb => Nm.out w9 hb kc)
          clear Nm p2 la le1 le2 lb ln kc
          have w1' : IntKind.i64.wrap ((a1 : Int) + (nb : Int)) = (t1 : Int) := by rw [kt]; exact iw i1
          have w2' : IntKind.i64.wrap ((t1 : Int) + (nn : Int)) = (a2 : Int) := by rw [kn]; exact iw i2
          clear kt kn i1 i2
          by_cases kn : cn1 = 0
          · have kn1 : ((cn1 : Int) != 0) = false := neq_f kn
            replace kb := Hi kb
            replace kn := Hi kn
            obtain ⟨qb, qc, qd, qe, qf, qg, qh, qi⟩ := reads4 q1.out
            have qr := q1.out.lt
            obtain ⟨q2, q3, q4, q5, q6, q7, q8, q9⟩ := reads4 q0.out
            have qa := q0.out.lt
            go_wp2_with fail
            refine (hNm.out _ BB.out).mono ?_
            rintro e w14 ⟨rfl, hb⟩
            clear qb qc qd qe qf qg qh qi qr q2 q3 q4 q5 q6 q7 q8 q9 qa
            replace q0 := kp q0 hb
            replace q1 := kp q1 hb
            replace BB := nx BB hb
            clear hb
            obtain ⟨qb, qc, qd, qe, qf, qg, qh, qi⟩ := reads4 q1.out
            have qr := q1.out.lt
            go_upto_region 27 with fail
            clear qb qc qd qe qf qg qh qi qr
            have F := st1 q1 BB 1 (.int .i64 (x1 : Int)) (hg := by have dd := qt.out; omega)
            clear q1 BB
            obtain ⟨w15, e, q1, BB, F⟩ := F
            rw [e]; clear e
            replace q0 := F _ _ _ (by have dd_m := qt.out; omega) q0
            clear F
            have hx0 := hx.out.1
            have hx1 := hx.out.2
            have hle : x0 * x1 ≤ 1073741824 := Nat.le_trans (Nat.mul_le_mul hx0 hx1) (by omega)
            have em : (x0 : Int) * (x1 : Int) = ((x0 * x1 : Nat) : Int) := by rw [Int.natCast_mul]
            obtain ⟨p, hp⟩ : ∃ p, p = x0 * x1 := ⟨_, rfl⟩
            rw [← hp] at hle em
            have ip : I64 (p : Int) := ⟨by omega, by omega⟩
            have o1 := o1.out
            have o2 := o2.out
            by_cases h1 : x0 < 1
            · have hS := Hi (show S = 12 by rw [ES.out]; simp [hdS, kb.out, kn.out, o1, o2, show x0 = 0 by omega])
              have v1 : (x0 : Int) < 1 := by omega
              clear ip em hle w1' w2'
              obtain ⟨qb, qc, qd, qe, qf, qg, qh, qi⟩ := reads4 q1.out
              have qr := q1.out.lt
              obtain ⟨q2, q3, q4, q5, q6, q7, q8, q9⟩ := reads4 q0.out
              have qa := q0.out.lt
              go_wp2_with fail
              clear qb qc qd qe qf qg qh qi qr q2 q3 q4 q5 q6 q7 q8 q9 qa
              have KK := Hi fun w9 (h : Below w15.heap.size w15 w9) => And.intro (cells4 (q1.out.keep h)) (cells4 (q0.out.keep h))
              have KD := kd KK
              obtain ⟨qj, qk, ql, qm, qn, qo, qp, qq⟩ := reads4 q0.out
              have qs := q0.out.lt
              refine g_bg KK 2 ?_
              refine g_tk 0 ?_
              refine g_tk 1 ?_
              refine g_ts 2 ?_
              refine g_ts 3 ?_
              refine g_dn ?_
              clear KK KD
              clear qj qk ql qm qn qo qp qq qs
              have F := st4 q0 BB 0 (.int .i64 (x0 : Int)) 1 (.int .i64 (x1 : Int)) 2 (.int .i64 z) 3 (.slice none 0 0)
              clear q0 BB
              obtain ⟨w16, e, q0, BB, F⟩ := F
              rw [e]; clear e
              replace q1 := F _ _ _ (by have dd_m := qt.out; omega) q1
              clear F
              have hb := below_drew (Below.refl w16.heap.size w16)
              generalize w16.drew = w17 at *
              replace q0 := kp q0 hb
              replace q1 := kp q1 hb
              replace BB := nx BB hb
              clear hb
              go_wp2_with fail
              obtain ⟨q2, q3, q4, q5, q6, q7, q8, q9⟩ := reads4 q0.out
              have qa := q0.out.lt
              refine bret (.tuple #[.int .i64 0, imv (x0 : Int) (x1 : Int) z (.slice none 0 0), .int .i64 12]) ?_
              exact ⟨0, (x0 : Int), (x1 : Int), z, by rw [hS.out] <;> rfl, BB.out, fun e => absurd e (by rw [hS.out]; simp)⟩
            · have v1 : ¬ (x0 : Int) < 1 := by omega
              by_cases h2 : x1 < 1
              · have hS := Hi (show S = 12 by rw [ES.out]; simp [hdS, kb.out, kn.out, o1, o2, show x1 = 0 by omega])
                have v2 : (x1 : Int) < 1 := by omega
                clear ip em hle w1' w2'
                obtain ⟨qb, qc, qd, qe, qf, qg, qh, qi⟩ := reads4 q1.out
                have qr := q1.out.lt
                obtain ⟨q2, q3, q4, q5, q6, q7, q8, q9⟩ := reads4 q0.out
                have qa := q0.out.lt
                go_wp2_with fail
                clear qb qc qd qe qf qg qh qi qr q2 q3 q4 q5 q6 q7 q8 q9 qa
                have KK := Hi fun w9 (h : Below w15.heap.size w15 w9) => And.intro (cells4 (q1.out.keep h)) (cells4 (q0.out.keep h))
                have KD := kd KK
                obtain ⟨qj, qk, ql, qm, qn, qo, qp, qq⟩ := reads4 q0.out
                have qs := q0.out.lt
                refine g_bg KK 2 ?_
                refine g_tk 0 ?_
                refine g_tk 1 ?_
                refine g_ts 2 ?_
                refine g_ts 3 ?_
                refine g_dn ?_
                clear KK KD
                clear qj qk ql qm qn qo qp qq qs
                have F := st4 q0 BB 0 (.int .i64 (x0 : Int)) 1 (.int .i64 (x1 : Int)) 2 (.int .i64 z) 3 (.slice none 0 0)
                clear q0 BB
                obtain ⟨w16, e, q0, BB, F⟩ := F
                rw [e]; clear e
                replace q1 := F _ _ _ (by have dd_m := qt.out; omega) q1
                clear F
                have hb := below_drew (Below.refl w16.heap.size w16)
                generalize w16.drew = w17 at *
                replace q0 := kp q0 hb
                replace q1 := kp q1 hb
                replace BB := nx BB hb
                clear hb
                go_wp2_with fail
                obtain ⟨q2, q3, q4, q5, q6, q7, q8, q9⟩ := reads4 q0.out
                have qa := q0.out.lt
                refine bret (.tuple #[.int .i64 0, imv (x0 : Int) (x1 : Int) z (.slice none 0 0), .int .i64 12]) ?_
                exact ⟨0, (x0 : Int), (x1 : Int), z, by rw [hS.out] <;> rfl, BB.out, fun e => absurd e (by rw [hS.out]; simp)⟩
              · have v2 : ¬ (x1 : Int) < 1 := by omega
                by_cases h3 : 4194304 < p
                · have hS := Hi (show S = 30 by rw [ES.out]; simp [hdS, kb.out, kn.out, o1, o2, ← hp, h3, show ¬ x0 = 0 by omega, show ¬ x1 = 0 by omega])
                  have v3 : (4194304 : Int) < (p : Int) := by omega
                  clear hle w1' w2' hp
                  have ew : IntKind.i64.wrap ((x0 : Int) * (x1 : Int)) = (p : Int) := by rw [em]; exact iw ip
                  have ew2 : wrap64 ((x0 : Int) * (x1 : Int)) = (p : Int) := by rw [em]; exact ww ip
                  clear em ip
                  obtain ⟨qb, qc, qd, qe, qf, qg, qh, qi⟩ := reads4 q1.out
                  have qr := q1.out.lt
                  obtain ⟨q2, q3, q4, q5, q6, q7, q8, q9⟩ := reads4 q0.out
                  have qa := q0.out.lt
                  go_wp2_with fail
                  clear qb qc qd qe qf qg qh qi qr q2 q3 q4 q5 q6 q7 q8 q9 qa
                  have KK := Hi fun w9 (h : Below w15.heap.size w15 w9) => And.intro (cells4 (q1.out.keep h)) (cells4 (q0.out.keep h))
                  have KD := kd KK
                  obtain ⟨qj, qk, ql, qm, qn, qo, qp, qq⟩ := reads4 q0.out
                  have qs := q0.out.lt
                  refine g_bg KK 2 ?_
                  refine g_tk 0 ?_
                  refine g_tk 1 ?_
                  refine g_ts 2 ?_
                  refine g_ts 3 ?_
                  refine g_dn ?_
                  clear KK KD
                  clear qj qk ql qm qn qo qp qq qs
                  have F := st4 q0 BB 0 (.int .i64 (x0 : Int)) 1 (.int .i64 (x1 : Int)) 2 (.int .i64 z) 3 (.slice none 0 0)
                  clear q0 BB
                  obtain ⟨w16, e, q0, BB, F⟩ := F
                  rw [e]; clear e
                  replace q1 := F _ _ _ (by have dd_m := qt.out; omega) q1
                  clear F
                  have hb := below_drew (Below.refl w16.heap.size w16)
                  generalize w16.drew = w17 at *
                  replace q0 := kp q0 hb
                  replace q1 := kp q1 hb
                  replace BB := nx BB hb
                  clear hb
                  go_wp2_with fail
                  obtain ⟨q2, q3, q4, q5, q6, q7, q8, q9⟩ := reads4 q0.out
                  have qa := q0.out.lt
                  refine bret (.tuple #[.int .i64 0, imv (x0 : Int) (x1 : Int) z (.slice none 0 0), .int .i64 30]) ?_
                  exact ⟨0, (x0 : Int), (x1 : Int), z, by rw [hS.out] <;> rfl, BB.out, fun e => absurd e (by rw [hS.out]; simp)⟩
                · have v3 : ¬ (4194304 : Int) < (p : Int) := by omega
                  have hq := Hi (show 1 ≤ x0 ∧ 1 ≤ x1 ∧ x0 * x1 ≤ 4194304 by rw [← hp]; omega)
                  clear hle w1' w2' hp
                  have ew : IntKind.i64.wrap ((x0 : Int) * (x1 : Int)) = (p : Int) := by rw [em]; exact iw ip
                  have ew2 : wrap64 ((x0 : Int) * (x1 : Int)) = (p : Int) := by rw [em]; exact ww ip
                  clear em ip
                  obtain ⟨qb, qc, qd, qe, qf, qg, qh, qi⟩ := reads4 q1.out
                  have qr := q1.out.lt
                  obtain ⟨q2, q3, q4, q5, q6, q7, q8, q9⟩ := reads4 q0.out
                  have qa := q0.out.lt
                  go_wp2_with fail
                  go_roundw
                  case rel => exact ⟨_, _, by exact .inr (.inr (.inl ⟨rfl, rfl, rfl, rfl, o1, o2, kb.out, kn.out, hq.out⟩)), q1.out, q0.out, BB.out⟩
                  case measure => simp [RowKit.intOf]
          · have kn1 : ((cn1 : Int) != 0) = true := neq_t kn
            have hS := Hi (show S = cn1 by rw [ES.out]; simp [hdS, kb, kn, o1.out, o2.out])
            replace kb := Hi kb
            replace kn := Hi kn
            obtain ⟨qb, qc, qd, qe, qf, qg, qh, qi⟩ := reads4 q1.out
            have qr := q1.out.lt
            obtain ⟨q2, q3, q4, q5, q6, q7, q8, q9⟩ := reads4 q0.out
            have qa := q0.out.lt
            go_wp2_with fail
            refine (hNm.out _ BB.out).mono ?_
            rintro e w14 ⟨rfl, hb⟩
            clear qb qc qd qe qf qg qh qi qr q2 q3 q4 q5 q6 q7 q8 q9 qa
            replace q0 := kp q0 hb
            replace q1 := kp q1 hb
            replace BB := nx BB hb
            clear hb
            obtain ⟨qb, qc, qd, qe, qf, qg, qh, qi⟩ := reads4 q1.out
            have qr := q1.out.lt
            obtain ⟨q2, q3, q4, q5, q6, q7, q8, q9⟩ := reads4 q0.out
            have qa := q0.out.lt
            go_wp2_with fail
            clear qb qc qd qe qf qg qh qi qr q2 q3 q4 q5 q6 q7 q8 q9 qa
            have KK := Hi fun w9 (h : Below w14.heap.size w14 w9) => And.intro (cells4 (q1.out.keep h)) (cells4 (q0.out.keep h))
            have KD := kd KK
            obtain ⟨qj, qk, ql, qm, qn, qo, qp, qq⟩ := reads4 q0.out
            have qs := q0.out.lt
            refine g_bg KK 3 ?_
            refine g_tk 0 ?_
            refine g_tp 1 ?_
            refine g_tk 2 ?_
            refine g_ts 3 ?_
            refine g_ts 4 ?_
            refine g_dn ?_
            clear KK KD
            clear qj qk ql qm qn qo qp qq qs
            have F := st4 q0 BB 0 (.int .i64 ↑x0) 1 (.int .i64 0) 2 (.int .i64 z) 3 (.slice none 0 0)
            clear q0 BB
            obtain ⟨w15, e, q0, BB, F⟩ := F
            rw [e]; clear e
            replace q1 := F _ _ _ (by have dd_m := qt.out; omega) q1
            clear F
            have hb := below_drew (Below.refl w15.heap.size w15)
            generalize w15.drew = w16 at *
            replace q0 := kp q0 hb
            replace q1 := kp q1 hb
            replace BB := nx BB hb
            clear hb
            go_wp2_with fail
            obtain ⟨q2, q3, q4, q5, q6, q7, q8, q9⟩ := reads4 q0.out
            have qa := q0.out.lt
            refine bret (.tuple #[.int .i64 0, imv ↑x0 0 z (.slice none 0 0), .int .i64 (cn1 : Int)]) ?_
            exact ⟨0, ↑x0, 0, z, by rw [hS.out] <;> rfl, BB.out, fun e => absurd e (by rw [hS.out]; exact kn.out)⟩
      · have kb1 : ((cb1 : Int) != 0) = true := neq_t kb
        have hS := Hi (show S = cb1 by rw [ES.out]; simp [hdS, kb, o1.out, o2.out])
        clear Nm p2 la le1 le2 lb ln kt kn i1 i2
        replace kb := Hi kb
        obtain ⟨qb, qc, qd, qe, qf, qg, qh, qi⟩ := reads4 q1.out
        have qr := q1.out.lt
        obtain ⟨q2, q3, q4, q5, q6, q7, q8, q9⟩ := reads4 q0.out
        have qa := q0.out.lt
        go_wp2_with fail
        clear qb qc qd qe qf qg qh qi qr q2 q3 q4 q5 q6 q7 q8 q9 qa
        have KK := Hi fun w9 (h : Below w13.heap.size w13 w9) => And.intro (cells4 (q1.out.keep h)) (cells4 (q0.out.keep h))
        have KD := kd KK
        obtain ⟨qj, qk, ql, qm, qn, qo, qp, qq⟩ := reads4 q0.out
        have qs := q0.out.lt
        refine g_bg KK 3 ?_
        refine g_tk 0 ?_
        refine g_tp 1 ?_
        refine g_tk 2 ?_
        refine g_ts 3 ?_
        refine g_ts 4 ?_
        refine g_dn ?_
        clear KK KD
        clear qj qk ql qm qn qo qp qq qs
        have F := st4 q0 BB 0 (.int .i64 ↑x0) 1 (.int .i64 0) 2 (.int .i64 z) 3 (.slice none 0 0)
        clear q0 BB
        obtain ⟨w14, e, q0, BB, F⟩ := F
        rw [e]; clear e
        replace q1 := F _ _ _ (by have dd_m := qt.out; omega) q1
        clear F
        have hb := below_drew (Below.refl w14.heap.size w14)
        generalize w14.drew = w15 at *
        replace q0 := kp q0 hb
        replace q1 := kp q1 hb
        replace BB := nx BB hb
        clear hb
        go_wp2_with fail
        obtain ⟨q2, q3, q4, q5, q6, q7, q8, q9⟩ := reads4 q0.out
        have qa := q0.out.lt
        refine bret (.tuple #[.int .i64 0, imv ↑x0 0 z (.slice none 0 0), .int .i64 (cb1 : Int)]) ?_
        exact ⟨0, ↑x0, 0, z, by rw [hS.out] <;> rfl, BB.out, fun e => absurd e (by rw [hS.out]; exact kb.out)⟩
  · clear hd
    replace o1 := Hi o1; replace o2 := Hi o2; replace o3 := Hi o3; replace o4 := Hi o4; replace o5 := Hi o5
    obtain ⟨la, le1, le2, Bk, p1, lb, Nm, p2, ln⟩ := R2.out
    replace Bk := Hi Bk
    replace Nm := Hi Nm
    replace p1 := Hi p1
    replace p2 := Hi p2
    have hn20' := hn20.out
    have hc1 := hcap.out
    have hc2 := hcap2.out
    by_cases kc : a2 = cap
    · have hS := Hi (show S = 20 by have := p1.out kc; rw [ES.out, this]; simp [hdS, o1.out, o2.out, o3.out, o4.out, show ¬ x0 = 0 by have := o5.out; omega, show ¬ x1 = 0 by have := o5.out; omega, show ¬ 4194304 < x0 * x1 by have := o5.out; omega])
      have hcb := p1.out kc
      have en : n = a2 := by omega
      clear hn20' Bk Nm p1 p2 lb ln le1 le2 la ES R0 R1 R2 RO RO2
      subst en
      subst kc
      clear hc1
      obtain ⟨qb, qc, qd, qe, qf, qg, qh, qi⟩ := reads4 q1.out
      have qr := q1.out.lt
      obtain ⟨q2, q3, q4, q5, q6, q7, q8, q9⟩ := reads4 q0.out
      have qa := q0.out.lt
      go_wp2_with fail
      refine (NB.out _ _ _ (by first | rfl | simp) _).mono ?_
      rintro e w16 ⟨rfl, hb⟩
      clear qb qc qd qe qf qg qh qi qr q2 q3 q4 q5 q6 q7 q8 q9 qa
      replace q0 := kp q0 hb
      replace q1 := kp q1 hb
      replace BB := nx BB hb
      clear hb
      obtain ⟨qb, qc, qd, qe, qf, qg, qh, qi⟩ := reads4 q1.out
      have qr := q1.out.lt
      obtain ⟨q2, q3, q4, q5, q6, q7, q8, q9⟩ := reads4 q0.out
      have qa := q0.out.lt
      go_wp2_with fail
      clear qb qc qd qe qf qg qh qi qr q2 q3 q4 q5 q6 q7 q8 q9 qa
      have KK := Hi fun w9 (h : Below w16.heap.size w16 w9) => And.intro (cells4 (q1.out.keep h)) (cells4 (q0.out.keep h))
      have KD := kd KK
      obtain ⟨qj, qk, ql, qm, qn, qo, qp, qq⟩ := reads4 q0.out
      have qs := q0.out.lt
      refine g_bg KK 3 ?_
      refine g_tk 0 ?_
      refine g_tp 1 ?_
      refine g_tk 2 ?_
      refine g_ts 3 ?_
      refine g_ts 4 ?_
      refine g_dn ?_
      clear KK KD
      clear qj qk ql qm qn qo qp qq qs
      have F := st4 q0 BB 0 (.int .i64 ↑x0) 1 (.int .i64 ↑x1) 2 (.int .i64 z) 3 (.slice none 0 0)
      clear q0 BB
      obtain ⟨w17, e, q0, BB, F⟩ := F
      rw [e]; clear e
      replace q1 := F _ _ _ (by have dd_m := qt.out; omega) q1
      clear F
      have hb := below_drew (Below.refl w17.heap.size w17)
      generalize w17.drew = w18 at *
      replace q0 := kp q0 hb
      replace q1 := kp q1 hb
      replace BB := nx BB hb
      clear hb
      go_wp2_with fail
      obtain ⟨q2, q3, q4, q5, q6, q7, q8, q9⟩ := reads4 q0.out
      have qa := q0.out.lt
      refine bret (.tuple #[.int .i64 0, imv ↑x0 ↑x1 z (.slice none 0 0), .int .i64 20]) ?_
      exact ⟨0, ↑x0, ↑x1, z, by rw [hS.out] <;> rfl, BB.out, fun e => absurd e (by rw [hS.out]; simp)⟩
    · have kt : (a2 : Int) + ((t2 - a2 : Nat) : Int) = (t2 : Int) := by omega
      have kn : (t2 : Int) + ((a3 - t2 : Nat) : Int) = (a3 : Int) := by omega
      have i1 : I64 (t2 : Int) := ⟨by omega, by omega⟩
      have i2 : I64 (a3 : Int) := ⟨by omega, by omega⟩
      have z0 : (0 : Int) ≤ (t2 : Int) := by omega
      have z1 : (t2 : Int) ≤ (n : Int) := by omega
      have s0 : (0 : Int) ≤ (a2 : Int) := by omega
      have s1 : (a2 : Int) ≤ (n : Int) := by omega
      have s2 : ¬ a2 = cap := kc
      have s3 : ¬ cap = a2 := fun e => s2 e.symm
      have hBk := Hi (fun w9 hb => Bk.out w9 hb kc)
      obtain ⟨nb, hnb⟩ : ∃ x, x = t2 - a2 := ⟨_, rfl⟩
      obtain ⟨nn, hnn⟩ : ∃ x, x = a3 - t2 := ⟨_, rfl⟩
      rw [← hnb] at hBk kt
      rw [← hnn] at Nm kn
      clear Bk p1 hnb hnn kc
      obtain ⟨qb, qc, qd, qe, qf, qg, qh, qi⟩ := reads4 q1.out
      have qr := q1.out.lt
      obtain ⟨q2, q3, q4, q5, q6, q7, q8, q9⟩ := reads4 q0.out
      have qa := q0.out.lt
      go_wp2_with fail
      refine (hBk.out _ BB.out).mono ?_
      rintro e w19 ⟨rfl, hb⟩
      clear qb qc qd qe qf qg qh qi qr q2 q3 q4 q5 q6 q7 q8 q9 qa
      replace q0 := kp q0 hb
      replace q1 := kp q1 hb
      replace BB := nx BB hb
      clear hb
      by_cases kb : cb2 = 0
      · have kb1 : ((cb2 : Int) != 0) = false := neq_f kb
        by_cases kc : t2 = cap
        · have hS := Hi (show S = 20 by have := p2.out kc; rw [ES.out, this]; simp [hdS, kb, o1.out, o2.out, o3.out, o4.out, show ¬ x0 = 0 by have := o5.out; omega, show ¬ x1 = 0 by have := o5.out; omega, show ¬ 4194304 < x0 * x1 by have := o5.out; omega])
          have hcn := p2.out kc
          have en : n = t2 := by omega
          clear hn20' Nm p2 lb ln le1 le2 la ES R0 R1 R2 RO RO2 kn i2 z1 z0
          have w1' : IntKind.i64.wrap ((a2 : Int) + (nb : Int)) = (t2 : Int) := by rw [kt]; exact iw i1
          clear kt i1
          subst en
          subst kc
          clear hc1
          obtain ⟨qb, qc, qd, qe, qf, qg, qh, qi⟩ := reads4 q1.out
          have qr := q1.out.lt
          obtain ⟨q2, q3, q4, q5, q6, q7, q8, q9⟩ := reads4 q0.out
          have qa := q0.out.lt
          go_wp2_with fail
          refine (NN.out _ _ _ _ (by first | rfl | simp) _).mono ?_
          rintro e w20 ⟨rfl, hb⟩
          clear qb qc qd qe qf qg qh qi qr q2 q3 q4 q5 q6 q7 q8 q9 qa
          replace q0 := kp q0 hb
          replace q1 := kp q1 hb
          replace BB := nx BB hb
          clear hb
          obtain ⟨qb, qc, qd, qe, qf, qg, qh, qi⟩ := reads4 q1.out
          have qr := q1.out.lt
          obtain ⟨q2, q3, q4, q5, q6, q7, q8, q9⟩ := reads4 q0.out
          have qa := q0.out.lt
          go_wp2_with fail
          clear qb qc qd qe qf qg qh qi qr q2 q3 q4 q5 q6 q7 q8 q9 qa
          have KK := Hi fun w9 (h : Below w20.heap.size w20 w9) => And.intro (cells4 (q1.out.keep h)) (cells4 (q0.out.keep h))
          have KD := kd KK
          obtain ⟨qj, qk, ql, qm, qn, qo, qp, qq⟩ := reads4 q0.out
          have qs := q0.out.lt
          refine g_bg KK 3 ?_
          refine g_tk 0 ?_
          refine g_tp 1 ?_
          refine g_tk 2 ?_
          refine g_ts 3 ?_
          refine g_ts 4 ?_
          refine g_dn ?_
          clear KK KD
          clear qj qk ql qm qn qo qp qq qs
          have F := st4 q0 BB 0 (.int .i64 ↑x0) 1 (.int .i64 ↑x1) 2 (.int .i64 z) 3 (.slice none 0 0)
          clear q0 BB
          obtain ⟨w21, e, q0, BB, F⟩ := F
          rw [e]; clear e
          replace q1 := F _ _ _ (by have dd_m := qt.out; omega) q1
          clear F
          have hb := below_drew (Below.refl w21.heap.size w21)
          generalize w21.drew = w22 at *
          replace q0 := kp q0 hb
          replace q1 := kp q1 hb
          replace BB := nx BB hb
          clear hb
          go_wp2_with fail
          obtain ⟨q2, q3, q4, q5, q6, q7, q8, q9⟩ := reads4 q0.out
          have qa := q0.out.lt
          refine bret (.tuple #[.int .i64 0, imv ↑x0 ↑x1 z (.slice none 0 0), .int .i64 20]) ?_
          exact ⟨0, ↑x0, ↑x1, z, by rw [hS.out] <;> rfl, BB.out, fun e => absurd e (by rw [hS.out]; simp)⟩
        · have z2 : ¬ t2 = cap := kc
          have z3 : ¬ cap = t2 := fun e => kc e.symm
          have hNm := Hi (fun w9 hb => Nm.out w9 hb kc)
          clear Nm p2 la le1 le2 lb ln kc
          have w1' : IntKind.i64.wrap ((a2 : Int) + (nb : Int)) = (t2 : Int) := by rw [kt]; exact iw i1
          have w2' : IntKind.i64.wrap ((t2 : Int) + (nn : Int)) = (a3 : Int) := by rw [kn]; exact iw i2
          clear kt kn i1 i2
          by_cases kn : cn2 = 0
          · have kn1 : ((cn2 : Int) != 0) = false := neq_f kn
            replace kb := Hi kb
            replace kn := Hi kn
            obtain ⟨qb, qc, qd, qe, qf, qg, qh, qi⟩ := reads4 q1.out
            have qr := q1.out.lt
            obtain ⟨q2, q3, q4, q5, q6, q7, q8, q9⟩ := reads4 q0.out
            have qa := q0.out.lt
            go_wp2_with fail
            refine (hNm.out _ BB.out).mono ?_
            rintro e w20 ⟨rfl, hb⟩
            clear qb qc qd qe qf qg qh qi qr q2 q3 q4 q5 q6 q7 q8 q9 qa
            replace q0 := kp q0 hb
            replace q1 := kp q1 hb
            replace BB := nx BB hb
            clear hb
            by_cases h1 : x2 = 255
            · have v1 : ((x2 : Int) != 255) = false := by rw [bne_eq_false_iff_eq]; omega
              replace h1 := Hi h1
              obtain ⟨qb, qc, qd, qe, qf, qg, qh, qi⟩ := reads4 q1.out
              have qr := q1.out.lt
              obtain ⟨q2, q3, q4, q5, q6, q7, q8, q9⟩ := reads4 q0.out
              have qa := q0.out.lt
              go_wp2_with fail
              go_roundw
              case rel => exact ⟨_, _, by exact .inr (.inr (.inr ⟨rfl, rfl, rfl, rfl, o1.out, o2.out, o3.out, o4.out, o5.out, kb.out, kn.out, h1.out⟩)), q1.out, q0.out, BB.out⟩
              case measure => simp [RowKit.intOf]
            · have v1 : ((x2 : Int) != 255) = true := by rw [bne_iff_ne]; omega
              have hS := Hi (show S = 21 by rw [ES.out]; simp [hdS, kb.out, kn.out, o1.out, o2.out, o3.out, o4.out, h1, show ¬ x0 = 0 by have := o5.out; omega, show ¬ x1 = 0 by have := o5.out; omega, show ¬ 4194304 < x0 * x1 by have := o5.out; omega])
              replace h1 := Hi h1
              obtain ⟨qb, qc, qd, qe, qf, qg, qh, qi⟩ := reads4 q1.out
              have qr := q1.out.lt
              obtain ⟨q2, q3, q4, q5, q6, q7, q8, q9⟩ := reads4 q0.out
              have qa := q0.out.lt
              go_wp2_with fail
              clear qb qc qd qe qf qg qh qi qr q2 q3 q4 q5 q6 q7 q8 q9 qa
              have KK := Hi fun w9 (h : Below w20.heap.size w20 w9) => And.intro (cells4 (q1.out.keep h)) (cells4 (q0.out.keep h))
              have KD := kd KK
              obtain ⟨qj, qk, ql, qm, qn, qo, qp, qq⟩ := reads4 q0.out
              have qs := q0.out.lt
              refine g_bg KK 2 ?_
              refine g_tk 0 ?_
              refine g_tk 1 ?_
              refine g_ts 2 ?_
              refine g_ts 3 ?_
              refine g_dn ?_
              clear KK KD
              clear qj qk ql qm qn qo qp qq qs
              have F := st4 q0 BB 0 (.int .i64 (x0 : Int)) 1 (.int .i64 (x1 : Int)) 2 (.int .i64 z) 3 (.slice none 0 0)
              clear q0 BB
              obtain ⟨w21, e, q0, BB, F⟩ := F
              rw [e]; clear e
              replace q1 := F _ _ _ (by have dd_m := qt.out; omega) q1
              clear F
              have hb := below_drew (Below.refl w21.heap.size w21)
              generalize w21.drew = w22 at *
              replace q0 := kp q0 hb
              replace q1 := kp q1 hb
              replace BB := nx BB hb
              clear hb
              go_wp2_with fail
              obtain ⟨q2, q3, q4, q5, q6, q7, q8, q9⟩ := reads4 q0.out
              have qa := q0.out.lt
              refine bret (.tuple #[.int .i64 0, imv (x0 : Int) (x1 : Int) z (.slice none 0 0), .int .i64 21]) ?_
              exact ⟨0, (x0 : Int), (x1 : Int), z, by rw [hS.out] <;> rfl, BB.out, fun e => absurd e (by rw [hS.out]; simp)⟩
          · have kn1 : ((cn2 : Int) != 0) = true := neq_t kn
            have hS := Hi (show S = cn2 by rw [ES.out]; simp [hdS, kb, kn, o1.out, o2.out, o3.out, o4.out, show ¬ x0 = 0 by have := o5.out; omega, show ¬ x1 = 0 by have := o5.out; omega, show ¬ 4194304 < x0 * x1 by have := o5.out; omega])
            replace kb := Hi kb
            replace kn := Hi kn
            obtain ⟨qb, qc, qd, qe, qf, qg, qh, qi⟩ := reads4 q1.out
            have qr := q1.out.lt
            obtain ⟨q2, q3, q4, q5, q6, q7, q8, q9⟩ := reads4 q0.out
            have qa := q0.out.lt
            go_wp2_with fail
            refine (hNm.out _ BB.out).mono ?_
            rintro e w20 ⟨rfl, hb⟩
            clear qb qc qd qe qf qg qh qi qr q2 q3 q4 q5 q6 q7 q8 q9 qa
            replace q0 := kp q0 hb
            replace q1 := kp q1 hb
            replace BB := nx BB hb
            clear hb
            obtain ⟨qb, qc, qd, qe, qf, qg, qh, qi⟩ := reads4 q1.out
            have qr := q1.out.lt
            obtain ⟨q2, q3, q4, q5, q6, q7, q8, q9⟩ := reads4 q0.out
            have qa := q0.out.lt
            go_wp2_with fail
            clear qb qc qd qe qf qg qh qi qr q2 q3 q4 q5 q6 q7 q8 q9 qa
            have KK := Hi fun w9 (h : Below w20.heap.size w20 w9) => And.intro (cells4 (q1.out.keep h)) (cells4 (q0.out.keep h))
            have KD := kd KK
            obtain ⟨qj, qk, ql, qm, qn, qo, qp, qq⟩ := reads4 q0.out
            have qs := q0.out.lt
            refine g_bg KK 3 ?_
            refine g_tk 0 ?_
            refine g_tp 1 ?_
            refine g_tk 2 ?_
            refine g_ts 3 ?_
            refine g_ts 4 ?_
            refine g_dn ?_
            clear KK KD
            clear qj qk ql qm qn qo qp qq qs
            have F := st4 q0 BB 0 (.int .i64 ↑x0) 1 (.int .i64 ↑x1) 2 (.int .i64 z) 3 (.slice none 0 0)
            clear q0 BB
            obtain ⟨w21, e, q0, BB, F⟩ := F
            rw [e]; clear e
            replace q1 := F _ _ _ (by have dd_m := qt.out; omega) q1
            clear F
            have hb := below_drew (Below.refl w21.heap.size w21)
            generalize w21.drew = w22 at *
            replace q0 := kp q0 hb
            replace q1 := kp q1 hb
            replace BB := nx BB hb
            clear hb
            go_wp2_with fail
            obtain ⟨q2, q3, q4, q5, q6, q7, q8, q9⟩ := reads4 q0.out
            have qa := q0.out.lt
            refine bret (.tuple #[.int .i64 0, imv ↑x0 ↑x1 z (.slice none 0 0), .int .i64 (cn2 : Int)]) ?_
            exact ⟨0, ↑x0, ↑x1, z, by rw [hS.out] <;> rfl, BB.out, fun e => absurd e (by rw [hS.out]; exact kn.out)⟩
      · have kb1 : ((cb2 : Int) != 0) = true := neq_t kb
        have hS := Hi (show S = cb2 by rw [ES.out]; simp [hdS, kb, o1.out, o2.out, o3.out, o4.out, show ¬ x0 = 0 by have := o5.out; omega, show ¬ x1 = 0 by have := o5.out; omega, show ¬ 4194304 < x0 * x1 by have := o5.out; omega])
        clear Nm p2 la le1 le2 lb ln kt kn i1 i2
        replace kb := Hi kb
        obtain ⟨qb, qc, qd, qe, qf, qg, qh, qi⟩ := reads4 q1.out
        have qr := q1.out.lt
        obtain ⟨q2, q3, q4, q5, q6, q7, q8, q9⟩ := reads4 q0.out
        have qa := q0.out.lt
        go_wp2_with fail
        clear qb qc qd qe qf qg qh qi qr q2 q3 q4 q5 q6 q7 q8 q9 qa
        have KK := Hi fun w9 (h : Below w19.heap.size w19 w9) => And.intro (cells4 (q1.out.keep h)) (cells4 (q0.out.keep h))
        have KD := kd KK
        obtain ⟨qj, qk, ql, qm, qn, qo, qp, qq⟩ := reads4 q0.out
        have qs := q0.out.lt
        refine g_bg KK 3 ?_
        refine g_tk 0 ?_
        refine g_tp 1 ?_
        refine g_tk 2 ?_
        refine g_ts 3 ?_
        refine g_ts 4 ?_
        refine g_dn ?_
        clear KK KD
        clear qj qk ql qm qn qo qp qq qs
        have F := st4 q0 BB 0 (.int .i64 ↑x0) 1 (.int .i64 ↑x1) 2 (.int .i64 z) 3 (.slice none 0 0)
        clear q0 BB
        obtain ⟨w20, e, q0, BB, F⟩ := F
        rw [e]; clear e
        replace q1 := F _ _ _ (by have dd_m := qt.out; omega) q1
        clear F
        have hb := below_drew (Below.refl w20.heap.size w20)
        generalize w20.drew = w21 at *
        replace q0 := kp q0 hb
        replace q1 := kp q1 hb
        replace BB := nx BB hb
        clear hb
        go_wp2_with fail
        obtain ⟨q2, q3, q4, q5, q6, q7, q8, q9⟩ := reads4 q0.out
        have qa := q0.out.lt
        refine bret (.tuple #[.int .i64 0, imv ↑x0 ↑x1 z (.slice none 0 0), .int .i64 (cb2 : Int)]) ?_
        exact ⟨0, ↑x0, ↑x1, z, by rw [hS.out] <;> rfl, BB.out, fun e => absurd e (by rw [hS.out]; exact kb.out)⟩
  · clear hd
    have hS := Hi (show S = co by rw [ES.out]; simp [hdS, o1, o2, o3, o4, o6, o7, o8, show ¬ x0 = 0 by omega, show ¬ x1 = 0 by omega, show ¬ 4194304 < x0 * x1 by omega])
    have la := R2.out.ln
    have hn20' := hn20.out
    have hc1 := hcap.out
    have hc2 := hcap2.out
    clear o1 o2 o3 o4 o5 o6 o7 o8 R0 R1 R2
    have s0 : (0 : Int) ≤ (a3 : Int) := by omega
    by_cases kc : a3 = cap
    · have hco := Hi (RO2.out kc)
      have en : n = a3 := by omega
      have ew : IntKind.i64.wrap (a3 : Int) = (a3 : Int) := iw ⟨by omega, by omega⟩
      clear hn20' la ES RO RO2 hcap hcap2 hn20
      subst en
      subst kc
      clear hc1
      obtain ⟨qb, qc, qd, qe, qf, qg, qh, qi⟩ := reads4 q1.out
      have qr := q1.out.lt
      obtain ⟨q2, q3, q4, q5, q6, q7, q8, q9⟩ := reads4 q0.out
      have qa := q0.out.lt
      go_wp2_with fail
      refine (NO.out _ _ _ (by first | rfl | simp) _).mono ?_
      rintro e w22 ⟨rfl, hb⟩
      clear qb qc qd qe qf qg qh qi qr q2 q3 q4 q5 q6 q7 q8 q9 qa
      replace q0 := kp q0 hb
      replace q1 := kp q1 hb
      replace BB := nx BB hb
      clear hb
      obtain ⟨qb, qc, qd, qe, qf, qg, qh, qi⟩ := reads4 q1.out
      have qr := q1.out.lt
      obtain ⟨q2, q3, q4, q5, q6, q7, q8, q9⟩ := reads4 q0.out
      have qa := q0.out.lt
      go_wp2_with fail
      clear qb qc qd qe qf qg qh qi qr q2 q3 q4 q5 q6 q7 q8 q9 qa
      have KK := Hi fun w9 (h : Below w22.heap.size w22 w9) => And.intro (cells4 (q1.out.keep h)) (cells4 (q0.out.keep h))
      have KD := kd KK
      obtain ⟨qj, qk, ql, qm, qn, qo, qp, qq⟩ := reads4 q0.out
      have qs := q0.out.lt
      refine g_bg KK 6 ?_
      refine g_tk 0 ?_
      refine g_tk 1 ?_
      refine g_tk 2 ?_
      refine g_tk 3 ?_
      refine g_tp 4 ?_
      refine g_tk 5 ?_
      refine g_ts 6 ?_
      refine g_ts 7 ?_
      refine g_dn ?_
      clear KK KD
      clear qj qk ql qm qn qo qp qq qs
      have F := st4 q0 BB 0 (.int .i64 (x0 : Int)) 1 (.int .i64 (x1 : Int)) 2 (.int .i64 z) 3 (.slice none 0 0)
      clear q0 BB
      obtain ⟨w23, e, q0, BB, F⟩ := F
      rw [e]; clear e
      replace q1 := F _ _ _ (by have dd_m := qt.out; omega) q1
      clear F
      have hb := below_drew (Below.refl w23.heap.size w23)
      generalize w23.drew = w24 at *
      replace q0 := kp q0 hb
      replace q1 := kp q1 hb
      replace BB := nx BB hb
      clear hb
      go_wp2_with fail
      obtain ⟨q2, q3, q4, q5, q6, q7, q8, q9⟩ := reads4 q0.out
      have qa := q0.out.lt
      refine bret (.tuple #[.int .i64 (n : Int), imv (x0 : Int) (x1 : Int) z (.slice none 0 0), .int .i64 20]) ?_
      exact ⟨_, (x0 : Int), (x1 : Int), z, by rw [hS.out, hco.out]; rfl, BB.out, fun e => absurd e (by rw [hS.out, hco.out]; simp)⟩
    · have hOne := Hi (fun w9 hb => RO.out w9 hb kc)
      have h3 := RO3.out
      have s1 : (a3 : Int) ≤ (n : Int) := by omega
      have s2 : ¬ a3 = cap := kc
      have s3 : ¬ cap = a3 := fun e => kc e.symm
      have ka : (a3 : Int) + (no : Int) = ((a3 + no : Nat) : Int) := by omega
      have ia : I64 ((a3 + no : Nat) : Int) := ⟨by omega, by omega⟩
      clear hn20' la ES RO RO2 kc h3 hcap hcap2 hn20 RO3
      have ew : IntKind.i64.wrap ((a3 : Int) + (no : Int)) = ((a3 + no : Nat) : Int) := by rw [ka]; exact iw ia
      clear ka ia
      obtain ⟨qb, qc, qd, qe, qf, qg, qh, qi⟩ := reads4 q1.out
      have qr := q1.out.lt
      obtain ⟨q2, q3, q4, q5, q6, q7, q8, q9⟩ := reads4 q0.out
      have qa := q0.out.lt
      go_wp2_with fail
      refine (hOne.out _ BB.out).mono ?_
      rintro e w25 ⟨rfl, hb⟩
      clear qb qc qd qe qf qg qh qi qr q2 q3 q4 q5 q6 q7 q8 q9 qa
      replace q0 := kp q0 hb
      replace q1 := kp q1 hb
      replace BB := nx BB hb
      clear hb
      obtain ⟨qb, qc, qd, qe, qf, qg, qh, qi⟩ := reads4 q1.out
      have qr := q1.out.lt
      obtain ⟨q2, q3, q4, q5, q6, q7, q8, q9⟩ := reads4 q0.out
      have qa := q0.out.lt
      go_wp2_with fail
      clear qb qc qd qe qf qg qh qi qr q2 q3 q4 q5 q6 q7 q8 q9 qa
      have KK := Hi fun w9 (h : Below w25.heap.size w25 w9) => And.intro (cells4 (q1.out.keep h)) (cells4 (q0.out.keep h))
      have KD := kd KK
      obtain ⟨qj, qk, ql, qm, qn, qo, qp, qq⟩ := reads4 q0.out
      have qs := q0.out.lt
      refine g_bg KK 6 ?_
      refine g_tk 0 ?_
      refine g_tk 1 ?_
      refine g_tk 2 ?_
      refine g_tk 3 ?_
      refine g_tp 4 ?_
      refine g_tk 5 ?_
      refine g_ts 6 ?_
      refine g_ts 7 ?_
      refine g_dn ?_
      clear KK KD
      clear qj qk ql qm qn qo qp qq qs
      have F := st4 q0 BB 0 (.int .i64 (x0 : Int)) 1 (.int .i64 (x1 : Int)) 2 (.int .i64 z) 3 (.slice none 0 0)
      clear q0 BB
      obtain ⟨w26, e, q0, BB, F⟩ := F
      rw [e]; clear e
      replace q1 := F _ _ _ (by have dd_m := qt.out; omega) q1
      clear F
      have hb := below_drew (Below.refl w26.heap.size w26)
      generalize w26.drew = w27 at *
      replace q0 := kp q0 hb
      replace q1 := kp q1 hb
      replace BB := nx BB hb
      clear hb
      go_wp2_with fail
      obtain ⟨q2, q3, q4, q5, q6, q7, q8, q9⟩ := reads4 q0.out
      have qa := q0.out.lt
      refine bret (.tuple #[.int .i64 ((a3 + no : Nat) : Int), imv (x0 : Int) (x1 : Int) z (.slice none 0 0), .int .i64 (co : Int)]) ?_
      exact ⟨_, (x0 : Int), (x1 : Int), z, by rw [hS.out], BB.out, fun e => ⟨_, HP.out e, rfl, rfl, rfl, hz.out⟩⟩
theorem fld_eq {r : List UInt8} {m cb nb cn x nn : Nat} (hB : blkR r = (cb, nb)) (hN : numR (r.drop nb) m = (cn, x, nn)) : fldR r m = if cb = 0 then (if cn = 0 then (0, x, nb + nn) else (cn, 0, 0)) else (cb, 0, 0) := by
 unfold fldR
 rw [hB]
 simp only []
 rw [hN]
theorem one_ok {r : List UInt8} {co no : Nat} (h : oneR r = (co, no)) (h0 : co = 0) : no = 1 := by
 cases r with
 | nil => simp [oneR] at h; omega
 | cons c t =>
   simp only [oneR] at h
   split at h
   · simp at h; omega
   · simp at h; omega
theorem one_le {r : List UInt8} {co no : Nat} (h : oneR r = (co, no)) : no ≤ 1 ∧ no ≤ r.length := by
 cases r with
 | nil => simp [oneR] at h; omega
 | cons c t =>
   simp only [oneR] at h
   split at h
   · simp at h; simp; omega
   · simp at h; simp; omega
theorem hd_code (l : List UInt8) (cb0 nb0 cn0 x0 nn0 cb1 nb1 cn1 x1 nn1 cb2 nb2 cn2 x2 nn2 co no : Nat)
 (hB0 : blkR (l.drop 2) = (cb0, nb0)) (hN0 : numR ((l.drop 2).drop nb0) 32768 = (cn0, x0, nn0))
 (hB1 : blkR (l.drop (2 + nb0 + nn0)) = (cb1, nb1)) (hN1 : numR ((l.drop (2 + nb0 + nn0)).drop nb1) 32768 = (cn1, x1, nn1))
 (hB2 : blkR (l.drop (2 + nb0 + nn0 + nb1 + nn1)) = (cb2, nb2)) (hN2 : numR ((l.drop (2 + nb0 + nn0 + nb1 + nn1)).drop nb2) 255 = (cn2, x2, nn2))
 (hO : oneR (l.drop (2 + nb0 + nn0 + nb1 + nn1 + nb2 + nn2)) = (co, no)) :
 (pnmS (l.drop 2)).1 = hdS cb0 cn0 cb1 cn1 cb2 cn2 x0 x1 x2 co ∧ ((pnmS (l.drop 2)).1 = 0 → (pnmS (l.drop 2)).2.1 = x0 ∧ (pnmS (l.drop 2)).2.2.1 = x1 ∧ (pnmS (l.drop 2)).2.2.2 = l.drop (2 + nb0 + nn0 + nb1 + nn1 + nb2 + nn2 + no)) := by
 have F0 := fld_eq hB0 hN0
 have F1 := fld_eq hB1 hN1
 have F2 := fld_eq hB2 hN2
 unfold pnmS hdS
 by_cases k0 : cb0 = 0
 rotate_left
 · rw [if_neg k0] at F0
   simp [F0, k0]
 by_cases k1 : cn0 = 0
 rotate_left
 · rw [if_pos k0, if_neg k1] at F0
   simp [F0, k0, k1]
 rw [if_pos k0, if_pos k1] at F0
 have e1 : (l.drop 2).drop (nb0 + nn0) = l.drop (2 + nb0 + nn0) := by rw [List.drop_drop, Nat.add_assoc]
 by_cases k2 : cb1 = 0
 rotate_left
 · rw [if_neg k2] at F1
   simp only [F0, e1, F1]
   simp [k0, k1, k2]
 by_cases k3 : cn1 = 0
 rotate_left
 · rw [if_pos k2, if_neg k3] at F1
   simp only [F0, e1, F1]
   simp [k0, k1, k2, k3]
 rw [if_pos k2, if_pos k3] at F1
 have e2 : (l.drop (2 + nb0 + nn0)).drop (nb1 + nn1) = l.drop (2 + nb0 + nn0 + nb1 + nn1) := by rw [List.drop_drop, Nat.add_assoc (2 + nb0 + nn0)]
 by_cases k4 : x0 < 1 ∨ x1 < 1
 · simp only [F0, e1, F1]
   simp only [k0, k1, k2, k3, ne_eq, not_true, if_false, if_pos k4]
   simp
 by_cases k5 : 4194304 < x0 * x1
 · simp only [F0, e1, F1]
   simp only [k0, k1, k2, k3, ne_eq, not_true, if_false, if_neg k4, if_pos k5]
   simp
 by_cases k6 : cb2 = 0
 rotate_left
 · rw [if_neg k6] at F2
   simp only [F0, e1, F1, e2, F2]
   simp only [k0, k1, k2, k3, ne_eq, not_true, if_false, if_neg k4, if_neg k5, k6, not_false_eq_true, if_true]
   simp
 by_cases k7 : cn2 = 0
 rotate_left
 · rw [if_pos k6, if_neg k7] at F2
   simp only [F0, e1, F1, e2, F2]
   simp only [k0, k1, k2, k3, ne_eq, not_true, if_false, if_neg k4, if_neg k5, k6, k7, not_false_eq_true, if_true]
   simp
 rw [if_pos k6, if_pos k7] at F2
 have e3 : (l.drop (2 + nb0 + nn0 + nb1 + nn1)).drop (nb2 + nn2) = l.drop (2 + nb0 + nn0 + nb1 + nn1 + nb2 + nn2) := by rw [List.drop_drop, Nat.add_assoc (2 + nb0 + nn0 + nb1 + nn1)]
 by_cases k8 : x2 = 255
 rotate_left
 · simp only [F0, e1, F1, e2, F2]
   simp only [k0, k1, k2, k3, ne_eq, not_true, if_false, if_neg k4, if_neg k5, k6, k7, k8, not_false_eq_true, if_true]
   simp
 by_cases k9 : co = 0
 rotate_left
 · simp only [F0, e1, F1, e2, F2, e3, hO]
   simp only [k0, k1, k2, k3, ne_eq, not_true, if_false, if_neg k4, if_neg k5, k6, k7, k8, k9, not_false_eq_true, if_true]
   simp
 · have hno := one_ok hO k9
   simp only [F0, e1, F1, e2, F2, e3, hO]
   simp only [k0, k1, k2, k3, ne_eq, not_true, if_false, if_neg k4, if_neg k5, k6, k7, k8, k9]
   refine ⟨trivial, fun _ => ⟨trivial, trivial, ?_⟩⟩
   rw [List.drop_drop, hno]
/-- The code of the head. -/
def hdE : List UInt8 → Nat
 | x :: y :: t => if x ≠ 80 ∨ (y ≠ 53 ∧ y ≠ 54) then 21 else (pnmS t).1
 | [x] => if x = 80 then 20 else 21
 | [] => 20
theorem rhead_main (l : List UInt8) (n cap b off : Nat) (hn : n = l.length) (hl : n ≤ 20000) (h1 : 1 < n) (w : World) (h : BY w (.slice (some ⟨b, off, none⟩) n cap) l) (h0 : l.getD 0 0 = 80) (hy : l.getD 1 0 = 53 ∨ l.getD 1 0 = 54) :
 Calls Tryz.prog 26 #[.slice (some ⟨b, off, none⟩) n cap] w (GiveHd15 (pnmS (l.drop 2)).1 (fun a => a ≤ n ∧ l.drop a = (pnmS (l.drop 2)).2.2.2 ∧ (pnmS (l.drop 2)).1 = 0) (pnmS (l.drop 2)).2.1 (pnmS (l.drop 2)).2.2.1 (if l.getD 1 0 = 54 then 3 else 1) w) := by
 obtain ⟨B0, hB0⟩ : ∃ B, blkR (l.drop 2) = B := ⟨_, rfl⟩
 obtain ⟨cb0, nb0⟩ := B0
 obtain ⟨N0, hN0⟩ : ∃ B, numR ((l.drop 2).drop nb0) 32768 = B := ⟨_, rfl⟩
 obtain ⟨cn0, x0, nn0⟩ := N0
 obtain ⟨B1, hB1⟩ : ∃ B, blkR (l.drop (2 + nb0 + nn0)) = B := ⟨_, rfl⟩
 obtain ⟨cb1, nb1⟩ := B1
 obtain ⟨N1, hN1⟩ : ∃ B, numR ((l.drop (2 + nb0 + nn0)).drop nb1) 32768 = B := ⟨_, rfl⟩
 obtain ⟨cn1, x1, nn1⟩ := N1
 obtain ⟨B2, hB2⟩ : ∃ B, blkR (l.drop (2 + nb0 + nn0 + nb1 + nn1)) = B := ⟨_, rfl⟩
 obtain ⟨cb2, nb2⟩ := B2
 obtain ⟨N2, hN2⟩ : ∃ B, numR ((l.drop (2 + nb0 + nn0 + nb1 + nn1)).drop nb2) 255 = B := ⟨_, rfl⟩
 obtain ⟨cn2, x2, nn2⟩ := N2
 obtain ⟨O, hO⟩ : ∃ B, oneR (l.drop (2 + nb0 + nn0 + nb1 + nn1 + nb2 + nn2)) = B := ⟨_, rfl⟩
 obtain ⟨co, no⟩ := O
 obtain ⟨hC, hD⟩ := hd_code l cb0 nb0 cn0 x0 nn0 cb1 nb1 cn1 x1 nn1 cb2 nb2 cn2 x2 nn2 co no hB0 hN0 hB1 hN1 hB2 hN2 hO
 have R0 := rd_mk l n cap b off hn hl w h 32768 2 (by omega) (by omega)
 rw [hB0] at R0
 simp only [] at R0
 rw [hN0] at R0
 simp only [] at R0
 have R1 := rd_mk l n cap b off hn hl w h 32768 (2 + nb0 + nn0) (by omega) R0.ln
 rw [hB1] at R1
 simp only [] at R1
 rw [hN1] at R1
 simp only [] at R1
 have R2 := rd_mk l n cap b off hn hl w h 255 (2 + nb0 + nn0 + nb1 + nn1) (by omega) R1.ln
 rw [hB2] at R2
 simp only [] at R2
 rw [hN2] at R2
 simp only [] at R2
 have la3 := R2.ln
 obtain ⟨g1, g2, -⟩ := by_cap hn.symm h
 have RO : ∀ w1, Below w.heap.size w w1 → 2 + nb0 + nn0 + nb1 + nn1 + nb2 + nn2 ≠ cap → Calls Tryz.prog 48 #[.slice (some ⟨b, off + (2 + nb0 + nn0 + nb1 + nn1 + nb2 + nn2), none⟩) (n - (2 + nb0 + nn0 + nb1 + nn1 + nb2 + nn2)) (cap - (2 + nb0 + nn0 + nb1 + nn1 + nb2 + nn2))] w1 (GiveTwo no co w1) := by
  intro w1 hb hk
  have := rone _ _ w1 ((by_drop hn.symm h b off rfl _ la3).below hb)
  rw [hO] at this
  exact this
 have RO2 : 2 + nb0 + nn0 + nb1 + nn1 + nb2 + nn2 = cap → co = 20 := by
  intro e
  rw [List.drop_of_length_le (by omega)] at hO
  simp [oneR] at hO
  omega
 have hno := one_le hO
 have hx : x0 ≤ 32768 ∧ x1 ≤ 32768 := by
  have k0 := numR_le ((l.drop 2).drop nb0) 32768
  have k1 := numR_le ((l.drop (2 + nb0 + nn0)).drop nb1) 32768
  rw [hN0] at k0
  rw [hN1] at k1
  exact ⟨k0, k1⟩
 have hby : ∀ k, k < n → ∀ w1, Below w.heap.size w w1 → w1.cell? ⟨b, off + k, none⟩ = some (.int .u8 ((l.getD k 0).toNat : Int)) := by
  intro k hk w1 hb
  obtain ⟨b', off', e, hc⟩ := by_at hn.symm h k hk
  simp only [Option.some.injEq, Addr.mk.injEq] at e
  obtain ⟨rfl, rfl, -⟩ := e
  exact hc w1 hb
 have C0 : C8 w b off 80 := fun w1 hb => by have := hby 0 (by omega) w1 hb; rw [h0] at this; exact this
 have C1 := hby 1 h1
 have hP : (pnmS (l.drop 2)).1 = 0 → ((2 + nb0 + nn0 + nb1 + nn1 + nb2 + nn2 + no) ≤ n ∧ l.drop (2 + nb0 + nn0 + nb1 + nn1 + nb2 + nn2 + no) = (pnmS (l.drop 2)).2.2.2 ∧ (pnmS (l.drop 2)).1 = 0) := by
  intro e
  refine ⟨?_, (hD e).2.2.symm, e⟩
  have := hno.2
  rw [List.length_drop] at this
  omega
 have key : ∀ c, (c = 1 ∧ l.getD 1 0 = 53) ∨ (c = 3 ∧ l.getD 1 0 = 54) → Calls Tryz.prog 26 #[.slice (some ⟨b, off, none⟩) n cap] w (GiveHd15 (pnmS (l.drop 2)).1 (fun a => a ≤ n ∧ l.drop a = (pnmS (l.drop 2)).2.2.2 ∧ (pnmS (l.drop 2)).1 = 0) x0 x1 c w) := by
  rintro c (⟨rfl, e⟩ | ⟨rfl, e⟩)
  · exact rhead_k n cap b off 53 (by omega) (by omega) (by omega) (by rw [beq_eq_false_iff_ne]; omega) (by rw [beq_eq_false_iff_ne]; omega) g1 g2 hl w C0 (fun w1 hb => by have := C1 w1 hb; rw [e] at this; exact this)
     2 _ _ _ _ _ _ _ _ _ _ _ _ _ _ _ co no _ 1 1 rfl (.inl ⟨rfl, rfl⟩) _ rfl R0 R1 R2 RO RO2 hno.1 hx hC hP
  · exact rhead_k n cap b off 54 (by omega) (by omega) (by omega) (by rw [beq_eq_false_iff_ne]; omega) (by rw [beq_eq_false_iff_ne]; omega) g1 g2 hl w C0 (fun w1 hb => by have := C1 w1 hb; rw [e] at this; exact this)
     2 _ _ _ _ _ _ _ _ _ _ _ _ _ _ _ co no _ 3 3 rfl (.inr ⟨rfl, rfl⟩) _ rfl R0 R1 R2 RO RO2 hno.1 hx hC hP
 refine (key (if l.getD 1 0 = 54 then 3 else 1) ?_).mono ?_
 · rcases hy with e | e
   · rw [e]; exact .inl ⟨rfl, rfl⟩
   · rw [e]; exact .inr ⟨rfl, rfl⟩
 · rintro e w1 ⟨A, X, Y, Z, he, hb, hc⟩
   refine ⟨A, X, Y, Z, he, hb, fun k => ?_⟩
   obtain ⟨a, q1, q2, q3, q4, q5⟩ := hc k
   obtain ⟨d1, d2, d3⟩ := hD k
   exact ⟨a, q1, q2, by rw [d1]; exact q3, by rw [d2]; exact q4, q5⟩
theorem rhead (v : Value) (l : List UInt8) (hl : l.length ≤ 20000) (w : World) (h : BY w v l) :
 Calls Tryz.prog 26 #[v] w (GiveHd15 (hdE l) (fun a => a ≤ l.length ∧ l.drop a = (pnmS (l.drop 2)).2.2.2 ∧ (pnmS (l.drop 2)).1 = 0) (pnmS (l.drop 2)).2.1 (pnmS (l.drop 2)).2.2.1 (if l.getD 1 0 = 54 then 3 else 1) w) := by
 obtain ⟨A, cap, e⟩ := h.form
 subst e
 match l, hl, h with
 | [], _, _ => exact rhead_nil 0 cap A rfl _ _ _ _ w
 | [x], hl, h =>
   obtain ⟨b, off, c', e, -, -, hlt, hc⟩ := h.some (by simp)
   simp only [Value.slice.injEq] at e
   obtain ⟨rfl, -, -⟩ := e
   have C0 : C8 w b off (x.toNat : Int) := fun w1 hb => (hb.cell (p := ⟨b, off, none⟩) hlt).trans (hc 0 (by simp))
   by_cases hx : x = 80
   · subst hx
     exact rhead_P 1 cap b off rfl _ _ _ _ w C0
   · have : hdE [x] = 21 := if_neg hx
     rw [this]
     obtain ⟨e1, e2⟩ := byte_ne hx
     exact rhead_x 1 cap b off _ (by simp) (by simp) e1 e2 _ _ _ _ w C0
 | x :: y :: t, hl, h =>
   have h' := h
   obtain ⟨b, off, c', e, -, -, hlt, hc⟩ := h.some (by simp)
   simp only [Value.slice.injEq] at e
   obtain ⟨rfl, -, -⟩ := e
   have C0 : C8 w b off (x.toNat : Int) := fun w1 hb => (hb.cell (p := ⟨b, off, none⟩) hlt).trans (hc 0 (by simp))
   have C1 : C8 w b (off + 1) (y.toNat : Int) := fun w1 hb => (hb.cell (p := ⟨b, off + 1, none⟩) hlt).trans (hc 1 (by simp))
   by_cases hx : x = 80
   · by_cases hy : y = 53 ∨ y = 54
     · have : hdE (x :: y :: t) = (pnmS t).1 := if_neg (by rw [hx]; rcases hy with rfl | rfl <;> simp)
       rw [this]
       exact rhead_main (x :: y :: t) _ cap b off rfl hl (by simp) w h' hx hy
     · have h53 : y ≠ 53 := fun e => hy (.inl e)
       have h54 : y ≠ 54 := fun e => hy (.inr e)
       have : hdE (x :: y :: t) = 21 := if_pos (.inr ⟨h53, h54⟩)
       rw [this]
       subst hx
       exact rhead_y _ cap b off _ (by simp only [List.length_cons]; omega) (by simp only [List.length_cons]; omega) (by simp only [List.length_cons]; omega) (by rw [beq_eq_false_iff_ne]; simp only [List.length_cons]; omega) (by rw [beq_eq_false_iff_ne]; simp only [List.length_cons]; omega) (byte_ne h53).2 (byte_ne h54).2 _ _ _ _ w C0 C1
   · have : hdE (x :: y :: t) = 21 := if_pos (.inl hx)
     rw [this]
     obtain ⟨e1, e2⟩ := byte_ne hx
     exact rhead_x _ cap b off _ (by simp only [List.length_cons]; omega) (by rw [beq_eq_false_iff_ne]; simp only [List.length_cons]; omega) e1 e2 _ _ _ _ w C0
end Go.Proofs.YtikpobembcgbfaaGreatDoor
