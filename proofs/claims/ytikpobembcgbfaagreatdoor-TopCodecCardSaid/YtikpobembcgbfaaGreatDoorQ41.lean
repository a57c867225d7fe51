/- Parts of the proof: Tw1. -/
import Derived.Test.YtikpobembcgbfaaGreatDoorQ33
import Derived.Test.YtikpobembcgbfaaGreatDoorQ35
import Derived.Test.YtikpobembcgbfaaGreatDoorQ37
import Derived.Test.YtikpobembcgbfaaGreatDoorQ40
import Derived.Test.YtikpobembcgbfaaGreatDoorQ31
import Derived.Test.YtikpobembcgbfaaGreatDoorQ24
import Derived.Test.YtikpobembcgbfaaGreatDoorQ14
set_option linter.unusedVariables false
set_option linter.unusedSimpArgs false
set_option maxRecDepth 100000
set_option maxHeartbeats 40000000
namespace Go.Proofs.YtikpobembcgbfaaGreatDoor
open Go.RowKit Go.Lib
theorem tt_long (n cap : Nat) (A : Option Addr) (k : Int) (hn : (20000 : Int) < n) (w : World) : Calls Tryz.prog 3 #[.slice A n cap, .int .i64 k] w fun e w' => e = .returned (.bool true) ∧ Below w.heap.size w w' := by
 go_enter Tryz.func3, Tryz.ntmps3
 go_upto_region 1 with fail
 have BB : Hid (Below w.heap.size w w) := Below.refl _ _
 go_wp2_with fail
 go_ret
 exact ⟨rfl, BB.out⟩
theorem tt_kind (n cap : Nat) (A : Option Addr) (k : Int) (hn : ¬ (20000 : Int) < n) (hk : k < 1 ∨ 4 < k) (w : World) : Calls Tryz.prog 3 #[.slice A n cap, .int .i64 k] w fun e w' => e = .returned (.bool true) ∧ Below w.heap.size w w' := by
 have CH := Hi (fun w => rch_no k hk w)
 clear hk
 go_enter Tryz.func3, Tryz.ntmps3
 go_upto_region 1 with fail
 have BB : Hid (Below w.heap.size w w) := Below.refl _ _
 go_wp2_with fail
 refine (CH.out _).mono ?_
 rintro e w1 ⟨rfl, hb⟩
 replace BB := nx BB hb
 clear hb
 go_wp2_with fail
 go_ret
 exact ⟨rfl, BB.out⟩
theorem tt_bad (S : Nat) (n cap : Nat) (A : Option Addr) (k : Nat) (ck : Int) (l : List UInt8) (nm sc : ByteArray) (w : World) (hn : ¬ (20000 : Int) < n) (q0 : (ck == 0) = false) (CH : Hid (∀ w1, Calls Tryz.prog 4 #[.int .i64 (k : Int)] w1 (GiveCh ck w1))) (NM : Hid (∀ w1, Calls Tryz.prog 5 #[.int .i64 (k : Int)] w1 (GiveNm nm w1)))
 (AD : ∀ w1, (Op.stringOp .add ⟨#[108, 111, 97, 100, 32, 48, 10, 115, 97, 118, 101, 32]⟩ nm).run Tryz.prog w1 = .ok (.string sc) w1) (hV : Hid (∀ w1, Below w.heap.size w w1 → BY w1 (.slice A n cap) l)) (AL : Hid (∀ w1, Below w.heap.size w w1 → Calls Tryz.prog 8 #[] w1 fun e w' => e = .returned (.bool true) ∧ Below w1.heap.size w1 w'))
 (RUN : Hid (∀ g0 w1, Below w.heap.size w w1 → OutIs g0 (.slice A n cap) l w1 → Calls Tryz.prog 6 #[.slice (some ⟨g0, 0, none⟩) 1 1, .string sc] w1 (GiveRs S 0 w1))) (hS : S ≠ 0) (RD : Hid (∀ w1, Below w.heap.size w w1 → Calls Tryz.prog 7 #[.slice A n cap] w1 (GiveCodY (S, 0, 0, 0, []) w1))) :
 Calls Tryz.prog 3 #[.slice A n cap, .int .i64 (k : Int)] w fun e w' => e = .returned (.bool true) ∧ Below w.heap.size w w' := by
 have q1 : ((S : Int) != 0) = true := by rw [bne_iff_ne]; omega
 replace hS := Hi hS
 go_enter Tryz.func3, Tryz.ntmps3
 go_upto_region 1 with fail
 have BB : Hid (Below w.heap.size w w) := Below.refl _ _
 go_wp2_with fail
 refine (CH.out _).mono ?_
 rintro e w1 ⟨rfl, hb⟩
 replace BB := nx BB hb
 clear hb
 go_wp2_with fail
 refine (NM.out _).mono ?_
 rintro e w2 ⟨rfl, hb⟩
 replace BB := nx BB hb
 clear hb
 go_wp2_with fail
 have qp := Hi (And.intro BB.out.size (True.intro))
 obtain ⟨w3, qs, e1, e2, hb, q3⟩ := bx w2 #[.slice A n cap] BLT
 rw [e2] at qp; rw [e1, e2]
 replace BB := nx BB hb
 clear hb e1 e2
 refine (RUN.out _ _ BB.out ⟨q3.out.lt, q3.out.cell 0 rfl, hV.out _ BB.out⟩).mono ?_
 rintro e w4 ⟨rfl, hb⟩
 replace q3 := kp q3 hb
 replace BB := nx BB hb
 clear hb
 go_upto_region 5 with fail
 have qq := Hi (And.intro BB.out.size (And.intro q3.out.lt (True.intro)))
 obtain ⟨w5, qt, e1, e2, hb, q4⟩ := bx w4 #[.slice none 0 0, .int .i64 ↑S, .int .i64 0, .int .i64 0, .int .i64 0, .int .i64 0, .int .i64 0] RsT
 rw [e2] at qq; rw [e1, e2]
 replace q3 := kp q3 hb
 replace BB := nx BB hb
 clear hb e1 e2
 go_wp2_with fail
 refine (RD.out _ BB.out).mono ?_
 rintro e w6 ⟨X, Y, Z, v2, kd, rfl, hb, -, hz, -⟩
 replace q3 := kp q3 hb
 replace q4 := kp q4 hb
 replace BB := nx BB hb
 clear hb
 obtain ⟨rfl, rfl, rfl, rfl⟩ := hz hS.out
 clear hz
 go_upto_region 6 with fail
 have qr := Hi (And.intro BB.out.size (And.intro q3.out.lt (And.intro q4.out.lt (True.intro))))
 obtain ⟨w7, q7, e1, e2, hb, q5⟩ := bx w6 #[.int .i64 0, .int .i64 0, .int .i64 0, .slice none 0 0] IT
 rw [e2] at qr; rw [e1, e2]
 replace q3 := kp q3 hb
 replace q4 := kp q4 hb
 replace BB := nx BB hb
 clear hb e1 e2
 obtain ⟨q8, q9, qa, qb, qc, qd, qe, qf, qg, qh, qi, qj, qk, ql⟩ := reads7 q4.out
 have qm := q4.out.lt
 go_wp2_with fail
 refine (AL.out _ BB.out).mono ?_
 rintro e w8 ⟨rfl, hb⟩
 clear q8 q9 qa qb qc qd qe qf qg qh qi qj qk ql qm
 replace q3 := kp q3 hb
 replace q4 := kp q4 hb
 replace q5 := kp q5 hb
 replace BB := nx BB hb
 clear hb
 go_wp2_with fail
 go_ret
 exact ⟨rfl, BB.out⟩
theorem tt_arg (x y z : Nat) (p : List UInt8) (n cap : Nat) (A : Option Addr) (k : Nat) (ck : Int) (l : List UInt8) (nm sc : ByteArray) (w : World) (hn : ¬ (20000 : Int) < n) (q0 : (ck == 0) = false) (CH : Hid (∀ w1, Calls Tryz.prog 4 #[.int .i64 (k : Int)] w1 (GiveCh ck w1))) (NM : Hid (∀ w1, Calls Tryz.prog 5 #[.int .i64 (k : Int)] w1 (GiveNm nm w1)))
 (AD : ∀ w1, (Op.stringOp .add ⟨#[108, 111, 97, 100, 32, 48, 10, 115, 97, 118, 101, 32]⟩ nm).run Tryz.prog w1 = .ok (.string sc) w1) (hV : Hid (∀ w1, Below w.heap.size w w1 → BY w1 (.slice A n cap) l)) (AL : Hid (∀ w1, Below w.heap.size w w1 → Calls Tryz.prog 8 #[] w1 fun e w' => e = .returned (.bool true) ∧ Below w1.heap.size w1 w'))
 (RUN : Hid (∀ g0 w1, Below w.heap.size w w1 → OutIs g0 (.slice A n cap) l w1 → Calls Tryz.prog 6 #[.slice (some ⟨g0, 0, none⟩) 1 1, .string sc] w1 (GiveRs 10 1 w1))) (q2 : ((z : Int) != ck) = true) (RD : Hid (∀ w1, Below w.heap.size w w1 → Calls Tryz.prog 7 #[.slice A n cap] w1 (GiveCodY (0, x, y, z, p) w1))) :
 Calls Tryz.prog 3 #[.slice A n cap, .int .i64 (k : Int)] w fun e w' => e = .returned (.bool true) ∧ Below w.heap.size w w' := by
 go_enter Tryz.func3, Tryz.ntmps3
 go_upto_region 1 with fail
 have BB : Hid (Below w.heap.size w w) := Below.refl _ _
 go_wp2_with fail
 refine (CH.out _).mono ?_
 rintro e w1 ⟨rfl, hb⟩
 replace BB := nx BB hb
 clear hb
 go_wp2_with fail
 refine (NM.out _).mono ?_
 rintro e w2 ⟨rfl, hb⟩
 replace BB := nx BB hb
 clear hb
 go_wp2_with fail
 have qp := Hi (And.intro BB.out.size (True.intro))
 obtain ⟨w3, qs, e1, e2, hb, q3⟩ := bx w2 #[.slice A n cap] BLT
 rw [e2] at qp; rw [e1, e2]
 replace BB := nx BB hb
 clear hb e1 e2
 refine (RUN.out _ _ BB.out ⟨q3.out.lt, q3.out.cell 0 rfl, hV.out _ BB.out⟩).mono ?_
 rintro e w4 ⟨rfl, hb⟩
 replace q3 := kp q3 hb
 replace BB := nx BB hb
 clear hb
 go_upto_region 5 with fail
 have qq := Hi (And.intro BB.out.size (And.intro q3.out.lt (True.intro)))
 obtain ⟨w5, qt, e1, e2, hb, q4⟩ := bx w4 #[.slice none 0 0, .int .i64 10, .int .i64 1, .int .i64 1, .int .i64 0, .int .i64 0, .int .i64 0] RsT
 rw [e2] at qq; rw [e1, e2]
 replace q3 := kp q3 hb
 replace BB := nx BB hb
 clear hb e1 e2
 go_wp2_with fail
 refine (RD.out _ BB.out).mono ?_
 rintro e w6 ⟨X, Y, Z, v2, kd, rfl, hb, hf, -, hz⟩
 replace q3 := kp q3 hb
 replace q4 := kp q4 hb
 replace BB := nx BB hb
 clear hb
 obtain ⟨rfl, rfl, rfl, hB⟩ := hz rfl
 obtain ⟨A2, m2, cap2, rfl⟩ := hf
 replace hB := Hi hB
 clear hz
 go_upto_region 6 with fail
 have qr := Hi (And.intro BB.out.size (And.intro q3.out.lt (And.intro q4.out.lt (True.intro))))
 obtain ⟨w7, q7, e1, e2, hb, q5⟩ := bx w6 #[.int .i64 ↑x, .int .i64 ↑y, .int .i64 ↑z, .slice A2 m2 cap2] IT
 rw [e2] at qr; rw [e1, e2]
 replace q3 := kp q3 hb
 replace q4 := kp q4 hb
 replace hB := Hi (BS.below hB.out hb)
 replace BB := nx BB hb
 clear hb e1 e2
 go_wp2_with fail
 have KK := Hi (fun (w9 : World) (h : Below w7.heap.size w7 w9) => (cells4 (q5.out.keep h) : (w9.cell? ⟨q7, 0, none⟩ = some (.int .i64 ↑x) ∧ w9.cell? ⟨q7, 1, none⟩ = some (.int .i64 ↑y) ∧ w9.cell? ⟨q7, 2, none⟩ = some (.int .i64 ↑z) ∧ w9.cell? ⟨q7, 3, none⟩ = some (.slice A2 m2 cap2))))
 have K0 := KK.out w7 (Below.refl _ _)
 have KD := KK.out w7.drew (below_drew (Below.refl _ _))
 go_region_held3 (fun w9 => (w9.cell? ⟨q7, 0, none⟩ = some (.int .i64 ↑x) ∧ w9.cell? ⟨q7, 1, none⟩ = some (.int .i64 ↑y) ∧ w9.cell? ⟨q7, 2, none⟩ = some (.int .i64 ↑z) ∧ w9.cell? ⟨q7, 3, none⟩ = some (.slice A2 m2 cap2)))
  (first | with_reducible exact KD | with_reducible exact K0 | with_reducible exact qn)
  (first
    | (go_at_call 4
       refine (CH.out _).mono ?_
       rintro e w8 ⟨rfl, hb⟩
       have q6 := rn (w0 := w7) hb
       have qn := KK.out _ q6.out
       clear hb))
 clear KK K0 KD qn
 replace q3 := kp q3 q6.out
 replace q4 := kp q4 q6.out
 replace q5 := kp q5 q6.out
 replace hB := Hi (BS.below hB.out q6.out)
 replace BB := nx BB q6.out
 clear q6
 obtain ⟨q8, q9, qa, qb, qc, qd, qe, qf, qg, qh, qi, qj, qk, ql⟩ := reads7 q4.out
 have qm := q4.out.lt
 go_wp2_with fail
 refine (AL.out _ BB.out).mono ?_
 rintro e w10 ⟨rfl, hb⟩
 clear q8 q9 qa qb qc qd qe qf qg qh qi qj qk ql qm
 replace q3 := kp q3 hb
 replace q4 := kp q4 hb
 replace q5 := kp q5 hb
 replace hB := Hi (BS.below hB.out hb)
 replace BB := nx BB hb
 clear hb
 go_wp2_with fail
 go_ret
 exact ⟨rfl, BB.out⟩
theorem tt_ok (x y z : Nat) (p l2 : List UInt8) (n cap : Nat) (A : Option Addr) (k : Nat) (ck : Int) (l : List UInt8) (nm sc : ByteArray) (w : World) (hn : ¬ (20000 : Int) < n) (q0 : (ck == 0) = false) (CH : Hid (∀ w1, Calls Tryz.prog 4 #[.int .i64 (k : Int)] w1 (GiveCh ck w1))) (NM : Hid (∀ w1, Calls Tryz.prog 5 #[.int .i64 (k : Int)] w1 (GiveNm nm w1)))
 (AD : ∀ w1, (Op.stringOp .add ⟨#[108, 111, 97, 100, 32, 48, 10, 115, 97, 118, 101, 32]⟩ nm).run Tryz.prog w1 = .ok (.string sc) w1) (hV : Hid (∀ w1, Below w.heap.size w w1 → BY w1 (.slice A n cap) l)) (AL : Hid (∀ w1, Below w.heap.size w w1 → Calls Tryz.prog 8 #[] w1 fun e w' => e = .returned (.bool true) ∧ Below w1.heap.size w1 w'))
 (RUN : Hid (∀ g0 w1, Below w.heap.size w w1 → OutIs g0 (.slice A n cap) l w1 → Calls Tryz.prog 6 #[.slice (some ⟨g0, 0, none⟩) 1 1, .string sc] w1 (GiveRo l2 w1))) (q2 : ((z : Int) != ck) = false) (RD : Hid (∀ w1, Below w.heap.size w w1 → Calls Tryz.prog 7 #[.slice A n cap] w1 (GiveCodY (0, x, y, z, p) w1)))
 (WR : Hid (∀ v w1, BY w1 v p → Calls Tryz.prog 9 #[.int .i64 (k : Int), imv x y z v] w1 (GiveWr l2 w1)))
 (RUN2 : Hid (∀ g0 c0 v w1, Below w.heap.size w w1 → OutIs g0 v l2 w1 → Calls Tryz.prog 6 #[.slice (some ⟨g0, 0, none⟩) 1 c0, .string sc] w1 (GiveRo l2 w1))) :
 Calls Tryz.prog 3 #[.slice A n cap, .int .i64 (k : Int)] w fun e w' => e = .returned (.bool true) ∧ Below w.heap.size w w' := by
 go_enter Tryz.func3, Tryz.ntmps3
 go_upto_region 1 with fail
 have BB : Hid (Below w.heap.size w w) := Below.refl _ _
 go_wp2_with fail
 refine (CH.out _).mono ?_
 rintro e w1 ⟨rfl, hb⟩
 replace BB := nx BB hb
 clear hb
 go_wp2_with fail
 refine (NM.out _).mono ?_
 rintro e w2 ⟨rfl, hb⟩
 replace BB := nx BB hb
 clear hb
 go_wp2_with fail
 have qp := Hi (And.intro BB.out.size (True.intro))
 obtain ⟨w3, qs, e1, e2, hb, q3⟩ := bx w2 #[.slice A n cap] BLT
 rw [e2] at qp; rw [e1, e2]
 replace BB := nx BB hb
 clear hb e1 e2
 refine (RUN.out _ _ BB.out ⟨q3.out.lt, q3.out.cell 0 rfl, hV.out _ BB.out⟩).mono ?_
 rintro e w4 ⟨g2, cp2, u, rfl, hb, hU, -⟩
 replace q3 := kp q3 hb
 replace BB := nx BB hb
 clear hb
 replace hU := Hi hU
 go_upto_region 5 with fail
 have qq := Hi (And.intro BB.out.size (And.intro q3.out.lt (True.intro)))
 obtain ⟨w5, qt, e1, e2, hb, q4⟩ := bx w4 #[.slice (some ⟨g2, 0, none⟩) 1 cp2, .int .i64 0, .int .i64 2, .int .i64 2, .int .i64 0, .int .i64 0, .int .i64 0] RsT
 rw [e2] at qq; rw [e1, e2]
 replace q3 := kp q3 hb
 replace hU := Hi (OutIs.below hU.out hb)
 replace BB := nx BB hb
 clear hb e1 e2
 go_wp2_with fail
 refine (RD.out _ BB.out).mono ?_
 rintro e w6 ⟨X, Y, Z, v2, kd, rfl, hb, hf, -, hz⟩
 replace q3 := kp q3 hb
 replace q4 := kp q4 hb
 replace hU := Hi (OutIs.below hU.out hb)
 replace BB := nx BB hb
 clear hb
 obtain ⟨rfl, rfl, rfl, hB⟩ := hz rfl
 obtain ⟨A2, m2, cap2, rfl⟩ := hf
 replace hB := Hi hB
 clear hz
 go_upto_region 6 with fail
 have qr := Hi (And.intro BB.out.size (And.intro q3.out.lt (And.intro q4.out.lt (True.intro))))
 obtain ⟨w7, q7, e1, e2, hb, q5⟩ := bx w6 #[.int .i64 ↑x, .int .i64 ↑y, .int .i64 ↑z, .slice A2 m2 cap2] IT
 rw [e2] at qr; rw [e1, e2]
 replace q3 := kp q3 hb
 replace q4 := kp q4 hb
 replace hU := Hi (OutIs.below hU.out hb)
 replace hB := Hi (BS.below hB.out hb)
 replace BB := nx BB hb
 clear hb e1 e2
 go_wp2_with fail
 have KK := Hi (fun (w9 : World) (h : Below w7.heap.size w7 w9) => (cells4 (q5.out.keep h) : (w9.cell? ⟨q7, 0, none⟩ = some (.int .i64 ↑x) ∧ w9.cell? ⟨q7, 1, none⟩ = some (.int .i64 ↑y) ∧ w9.cell? ⟨q7, 2, none⟩ = some (.int .i64 ↑z) ∧ w9.cell? ⟨q7, 3, none⟩ = some (.slice A2 m2 cap2))))
 have K0 := KK.out w7 (Below.refl _ _)
 have KD := KK.out w7.drew (below_drew (Below.refl _ _))
 go_region_held3 (fun w9 => (w9.cell? ⟨q7, 0, none⟩ = some (.int .i64 ↑x) ∧ w9.cell? ⟨q7, 1, none⟩ = some (.int .i64 ↑y) ∧ w9.cell? ⟨q7, 2, none⟩ = some (.int .i64 ↑z) ∧ w9.cell? ⟨q7, 3, none⟩ = some (.slice A2 m2 cap2)))
  (first | with_reducible exact KD | with_reducible exact K0 | with_reducible exact qn)
  (first
    | (go_at_call 4
       refine (CH.out _).mono ?_
       rintro e w8 ⟨rfl, hb⟩
       have q6 := rn (w0 := w7) hb
       have qn := KK.out _ q6.out
       clear hb))
 clear KK K0 KD qn
 replace q3 := kp q3 q6.out
 replace q4 := kp q4 q6.out
 replace q5 := kp q5 q6.out
 replace hU := Hi (OutIs.below hU.out q6.out)
 replace hB := Hi (BS.below hB.out q6.out)
 replace BB := nx BB q6.out
 clear q6
 obtain ⟨qu, qv, qw, qx, qy, qz, qA, qB⟩ := reads4 q5.out
 have qR := q5.out.lt
 go_wp2_with fail
 refine (WR.out _ _ hB.out).mono ?_
 rintro e w10 ⟨v3, rfl, hb, hw⟩
 clear qu qv qw qx qy qz qA qB qR
 replace q3 := kp q3 hb
 replace q4 := kp q4 hb
 replace q5 := kp q5 hb
 replace hU := Hi (OutIs.below hU.out hb)
 replace hB := Hi (BS.below hB.out hb)
 replace BB := nx BB hb
 clear hb
 obtain ⟨A3, c3, e3⟩ := hw.form
 obtain ⟨m3, hm3⟩ : ∃ m3, m3 = l2.length := ⟨_, rfl⟩
 rw [← hm3] at e3
 subst e3
 clear hm3
 replace hw := Hi hw
 obtain ⟨q8, q9, qa, qb, qc, qd, qe, qf, qg, qh, qi, qj, qk, ql⟩ := reads7 q4.out
 have qm := q4.out.lt
 obtain ⟨A4, c4, e4⟩ := hU.out.2.2.form
 obtain ⟨m4, hm4⟩ : ∃ m4, m4 = l2.length := ⟨_, rfl⟩
 rw [← hm4] at e4
 subst e4
 clear hm4
 have cu := hU.out.2.1
 have lu := hU.out.1
 go_wp2_with fail
 refine (rsame14 _ _ l2 _ hU.out.2.2 hw.out).mono ?_
 rintro e w9 ⟨rfl, rfl⟩
 go_wp2_with fail
 clear cu lu
 refine (RUN2.out _ _ _ _ BB.out hU.out).mono ?_
 rintro e w11 ⟨g3, cp3, u3, rfl, hb, hU3, -⟩
 clear q8 q9 qa qb qc qd qe qf qg qh qi qj qk ql qm
 replace q3 := kp q3 hb
 replace q4 := kp q4 hb
 replace q5 := kp q5 hb
 replace hU := Hi (OutIs.below hU.out hb)
 replace hB := Hi (BS.below hB.out hb)
 replace hw := Hi (BS.below hw.out hb)
 replace BB := nx BB hb
 clear hb
 replace hU3 := Hi hU3
 go_upto_region 14 with fail
 have qS := Hi (And.intro BB.out.size (And.intro q3.out.lt (And.intro q4.out.lt (And.intro q5.out.lt (True.intro)))))
 obtain ⟨w12, g_q, e1, e2, hb, qo⟩ := bx w11 #[.slice (some ⟨g3, 0, none⟩) 1 cp3, .int .i64 0, .int .i64 2, .int .i64 2, .int .i64 0, .int .i64 0, .int .i64 0] RsT
 rw [e2] at qS; rw [e1, e2]
 replace q3 := kp q3 hb
 replace q4 := kp q4 hb
 replace q5 := kp q5 hb
 replace hU := Hi (OutIs.below hU.out hb)
 replace hB := Hi (BS.below hB.out hb)
 replace hw := Hi (BS.below hw.out hb)
 replace hU3 := Hi (OutIs.below hU3.out hb)
 replace BB := nx BB hb
 clear hb e1 e2
 obtain ⟨q8, q9, qa, qb, qc, qd, qe, qf, qg, qh, qi, qj, qk, ql⟩ := reads7 q4.out
 have qm := q4.out.lt
 obtain ⟨qC, qD, qE, qF, qG, qH, qI, qJ, qK, qL, qM, qN, qO, qQ⟩ := reads7 qo.out
 have qT := qo.out.lt
 go_wp2_with fail
 refine (talike _ _ _ _ _ _ l2 _ hU3.out hU.out).mono ?_
 rintro e w13 ⟨rfl, hb⟩
 clear q8 q9 qa qb qc qd qe qf qg qh qi qj qk ql qm qC qD qE qF qG qH qI qJ qK qL qM qN qO qQ qT
 replace q3 := kp q3 hb
 replace q4 := kp q4 hb
 replace q5 := kp q5 hb
 replace qo := kp qo hb
 replace hU := Hi (OutIs.below hU.out hb)
 replace hB := Hi (BS.below hB.out hb)
 replace hw := Hi (BS.below hw.out hb)
 replace hU3 := Hi (OutIs.below hU3.out hb)
 replace BB := nx BB hb
 clear hb
 go_wp2_with fail
 refine (AL.out _ BB.out).mono ?_
 rintro e w14 ⟨rfl, hb⟩
 replace q3 := kp q3 hb
 replace q4 := kp q4 hb
 replace q5 := kp q5 hb
 replace qo := kp qo hb
 replace hU := Hi (OutIs.below hU.out hb)
 replace hB := Hi (BS.below hB.out hb)
 replace hw := Hi (BS.below hw.out hb)
 replace hU3 := Hi (OutIs.below hU3.out hb)
 replace BB := nx BB hb
 clear hb
 go_wp2_with fail
 go_ret
 exact ⟨rfl, BB.out⟩
theorem run_bad {S x y z k : Nat} {p : List UInt8} (hS : S ≠ 0) : GiveRun (S, x, y, z, p) k = GiveRs S 0 := funext fun w => if_pos hS
theorem run_arg {x y z k : Nat} {p : List UInt8} (hc : z ≠ kindC k) : GiveRun (0, x, y, z, p) k = GiveRs 10 1 := funext fun w => (if_neg (by simp)).trans (if_pos hc)
theorem run_ok {x y z k : Nat} {p : List UInt8} (hc : z = kindC k) : GiveRun (0, x, y, z, p) k = GiveRo (imgW k x y z p) := funext fun w => (if_neg (by simp)).trans (if_neg (by simpa using hc))
theorem topCodec_any (v : Value) (l : List UInt8) (k : Int) (w : World) (hv : BY w v l) (ht : Tab w) : Calls Tryz.prog 3 #[v, .int .i64 k] w fun e w' => e = .returned (.bool true) ∧ Below w.heap.size w w' := by
 obtain ⟨A, cap, e⟩ := hv.form
 subst e
 by_cases hn : 20000 < l.length
 · exact tt_long _ cap A k (by omega) w
 by_cases hk : k < 1 ∨ 4 < k
 · exact tt_kind _ cap A k (by omega) hk w
 obtain ⟨j, rfl⟩ : ∃ j : Nat, k = (j : Int) := ⟨k.toNat, by omega⟩
 have hj : j = 1 ∨ j = 2 ∨ j = 3 ∨ j = 4 := by omega
 have hj2 : 1 ≤ j ∧ j ≤ 4 := by omega
 have CH : ∀ w1, Calls Tryz.prog 4 #[.int .i64 (j : Int)] w1 (GiveCh (kindC j : Int) w1) := by
  rcases hj with rfl | rfl | rfl | rfl
  · exact rch_1
  · exact rch_2
  · exact rch_3
  · exact rch_4
 have NM : ∀ w1, Calls Tryz.prog 5 #[.int .i64 (j : Int)] w1 (GiveNm ⟨(kName j).toArray⟩ w1) := by
  rcases hj with rfl | rfl | rfl | rfl
  · exact rnm_1
  · exact rnm_2
  · exact rnm_3
  · exact rnm_4
 have q0 : ((kindC j : Int) == 0) = false := by rcases hj with rfl | rfl | rfl | rfl <;> decide
 have hsz : (⟨(kName j).toArray⟩ : ByteArray).size ≤ 5 := by rcases hj with rfl | rfl | rfl | rfl <;> decide
 have AD := (add_is (a := ⟨#[108, 111, 97, 100, 32, 48, 10, 115, 97, 118, 101, 32]⟩) (b := ⟨(kName j).toArray⟩) (s := ⟨(scr j).toArray⟩) 30 (by apply ByteArray.ext; simp [scr]) (by show 12 + _ ≤ 30; omega) (by decide)).2
 have hV := Hi (fun w1 (hb : Below w.heap.size w w1) => BS.below hv hb)
 have AL := Hi (fun w1 (hb : Below w.heap.size w w1) => talive w1 (tab_on ht hb))
 have RD := fun w1 (hb : Below w.heap.size w w1) => rread17_of (.slice A l.length cap) l w1 (hV.out w1 hb) (fun w2 h2 => rread15 _ l (by omega) w2 (BS.below (hV.out w1 hb) h2)) (fun w2 h2 => rread16 _ l (by omega) w2 (BS.below (hV.out w1 hb) h2))
 have hI := fun W H C p => imgR_img (b := l) (W := W) (H := H) (C := C) (p := p)
 have RUN := fun g0 w1 (hb : Below w.heap.size w w1) (ho : OutIs g0 (.slice A l.length cap) l w1) => rrun j hj g0 1 _ l (by omega) w1 ho (fun W H C p e => by have := (hI W H C p e).2; omega) (tab_on ht hb)
 have hZ := fun S x y z p => imgR_zero (l := l) (S := S) (x := x) (y := y) (z := z) (p := p)
 generalize imgR l = R at *
 obtain ⟨S, x, y, z, p⟩ := R
 by_cases hS : S = 0
 · subst hS
   obtain ⟨hi, hpl⟩ := hI x y z p rfl
   by_cases hc : z = kindC j
   · rw [run_ok hc] at RUN
     have hlen := imgW_len (k := j) hi (by omega)
     refine tt_ok x y z p (imgW j x y z p) _ cap A j _ l _ _ w (by omega) q0 CH NM AD hV AL RUN (by rw [hc]; simp) RD (Hi fun v w1 hb => rwrite17 j x y z p hi hj2 hc (by omega) v w1 hb) (Hi fun g0 c0 v w1 hb ho => ?_)
     have h := rrun j hj g0 c0 v _ hlen w1 ho (fun W H C q e => by rw [img_back hi hj2 hc] at e; cases e; omega) (tab_on ht hb)
     rw [img_back hi hj2 hc, run_ok hc] at h
     exact h
   · rw [run_arg hc] at RUN
     exact tt_arg x y z p _ cap A j _ l _ _ w (by omega) q0 CH NM AD hV AL RUN (by rw [bne_iff_ne]; omega) RD
 · rw [run_bad hS] at RUN
   obtain ⟨rfl, rfl, rfl, rfl⟩ := hZ S x y z p rfl hS
   exact tt_bad S _ cap A j _ l _ _ w (by omega) q0 CH NM AD hV AL RUN hS RD
end Go.Proofs.YtikpobembcgbfaaGreatDoor
