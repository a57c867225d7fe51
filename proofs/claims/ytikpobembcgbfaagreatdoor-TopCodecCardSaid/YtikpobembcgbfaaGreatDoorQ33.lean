/- Parts of the proof: Tw0. -/
import Derived.Test.YtikpobembcgbfaaGreatDoorQ32
import Derived.Test.YtikpobembcgbfaaGreatDoorQ27
import Derived.Test.YtikpobembcgbfaaGreatDoorQ14
set_option linter.unusedVariables false
set_option linter.unusedSimpArgs false
set_option maxRecDepth 100000
set_option maxHeartbeats 40000000
namespace Go.Proofs.YtikpobembcgbfaaGreatDoor
open Go.RowKit Go.Lib
theorem talike (ga ca gb cb : Nat) (u v : Value) (l : List UInt8) (w : World) (ha : OutIs ga u l w) (hb : OutIs gb v l w) : Calls Tryz.prog 11 #[.agg #[.slice (some ⟨ga, 0, none⟩) 1 ca, .int .i64 0, .int .i64 2, .int .i64 2, .int .i64 0, .int .i64 0, .int .i64 0], .agg #[.slice (some ⟨gb, 0, none⟩) 1 cb, .int .i64 0, .int .i64 2, .int .i64 2, .int .i64 0, .int .i64 0, .int .i64 0]] w fun e w' => e = .returned (.bool true) ∧ Below w.heap.size w w' := by
 have CO := Hi (fun w1 (h : Below w.heap.size w w1) => routs ga 0 ca gb 0 cb u v l w1 (ha.below h).1 (hb.below h).1 (ha.below h).2.1 (hb.below h).2.1 (ha.below h).2.2 (hb.below h).2.2)
 clear ha hb
 go_enter Tryz.func11, Tryz.ntmps11
 go_upto_region 1 with fail
 have BB := start2 w #[.slice (some ⟨ga, 0, none⟩) 1 ca, .int .i64 0, .int .i64 2, .int .i64 2, .int .i64 0, .int .i64 0, .int .i64 0] RsT #[.slice (some ⟨gb, 0, none⟩) 1 cb, .int .i64 0, .int .i64 2, .int .i64 2, .int .i64 0, .int .i64 0, .int .i64 0] RsT
 obtain ⟨BB, hsz, q1, q0⟩ := BB
 generalize ((w.alloc (.cells #[.slice (some ⟨ga, 0, none⟩) 1 ca, .int .i64 0, .int .i64 2, .int .i64 2, .int .i64 0, .int .i64 0, .int .i64 0] RsT)).alloc (.cells #[.slice (some ⟨gb, 0, none⟩) 1 cb, .int .i64 0, .int .i64 2, .int .i64 2, .int .i64 0, .int .i64 0, .int .i64 0] RsT)) = w0 at *
 replace BB := Hi BB
 replace q1 := Hi q1
 replace q0 := Hi q0
 clear hsz
 obtain ⟨q2, q3, q4, q5, q6, q7, q8, q9, qa, qb, qc, qd, qe, qf⟩ := reads7 q1.out
 have qu := q1.out.lt
 obtain ⟨qg, qh, qi, qj, qk, ql, qm, qn, qo, qp, qq, qr, qs, qt⟩ := reads7 q0.out
 have qv := q0.out.lt
 go_wp2_with fail
 refine (CO.out _ BB.out).mono ?_
 rintro e w1 ⟨rfl, hb⟩
 clear q2 q3 q4 q5 q6 q7 q8 q9 qa qb qc qd qe qf qu qg qh qi qj qk ql qm qn qo qp qq qr qs qt qv
 replace q1 := kp q1 hb
 replace q0 := kp q0 hb
 replace BB := nx BB hb
 clear hb
 obtain ⟨q2, q3, q4, q5, q6, q7, q8, q9, qa, qb, qc, qd, qe, qf⟩ := reads7 q1.out
 have qu := q1.out.lt
 obtain ⟨qg, qh, qi, qj, qk, ql, qm, qn, qo, qp, qq, qr, qs, qt⟩ := reads7 q0.out
 have qv := q0.out.lt
 go_wp2_with fail
 go_ret
 exact ⟨rfl, BB.out⟩
theorem ex_run (g0 icap : Nat) (v : Value) (w : World) (h : OutIs g0 v exB w) (ht : Tab w) : Calls Tryz.prog 6 #[.slice (some ⟨g0, 0, none⟩) 1 icap, .string ⟨#[108, 111, 97, 100, 32, 48, 10, 115, 97, 118, 101, 32, 112, 103, 109]⟩] w (GiveRo [80, 53, 10, 49, 32, 49, 10, 50, 53, 53, 10, 7] w) := by
 have h := rrun 1 (.inl rfl) g0 icap v exB (by decide) w h (by rw [exR]; rintro W H C p e; cases e; decide) ht
 rw [exR] at h
 unfold GiveRun at h
 rw [if_neg (by simp), if_neg (by simp [kindC]), exW] at h
 exact h
theorem ex_lay (w : World) : ∃ w1, (convert 22 22 (.slice (some ⟨w.heap.size, 0, none⟩) 12 12)).run Tryz.prog (w.alloc (.cells #[.int .u8 80, .int .u8 53, .int .u8 32, .int .u8 49, .int .u8 32, .int .u8 49, .int .u8 32, .int .u8 50, .int .u8 53, .int .u8 53, .int .u8 10, .int .u8 7] 5)) = .ok (.slice (some ⟨w.heap.size, 0, none⟩) 12 12) w1 ∧ Below w.heap.size w w1 ∧ BY w1 (.slice (some ⟨w.heap.size, 0, none⟩) 12 12) exB := by
 refine ⟨_, Lib.run_convert_bytes_const w 22 5 _ 12 12 Tryz.underlying22 Tryz.underlying5, below_new (Below.refl _ _) _, ?_⟩
 refine by_mk (l := exB) (cap := 12) (by decide) (by decide) (by simp [World.size_alloc]) (fun i hi => ?_)
 rw [Nat.zero_add, World.cell?_alloc_mark]
 show ((uV exB).toArray)[i]? = _
 rw [List.getElem?_toArray]
 exact uV_at hi
theorem ex_str {w : World} {u : Value} (h : BY w u [80, 53, 10, 49, 32, 49, 10, 50, 53, 53, 10, 7]) : (convert 22 9 u).run Tryz.prog w = .ok (.string ⟨#[80, 53, 10, 49, 32, 49, 10, 50, 53, 53, 10, 7]⟩) w := by
 rw [conv_by h]
 rfl
theorem talive (w : World) (ht : Tab w) : Calls Tryz.prog 8 #[] w fun e w' => e = .returned (.bool true) ∧ Below w.heap.size w w' := by
 obtain ⟨wx, CV, hb0, hV⟩ := ex_lay w
 have HT := Hi (fun w1 (hb : Below w.heap.size w w1) => tab_on ht hb)
 replace hV := Hi hV
 replace hb0 := Hi hb0
 clear ht
 go_enter Tryz.func8, Tryz.ntmps8
 go_upto_region 1 with fail
 have BB : Hid (Below w.heap.size w w) := Below.refl _ _
 go_wp2_with fail
 replace BB := Hi hb0.out
 clear hb0
 have qx := Hi (And.intro BB.out.size (True.intro))
 obtain ⟨w1, g_b, e1, e2, hb, q0⟩ := bx wx #[.slice (some ⟨w.heap.size, 0, none⟩) 12 12] BLT
 rw [e2] at qx; rw [e1, e2]
 replace hV := Hi (BS.below hV.out hb)
 replace BB := nx BB hb
 clear hb e1 e2
 refine (ex_run _ _ _ _ ⟨q0.out.lt, q0.out.cell 0 rfl, hV.out⟩ (HT.out _ BB.out)).mono ?_
 rintro e w2 ⟨g2, cp2, u, rfl, hb, hU, -⟩
 replace q0 := kp q0 hb
 replace hV := Hi (BS.below hV.out hb)
 replace BB := nx BB hb
 clear hb
 replace hU := Hi hU
 go_upto_region 2 with fail
 have qy := Hi (And.intro BB.out.size (And.intro q0.out.lt (True.intro)))
 obtain ⟨w3, g_r, e1, e2, hb, qw⟩ := bx w2 #[.slice (some ⟨g2, 0, none⟩) 1 cp2, .int .i64 0, .int .i64 2, .int .i64 2, .int .i64 0, .int .i64 0, .int .i64 0] RsT
 rw [e2] at qy; rw [e1, e2]
 replace q0 := kp q0 hb
 replace hV := Hi (BS.below hV.out hb)
 replace hU := Hi (OutIs.below hU.out hb)
 replace BB := nx BB hb
 clear hb e1 e2
 obtain ⟨c_r0, c_r1, c_r2, c_r3, c_r4, c_r5, c_r6, f_r0, f_r1, f_r2, f_r3, f_r4, f_r5, f_r6⟩ := reads7 qw.out
 have l_r := qw.out.lt
 obtain ⟨A4, c4, e4⟩ := hU.out.2.2.form
 subst e4
 have cu := hU.out.2.1
 have lu := hU.out.1
 have KU : (convert 22 9 (.slice A4 12 c4)).run Tryz.prog w3 = .ok (.string ⟨#[80, 53, 10, 49, 32, 49, 10, 50, 53, 53, 10, 7]⟩) w3 := ex_str hU.out.2.2
 go_wp2_with fail
 go_ret
 exact ⟨rfl, BB.out⟩
end Go.Proofs.YtikpobembcgbfaaGreatDoor
