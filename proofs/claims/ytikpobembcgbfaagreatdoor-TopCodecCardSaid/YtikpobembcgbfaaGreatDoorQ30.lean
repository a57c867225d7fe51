/- Parts of the proof: Cm5 Cm6 Cm7 Rn0 Rn1. -/
import Derived.Test.YtikpobembcgbfaaGreatDoorQ29
import Derived.Test.YtikpobembcgbfaaGreatDoorQ14
set_option linter.unusedVariables false
set_option linter.unusedSimpArgs false
set_option maxRecDepth 100000
set_option maxHeartbeats 40000000
namespace Go.Proofs.YtikpobembcgbfaaGreatDoor
open Go.RowKit Go.Lib
attribute [go_sem] Tryz.results22
theorem cParse1 (b cap : Nat) (w : World) (hc : ¬ cap = 1) (hs : w.cell? ⟨b, 0, none⟩ = some (.string ⟨#[108, 111, 97, 100]⟩)) (h1 : w.cell? ⟨b, 1, none⟩ = some (.string ⟨#[48]⟩)) (hb : b < w.heap.size) :
 Calls Tryz.prog 22 #[.slice (some ⟨b, 0, none⟩) 2 cap] w (GiveCmd 1 0 1 w) := by
 have hP := Hi (fun w1 (h : Below w.heap.size w w1) => cparseL b 0 cap w1 hc ((h.cell (p := ⟨b, 1, none⟩) hb).trans h1) (Nat.lt_of_lt_of_le hb h.size))
 have hs' := Hi (fun w1 (h : Below w.heap.size w w1) => (h.cell (p := ⟨b, 0, none⟩) hb).trans hs)
 have hb' := Hi (fun w1 (h : Below w.heap.size w w1) => Nat.lt_of_lt_of_le hb h.size)
 have CI : Hid (∀ fb p w1, Below w.heap.size w w1 → AtB w1 fb fmC FmT → AtB w1 p #[.slice (some ⟨b, 0, none⟩) 2 cap] SlS → Calls Tryz.prog 37 #[.slice (some ⟨fb, 0, none⟩) 12 12, .func (.func 38) #[] #[.pointer (some ⟨p, 0, none⟩)]] w1 fun e w' => e = .returned (.int .i64 0) ∧ Below w1.heap.size w1 w') := fun fb p w1 h hF hp => cidx fb p b 0 _ 2 cap 0 w1 hF hp (hs'.out w1 h) (hb'.out w1 h) (by decide) (by decide) (Hi (by simp only [Go.ByteArray.toList_eq]; decide)) (Hi (by simp only [Go.ByteArray.toList_eq]; decide))
 have KF := Hi (fun w => cforms w)
 clear hs hb
 go_enter Tryz.func22, Tryz.ntmps22
 go_upto_region 1 with fail
 have BB := start2 w #[.slice (some ⟨b, 0, none⟩) 2 cap] SlS #[.int .i64 0, .int .i64 0, .slice none 0 0] CmT
 obtain ⟨BB, hsz, q1, q0⟩ := BB
 generalize ((w.alloc (.cells #[.slice (some ⟨b, 0, none⟩) 2 cap] SlS)).alloc (.cells #[.int .i64 0, .int .i64 0, .slice none 0 0] CmT)) = w0 at *
 replace BB := Hi BB
 replace q1 := Hi q1
 replace q0 := Hi q0
 clear hsz
 obtain ⟨qb, qc⟩ := reads1 q1.out
 have qd := q1.out.lt
 obtain ⟨q2, q3, q4, q5, q6, q7⟩ := reads3 q0.out
 have q8 := q0.out.lt
 go_wp2_with fail
 refine (KF.out _).mono ?_
 rintro e w1 ⟨fb, rfl, hb, hge, q9⟩
 clear qb qc qd q2 q3 q4 q5 q6 q7 q8
 replace q1 := kp q1 hb
 replace q0 := kp q0 hb
 replace BB := nx BB hb
 clear hb
 replace q9 := Hi q9
 obtain ⟨qb, qc⟩ := reads1 q1.out
 have qd := q1.out.lt
 obtain ⟨q2, q3, q4, q5, q6, q7⟩ := reads3 q0.out
 have q8 := q0.out.lt
 go_wp2_with fail
 refine (CI.out _ _ _ BB.out q9.out q1.out).mono ?_
 rintro e w2 ⟨rfl, hb⟩
 clear qb qc qd q2 q3 q4 q5 q6 q7 q8
 replace q1 := kp q1 hb
 replace q0 := kp q0 hb
 replace q9 := kp q9 hb
 replace BB := nx BB hb
 clear hb
 obtain ⟨qb, qc⟩ := reads1 q1.out
 have qd := q1.out.lt
 obtain ⟨q2, q3, q4, q5, q6, q7⟩ := reads3 q0.out
 have q8 := q0.out.lt
 go_upto_region 6 with fail
 have CF := Hi (fun w9 (hb : Below w2.heap.size w2 w9) => show w9.cell? ⟨fb, 0 + 0, none⟩ = some (.string ⟨#[108, 111, 97, 100]⟩) ∧ w9.cell? ⟨fb, 0 + 1, none⟩ = some (.int .i64 1) ∧ w9.cell? ⟨fb, 0 + 2, none⟩ = some (.func (.func 53) #[] #[]) ∧ w9.cell? ⟨fb, 0 + 3, none⟩ = some (.func (.func 54) #[.int .i64 1] #[]) from ⟨(q9.out.keep hb).cell _ rfl, (q9.out.keep hb).cell _ rfl, (q9.out.keep hb).cell _ rfl, (q9.out.keep hb).cell _ rfl⟩)
 simp only [Nat.reduceAdd] at CF
 have hP2 := Hi (fun w9 (hb : Below w2.heap.size w2 w9) => hP.out w9 (below_next BB.out hb))
 have hs := Hi BB.out.size
 have lr := Hi q0.out.lt
 clear q9
 clear qb qc qd q2 q3 q4 q5 q6 q7 q8
 have KK := Hi fun w9 (h : Below w2.heap.size w2 w9) => And.intro (cells1 (q1.out.keep h)) (And.intro (cells3 (q0.out.keep h)) (CF.out _ h))
 have KD := kd KK
 refine g_bg KK 8 ?_
 refine g_tk 0 ?_
 refine g_tk 1 ?_
 refine g_tk 2 ?_
 refine g_tk 3 ?_
 refine g_tk 4 ?_
 refine g_sc 5 (fun K hK => ?_)
 go_simp
 go_at_call 39
 refine (hP2.out _ ?_).mono ?_
 · repeat (first | with_reducible exact Below.refl _ _ | with_reducible apply below_drew | with_reducible apply below_new)
 rintro e w3 ⟨A2, cap2, rfl, hb, hn, hg⟩
 have qa := rn (w0 := w2) hb
 have qe := KK.out _ qa.out
 obtain ⟨qf, qg, qh, qi, qj, qk⟩ := reads3 (q0.out.keep qa.out)
 have ql := (q0.out.keep qa.out).lt
 have hgw := Hi (fun g e => Nat.le_trans hs.out (hg g e))
 have nr := Hi (fun g e => Nat.ne_of_gt (Nat.lt_of_lt_of_le lr.out (hg g e)))
 replace hn := Hi hn
 clear hg
 clear hb
 refine hK.out _ _ (fun _ => qe) (fun hHeld => ?_)
 replace hHeld := hHeld (by decide)
 clear hK
 refine g_pt ?_
 refine g_tk 6 ?_
 refine g_tk 7 ?_
 refine g_ts 8 ?_
 refine g_ts 9 ?_
 refine g_dn ?_
 clear KK KD qe
 replace q1 := kp q1 qa.out
 replace q0 := kp q0 qa.out
 replace BB := nx BB qa.out
 clear qa
 replace q1 := Hi (((q1.out.far (p := w.heap.size + 1) (by omega) 0 (.int .i64 1)).far (p := w.heap.size + 1) (by omega) 1 (.int .i64 0)).far (p := w.heap.size + 1) (by omega) 2 (.slice A2 1 cap2))
 replace q0 := Hi (((q0.out.sn 0 (.int .i64 1)).sn 1 (.int .i64 0)).sn 2 (.slice A2 1 cap2))
 replace BB := Hi (below_set (below_set (below_set BB.out (b := w.heap.size + 1) (o := 0) (by omega) (.int .i64 1)) (b := w.heap.size + 1) (o := 1) (by omega) (.int .i64 0)) (b := w.heap.size + 1) (o := 2) (by omega) (.slice A2 1 cap2))
 replace hn := Hi (NumR.set nr.out (NumR.set nr.out (NumR.set nr.out hn.out 0 (.int .i64 1)) 1 (.int .i64 0)) 2 (.slice A2 1 cap2))
 generalize (((w3.setCell ⟨w.heap.size + 1, 0, none⟩ (.int .i64 1)).setCell ⟨w.heap.size + 1, 1, none⟩ (.int .i64 0)).setCell ⟨w.heap.size + 1, 2, none⟩ (.slice A2 1 cap2)) = w4 at *
 obtain ⟨q2, q3, q4, q5, q6, q7⟩ := reads3 q0.out
 have q8 := q0.out.lt
 go_wp2_with fail
 refine bret (.tuple #[.agg #[.int .i64 1, .int .i64 0, .slice A2 1 cap2], .int .i64 0]) ?_
 exact ⟨A2, cap2, rfl, BB.out, hn.out, hgw.out⟩
theorem cParse2 (k : Nat) (nm : ByteArray) (b cap : Nat) (w : World) (hc : ¬ cap = 1) (hs : w.cell? ⟨b, 0, none⟩ = some (.string ⟨#[115, 97, 118, 101]⟩)) (h1 : w.cell? ⟨b, 1, none⟩ = some (.string nm)) (hb : b < w.heap.size) (hNK : Hid (∀ w1, Calls Tryz.prog 59 #[.string nm] w1 (GiveNmd k true w1))) :
 Calls Tryz.prog 22 #[.slice (some ⟨b, 0, none⟩) 2 cap] w (GiveCmd 10 k 0 w) := by
 have hP := Hi (fun w1 (h : Below w.heap.size w w1) => cparseS k nm b 0 cap w1 hc ((h.cell (p := ⟨b, 1, none⟩) hb).trans h1) (Nat.lt_of_lt_of_le hb h.size) hNK)
 have hs' := Hi (fun w1 (h : Below w.heap.size w w1) => (h.cell (p := ⟨b, 0, none⟩) hb).trans hs)
 have hb' := Hi (fun w1 (h : Below w.heap.size w w1) => Nat.lt_of_lt_of_le hb h.size)
 have CI : Hid (∀ fb p w1, Below w.heap.size w w1 → AtB w1 fb fmC FmT → AtB w1 p #[.slice (some ⟨b, 0, none⟩) 2 cap] SlS → Calls Tryz.prog 37 #[.slice (some ⟨fb, 0, none⟩) 12 12, .func (.func 38) #[] #[.pointer (some ⟨p, 0, none⟩)]] w1 fun e w' => e = .returned (.int .i64 8) ∧ Below w1.heap.size w1 w') := fun fb p w1 h hF hp => cidx fb p b 0 _ 2 cap 8 w1 hF hp (hs'.out w1 h) (hb'.out w1 h) (by decide) (by decide) (Hi (by simp only [Go.ByteArray.toList_eq]; decide)) (Hi (by simp only [Go.ByteArray.toList_eq]; decide))
 have KF := Hi (fun w => cforms w)
 clear hs hb
 go_enter Tryz.func22, Tryz.ntmps22
 go_upto_region 1 with fail
 have BB := start2 w #[.slice (some ⟨b, 0, none⟩) 2 cap] SlS #[.int .i64 0, .int .i64 0, .slice none 0 0] CmT
 obtain ⟨BB, hsz, q1, q0⟩ := BB
 generalize ((w.alloc (.cells #[.slice (some ⟨b, 0, none⟩) 2 cap] SlS)).alloc (.cells #[.int .i64 0, .int .i64 0, .slice none 0 0] CmT)) = w0 at *
 replace BB := Hi BB
 replace q1 := Hi q1
 replace q0 := Hi q0
 clear hsz
 obtain ⟨qb, qc⟩ := reads1 q1.out
 have qd := q1.out.lt
 obtain ⟨q2, q3, q4, q5, q6, q7⟩ := reads3 q0.out
 have q8 := q0.out.lt
 go_wp2_with fail
 refine (KF.out _).mono ?_
 rintro e w1 ⟨fb, rfl, hb, hge, q9⟩
 clear qb qc qd q2 q3 q4 q5 q6 q7 q8
 replace q1 := kp q1 hb
 replace q0 := kp q0 hb
 replace BB := nx BB hb
 clear hb
 replace q9 := Hi q9
 obtain ⟨qb, qc⟩ := reads1 q1.out
 have qd := q1.out.lt
 obtain ⟨q2, q3, q4, q5, q6, q7⟩ := reads3 q0.out
 have q8 := q0.out.lt
 go_wp2_with fail
 refine (CI.out _ _ _ BB.out q9.out q1.out).mono ?_
 rintro e w2 ⟨rfl, hb⟩
 clear qb qc qd q2 q3 q4 q5 q6 q7 q8
 replace q1 := kp q1 hb
 replace q0 := kp q0 hb
 replace q9 := kp q9 hb
 replace BB := nx BB hb
 clear hb
 obtain ⟨qb, qc⟩ := reads1 q1.out
 have qd := q1.out.lt
 obtain ⟨q2, q3, q4, q5, q6, q7⟩ := reads3 q0.out
 have q8 := q0.out.lt
 go_upto_region 6 with fail
 have CF := Hi (fun w9 (hb : Below w2.heap.size w2 w9) => show w9.cell? ⟨fb, 32 + 0, none⟩ = some (.string ⟨#[115, 97, 118, 101]⟩) ∧ w9.cell? ⟨fb, 32 + 1, none⟩ = some (.int .i64 10) ∧ w9.cell? ⟨fb, 32 + 2, none⟩ = some (.func (.func 59) #[] #[]) ∧ w9.cell? ⟨fb, 32 + 3, none⟩ = some (.func (.func 54) #[.int .i64 0] #[]) from ⟨(q9.out.keep hb).cell _ rfl, (q9.out.keep hb).cell _ rfl, (q9.out.keep hb).cell _ rfl, (q9.out.keep hb).cell _ rfl⟩)
 simp only [Nat.reduceAdd] at CF
 have hP2 := Hi (fun w9 (hb : Below w2.heap.size w2 w9) => hP.out w9 (below_next BB.out hb))
 have hs := Hi BB.out.size
 have lr := Hi q0.out.lt
 clear q9
 clear qb qc qd q2 q3 q4 q5 q6 q7 q8
 have KK := Hi fun w9 (h : Below w2.heap.size w2 w9) => And.intro (cells1 (q1.out.keep h)) (And.intro (cells3 (q0.out.keep h)) (CF.out _ h))
 have KD := kd KK
 refine g_bg KK 8 ?_
 refine g_tk 0 ?_
 refine g_tk 1 ?_
 refine g_tk 2 ?_
 refine g_tk 3 ?_
 refine g_tk 4 ?_
 refine g_sc 5 (fun K hK => ?_)
 go_simp
 go_at_call 39
 refine (hP2.out _ ?_).mono ?_
 · repeat (first | with_reducible exact Below.refl _ _ | with_reducible apply below_drew | with_reducible apply below_new)
 rintro e w3 ⟨A2, cap2, rfl, hb, hn, hg⟩
 have qa := rn (w0 := w2) hb
 have qe := KK.out _ qa.out
 obtain ⟨qf, qg, qh, qi, qj, qk⟩ := reads3 (q0.out.keep qa.out)
 have ql := (q0.out.keep qa.out).lt
 have hgw := Hi (fun g e => Nat.le_trans hs.out (hg g e))
 have nr := Hi (fun g e => Nat.ne_of_gt (Nat.lt_of_lt_of_le lr.out (hg g e)))
 replace hn := Hi hn
 clear hg
 clear hb
 refine hK.out _ _ (fun _ => qe) (fun hHeld => ?_)
 replace hHeld := hHeld (by decide)
 clear hK
 refine g_pt ?_
 refine g_tk 6 ?_
 refine g_tk 7 ?_
 refine g_ts 8 ?_
 refine g_ts 9 ?_
 refine g_dn ?_
 clear KK KD qe
 replace q1 := kp q1 qa.out
 replace q0 := kp q0 qa.out
 replace BB := nx BB qa.out
 clear qa
 replace q1 := Hi (((q1.out.far (p := w.heap.size + 1) (by omega) 0 (.int .i64 10)).far (p := w.heap.size + 1) (by omega) 1 (.int .i64 (k : Int))).far (p := w.heap.size + 1) (by omega) 2 (.slice A2 0 cap2))
 replace q0 := Hi (((q0.out.sn 0 (.int .i64 10)).sn 1 (.int .i64 (k : Int))).sn 2 (.slice A2 0 cap2))
 replace BB := Hi (below_set (below_set (below_set BB.out (b := w.heap.size + 1) (o := 0) (by omega) (.int .i64 10)) (b := w.heap.size + 1) (o := 1) (by omega) (.int .i64 (k : Int))) (b := w.heap.size + 1) (o := 2) (by omega) (.slice A2 0 cap2))
 replace hn := Hi (NumR.set nr.out (NumR.set nr.out (NumR.set nr.out hn.out 0 (.int .i64 10)) 1 (.int .i64 (k : Int))) 2 (.slice A2 0 cap2))
 generalize (((w3.setCell ⟨w.heap.size + 1, 0, none⟩ (.int .i64 10)).setCell ⟨w.heap.size + 1, 1, none⟩ (.int .i64 (k : Int))).setCell ⟨w.heap.size + 1, 2, none⟩ (.slice A2 0 cap2)) = w4 at *
 obtain ⟨q2, q3, q4, q5, q6, q7⟩ := reads3 q0.out
 have q8 := q0.out.lt
 go_wp2_with fail
 refine bret (.tuple #[.agg #[.int .i64 10, .int .i64 (k : Int), .slice A2 0 cap2], .int .i64 0]) ?_
 exact ⟨A2, cap2, rfl, BB.out, hn.out, hgw.out⟩
attribute [go_sem] Tryz.results12
abbrev CsT : TypeId := 42
theorem info_cm : (Tryz.prog.info? CmT).map (fun i => (i.zero, i.size, i.bytes)) = some (some (.agg #[.int .i64 0, .int .i64 0, .slice none 0 0]), 3, 40) := by kernel_rfl
theorem app_cm (wr : World) (base : Nat) (u : Value) (n : Nat) (xs : List Value) (op k : Int) (A : Option Addr) (m c : Nat) (hown : wr.ownsRow base CmT 3 u n xs) (hn : n ≤ 1000) (hbase : base ≤ wr.heap.size) :
 ∃ g cap w', (∀ ty, (Builtin.append_ #[CsT, CsT] ty #[u, .slice (some ⟨wr.heap.size, 0, none⟩) 1 1]).run Tryz.prog (wr.alloc (.cells #[.int .i64 op, .int .i64 k, .slice A m c] CmT)) = .ok (.slice (some ⟨g, 0, none⟩) (n + 1) cap) w') ∧
   w'.ownsRow base CmT 3 (.slice (some ⟨g, 0, none⟩) (n + 1) cap) (n + 1) (xs ++ [.int .i64 op, .int .i64 k, .slice A m c]) ∧ (wr.alloc (.cells #[.int .i64 op, .int .i64 k, .slice A m c] CmT)).grownBy w' u.ownBlock ∧ (u.ownBlock = some g ∨ wr.heap.size ≤ g) :=
 app_el Tryz.underlying42 info_cm rfl (by decide) wr base u n xs [.int .i64 op, .int .i64 k, .slice A m c] hown rfl (by simp [Value.oneCell']) hn (by decide) hbase
theorem app_cm0 (wr : World) (base : Nat) (op k : Int) (A : Option Addr) (m c : Nat) (hbase : base ≤ wr.heap.size) :
 ∃ g cap w', (∀ ty, (Builtin.append_ #[CsT, CsT] ty #[.slice none 0 0, .slice (some ⟨wr.heap.size, 0, none⟩) 1 1]).run Tryz.prog (wr.alloc (.cells #[.int .i64 op, .int .i64 k, .slice A m c] CmT)) = .ok (.slice (some ⟨g, 0, none⟩) 1 cap) w') ∧
   w'.ownsRow base CmT 3 (.slice (some ⟨g, 0, none⟩) 1 cap) 1 [.int .i64 op, .int .i64 k, .slice A m c] ∧ Below wr.heap.size wr w' ∧ wr.heap.size ≤ g := by
 obtain ⟨g, cap, w', hr, ho, hgr, hat⟩ := app_cm wr base (.slice none 0 0) 0 [] op k A m c (World.ownsRow_nil _ _ _ _) (by omega) hbase
 refine ⟨g, cap, w', hr, ho, ((Below.refl wr.heap.size wr).alloc (Nat.le_refl _) _).grown hgr (by simp) (fun b e => by cases e), hat.elim (fun e => by cases e) id⟩
theorem app_cm1 (wr w0 : World) (base : Nat) (g0 cap0 : Nat) (xs : List Value) (op k : Int) (A : Option Addr) (m c : Nat) (hown : wr.ownsRow base CmT 3 (.slice (some ⟨g0, 0, none⟩) 1 cap0) 1 xs) (hbase : base ≤ wr.heap.size) (hb : Below base w0 wr) :
 ∃ g cap w', (∀ ty, (Builtin.append_ #[CsT, CsT] ty #[.slice (some ⟨g0, 0, none⟩) 1 cap0, .slice (some ⟨wr.heap.size, 0, none⟩) 1 1]).run Tryz.prog (wr.alloc (.cells #[.int .i64 op, .int .i64 k, .slice A m c] CmT)) = .ok (.slice (some ⟨g, 0, none⟩) 2 cap) w') ∧
   w'.ownsRow base CmT 3 (.slice (some ⟨g, 0, none⟩) 2 cap) 2 (xs ++ [.int .i64 op, .int .i64 k, .slice A m c]) ∧ Below base w0 w' ∧
   ∀ n B d, NumR n wr B d → (∀ g', B = some ⟨g', 0, none⟩ → g' ≠ g0) → (n = 0 ∨ n = 1) → NumR n w' B d := by
 obtain ⟨g, cap, w', hr, ho, hgr, hat⟩ := app_cm wr base _ 1 xs op k A m c hown (by omega) hbase
 refine ⟨g, cap, w', hr, ho, (hb.alloc hbase _).grown hgr (by rw [World.size_alloc]; exact Nat.le_succ_of_le hbase) (fun b e => (hown.lt b e).1), ?_⟩
 intro n B d hn hne h01
 refine ⟨hn.1, fun e => ?_⟩
 obtain ⟨g', e1, e2, e3⟩ := hn.2 e
 have hb1 : Below wr.heap.size wr (wr.alloc (.cells #[.int .i64 op, .int .i64 k, .slice A m c] CmT)) := (Below.refl wr.heap.size wr).alloc (Nat.le_refl _) _
 exact ⟨g', e1, Nat.lt_of_lt_of_le e2 (Nat.le_trans hb1.size hgr.size), hgr.cell ((hb1.cell (p := ⟨g', 0, none⟩) e2).trans e3) (fun e => hne g' e1 (by cases e; rfl))⟩
/-- The two commands of a script. -/
def GiveAll (k : Nat) (w : World) (e : Ending) (w' : World) : Prop :=
 ∃ g cap A c, e = .returned (.tuple #[.slice (some ⟨g, 0, none⟩) 2 cap, .int .i64 2, .int .i64 0]) ∧ Below w.heap.size w w' ∧ NumR 1 w' A c ∧
   w'.ownsRow w.heap.size CmT 3 (.slice (some ⟨g, 0, none⟩) 2 cap) 2 [.int .i64 1, .int .i64 0, .slice A 1 c, .int .i64 10, .int .i64 k, .slice none 0 0]
theorem cAll (k : Nat) (hk : k = 1 ∨ k = 2 ∨ k = 3 ∨ k = 4) (w : World) : Calls Tryz.prog 12 #[.string ⟨(scr k).toArray⟩] w (GiveAll k w) := by
 have WS := Hi (wscript k hk w)
 have KN := Hi (fun wA => knamed_k k hk wA)
 clear hk
 generalize (⟨(scr k).toArray⟩ : ByteArray) = s at *
 generalize (⟨(kName k).toArray⟩ : ByteArray) = nm at *
 go_enter Tryz.func12, Tryz.ntmps12
 go_wp2_with fail
 refine WS.out.mono ?_
 rintro e wA ⟨ga, capa, A1, c1, A2, c2, rfl, hb, hL, h1, h2⟩
 obtain ⟨b1, cap1, e1, g1, l1⟩ : ∃ b cap, Value.slice A1 2 c1 = .slice (some ⟨b, 0, none⟩) 2 cap ∧ ¬ cap = 1 ∧ b < wA.heap.size := by
  rcases h1.2 with ⟨e, h0⟩ | ⟨g, cap, cur, e, -, hg, hle, -⟩
  · exact absurd h0 (by decide)
  · exact ⟨g, cap, e, by omega, (h1.lt g (by rw [e]; rfl)).2⟩
 obtain ⟨b2, cap2, e2, g2, l2⟩ : ∃ b cap, Value.slice A2 2 c2 = .slice (some ⟨b, 0, none⟩) 2 cap ∧ ¬ cap = 1 ∧ b < wA.heap.size := by
  rcases h2.2 with ⟨e, h0⟩ | ⟨g, cap, cur, e, -, hg, hle, -⟩
  · exact absurd h0 (by decide)
  · exact ⟨g, cap, e, by omega, (h2.lt g (by rw [e]; rfl)).2⟩
 rw [e1] at hL h1
 rw [e2] at hL h2
 clear e1 e2
 have CL := Hi (fun wr (h : Below wA.heap.size wA wr) => show wr.cell? ⟨ga, 0, none⟩ = some (.int .i64 1) ∧ wr.cell? ⟨ga, 1, none⟩ = some (.slice (some ⟨b1, 0, none⟩) 2 cap1) ∧ wr.cell? ⟨ga, 2, none⟩ = some (.int .i64 2) ∧ wr.cell? ⟨ga, 3, none⟩ = some (.slice (some ⟨b2, 0, none⟩) 2 cap2) from by
  have lt := (hL.lt ga rfl).2
  have hc := fun j hj => hL.cellAt j hj
  exact ⟨(h.cell (p := ⟨ga, 0, none⟩) lt).trans (hc 0 (by decide)), (h.cell (p := ⟨ga, 1, none⟩) lt).trans (hc 1 (by decide)), (h.cell (p := ⟨ga, 2, none⟩) lt).trans (hc 2 (by decide)), (h.cell (p := ⟨ga, 3, none⟩) lt).trans (hc 3 (by decide))⟩)
 have P1 := Hi (fun wr (h : Below wA.heap.size wA wr) => cParse1 b1 cap1 wr g1 ((h.cell (p := ⟨b1, 0, none⟩) l1).trans (h1.cellAt 0 (by decide))) ((h.cell (p := ⟨b1, 1, none⟩) l1).trans (h1.cellAt 1 (by decide))) (Nat.lt_of_lt_of_le l1 h.size))
 have P2 := Hi (fun wr (h : Below wA.heap.size wA wr) => cParse2 k nm b2 cap2 wr g2 ((h.cell (p := ⟨b2, 0, none⟩) l2).trans (h2.cellAt 0 (by decide))) ((h.cell (p := ⟨b2, 1, none⟩) l2).trans (h2.cellAt 1 (by decide))) (Nat.lt_of_lt_of_le l2 h.size) KN)
 have hb := Hi hb
 clear hL h1 h2 g1 g2 l1 l2 WS KN
 go_wp2_with fail
 go_loopw [8, 24] (fun u i wr => Hid (Below wA.heap.size wA wr) ∧ (i = .int .i64 0 ∧ u = .slice none 0 0 ∨
  ∃ g cap A c, (i = .int .i64 1 ∧ u = .slice (some ⟨g, 0, none⟩) 1 cap ∧ Hid (NumR 1 wr A c ∧ ∀ g', A = some ⟨g', 0, none⟩ → g' ≠ g) ∧ Hid (wr.ownsRow wA.heap.size CmT 3 (.slice (some ⟨g, 0, none⟩) 1 cap) 1 [.int .i64 1, .int .i64 0, .slice A 1 c]) ∨
    i = .int .i64 2 ∧ u = .slice (some ⟨g, 0, none⟩) 2 cap ∧ Hid (NumR 1 wr A c) ∧ Hid (wr.ownsRow wA.heap.size CmT 3 (.slice (some ⟨g, 0, none⟩) 2 cap) 2 [.int .i64 1, .int .i64 0, .slice A 1 c, .int .i64 10, .int .i64 k, .slice none 0 0])))) (fun _ i _ => 2 - (RowKit.intOf i).toNat)
 case atStart => exact ⟨Below.refl _ _, .inl ⟨rfl, rfl⟩⟩
 case round =>
  obtain ⟨BB, ⟨rfl, rfl⟩ | ⟨g, cap, A, c, ⟨rfl, rfl, hN, hO⟩ | ⟨rfl, rfl, hN, hO⟩⟩⟩ := hrel
  ·
   obtain ⟨d0, d1, -, -⟩ := CL.out _ BB.out
   go_upto_region 8 with fail
   clear d0 d1
   have q6 := Hi (And.intro BB.out.size (True.intro))
   obtain ⟨w1, qf, e1, e2, hb, q0⟩ := bx wr #[.int .i64 1, .slice (some ⟨b1, 0, none⟩) 2 cap1] LnT
   rw [e2] at q6; rw [e1, e2]
   replace BB := nx BB hb
   clear hb e1 e2
   obtain ⟨q2, q3, q4, q5⟩ := reads2 q0.out
   have q7 := q0.out.lt
   go_wp2_with fail
   refine (P1.out _ BB.out).mono ?_
   rintro e w2 ⟨A, c, rfl, hb, hn, hg⟩
   clear q2 q3 q4 q5 q7
   replace q0 := kp q0 hb
   replace BB := nx BB hb
   clear hb
   replace hn := Hi hn
   clear hg
   go_upto_region 9 with fail
   have q8 := Hi (And.intro BB.out.size (And.intro q0.out.lt (True.intro)))
   obtain ⟨w3, qg, e1, e2, hb, q1⟩ := bx w2 #[.int .i64 1, .int .i64 0, .slice A 1 c] CmT
   rw [e2] at q8; rw [e1, e2]
   replace q0 := kp q0 hb
   replace hn := Hi (NumR.below hn.out hb)
   replace BB := nx BB hb
   clear hb e1 e2
   obtain ⟨q9, qa, qb, qc, qd, qe⟩ := reads3 q1.out
   have qh := q1.out.lt
   obtain ⟨g, cap, w9, hrun, hO, h3, hge⟩ := app_cm0 w3 wA.heap.size 1 0 A 1 c BB.out.size
   have ne : ∀ g', A = some ⟨g', 0, none⟩ → g' ≠ g := fun g' e => by obtain ⟨g2, e2, lt, -⟩ := hn.out.2 rfl; rw [e2] at e; cases e; exact Nat.ne_of_lt (Nat.lt_of_lt_of_le lt hge)
   have F := Hi (And.intro (below_next BB.out h3) (And.intro (And.intro (hn.out.below h3) ne) hO))
   replace hrun := Hi hrun
   clear hO h3 hge hn BB ne
   go_wp2_with (first | (at_builtin; refine wpList_app_run rfl (.tmp 39) (.tmp 41) CsT rfl rfl rfl hrun.out ?_))
   go_roundw
   case rel => exact ⟨F.out.1, .inr ⟨g, cap, A, c, .inl ⟨rfl, rfl, F.out.2⟩⟩⟩
   case measure => simp [RowKit.intOf]
  ·
   obtain ⟨-, -, d0, d1⟩ := CL.out _ BB.out
   have HN := Hi hN.out.1
   have NE := Hi hN.out.2
   clear hN
   have ng := Hi (hO.out.lt g rfl).2
   go_upto_region 8 with fail
   clear d0 d1
   have q6 := Hi (And.intro BB.out.size (True.intro))
   obtain ⟨w4, qf, e1, e2, hb, q0⟩ := bx wr #[.int .i64 2, .slice (some ⟨b2, 0, none⟩) 2 cap2] LnT
   rw [e2] at q6; rw [e1, e2]
   replace HN := Hi (NumR.below HN.out hb)
   replace hO := Hi (own_below hO.out hb)
   replace BB := nx BB hb
   clear hb e1 e2
   obtain ⟨q2, q3, q4, q5⟩ := reads2 q0.out
   have q7 := q0.out.lt
   go_wp2_with fail
   refine (P2.out _ BB.out).mono ?_
   rintro e w5 ⟨A2, c2, rfl, hb, hn, hg⟩
   clear q2 q3 q4 q5 q7
   replace q0 := kp q0 hb
   replace HN := Hi (NumR.below HN.out hb)
   replace hO := Hi (own_below hO.out hb)
   replace BB := nx BB hb
   clear hb
   obtain ⟨rfl, rfl⟩ := hn.1 rfl
   clear hg hn
   go_upto_region 9 with fail
   have q8 := Hi (And.intro BB.out.size (And.intro q0.out.lt (True.intro)))
   obtain ⟨w6, qg, e1, e2, hb, q1⟩ := bx w5 #[.int .i64 10, .int .i64 k, .slice none 0 0] CmT
   rw [e2] at q8; rw [e1, e2]
   replace q0 := kp q0 hb
   replace HN := Hi (NumR.below HN.out hb)
   replace hO := Hi (own_below hO.out hb)
   replace BB := nx BB hb
   clear hb e1 e2
   obtain ⟨q9, qa, qb, qc, qd, qe⟩ := reads3 q1.out
   have qh := q1.out.lt
   obtain ⟨g9, cap9, w9, hrun, hO9, h3, hnn⟩ := app_cm1 w6 wA wA.heap.size g cap _ 10 k none 0 0 hO.out BB.out.size BB.out
   have F := Hi (show _ ∧ _ ∧ _ from ⟨h3, hnn 1 A c HN.out NE.out (.inr rfl), hO9⟩)
   replace hrun := Hi hrun
   clear hO9 h3 hnn hO BB HN
   go_wp2_with (first | (at_builtin; refine wpList_app_run rfl (.tmp 39) (.tmp 41) CsT rfl rfl rfl hrun.out ?_))
   go_roundw
   case rel => exact ⟨F.out.1, .inr ⟨g9, cap9, A, c, .inr ⟨rfl, rfl, F.out.2⟩⟩⟩
   case measure => simp [RowKit.intOf]
  ·
   go_wp2_with fail
   refine bret (.tuple #[.slice (some ⟨g, 0, none⟩) 2 cap, .int .i64 2, .int .i64 0]) ?_
   exact ⟨g, cap, A, c, rfl, below_next hb.out BB.out, hN.out, own_base hO.out hb.out.size⟩
theorem ckinds (s : ByteArray) (op a b : Int) (f g : Value) (hop : op = 1 ∧ a = 0 ∧ b = 0 ∨ op = 10 ∧ a = 1 ∧ b = 4) (w : World) : Calls Tryz.prog 68 #[.agg #[.string s, .int .i64 op, f, g]] w fun e w' => e = .returned (.tuple #[.int .i64 a, .int .i64 b]) ∧ Below w.heap.size w w' := by
 rcases hop with ⟨rfl, rfl, rfl⟩ | ⟨rfl, rfl, rfl⟩
 ·
  go_enter Tryz.func68, Tryz.ntmps68
  go_upto_region 1 with fail
  obtain ⟨w0, e, BB, q5⟩ := en1 w #[.string s, .int .i64 1, f, g] FmT
  rw [e]; clear e
  obtain ⟨qd, qe, qf, qg, qh, qi, qj, qk⟩ := reads4 q5.out
  have ql := q5.out.lt
  go_wp2_with fail
  go_ret2
  exact ⟨rfl, BB.out⟩
 ·
  go_enter Tryz.func68, Tryz.ntmps68
  go_upto_region 1 with fail
  obtain ⟨w0, e, BB, q5⟩ := en1 w #[.string s, .int .i64 10, f, g] FmT
  rw [e]; clear e
  obtain ⟨qd, qe, qf, qg, qh, qi, qj, qk⟩ := reads4 q5.out
  have ql := q5.out.lt
  go_wp2_with fail
  go_ret2
  exact ⟨rfl, BB.out⟩
theorem fmO_ne (T : Nat) (op : Int) (h : (fmO.take T).all (fun x => !(x == op)) = true) (j : Nat) (hj : j < T) (h12 : j < 12) : (fmO.getD j 0 == op) = false := by
 have := List.all_eq_true.1 h (fmO.getD j 0) (by
  rw [List.mem_iff_getElem?]
  refine ⟨j, ?_⟩
  rw [List.getElem?_take, if_pos hj]
  have : j < fmO.length := by simpa [fmO] using h12
  simp [List.getD, List.getElem?_eq_getElem this])
 simpa using this
theorem fm_fn (j : Nat) (hj : j < 12) : (∃ f a b, fmF.getD j (numV 0) = .func f a b) ∧ ∃ f a b, fmG.getD j (numV 0) = .func f a b := by
 match j, hj with
 | 0, _ => exact ⟨⟨_, _, _, rfl⟩, _, _, _, rfl⟩ | 1, _ => exact ⟨⟨_, _, _, rfl⟩, _, _, _, rfl⟩ | 2, _ => exact ⟨⟨_, _, _, rfl⟩, _, _, _, rfl⟩ | 3, _ => exact ⟨⟨_, _, _, rfl⟩, _, _, _, rfl⟩
 | 4, _ => exact ⟨⟨_, _, _, rfl⟩, _, _, _, rfl⟩ | 5, _ => exact ⟨⟨_, _, _, rfl⟩, _, _, _, rfl⟩ | 6, _ => exact ⟨⟨_, _, _, rfl⟩, _, _, _, rfl⟩ | 7, _ => exact ⟨⟨_, _, _, rfl⟩, _, _, _, rfl⟩
 | 8, _ => exact ⟨⟨_, _, _, rfl⟩, _, _, _, rfl⟩ | 9, _ => exact ⟨⟨_, _, _, rfl⟩, _, _, _, rfl⟩ | 10, _ => exact ⟨⟨_, _, _, rfl⟩, _, _, _, rfl⟩ | 11, _ => exact ⟨⟨_, _, _, rfl⟩, _, _, _, rfl⟩
theorem cRight1 (A : Option Addr) (cap : Nat) (w : World) : Calls Tryz.prog 44 #[.agg #[.int .i64 1, .int .i64 0, .slice A 1 cap]] w fun e w' => e = .returned (.bool true) ∧ Below w.heap.size w w' := by
 have KK := Hi (fun w => ckinds ⟨#[108, 111, 97, 100]⟩ 1 0 0 (.func (.func 53) #[] #[]) (.func (.func 54) #[.int .i64 1] #[]) (.inl ⟨rfl, rfl, rfl⟩) w)
 have KF := Hi (fun w => cforms w)
 have HO := Hi (fun w => cof 1 0 w)
 go_enter Tryz.func44, Tryz.ntmps44
 go_upto_region 1 with fail
 obtain ⟨w0, e, BB, q3⟩ := en1 w #[.int .i64 1, .int .i64 0, .slice A 1 cap] CmT
 rw [e]; clear e
 obtain ⟨q6, q7, q8, q9, qa, qb⟩ := reads3 q3.out
 have qc := q3.out.lt
 go_wp2_with fail
 refine (KF.out _).mono ?_
 rintro e w1 ⟨fb, rfl, hb, hge, q4⟩
 clear q6 q7 q8 q9 qa qb qc
 replace q3 := kp q3 hb
 replace BB := nx BB hb
 clear hb
 replace q4 := Hi q4
 clear hge
 obtain ⟨q6, q7, q8, q9, qa, qb⟩ := reads3 q3.out
 have qc := q3.out.lt
 go_wp2_with fail
 clear q6 q7 q8 q9 qa qb qc
 go_loopw [28] (fun i wr => Hid (Below w.heap.size w wr ∧ AtB wr w.heap.size #[.int .i64 1, .int .i64 0, .slice A 1 cap] CmT ∧ AtB wr fb fmC FmT) ∧ ((∃ j : Nat, j < 0 ∧ i = .int .i64 j) ∨ i = .int .i64 0)) (fun i _ => 12 - (RowKit.intOf i).toNat)
 case atStart => exact ⟨⟨BB.out, q3.out, q4.out⟩, .inr rfl⟩
 case round =>
  clear q3 q4 BB
  obtain ⟨H, hrel⟩ := hrel
  obtain ⟨BB, q3, q4⟩ := H.out
  replace BB := Hi BB
  replace q3 := Hi q3
  replace q4 := Hi q4
  clear H
  rcases hrel with ⟨j, hj, rfl⟩ | rfl
  ·
   exact absurd hj (by omega)
  ·
   obtain ⟨d0, d1, d2, d3⟩ : wr.cell? ⟨fb, 0 + 0, none⟩ = some (.string ⟨#[108, 111, 97, 100]⟩) ∧ wr.cell? ⟨fb, 0 + 1, none⟩ = some (.int .i64 1) ∧ wr.cell? ⟨fb, 0 + 2, none⟩ = some (.func (.func 53) #[] #[]) ∧ wr.cell? ⟨fb, 0 + 3, none⟩ = some (.func (.func 54) #[.int .i64 1] #[]) := ⟨q4.out.cell _ rfl, q4.out.cell _ rfl, q4.out.cell _ rfl, q4.out.cell _ rfl⟩
   simp only [Nat.reduceAdd] at d0 d1 d2 d3
   go_upto_region 6 with fail
   clear d0 d1 d2 d3
   have qm := Hi (And.intro BB.out.size (And.intro q3.out.lt (And.intro q4.out.lt (True.intro))))
   obtain ⟨w2, qn, e1, e2, hb, q5⟩ := bx wr #[.string ⟨#[108, 111, 97, 100]⟩, .int .i64 1, .func (.func 53) #[] #[], .func (.func 54) #[.int .i64 1] #[]] FmT
   rw [e2] at qm; rw [e1, e2]
   replace q3 := kp q3 hb
   replace q4 := kp q4 hb
   replace BB := nx BB hb
   clear hb e1 e2
   obtain ⟨q6, q7, q8, q9, qa, qb⟩ := reads3 q3.out
   have qc := q3.out.lt
   obtain ⟨qd, qe, qf, qg, qh, qi, qj, qk⟩ := reads4 q5.out
   have ql := q5.out.lt
   go_wp2_with fail
   refine (KK.out _).mono ?_
   rintro e w3 ⟨rfl, hb⟩
   clear q6 q7 q8 q9 qa qb qc qd qe qf qg qh qi qj qk ql
   replace q3 := kp q3 hb
   replace q4 := kp q4 hb
   replace q5 := kp q5 hb
   replace BB := nx BB hb
   clear hb
   obtain ⟨q6, q7, q8, q9, qa, qb⟩ := reads3 q3.out
   have qc := q3.out.lt
   obtain ⟨qd, qe, qf, qg, qh, qi, qj, qk⟩ := reads4 q5.out
   have ql := q5.out.lt
   go_wp2_with fail
   have Q_0 := Hi (fun n => quiet_same (HO.out (w3.drewN n)))
   go_quiet ((first | (go_at_call 54; with_reducible exact Q_0.out _)))
   clear Q_0
   have hb := below_drawn (Below.refl w3.heap.size w3) nq
   generalize w3.drewN nq = w4 at *
   clear q6 q7 q8 q9 qa qb qc qd qe qf qg qh qi qj qk ql
   replace q3 := kp q3 hb
   replace q4 := kp q4 hb
   replace q5 := kp q5 hb
   replace BB := nx BB hb
   clear hb nq
   go_wp2_with fail
   go_ret
   exact ⟨rfl, BB.out⟩
theorem cRight2 (k : Nat) (hk : k = 1 ∨ k = 2 ∨ k = 3 ∨ k = 4) (A : Option Addr) (cap : Nat) (w : World) : Calls Tryz.prog 44 #[.agg #[.int .i64 10, .int .i64 (k : Int), .slice A 0 cap]] w fun e w' => e = .returned (.bool true) ∧ Below w.heap.size w w' := by
 have k1 : decide ((1 : Int) ≤ (k : Int)) = true := decide_eq_true (by omega)
 have k2 : decide ((k : Int) ≤ 4) = true := decide_eq_true (by omega)
 have k3 : (1 : Int) ≤ (k : Int) := by omega
 have k4 : (k : Int) ≤ 4 := by omega
 have HN := Hi (fmO_ne 8 10 (by decide))
 have h7 : ∀ j : Nat, j + 1 ≥ 8 → j < 8 → Value.int .i64 ((j : Int) + 1) = .int .i64 8 := fun j h1 h2 => by
  obtain rfl : j = 7 := by omega
  rfl
 clear hk
 have KK := Hi (fun w => ckinds ⟨#[115, 97, 118, 101]⟩ 10 1 4 (.func (.func 59) #[] #[]) (.func (.func 54) #[.int .i64 0] #[]) (.inr ⟨rfl, rfl, rfl⟩) w)
 have KF := Hi (fun w => cforms w)
 have HO := Hi (fun w => cof 0 ↑k w)
 go_enter Tryz.func44, Tryz.ntmps44
 go_upto_region 1 with fail
 obtain ⟨w0, e, BB, q3⟩ := en1 w #[.int .i64 10, .int .i64 ↑k, .slice A 0 cap] CmT
 rw [e]; clear e
 obtain ⟨q6, q7, q8, q9, qa, qb⟩ := reads3 q3.out
 have qc := q3.out.lt
 go_wp2_with fail
 refine (KF.out _).mono ?_
 rintro e w1 ⟨fb, rfl, hb, hge, q4⟩
 clear q6 q7 q8 q9 qa qb qc
 replace q3 := kp q3 hb
 replace BB := nx BB hb
 clear hb
 replace q4 := Hi q4
 clear hge
 obtain ⟨q6, q7, q8, q9, qa, qb⟩ := reads3 q3.out
 have qc := q3.out.lt
 go_wp2_with fail
 clear q6 q7 q8 q9 qa qb qc
 go_loopw [28] (fun i wr => Hid (Below w.heap.size w wr ∧ AtB wr w.heap.size #[.int .i64 10, .int .i64 ↑k, .slice A 0 cap] CmT ∧ AtB wr fb fmC FmT) ∧ ((∃ j : Nat, j < 8 ∧ i = .int .i64 j) ∨ i = .int .i64 8)) (fun i _ => 12 - (RowKit.intOf i).toNat)
 case atStart => exact ⟨⟨BB.out, q3.out, q4.out⟩, .inl ⟨0, by decide, rfl⟩⟩
 case round =>
  clear q3 q4 BB
  obtain ⟨H, hrel⟩ := hrel
  obtain ⟨BB, q3, q4⟩ := H.out
  replace BB := Hi BB
  replace q3 := Hi q3
  replace q4 := Hi q4
  clear H
  rcases hrel with ⟨j, hj, rfl⟩ | rfl
  ·
   obtain ⟨a0, a1, a2, a3⟩ := fm_at j (by omega)
   have d0 := q4.out.cell _ a0
   have d1 := q4.out.cell _ a1
   have d2 := q4.out.cell _ a2
   have d3 := q4.out.cell _ a3
   have q0 : (0 : Int) ≤ (j : Int) := by omega
   have q1 : (j : Int) < 12 := by omega
   have q2 : j < 12 := by omega
   have i1 : I64 ((j + 1 : Nat) : Int) := ⟨by omega, by omega⟩
   have j1 : (j : Int) + 1 = ((j + 1 : Nat) : Int) := by omega
   have ek : IntKind.i64.wrap ((j : Int) + 1) = ((j + 1 : Nat) : Int) := by rw [j1]; exact iw i1
   have hne := HN.out j hj (by omega)
   clear a0 a1 a2 a3 i1 j1
   replace hj := Hi hj
   generalize fmN.getD j ⟨#[]⟩ = a at *
   generalize fmO.getD j 0 = fo at *
   obtain ⟨⟨ff, fa, fc, ef⟩, gf, ga, gc, eg⟩ := fm_fn j q2
   rw [ef] at d2
   rw [eg] at d3
   clear ef eg
   go_upto_region 6 with fail
   clear d0 d1 d2 d3
   have qm := Hi (And.intro BB.out.size (And.intro q3.out.lt (And.intro q4.out.lt (True.intro))))
   obtain ⟨w2, qn, e1, e2, hb, q5⟩ := bx wr #[.string a, .int .i64 fo, .func ff fa fc, .func gf ga gc] FmT
   rw [e2] at qm; rw [e1, e2]
   replace q3 := kp q3 hb
   replace q4 := kp q4 hb
   replace BB := nx BB hb
   clear hb e1 e2
   obtain ⟨q6, q7, q8, q9, qa, qb⟩ := reads3 q3.out
   have qc := q3.out.lt
   obtain ⟨qd, qe, qf, qg, qh, qi, qj, qk⟩ := reads4 q5.out
   have ql := q5.out.lt
   go_wp2_with fail
   go_roundw
   case rel => exact ⟨⟨BB.out, q3.out, q4.out⟩, (Nat.lt_or_ge (j + 1) 8).elim (fun h => .inl ⟨j + 1, h, by go_num⟩) (fun h => .inr (h7 _ h hj.out))⟩
   case measure => have := hj.out; simp [RowKit.intOf, ek]; clear ek; omega
  ·
   obtain ⟨d0, d1, d2, d3⟩ : wr.cell? ⟨fb, 32 + 0, none⟩ = some (.string ⟨#[115, 97, 118, 101]⟩) ∧ wr.cell? ⟨fb, 32 + 1, none⟩ = some (.int .i64 10) ∧ wr.cell? ⟨fb, 32 + 2, none⟩ = some (.func (.func 59) #[] #[]) ∧ wr.cell? ⟨fb, 32 + 3, none⟩ = some (.func (.func 54) #[.int .i64 0] #[]) := ⟨q4.out.cell _ rfl, q4.out.cell _ rfl, q4.out.cell _ rfl, q4.out.cell _ rfl⟩
   simp only [Nat.reduceAdd] at d0 d1 d2 d3
   go_upto_region 6 with fail
   clear d0 d1 d2 d3
   have qm := Hi (And.intro BB.out.size (And.intro q3.out.lt (And.intro q4.out.lt (True.intro))))
   obtain ⟨w2, qn, e1, e2, hb, q5⟩ := bx wr #[.string ⟨#[115, 97, 118, 101]⟩, .int .i64 10, .func (.func 59) #[] #[], .func (.func 54) #[.int .i64 0] #[]] FmT
   rw [e2] at qm; rw [e1, e2]
   replace q3 := kp q3 hb
   replace q4 := kp q4 hb
   replace BB := nx BB hb
   clear hb e1 e2
   obtain ⟨q6, q7, q8, q9, qa, qb⟩ := reads3 q3.out
   have qc := q3.out.lt
   obtain ⟨qd, qe, qf, qg, qh, qi, qj, qk⟩ := reads4 q5.out
   have ql := q5.out.lt
   go_wp2_with fail
   refine (KK.out _).mono ?_
   rintro e w3 ⟨rfl, hb⟩
   clear q6 q7 q8 q9 qa qb qc qd qe qf qg qh qi qj qk ql
   replace q3 := kp q3 hb
   replace q4 := kp q4 hb
   replace q5 := kp q5 hb
   replace BB := nx BB hb
   clear hb
   obtain ⟨q6, q7, q8, q9, qa, qb⟩ := reads3 q3.out
   have qc := q3.out.lt
   obtain ⟨qd, qe, qf, qg, qh, qi, qj, qk⟩ := reads4 q5.out
   have ql := q5.out.lt
   go_wp2_with fail
   have Q_0 := Hi (fun n => quiet_same (HO.out (w3.drewN n)))
   go_quiet ((first | (go_at_call 54; with_reducible exact Q_0.out _)))
   clear Q_0
   have hb := below_drawn (Below.refl w3.heap.size w3) nq
   generalize w3.drewN nq = w4 at *
   clear q6 q7 q8 q9 qa qb qc qd qe qf qg qh qi qj qk ql
   replace q3 := kp q3 hb
   replace q4 := kp q4 hb
   replace q5 := kp q5 hb
   replace BB := nx BB hb
   clear hb nq
   go_wp2_with fail
   go_ret
   exact ⟨rfl, BB.out⟩
attribute [go_sem] Tryz.results23 Tryz.results45
abbrev MaT : TypeId := 76
abbrev BTT : TypeId := 25
theorem mnew (n : Int) (hn : n = 1099511627776) (w : World) : Calls Tryz.prog 24 #[.int .i64 n] w fun e w' => ∃ p, e = .returned (.pointer (some ⟨p, 0, none⟩)) ∧ Below w.heap.size w w' := by
 subst hn
 go_enter Tryz.func24, Tryz.ntmps24
 go_wp2_with fail
 go_ret
 exact ⟨_, rfl, below_new (Below.refl _ _) _⟩
theorem musual (w : World) : Calls Tryz.prog 23 #[] w fun e w' => e = .returned (.agg #[.int .i64 64, .int .i64 64, .int .i64 16, .slice none 0 0]) ∧ Below w.heap.size w w' := by
 go_enter Tryz.func23, Tryz.ntmps23
 go_upto_region 1 with fail
 obtain ⟨w0, e, BB, q1⟩ := en1 w #[.int .i64 0, .int .i64 0, .int .i64 0, .slice none 0 0] 71
 rw [e]; clear e
 obtain ⟨q2, q3, q4, q5, q6, q7, q8, q9⟩ := reads4 q1.out
 have qa := q1.out.lt
 go_wp2_with fail
 clear q2 q3 q4 q5 q6 q7 q8 q9 qa
 have F := st4 q1 BB 0 (.int .i64 64) 1 (.int .i64 64) 2 (.int .i64 16) 3 (.slice none 0 0)
 clear q1 BB
 obtain ⟨w1, e, q1, BB, F⟩ := F
 rw [e]; clear e
 clear F
 obtain ⟨q2, q3, q4, q5, q6, q7, q8, q9⟩ := reads4 q1.out
 have qa := q1.out.lt
 refine bret (.agg #[.int .i64 64, .int .i64 64, .int .i64 16, .slice none 0 0]) ?_
 exact ⟨rfl, BB.out⟩
theorem mtable (w : World) : Calls Tryz.prog 45 #[] w fun e w' => e = .returned (.agg #[.nilFunc, .func (.func 69) #[] #[], .func (.func 70) #[] #[], .func (.func 71) #[] #[], .func (.func 72) #[] #[], .func (.func 73) #[] #[], .func (.func 74) #[] #[], .func (.func 75) #[] #[], .func (.func 76) #[] #[], .func (.func 77) #[] #[], .func (.func 78) #[] #[], .func (.func 79) #[] #[], .func (.func 80) #[] #[], .func (.func 81) #[] #[]]) ∧ Below w.heap.size w w' := by
 go_enter Tryz.func45, Tryz.ntmps45
 go_wp2_with fail
 obtain ⟨hb, q0⟩ := laid w #[.nilFunc, .func (.func 69) #[] #[], .func (.func 70) #[] #[], .func (.func 71) #[] #[], .func (.func 72) #[] #[], .func (.func 73) #[] #[], .func (.func 74) #[] #[], .func (.func 75) #[] #[], .func (.func 76) #[] #[], .func (.func 77) #[] #[], .func (.func 78) #[] #[], .func (.func 79) #[] #[], .func (.func 80) #[] #[], .func (.func 81) #[] #[]] 108
 generalize (w.alloc (.cells #[.nilFunc, .func (.func 69) #[] #[], .func (.func 70) #[] #[], .func (.func 71) #[] #[], .func (.func 72) #[] #[], .func (.func 73) #[] #[], .func (.func 74) #[] #[], .func (.func 75) #[] #[], .func (.func 76) #[] #[], .func (.func 77) #[] #[], .func (.func 78) #[] #[], .func (.func 79) #[] #[], .func (.func 80) #[] #[], .func (.func 81) #[] #[]] 108)) = w2 at *
 have c0 : w2.cell? ⟨w.heap.size, 0, none⟩ = some (.nilFunc) := q0.cell 0 rfl
 have c1 : w2.cell? ⟨w.heap.size, 1, none⟩ = some (.func (.func 69) #[] #[]) := q0.cell 1 rfl
 have c2 : w2.cell? ⟨w.heap.size, 2, none⟩ = some (.func (.func 70) #[] #[]) := q0.cell 2 rfl
 have c3 : w2.cell? ⟨w.heap.size, 3, none⟩ = some (.func (.func 71) #[] #[]) := q0.cell 3 rfl
 have c4 : w2.cell? ⟨w.heap.size, 4, none⟩ = some (.func (.func 72) #[] #[]) := q0.cell 4 rfl
 have c5 : w2.cell? ⟨w.heap.size, 5, none⟩ = some (.func (.func 73) #[] #[]) := q0.cell 5 rfl
 have c6 : w2.cell? ⟨w.heap.size, 6, none⟩ = some (.func (.func 74) #[] #[]) := q0.cell 6 rfl
 have c7 : w2.cell? ⟨w.heap.size, 7, none⟩ = some (.func (.func 75) #[] #[]) := q0.cell 7 rfl
 have c8 : w2.cell? ⟨w.heap.size, 8, none⟩ = some (.func (.func 76) #[] #[]) := q0.cell 8 rfl
 have c9 : w2.cell? ⟨w.heap.size, 9, none⟩ = some (.func (.func 77) #[] #[]) := q0.cell 9 rfl
 have c10 : w2.cell? ⟨w.heap.size, 10, none⟩ = some (.func (.func 78) #[] #[]) := q0.cell 10 rfl
 have c11 : w2.cell? ⟨w.heap.size, 11, none⟩ = some (.func (.func 79) #[] #[]) := q0.cell 11 rfl
 have c12 : w2.cell? ⟨w.heap.size, 12, none⟩ = some (.func (.func 80) #[] #[]) := q0.cell 12 rfl
 have c13 : w2.cell? ⟨w.heap.size, 13, none⟩ = some (.func (.func 81) #[] #[]) := q0.cell 13 rfl
 refine bret (.agg #[.nilFunc, .func (.func 69) #[] #[], .func (.func 70) #[] #[], .func (.func 71) #[] #[], .func (.func 72) #[] #[], .func (.func 73) #[] #[], .func (.func 74) #[] #[], .func (.func 75) #[] #[], .func (.func 76) #[] #[], .func (.func 77) #[] #[], .func (.func 78) #[] #[], .func (.func 79) #[] #[], .func (.func 80) #[] #[], .func (.func 81) #[] #[]]) ?_
 exact ⟨rfl, hb⟩
theorem own_onl {w w1 : World} {base sz n g : Nat} {e : TypeId} {v : Value} {xs : List Value} (h : w.ownsRow base e sz v n xs) (hne : v.ownBlock ≠ some g) (hb : Onl g w w1) : w1.ownsRow base e sz v n xs := h.kept hb (.inr hne)
def GiveOnl (g : Nat) (c : Int) (cs : Array Value) (w : World) (e : Ending) (w' : World) : Prop := e = .returned (.int .i64 c) ∧ Onl g w w' ∧ AtB w' g cs MaT
theorem rload_bad (g ng nc ib io icap mp S : Nat) (v : Value) (w : World) (hS : S ≠ 0) (hk : AtB w g (mac ib io icap mp 0 0 0 (.slice none 0 0) false (.slice none 0 0) 0 0 0) MaT) (hN : Hid (∀ w1, Onl g w w1 → w1.cell? ⟨ng, 0, none⟩ = some (.int .i64 0))) (hin : Hid (∀ w1, Onl g w w1 → w1.cell? ⟨ib, io, none⟩ = some v)) (hR : Hid (∀ w1, Onl g w w1 → Calls Tryz.prog 116 #[v] w1 (GiveCod (S, 0, 0, 0, []) w1))) :
 Calls Tryz.prog 69 #[.pointer (some ⟨g, 0, none⟩), .agg #[.int .i64 1, .int .i64 0, .slice (some ⟨ng, 0, none⟩) 1 nc]] w (GiveOnl g S (mac ib io icap mp 0 0 0 (.slice none 0 0) false (.slice none 0 0) 0 0 0) w) := by
 have q1 : ((S : Int) == 0) = false := by rw [beq_eq_false_iff_ne]; omega
 replace hS := Hi hS
 have hlt := hk.lt
 replace hk := Hi hk
 go_enter Tryz.func69, Tryz.ntmps69
 go_upto_region 1 with fail
 obtain ⟨w0, e, BB, q2⟩ := en1 w #[.int .i64 1, .int .i64 0, .slice (some ⟨ng, 0, none⟩) 1 nc] CmT
 rw [e]; clear e
 have q0 := Hi (hk.out.keep BB.out)
 clear hk
 replace BB := Hi (onl_of (g := g) BB.out)
 have n0 := hN.out _ BB.out
 have i0 := hin.out _ BB.out
 have k0 : w0.cell? ⟨g, 0, none⟩ = some (.slice (some ⟨ib, io, none⟩) 1 icap) := q0.out.cell 0 rfl
 have lk := q0.out.lt
 obtain ⟨q5, q6, q7, q8, q9, qa⟩ := reads3 q2.out
 have qb := q2.out.lt
 go_wp2_with fail
 clear n0 i0 k0 lk
 refine (hR.out _ BB.out).mono ?_
 rintro e w1 ⟨X, Y, Z, v2, kd, rfl, hb, ⟨A2, m2, cap2, rfl⟩, hz, -⟩
 clear q5 q6 q7 q8 q9 qa qb
 replace q2 := kp q2 hb
 replace q0 := kp q0 hb
 replace BB := nxo BB hb
 clear hb
 obtain ⟨rfl, rfl, rfl, hv⟩ := hz hS.out
 simp only [Value.slice.injEq] at hv
 obtain ⟨rfl, rfl, rfl⟩ := hv
 clear hz
 go_upto_region 5 with fail
 have q3 := Hi (And.intro BB.out.size (And.intro q2.out.lt (And.intro q0.out.lt (True.intro))))
 obtain ⟨w2, qk, e1, e2, hb, q4⟩ := bx w1 #[.int .i64 0, .int .i64 0, .int .i64 0, .slice none 0 0] IT
 rw [e2] at q3; rw [e1, e2]
 replace q2 := kp q2 hb
 replace q0 := kp q0 hb
 replace BB := nxo BB hb
 clear hb e1 e2
 go_wp2_with fail
 go_ret
 exact ⟨rfl, BB.out, q0.out⟩
def GiveLd (g ib io icap mp x y z m : Nat) (p : List UInt8) (w : World) (e : Ending) (w' : World) : Prop :=
 ∃ A cap, e = .returned (.int .i64 0) ∧ Onl g w w' ∧ AtB w' g (mac ib io icap mp x y z (.slice A m cap) true (.slice none 0 0) 0 0 0) MaT ∧ w'.ownsRow w.heap.size U8T 1 (.slice A m cap) m (uV p)
theorem rload_ok (g ng nc ib io icap mp x y z : Nat) (p : List UInt8) (m : Nat) (hm : Hid (m = p.length)) (v : Value) (w : World) (hk : AtB w g (mac ib io icap mp 0 0 0 (.slice none 0 0) false (.slice none 0 0) 0 0 0) MaT) (hN : Hid (∀ w1, Onl g w w1 → w1.cell? ⟨ng, 0, none⟩ = some (.int .i64 0))) (hin : Hid (∀ w1, Onl g w w1 → w1.cell? ⟨ib, io, none⟩ = some v)) (hR : Hid (∀ w1, Onl g w w1 → Calls Tryz.prog 116 #[v] w1 (GiveCod (0, x, y, z, p) w1))) :
 Calls Tryz.prog 69 #[.pointer (some ⟨g, 0, none⟩), .agg #[.int .i64 1, .int .i64 0, .slice (some ⟨ng, 0, none⟩) 1 nc]] w (GiveLd g ib io icap mp x y z m p w) := by
 have hlt := hk.lt
 replace hk := Hi hk
 go_enter Tryz.func69, Tryz.ntmps69
 go_upto_region 1 with fail
 obtain ⟨w0, e, BB, q2⟩ := en1 w #[.int .i64 1, .int .i64 0, .slice (some ⟨ng, 0, none⟩) 1 nc] CmT
 rw [e]; clear e
 have q0 := Hi (hk.out.keep BB.out)
 clear hk
 replace BB := Hi (onl_of (g := g) BB.out)
 have n0 := hN.out _ BB.out
 have i0 := hin.out _ BB.out
 have k0 : w0.cell? ⟨g, 0, none⟩ = some (.slice (some ⟨ib, io, none⟩) 1 icap) := q0.out.cell 0 rfl
 have lk := q0.out.lt
 obtain ⟨q5, q6, q7, q8, q9, qa⟩ := reads3 q2.out
 have qb := q2.out.lt
 go_wp2_with fail
 clear n0 i0 k0 lk
 have hs0 := Hi BB.out.size
 have hgl := Hi q0.out.lt
 refine (hR.out _ BB.out).mono ?_
 rintro e w1 ⟨X, Y, Z, v2, kd, rfl, hb, -, -, hz⟩
 clear q5 q6 q7 q8 q9 qa qb
 replace q2 := kp q2 hb
 replace q0 := kp q0 hb
 replace BB := nxo BB hb
 clear hb
 obtain ⟨rfl, rfl, rfl, hv⟩ := hz rfl
 clear hz
 dsimp only at hv
 rw [← hm.out] at hv
 obtain ⟨A2, cap2, rfl⟩ := own_form hv
 have nk := Hi (own_ne hv q0.out (by decide))
 have hv := Hi (own_base hv hs0.out)
 go_upto_region 5 with fail
 have q3 := Hi (And.intro BB.out.size (And.intro q2.out.lt (And.intro q0.out.lt (True.intro))))
 obtain ⟨w2, qk, e1, e2, hb, q4⟩ := bx w1 #[.int .i64 x, .int .i64 y, .int .i64 z, .slice A2 m cap2] IT
 rw [e2] at q3; rw [e1, e2]
 replace q2 := kp q2 hb
 replace q0 := kp q0 hb
 replace hv := Hi (own_below hv.out hb)
 replace BB := nxo BB hb
 clear hb e1 e2
 obtain ⟨qc, qd, qe, qf, qg, qh, qi, qj⟩ := reads4 q4.out
 have ql := q4.out.lt
 have fk1 := q0.out.fr 1
 have ck1 : w2.cell? ⟨g, 1, none⟩ = some (.int .i64 0) := q0.out.cell 1 rfl
 have fk2 := q0.out.fr 2
 have ck2 : w2.cell? ⟨g, 2, none⟩ = some (.int .i64 0) := q0.out.cell 2 rfl
 have fk3 := q0.out.fr 3
 have ck3 : w2.cell? ⟨g, 3, none⟩ = some (.int .i64 0) := q0.out.cell 3 rfl
 have fk4 := q0.out.fr 4
 have ck4 : w2.cell? ⟨g, 4, none⟩ = some (.slice none 0 0) := q0.out.cell 4 rfl
 have fk5 := q0.out.fr 5
 have ck5 : w2.cell? ⟨g, 5, none⟩ = some (.bool false) := q0.out.cell 5 rfl
 have lk := q0.out.lt
 go_upto_region 7 with fail
 clear fk1 ck1 fk2 ck2 fk3 ck3 fk4 ck4 fk5 ck5 lk
 clear qc qd qe qf qg qh qi qj ql
 replace q2 := Hi (((((q2.out.far (p := g) (by omega) 1 (.int .i64 x)).far (p := g) (by omega) 2 (.int .i64 y)).far (p := g) (by omega) 3 (.int .i64 z)).far (p := g) (by omega) 4 (.slice A2 m cap2)).far (p := g) (by omega) 5 (.bool true))
 replace q0 := Hi (((((q0.out.sn 1 (.int .i64 x)).sn 2 (.int .i64 y)).sn 3 (.int .i64 z)).sn 4 (.slice A2 m cap2)).sn 5 (.bool true))
 replace q4 := Hi (((((q4.out.far (p := g) (by have dd_m := q3.out; omega) 1 (.int .i64 x)).far (p := g) (by have dd_m := q3.out; omega) 2 (.int .i64 y)).far (p := g) (by have dd_m := q3.out; omega) 3 (.int .i64 z)).far (p := g) (by have dd_m := q3.out; omega) 4 (.slice A2 m cap2)).far (p := g) (by have dd_m := q3.out; omega) 5 (.bool true))
 replace BB := Hi (onl_set (onl_set (onl_set (onl_set (onl_set BB.out 1 (.int .i64 x)) 2 (.int .i64 y)) 3 (.int .i64 z)) 4 (.slice A2 m cap2)) 5 (.bool true))
 replace hv := Hi (own_store nk.out (own_store nk.out (own_store nk.out (own_store nk.out (own_store nk.out hv.out 1 (.int .i64 x)) 2 (.int .i64 y)) 3 (.int .i64 z)) 4 (.slice A2 m cap2)) 5 (.bool true))
 generalize (((((w2.setCell ⟨g, 1, none⟩ (.int .i64 x)).setCell ⟨g, 2, none⟩ (.int .i64 y)).setCell ⟨g, 3, none⟩ (.int .i64 z)).setCell ⟨g, 4, none⟩ (.slice A2 m cap2)).setCell ⟨g, 5, none⟩ (.bool true)) = w3 at *
 go_wp2_with fail
 go_ret
 exact ⟨A2, cap2, rfl, BB.out, q0.out, hv.out⟩
end Go.Proofs.YtikpobembcgbfaaGreatDoor
