/- Parts of the proof: Bm7. -/
import Derived.Test.YtikpobembcgbfaaGreatDoorQ16
import Derived.Test.YtikpobembcgbfaaGreatDoorQ14
set_option linter.unusedVariables false
set_option linter.unusedSimpArgs false
set_option maxRecDepth 100000
set_option maxHeartbeats 40000000
namespace Go.Proofs.YtikpobembcgbfaaGreatDoor
open Go.RowKit Go.Lib
attribute [go_sem] Tryz.results171
theorem bread_4 (v : Value) (l : List UInt8) (hl : l.length ≤ 100000000) (w : World) (h : BY w v l) (x y z n : Nat) (hd : HdOk l x y z n) (m : Nat) (hm : m = l.length - 54) (hc : m < n * y) : Calls Tryz.prog 171 #[v] w (GiveImg (20, 0, 0, 0, []) w) := by
 have hlen := Hi (show (l.drop 54).length = m by rw [List.length_drop, hm])
 have CN := Hi (fun w1 (hb : Below w.heap.size w w1) => cnew v l hl w1 (h.below hb))
 obtain ⟨A, cap, rfl⟩ := h.form
 clear h
 have k0 := hd.facts
 have q1 : ((tkC l : Int) != 0) = false := neq_f hd.tk
 have q2 : ((shC (hv l 4) (rowsN (hv l 5)) : Int) != 0) = false := neq_f hd.sh
 have h0 := Hi hd.tk
 have h1 := Hi hd.fm
 have h2 := Hi hd.sh
 have CT := Hi (bstride x z k0.1 k0.2.2.2.1)
 rw [← hd.en] at CT
 have hex := Hi hd.ex
 have hey := Hi hd.ey
 have hez := Hi hd.ez
 have hen := Hi hd.en
 have hny : n * y ≤ 16875520 := by
  have h3 := stride_le x z
  rw [← hd.en] at h3
  have h4 : x * z ≤ x * 4 := Nat.mul_le_mul_left _ (by have := k0.2.2.2.1; omega)
  have h5 : n * y ≤ (x * 4 + 3) * y := Nat.mul_le_mul_right _ (by omega)
  have h6 : (x * 4 + 3) * y = x * y * 4 + 3 * y := by rw [Nat.add_mul, Nat.mul_right_comm]
  have := k0.2.2.1
  have := k0.2.1
  omega
 have en1 : (n : Int) * (y : Int) = ((n * y : Nat) : Int) := by rw [Int.natCast_mul]
 obtain ⟨N, hN⟩ : ∃ N, N = n * y := ⟨_, rfl⟩
 rw [← hN] at en1 hny
 have ew : IntKind.i64.wrap ((n : Int) * (y : Int)) = (N : Int) := by rw [en1]; exact iw ⟨by omega, by omega⟩
 have ew2 : wrap64 ((n : Int) * (y : Int)) = (N : Int) := by rw [en1]; exact ww ⟨by omega, by omega⟩
 replace hN := Hi hN
 replace k0 := Hi k0
 replace hd := Hi hd
 clear en1 hny
 have g1 : (m : Int) < (N : Int) := by have := hN.out; omega
 clear hc hm
 go_enter Tryz.func171, Tryz.ntmps171
 go_wp2_with fail
 obtain ⟨w0, e, BB, q0⟩ := en1 w #[.int .i64 0, .int .i64 0, .int .i64 0, .slice none 0 0] IT
 rw [e]; clear e
 have hsz := Hi q0.out.lt
 refine (CN.out _ BB.out).mono ?_
 rintro e w1 ⟨g, s, rfl, hb, hge, hc, hown⟩
 replace q0 := kp q0 hb
 replace BB := nx BB hb
 clear hb
 have hg := Hi (show w.heap.size < g from by have := hsz.out; omega)
 have hs := Hi (fun b e => (hown.lt b e).2)
 have gs := Hi (cu_lt hc)
 replace hc := Hi hc
 clear CN hge hown
 go_upto_region 2 with fail
 have qs := Hi (And.intro BB.out.size (And.intro q0.out.lt (True.intro)))
 obtain ⟨hb, qe⟩ := laid w1 #[.int .u32 0, .int .u32 0, .int .u32 0, .int .u32 0, .int .u32 0, .int .u32 0, .int .u32 0, .int .u32 0, .int .u32 0, .int .u32 0, .int .u32 0, .int .u32 0, .int .u32 0, .int .u32 0] HT
 replace q0 := kp q0 hb
 replace hc := Hi (CU.below hc.out hb)
 replace BB := nx BB hb
 replace qe := Hi qe
 clear hb
 generalize w1.alloc (.cells #[.int .u32 0, .int .u32 0, .int .u32 0, .int .u32 0, .int .u32 0, .int .u32 0, .int .u32 0, .int .u32 0, .int .u32 0, .int .u32 0, .int .u32 0, .int .u32 0, .int .u32 0, .int .u32 0] HT) = w2 at *
 generalize w1.heap.size = g_h at *
 have hgh := Hi (show g < g_h from gs.out)
 have hsh := Hi (show s.ownBlock ≠ some g_h from fun e => by have := hs.out _ e; omega)
 have D2 := Hi (btake g g g_h s l w2 hc.out qe.out (by have := hgh.out; omega) hsh.out (Nat.le_refl _) (by have := hgh.out; omega))
 clear hs gs
 clear hc
 go_wp2_with fail
 refine D2.out.mono ?_
 rintro e w5 ⟨rfl, hbg, hk⟩
 clear D2 qe
 replace q0 := Hi (q0.out.blk hbg hg.out)
 replace BB := Hi (below_pt BB.out hbg (Nat.le_of_lt hg.out))
 replace hk := Hi hk
 clear hbg
 obtain ⟨hc, hh⟩ := hk.out h0.out
 clear hk
 replace hc := Hi hc
 replace hh := Hi (hd_all hh)
 have CF := Hi (bform g_h (hv l) _ hh.out)
 go_wp2_with fail
 rw [h1.out] at CF
 refine (CF.out).mono ?_
 rintro e w3 ⟨rfl, hb⟩
 replace q0 := kp q0 hb
 replace hc := Hi (CU.below hc.out hb)
 replace hh := Hi (AtB.keep hh.out hb)
 replace BB := nx BB hb
 clear hb
 clear CF
 have CS := Hi (bshape g_h (hv l) _ hh.out (hv_lt l 4 (by omega)) (hv_lt l 5 (by omega)) (hv_lt l 7 (by omega)))
 go_wp2_with fail
 refine (CS.out).mono ?_
 rintro e w4 ⟨X, Y, Z, rfl, hb, hks⟩
 replace q0 := kp q0 hb
 replace hc := Hi (CU.below hc.out hb)
 replace hh := Hi (AtB.keep hh.out hb)
 replace BB := nx BB hb
 clear hb
 replace hks := Hi hks
 clear CS
 go_upto_region 8 with fail
 have gm := Hi (And.intro (cu_lt hc.out) (And.intro hh.out.lt (fun b (e : s.ownBlock = some b) => (hc.out.own.lt b e).2)))
 have qq := Hi (And.intro BB.out.size (And.intro q0.out.lt (True.intro)))
 obtain ⟨hb, q3⟩ := laid w4 #[.int .i64 X, .int .i64 Y, .int .i64 Z, .slice none 0 0] IT
 replace q0 := kp q0 hb
 replace hc := Hi (CU.below hc.out hb)
 replace hh := Hi (AtB.keep hh.out hb)
 replace BB := nx BB hb
 replace q3 := Hi q3
 clear hb
 generalize w4.alloc (.cells #[.int .i64 X, .int .i64 Y, .int .i64 Z, .slice none 0 0] IT) = w5 at *
 generalize w4.heap.size = g_m at *
 obtain ⟨rfl, rfl, rfl⟩ := hks.out h2.out
 clear hks
 rw [← hex.out, ← hey.out, ← hez.out] at q3
 obtain ⟨qh, qi, qj, qk, ql, qm, qn, qo⟩ := reads4 q3.out
 have qr := q3.out.lt
 go_wp2_with fail
 refine (CT.out _).mono ?_
 rintro e w9 ⟨rfl, rfl⟩
 go_wp2_with fail
 have CL := Hi (fun w9 (hb : Below w5.heap.size w5 w9) => cleft g s l 54 w9 (hc.out.below hb))
 rw [hlen.out] at CL
 clear qh qi qj qk ql qm qn qo qr
 have KK := Hi (fun (w9 : World) (h : Below w5.heap.size w5 w9) => (cells4 (q3.out.keep h) : (w9.cell? ⟨g_m, 0, none⟩ = some (.int .i64 ↑x) ∧ w9.cell? ⟨g_m, 1, none⟩ = some (.int .i64 ↑y) ∧ w9.cell? ⟨g_m, 2, none⟩ = some (.int .i64 ↑z) ∧ w9.cell? ⟨g_m, 3, none⟩ = some (.slice none 0 0))))
 have K0 := KK.out w5 (Below.refl _ _)
 have KD := KK.out w5.drew (below_drew (Below.refl _ _))
 go_region_held3 (fun w9 => (w9.cell? ⟨g_m, 0, none⟩ = some (.int .i64 ↑x) ∧ w9.cell? ⟨g_m, 1, none⟩ = some (.int .i64 ↑y) ∧ w9.cell? ⟨g_m, 2, none⟩ = some (.int .i64 ↑z) ∧ w9.cell? ⟨g_m, 3, none⟩ = some (.slice none 0 0)))
  (first | with_reducible exact KD | with_reducible exact K0 | with_reducible exact qg)
  (first
    | (go_at_call 251
       refine (CL.out _ (by repeat (first | with_reducible exact Below.refl _ _ | with_reducible apply below_drew | with_reducible apply below_new))).mono ?_
       rintro e w6 ⟨rfl, hb⟩
       have q4 := rn (w0 := w5) hb
       have qg := KK.out _ q4.out
       clear hb))
 clear KK K0 KD qg
 replace q0 := kp q0 q4.out
 replace q3 := kp q3 q4.out
 replace hc := Hi (CU.below hc.out q4.out)
 replace hh := Hi (AtB.keep hh.out q4.out)
 replace BB := nx BB q4.out
 clear q4
 clear CL
 obtain ⟨q6, q7, q8, q9, qa, qb, qc, qd⟩ := reads4 q0.out
 have qf := q0.out.lt
 go_wp2_with fail
 clear q6 q7 q8 q9 qa qb qc qd qf
 have F := st4 q0 BB 0 (.int .i64 0) 1 (.int .i64 0) 2 (.int .i64 0) 3 (.slice none 0 0)
 clear q0 BB
 obtain ⟨w7, e, q0, BB, F⟩ := F
 rw [e]; clear e
 replace q3 := F _ _ _ (by have dd_m := qq.out; omega) q3
 clear F
 go_wp2_with fail
 obtain ⟨q6, q7, q8, q9, qa, qb, qc, qd⟩ := reads4 q0.out
 have qf := q0.out.lt
 refine bret (.tuple #[imv 0 0 0 (.slice none 0 0), .int .i64 20]) ?_
 exact ⟨0, 0, 0, _, rfl, BB.out, ⟨_, _, _, rfl⟩, fun _ => ⟨rfl, rfl, rfl, rfl⟩, fun e => absurd e (by simp)⟩
theorem bread_5 (v : Value) (l : List UInt8) (hl : l.length ≤ 100000000) (w : World) (h : BY w v l) (x y z n : Nat) (hd : HdOk l x y z n) (m : Nat) (hm : m = l.length - 54) (hc : n * y < m) : Calls Tryz.prog 171 #[v] w (GiveImg (22, 0, 0, 0, []) w) := by
 have hlen := Hi (show (l.drop 54).length = m by rw [List.length_drop, hm])
 have CN := Hi (fun w1 (hb : Below w.heap.size w w1) => cnew v l hl w1 (h.below hb))
 obtain ⟨A, cap, rfl⟩ := h.form
 clear h
 have k0 := hd.facts
 have q1 : ((tkC l : Int) != 0) = false := neq_f hd.tk
 have q2 : ((shC (hv l 4) (rowsN (hv l 5)) : Int) != 0) = false := neq_f hd.sh
 have h0 := Hi hd.tk
 have h1 := Hi hd.fm
 have h2 := Hi hd.sh
 have CT := Hi (bstride x z k0.1 k0.2.2.2.1)
 rw [← hd.en] at CT
 have hex := Hi hd.ex
 have hey := Hi hd.ey
 have hez := Hi hd.ez
 have hen := Hi hd.en
 have hny : n * y ≤ 16875520 := by
  have h3 := stride_le x z
  rw [← hd.en] at h3
  have h4 : x * z ≤ x * 4 := Nat.mul_le_mul_left _ (by have := k0.2.2.2.1; omega)
  have h5 : n * y ≤ (x * 4 + 3) * y := Nat.mul_le_mul_right _ (by omega)
  have h6 : (x * 4 + 3) * y = x * y * 4 + 3 * y := by rw [Nat.add_mul, Nat.mul_right_comm]
  have := k0.2.2.1
  have := k0.2.1
  omega
 have en1 : (n : Int) * (y : Int) = ((n * y : Nat) : Int) := by rw [Int.natCast_mul]
 obtain ⟨N, hN⟩ : ∃ N, N = n * y := ⟨_, rfl⟩
 rw [← hN] at en1 hny
 have ew : IntKind.i64.wrap ((n : Int) * (y : Int)) = (N : Int) := by rw [en1]; exact iw ⟨by omega, by omega⟩
 have ew2 : wrap64 ((n : Int) * (y : Int)) = (N : Int) := by rw [en1]; exact ww ⟨by omega, by omega⟩
 replace hN := Hi hN
 replace k0 := Hi k0
 replace hd := Hi hd
 clear en1 hny
 have g1 : ¬ (m : Int) < (N : Int) := by have := hN.out; omega
 have g2 : (N : Int) < (m : Int) := by have := hN.out; omega
 clear hc hm
 go_enter Tryz.func171, Tryz.ntmps171
 go_wp2_with fail
 obtain ⟨w0, e, BB, q0⟩ := en1 w #[.int .i64 0, .int .i64 0, .int .i64 0, .slice none 0 0] IT
 rw [e]; clear e
 have hsz := Hi q0.out.lt
 refine (CN.out _ BB.out).mono ?_
 rintro e w1 ⟨g, s, rfl, hb, hge, hc, hown⟩
 replace q0 := kp q0 hb
 replace BB := nx BB hb
 clear hb
 have hg := Hi (show w.heap.size < g from by have := hsz.out; omega)
 have hs := Hi (fun b e => (hown.lt b e).2)
 have gs := Hi (cu_lt hc)
 replace hc := Hi hc
 clear CN hge hown
 go_upto_region 2 with fail
 have qs := Hi (And.intro BB.out.size (And.intro q0.out.lt (True.intro)))
 obtain ⟨hb, qe⟩ := laid w1 #[.int .u32 0, .int .u32 0, .int .u32 0, .int .u32 0, .int .u32 0, .int .u32 0, .int .u32 0, .int .u32 0, .int .u32 0, .int .u32 0, .int .u32 0, .int .u32 0, .int .u32 0, .int .u32 0] HT
 replace q0 := kp q0 hb
 replace hc := Hi (CU.below hc.out hb)
 replace BB := nx BB hb
 replace qe := Hi qe
 clear hb
 generalize w1.alloc (.cells #[.int .u32 0, .int .u32 0, .int .u32 0, .int .u32 0, .int .u32 0, .int .u32 0, .int .u32 0, .int .u32 0, .int .u32 0, .int .u32 0, .int .u32 0, .int .u32 0, .int .u32 0, .int .u32 0] HT) = w2 at *
 generalize w1.heap.size = g_h at *
 have hgh := Hi (show g < g_h from gs.out)
 have hsh := Hi (show s.ownBlock ≠ some g_h from fun e => by have := hs.out _ e; omega)
 have D2 := Hi (btake g g g_h s l w2 hc.out qe.out (by have := hgh.out; omega) hsh.out (Nat.le_refl _) (by have := hgh.out; omega))
 clear hs gs
 clear hc
 go_wp2_with fail
 refine D2.out.mono ?_
 rintro e w5 ⟨rfl, hbg, hk⟩
 clear D2 qe
 replace q0 := Hi (q0.out.blk hbg hg.out)
 replace BB := Hi (below_pt BB.out hbg (Nat.le_of_lt hg.out))
 replace hk := Hi hk
 clear hbg
 obtain ⟨hc, hh⟩ := hk.out h0.out
 clear hk
 replace hc := Hi hc
 replace hh := Hi (hd_all hh)
 have CF := Hi (bform g_h (hv l) _ hh.out)
 go_wp2_with fail
 rw [h1.out] at CF
 refine (CF.out).mono ?_
 rintro e w3 ⟨rfl, hb⟩
 replace q0 := kp q0 hb
 replace hc := Hi (CU.below hc.out hb)
 replace hh := Hi (AtB.keep hh.out hb)
 replace BB := nx BB hb
 clear hb
 clear CF
 have CS := Hi (bshape g_h (hv l) _ hh.out (hv_lt l 4 (by omega)) (hv_lt l 5 (by omega)) (hv_lt l 7 (by omega)))
 go_wp2_with fail
 refine (CS.out).mono ?_
 rintro e w4 ⟨X, Y, Z, rfl, hb, hks⟩
 replace q0 := kp q0 hb
 replace hc := Hi (CU.below hc.out hb)
 replace hh := Hi (AtB.keep hh.out hb)
 replace BB := nx BB hb
 clear hb
 replace hks := Hi hks
 clear CS
 go_upto_region 8 with fail
 have gm := Hi (And.intro (cu_lt hc.out) (And.intro hh.out.lt (fun b (e : s.ownBlock = some b) => (hc.out.own.lt b e).2)))
 have qq := Hi (And.intro BB.out.size (And.intro q0.out.lt (True.intro)))
 obtain ⟨hb, q3⟩ := laid w4 #[.int .i64 X, .int .i64 Y, .int .i64 Z, .slice none 0 0] IT
 replace q0 := kp q0 hb
 replace hc := Hi (CU.below hc.out hb)
 replace hh := Hi (AtB.keep hh.out hb)
 replace BB := nx BB hb
 replace q3 := Hi q3
 clear hb
 generalize w4.alloc (.cells #[.int .i64 X, .int .i64 Y, .int .i64 Z, .slice none 0 0] IT) = w5 at *
 generalize w4.heap.size = g_m at *
 obtain ⟨rfl, rfl, rfl⟩ := hks.out h2.out
 clear hks
 rw [← hex.out, ← hey.out, ← hez.out] at q3
 obtain ⟨qh, qi, qj, qk, ql, qm, qn, qo⟩ := reads4 q3.out
 have qr := q3.out.lt
 go_wp2_with fail
 refine (CT.out _).mono ?_
 rintro e w9 ⟨rfl, rfl⟩
 go_wp2_with fail
 have CL := Hi (fun w9 (hb : Below w5.heap.size w5 w9) => cleft g s l 54 w9 (hc.out.below hb))
 rw [hlen.out] at CL
 clear qh qi qj qk ql qm qn qo qr
 have KK := Hi (fun (w9 : World) (h : Below w5.heap.size w5 w9) => (cells4 (q3.out.keep h) : (w9.cell? ⟨g_m, 0, none⟩ = some (.int .i64 ↑x) ∧ w9.cell? ⟨g_m, 1, none⟩ = some (.int .i64 ↑y) ∧ w9.cell? ⟨g_m, 2, none⟩ = some (.int .i64 ↑z) ∧ w9.cell? ⟨g_m, 3, none⟩ = some (.slice none 0 0))))
 have K0 := KK.out w5 (Below.refl _ _)
 have KD := KK.out w5.drew (below_drew (Below.refl _ _))
 go_region_held3 (fun w9 => (w9.cell? ⟨g_m, 0, none⟩ = some (.int .i64 ↑x) ∧ w9.cell? ⟨g_m, 1, none⟩ = some (.int .i64 ↑y) ∧ w9.cell? ⟨g_m, 2, none⟩ = some (.int .i64 ↑z) ∧ w9.cell? ⟨g_m, 3, none⟩ = some (.slice none 0 0)))
  (first | with_reducible exact KD | with_reducible exact K0 | with_reducible exact qg)
  (first
    | (go_at_call 251
       refine (CL.out _ (by repeat (first | with_reducible exact Below.refl _ _ | with_reducible apply below_drew | with_reducible apply below_new))).mono ?_
       rintro e w6 ⟨rfl, hb⟩
       have q4 := rn (w0 := w5) hb
       have qg := KK.out _ q4.out
       clear hb))
 clear KK K0 KD qg
 replace q0 := kp q0 q4.out
 replace q3 := kp q3 q4.out
 replace hc := Hi (CU.below hc.out q4.out)
 replace hh := Hi (AtB.keep hh.out q4.out)
 replace BB := nx BB q4.out
 clear q4
 clear CL
 go_wp2_with fail
 have CL := Hi (fun w9 (hb : Below w6.heap.size w6 w9) => cleft g s l 54 w9 (hc.out.below hb))
 rw [hlen.out] at CL
 have KK := Hi (fun (w9 : World) (h : Below w6.heap.size w6 w9) => (cells4 (q3.out.keep h) : (w9.cell? ⟨g_m, 0, none⟩ = some (.int .i64 ↑x) ∧ w9.cell? ⟨g_m, 1, none⟩ = some (.int .i64 ↑y) ∧ w9.cell? ⟨g_m, 2, none⟩ = some (.int .i64 ↑z) ∧ w9.cell? ⟨g_m, 3, none⟩ = some (.slice none 0 0))))
 have K0 := KK.out w6 (Below.refl _ _)
 have KD := KK.out w6.drew (below_drew (Below.refl _ _))
 go_region_held3 (fun w9 => (w9.cell? ⟨g_m, 0, none⟩ = some (.int .i64 ↑x) ∧ w9.cell? ⟨g_m, 1, none⟩ = some (.int .i64 ↑y) ∧ w9.cell? ⟨g_m, 2, none⟩ = some (.int .i64 ↑z) ∧ w9.cell? ⟨g_m, 3, none⟩ = some (.slice none 0 0)))
  (first | with_reducible exact KD | with_reducible exact K0 | with_reducible exact qp)
  (first
    | (go_at_call 251
       refine (CL.out _ (by repeat (first | with_reducible exact Below.refl _ _ | with_reducible apply below_drew | with_reducible apply below_new))).mono ?_
       rintro e w7 ⟨rfl, hb⟩
       have q5 := rn (w0 := w6) hb
       have qp := KK.out _ q5.out
       clear hb))
 clear KK K0 KD qp
 replace q0 := kp q0 q5.out
 replace q3 := kp q3 q5.out
 replace hc := Hi (CU.below hc.out q5.out)
 replace hh := Hi (AtB.keep hh.out q5.out)
 replace BB := nx BB q5.out
 clear q5
 clear CL
 obtain ⟨q6, q7, q8, q9, qa, qb, qc, qd⟩ := reads4 q0.out
 have qf := q0.out.lt
 go_wp2_with fail
 clear q6 q7 q8 q9 qa qb qc qd qf
 have F := st4 q0 BB 0 (.int .i64 0) 1 (.int .i64 0) 2 (.int .i64 0) 3 (.slice none 0 0)
 clear q0 BB
 obtain ⟨w8, e, q0, BB, F⟩ := F
 rw [e]; clear e
 replace q3 := F _ _ _ (by have dd_m := qq.out; omega) q3
 clear F
 go_wp2_with fail
 obtain ⟨q6, q7, q8, q9, qa, qb, qc, qd⟩ := reads4 q0.out
 have qf := q0.out.lt
 refine bret (.tuple #[imv 0 0 0 (.slice none 0 0), .int .i64 22]) ?_
 exact ⟨0, 0, 0, _, rfl, BB.out, ⟨_, _, _, rfl⟩, fun _ => ⟨rfl, rfl, rfl, rfl⟩, fun e => absurd e (by simp)⟩
theorem bread_6 (v : Value) (l : List UInt8) (hl : l.length ≤ 100000000) (w : World) (h : BY w v l) (x y z n : Nat) (hd : HdOk l x y z n) (m : Nat) (hm : m = l.length - 54) (hc : n * y = m) (hsm : decide (hv l 0 = l.length ∧ (hv l 9 = 0 ∨ hv l 9 = l.length - 54)) = false) : Calls Tryz.prog 171 #[v] w (GiveImg (21, 0, 0, 0, []) w) := by
 have hlen := Hi (show (l.drop 54).length = m by rw [List.length_drop, hm])
 have CSM := Hi (fun h w H => bsums h (hv l) l.length ⟨hd.facts.2.2.2.2, hl⟩ w H)
 rw [hsm] at CSM
 have CN := Hi (fun w1 (hb : Below w.heap.size w w1) => cnew v l hl w1 (h.below hb))
 obtain ⟨A, cap, rfl⟩ := h.form
 clear h
 have k0 := hd.facts
 have q1 : ((tkC l : Int) != 0) = false := neq_f hd.tk
 have q2 : ((shC (hv l 4) (rowsN (hv l 5)) : Int) != 0) = false := neq_f hd.sh
 have h0 := Hi hd.tk
 have h1 := Hi hd.fm
 have h2 := Hi hd.sh
 have CT := Hi (bstride x z k0.1 k0.2.2.2.1)
 rw [← hd.en] at CT
 have hex := Hi hd.ex
 have hey := Hi hd.ey
 have hez := Hi hd.ez
 have hen := Hi hd.en
 have hny : n * y ≤ 16875520 := by
  have h3 := stride_le x z
  rw [← hd.en] at h3
  have h4 : x * z ≤ x * 4 := Nat.mul_le_mul_left _ (by have := k0.2.2.2.1; omega)
  have h5 : n * y ≤ (x * 4 + 3) * y := Nat.mul_le_mul_right _ (by omega)
  have h6 : (x * 4 + 3) * y = x * y * 4 + 3 * y := by rw [Nat.add_mul, Nat.mul_right_comm]
  have := k0.2.2.1
  have := k0.2.1
  omega
 have en1 : (n : Int) * (y : Int) = ((n * y : Nat) : Int) := by rw [Int.natCast_mul]
 obtain ⟨N, hN⟩ : ∃ N, N = n * y := ⟨_, rfl⟩
 rw [← hN] at en1 hny
 have ew : IntKind.i64.wrap ((n : Int) * (y : Int)) = (N : Int) := by rw [en1]; exact iw ⟨by omega, by omega⟩
 have ew2 : wrap64 ((n : Int) * (y : Int)) = (N : Int) := by rw [en1]; exact ww ⟨by omega, by omega⟩
 replace hN := Hi hN
 replace k0 := Hi k0
 replace hd := Hi hd
 clear en1 hny
 have g1 : ¬ (m : Int) < (N : Int) := by have := hN.out; omega
 have g2 : ¬ (N : Int) < (m : Int) := by have := hN.out; omega
 clear hc hm hsm
 go_enter Tryz.func171, Tryz.ntmps171
 go_wp2_with fail
 obtain ⟨w0, e, BB, q0⟩ := en1 w #[.int .i64 0, .int .i64 0, .int .i64 0, .slice none 0 0] IT
 rw [e]; clear e
 have hsz := Hi q0.out.lt
 refine (CN.out _ BB.out).mono ?_
 rintro e w1 ⟨g, s, rfl, hb, hge, hc, hown⟩
 replace q0 := kp q0 hb
 replace BB := nx BB hb
 clear hb
 have hg := Hi (show w.heap.size < g from by have := hsz.out; omega)
 have hs := Hi (fun b e => (hown.lt b e).2)
 have gs := Hi (cu_lt hc)
 replace hc := Hi hc
 clear CN hge hown
 go_upto_region 2 with fail
 have qs := Hi (And.intro BB.out.size (And.intro q0.out.lt (True.intro)))
 obtain ⟨hb, qe⟩ := laid w1 #[.int .u32 0, .int .u32 0, .int .u32 0, .int .u32 0, .int .u32 0, .int .u32 0, .int .u32 0, .int .u32 0, .int .u32 0, .int .u32 0, .int .u32 0, .int .u32 0, .int .u32 0, .int .u32 0] HT
 replace q0 := kp q0 hb
 replace hc := Hi (CU.below hc.out hb)
 replace BB := nx BB hb
 replace qe := Hi qe
 clear hb
 generalize w1.alloc (.cells #[.int .u32 0, .int .u32 0, .int .u32 0, .int .u32 0, .int .u32 0, .int .u32 0, .int .u32 0, .int .u32 0, .int .u32 0, .int .u32 0, .int .u32 0, .int .u32 0, .int .u32 0, .int .u32 0] HT) = w2 at *
 generalize w1.heap.size = g_h at *
 have hgh := Hi (show g < g_h from gs.out)
 have hsh := Hi (show s.ownBlock ≠ some g_h from fun e => by have := hs.out _ e; omega)
 have D2 := Hi (btake g g g_h s l w2 hc.out qe.out (by have := hgh.out; omega) hsh.out (Nat.le_refl _) (by have := hgh.out; omega))
 clear hs gs
 clear hc
 go_wp2_with fail
 refine D2.out.mono ?_
 rintro e w5 ⟨rfl, hbg, hk⟩
 clear D2 qe
 replace q0 := Hi (q0.out.blk hbg hg.out)
 replace BB := Hi (below_pt BB.out hbg (Nat.le_of_lt hg.out))
 replace hk := Hi hk
 clear hbg
 obtain ⟨hc, hh⟩ := hk.out h0.out
 clear hk
 replace hc := Hi hc
 replace hh := Hi (hd_all hh)
 have CF := Hi (bform g_h (hv l) _ hh.out)
 go_wp2_with fail
 rw [h1.out] at CF
 refine (CF.out).mono ?_
 rintro e w3 ⟨rfl, hb⟩
 replace q0 := kp q0 hb
 replace hc := Hi (CU.below hc.out hb)
 replace hh := Hi (AtB.keep hh.out hb)
 replace BB := nx BB hb
 clear hb
 clear CF
 have CS := Hi (bshape g_h (hv l) _ hh.out (hv_lt l 4 (by omega)) (hv_lt l 5 (by omega)) (hv_lt l 7 (by omega)))
 go_wp2_with fail
 refine (CS.out).mono ?_
 rintro e w4 ⟨X, Y, Z, rfl, hb, hks⟩
 replace q0 := kp q0 hb
 replace hc := Hi (CU.below hc.out hb)
 replace hh := Hi (AtB.keep hh.out hb)
 replace BB := nx BB hb
 clear hb
 replace hks := Hi hks
 clear CS
 go_upto_region 8 with fail
 have gm := Hi (And.intro (cu_lt hc.out) (And.intro hh.out.lt (fun b (e : s.ownBlock = some b) => (hc.out.own.lt b e).2)))
 have qq := Hi (And.intro BB.out.size (And.intro q0.out.lt (True.intro)))
 obtain ⟨hb, q3⟩ := laid w4 #[.int .i64 X, .int .i64 Y, .int .i64 Z, .slice none 0 0] IT
 replace q0 := kp q0 hb
 replace hc := Hi (CU.below hc.out hb)
 replace hh := Hi (AtB.keep hh.out hb)
 replace BB := nx BB hb
 replace q3 := Hi q3
 clear hb
 generalize w4.alloc (.cells #[.int .i64 X, .int .i64 Y, .int .i64 Z, .slice none 0 0] IT) = w5 at *
 generalize w4.heap.size = g_m at *
 obtain ⟨rfl, rfl, rfl⟩ := hks.out h2.out
 clear hks
 rw [← hex.out, ← hey.out, ← hez.out] at q3
 obtain ⟨qh, qi, qj, qk, ql, qm, qn, qo⟩ := reads4 q3.out
 have qr := q3.out.lt
 go_wp2_with fail
 refine (CT.out _).mono ?_
 rintro e w9 ⟨rfl, rfl⟩
 go_wp2_with fail
 have CL := Hi (fun w9 (hb : Below w5.heap.size w5 w9) => cleft g s l 54 w9 (hc.out.below hb))
 rw [hlen.out] at CL
 clear qh qi qj qk ql qm qn qo qr
 have KK := Hi (fun (w9 : World) (h : Below w5.heap.size w5 w9) => (cells4 (q3.out.keep h) : (w9.cell? ⟨g_m, 0, none⟩ = some (.int .i64 ↑x) ∧ w9.cell? ⟨g_m, 1, none⟩ = some (.int .i64 ↑y) ∧ w9.cell? ⟨g_m, 2, none⟩ = some (.int .i64 ↑z) ∧ w9.cell? ⟨g_m, 3, none⟩ = some (.slice none 0 0))))
 have K0 := KK.out w5 (Below.refl _ _)
 have KD := KK.out w5.drew (below_drew (Below.refl _ _))
 go_region_held3 (fun w9 => (w9.cell? ⟨g_m, 0, none⟩ = some (.int .i64 ↑x) ∧ w9.cell? ⟨g_m, 1, none⟩ = some (.int .i64 ↑y) ∧ w9.cell? ⟨g_m, 2, none⟩ = some (.int .i64 ↑z) ∧ w9.cell? ⟨g_m, 3, none⟩ = some (.slice none 0 0)))
  (first | with_reducible exact KD | with_reducible exact K0 | with_reducible exact qg)
  (first
    | (go_at_call 251
       refine (CL.out _ (by repeat (first | with_reducible exact Below.refl _ _ | with_reducible apply below_drew | with_reducible apply below_new))).mono ?_
       rintro e w6 ⟨rfl, hb⟩
       have q4 := rn (w0 := w5) hb
       have qg := KK.out _ q4.out
       clear hb))
 clear KK K0 KD qg
 replace q0 := kp q0 q4.out
 replace q3 := kp q3 q4.out
 replace hc := Hi (CU.below hc.out q4.out)
 replace hh := Hi (AtB.keep hh.out q4.out)
 replace BB := nx BB q4.out
 clear q4
 clear CL
 go_wp2_with fail
 have CL := Hi (fun w9 (hb : Below w6.heap.size w6 w9) => cleft g s l 54 w9 (hc.out.below hb))
 rw [hlen.out] at CL
 have KK := Hi (fun (w9 : World) (h : Below w6.heap.size w6 w9) => (cells4 (q3.out.keep h) : (w9.cell? ⟨g_m, 0, none⟩ = some (.int .i64 ↑x) ∧ w9.cell? ⟨g_m, 1, none⟩ = some (.int .i64 ↑y) ∧ w9.cell? ⟨g_m, 2, none⟩ = some (.int .i64 ↑z) ∧ w9.cell? ⟨g_m, 3, none⟩ = some (.slice none 0 0))))
 have K0 := KK.out w6 (Below.refl _ _)
 have KD := KK.out w6.drew (below_drew (Below.refl _ _))
 go_region_held3 (fun w9 => (w9.cell? ⟨g_m, 0, none⟩ = some (.int .i64 ↑x) ∧ w9.cell? ⟨g_m, 1, none⟩ = some (.int .i64 ↑y) ∧ w9.cell? ⟨g_m, 2, none⟩ = some (.int .i64 ↑z) ∧ w9.cell? ⟨g_m, 3, none⟩ = some (.slice none 0 0)))
  (first | with_reducible exact KD | with_reducible exact K0 | with_reducible exact qp)
  (first
    | (go_at_call 251
       refine (CL.out _ (by repeat (first | with_reducible exact Below.refl _ _ | with_reducible apply below_drew | with_reducible apply below_new))).mono ?_
       rintro e w7 ⟨rfl, hb⟩
       have q5 := rn (w0 := w6) hb
       have qp := KK.out _ q5.out
       clear hb))
 clear KK K0 KD qp
 replace q0 := kp q0 q5.out
 replace q3 := kp q3 q5.out
 replace hc := Hi (CU.below hc.out q5.out)
 replace hh := Hi (AtB.keep hh.out q5.out)
 replace BB := nx BB q5.out
 clear q5
 clear CL
 go_wp2_with fail
 refine (CSM.out _ _ hh.out).mono ?_
 rintro e w9 ⟨rfl, rfl⟩
 obtain ⟨q6, q7, q8, q9, qa, qb, qc, qd⟩ := reads4 q0.out
 have qf := q0.out.lt
 go_wp2_with fail
 clear q6 q7 q8 q9 qa qb qc qd qf
 have F := st4 q0 BB 0 (.int .i64 0) 1 (.int .i64 0) 2 (.int .i64 0) 3 (.slice none 0 0)
 clear q0 BB
 obtain ⟨w8, e, q0, BB, F⟩ := F
 rw [e]; clear e
 replace q3 := F _ _ _ (by have dd_m := qq.out; omega) q3
 clear F
 go_wp2_with fail
 obtain ⟨q6, q7, q8, q9, qa, qb, qc, qd⟩ := reads4 q0.out
 have qf := q0.out.lt
 refine bret (.tuple #[imv 0 0 0 (.slice none 0 0), .int .i64 21]) ?_
 exact ⟨0, 0, 0, _, rfl, BB.out, ⟨_, _, _, rfl⟩, fun _ => ⟨rfl, rfl, rfl, rfl⟩, fun e => absurd e (by simp)⟩
end Go.Proofs.YtikpobembcgbfaaGreatDoor
