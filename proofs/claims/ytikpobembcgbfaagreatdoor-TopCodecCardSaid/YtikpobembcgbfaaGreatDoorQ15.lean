/- Parts of the proof: Pnm1 Pnm2 Pnm3 Bm0 Bm1. -/
import Derived.Test.YtikpobembcgbfaaGreatDoorQ12
import Derived.Test.YtikpobembcgbfaaGreatDoorQ14
set_option linter.unusedVariables false
set_option linter.unusedSimpArgs false
set_option maxRecDepth 100000
set_option maxHeartbeats 40000000
namespace Go.Proofs.YtikpobembcgbfaaGreatDoor
open Go.RowKit Go.Lib
attribute [go_sem] Tryz.results250 Tryz.results328
/-- A code; how many bytes were cut off is told where it is 0. -/
def GiveCode (c : Nat) (g : Nat) (s : Value) (l : List UInt8) (K : Nat) (w : World) (e : Ending) (w' : World) : Prop := ∃ k, e = .returned (.int .i64 (c : Int)) ∧ Onl g w w' ∧ CU w' g s l k ∧ (c = 0 → k = K)
/-- The channels, by the first two bytes; the code. -/
def kindC2 (r : List UInt8) : Nat × Nat := if wrd 80 53 r = 0 then (0, 1) else (wrd 80 54 r, 3)
theorem pkind (g : Nat) (s : Value) (l : List UInt8) (k : Nat) (w : World) (h : CU w g s l k) :
 Calls Tryz.prog 328 #[.pointer (some ⟨g, 0, none⟩)] w (GiveFld (kindC2 (l.drop k)).2 (kindC2 (l.drop k)).1 g s l (k + 2) w) := by
 have C := Hi (cword 80 53 g s l k w h)
 obtain ⟨r, hr⟩ : ∃ r, r = l.drop k := ⟨_, rfl⟩
 have H := Hi h
 by_cases h1 : wrd 80 53 r = 0
 · rw [← hr, h1, if_pos rfl] at C
   have E := Hi (show kindC2 r = (0, 1) from if_pos h1)
   rw [← hr]
   clear h1 hr h
   go_enter Tryz.func328, Tryz.ntmps328
   go_wp2_with fail
   refine C.out.mono ?_
   rintro e w1 ⟨rfl, ho, hc⟩
   replace ho := Hi ho
   replace hc := Hi hc
   go_wp2_with fail
   refine bret (.tuple #[.int .i64 1, .int .i64 0]) ?_
   exact ⟨_, by rw [E.out]; rfl, ho.out, hc.out, fun _ => rfl⟩
 · rw [← hr, if_neg h1, Nat.add_zero] at C
   have E := Hi (show kindC2 r = (wrd 80 54 r, 3) from if_neg h1)
   have C2 := Hi (fun w1 h1 => cword 80 54 g s l k w1 h1)
   rw [← hr] at C2 ⊢
   have u1 : ((wrd 80 53 r : Int) == 0) = false := by rw [Bool.eq_false_iff]; intro q; have := eq_of_beq q; omega
   have u2 : ¬ (wrd 80 53 r : Int) = 0 := by omega
   generalize wrd 80 53 r = c1 at *
   generalize wrd 80 54 r = c2 at *
   clear h1 hr h
   go_enter Tryz.func328, Tryz.ntmps328
   go_wp2_with fail
   refine C.out.mono ?_
   rintro e w1 ⟨rfl, ho, hc⟩
   have D2 := Hi (C2.out w1 hc)
   replace ho := Hi ho
   clear hc C2
   go_wp2_with fail
   refine D2.out.mono ?_
   rintro e w2 ⟨rfl, ho2, hc2⟩
   replace ho2 := Hi ho2
   replace hc2 := Hi hc2
   go_wp2_with fail
   refine bret (.tuple #[.int .i64 3, .int .i64 (c2 : Int)]) ?_
   exact ⟨_, by rw [E.out]; rfl, onl_next ho.out ho2.out, hc2.out, fun q => by rw [E.out] at q; rw [if_pos q]⟩
/-- The code of what stands behind the size. -/
def depC (r : List UInt8) : Nat := if (fldR r 255).1 ≠ 0 then (fldR r 255).1 else if (fldR r 255).2.1 ≠ 255 then 21 else (oneR (r.drop (fldR r 255).2.2)).1
theorem pdepth (g : Nat) (s : Value) (l : List UInt8) (k : Nat) (w : World) (h : CU w g s l k) :
 Calls Tryz.prog 330 #[.pointer (some ⟨g, 0, none⟩)] w (GiveCode (depC (l.drop k)) g s l (k + (fldR (l.drop k) 255).2.2 + 1) w) := by
 obtain ⟨r, hr⟩ : ∃ r, r = l.drop k := ⟨_, rfl⟩
 have C1 := Hi (pnumber g s l k 255 (by omega) w h)
 have C2 := Hi (fun w1 (h1 : CU w1 g s l (k + (fldR r 255).2.2)) => cOne g s l (k + (fldR r 255).2.2) w1 h1)
 rw [← List.drop_drop] at C2
 rw [← hr] at C1 C2 ⊢
 have S : depC r = _ := rfl
 conv at S => rhs; unfold depC
 have ho1 : (oneR (r.drop (fldR r 255).2.2)).1 = 0 → (oneR (r.drop (fldR r 255).2.2)).2 = 1 := by
  generalize r.drop (fldR r 255).2.2 = t
  intro q
  cases t with
  | nil => simp [oneR] at q
  | cons c t =>
    by_cases hb : blankB c = true
    · simp [oneR, hb]
    · simp [oneR, hb] at q
 generalize depC r = S0 at *
 generalize oneR (r.drop (fldR r 255).2.2) = O at *
 generalize fldR r 255 = F1 at *
 obtain ⟨c1, x1, n1⟩ := F1
 obtain ⟨c2, n2⟩ := O
 simp only [] at S C1 C2 ho1 ⊢
 clear hr h
 by_cases h1 : c1 = 0
 · have q1 := neq_f h1
   rw [if_neg (by omega)] at S
   by_cases h2 : x1 = 255
   · rw [if_neg (by omega)] at S
     subst h2
     replace S := Hi S
     replace h1 := Hi h1
     replace ho1 := Hi ho1
     go_enter Tryz.func330, Tryz.ntmps330
     go_wp2_with fail
     refine C1.out.mono ?_
     rintro e w1 ⟨k1, rfl, ho, hc, hk⟩
     obtain rfl := hk h1.out
     have D2 := Hi (C2.out w1 hc)
     replace ho := Hi ho
     clear hc hk C2 C1
     go_wp2_with fail
     refine D2.out.mono ?_
     rintro e w2 ⟨rfl, ho2, hc2⟩
     replace ho2 := Hi ho2
     replace hc2 := Hi hc2
     go_wp2_with fail
     go_ret
     exact ⟨_, by rw [S.out]; rfl, onl_next ho.out ho2.out, hc2.out, fun q => by rw [S.out] at q; rw [ho1.out q]⟩
   · rw [if_pos h2] at S
     have q2 : ((x1 : Int) != 255) = true := by rw [bne_iff_ne]; omega
     replace S := Hi S
     clear C2 ho1
     go_enter Tryz.func330, Tryz.ntmps330
     go_wp2_with fail
     refine C1.out.mono ?_
     rintro e w1 ⟨k1, rfl, ho, hc, hk⟩
     replace ho := Hi ho
     replace hc := Hi hc
     clear hk C1
     go_wp2_with fail
     go_ret
     exact ⟨_, by rw [S.out]; rfl, ho.out, hc.out, fun q => by rw [S.out] at q; simp at q⟩
 · have q1 := neq_t h1
   rw [if_pos h1] at S
   replace S := Hi S
   replace h1 := Hi h1
   clear C2 ho1
   go_enter Tryz.func330, Tryz.ntmps330
   go_wp2_with fail
   refine C1.out.mono ?_
   rintro e w1 ⟨k1, rfl, ho, hc, hk⟩
   replace ho := Hi ho
   replace hc := Hi hc
   clear hk C1
   go_wp2_with fail
   go_ret
   exact ⟨_, by rw [S.out]; rfl, ho.out, hc.out, fun q => by rw [S.out] at q; exact absurd q h1.out⟩
/-- All that is ahead of the pixels: the code; the size and the channels where it is 0. -/
def hdC (r : List UInt8) : Nat := if (kindC2 r).1 ≠ 0 then (kindC2 r).1 else if szC (r.drop 2) ≠ 0 then szC (r.drop 2) else depC ((r.drop 2).drop ((fldR (r.drop 2) 32768).2.2 + (fldR ((r.drop 2).drop (fldR (r.drop 2) 32768).2.2) 32768).2.2))
theorem CU.store {w : World} {g k x : Nat} {s : Value} {l : List UInt8} (hx : g ≠ x ∧ s.ownBlock ≠ some x) (h : CU w g s l k) (o : Nat) (v : Value) : CU (w.setCell ⟨x, o, none⟩ v) g s l k := h.other (onl_set (World.grownBy.refl _ _) o v) hx.1 hx.2
theorem AtB.far4 {w : World} {g p : Nat} {cs : Array Value} {T : TypeId} (h : AtB w g cs T) (hp : g ≠ p) (u0 u1 u2 u3 : Value) : AtB ((((w.setCell ⟨p, 0, none⟩ u0).setCell ⟨p, 1, none⟩ u1).setCell ⟨p, 2, none⟩ u2).setCell ⟨p, 3, none⟩ u3) g cs T := (((h.far hp 0 u0).far hp 1 u1).far hp 2 u2).far hp 3 u3
def GiveHd (c x y z : Nat) (g : Nat) (s : Value) (l : List UInt8) (K : Nat) (w : World) (e : Ending) (w' : World) : Prop := ∃ (k : Nat) (X Y Z : Int), e = .returned (.tuple #[imv X Y Z (.slice none 0 0), .int .i64 (c : Int)]) ∧ Onl g w w' ∧ CU w' g s l k ∧ (c = 0 → k = K ∧ X = x ∧ Y = y ∧ Z = z)
theorem phead (g : Nat) (s : Value) (l : List UInt8) (w : World) (h : CU w g s l 0) :
 Calls Tryz.prog 250 #[.pointer (some ⟨g, 0, none⟩)] w (GiveHd (hdC l) (fldR (l.drop 2) 32768).2.1 (fldR ((l.drop 2).drop (fldR (l.drop 2) 32768).2.2) 32768).2.1 (kindC2 l).2 g s l
  (2 + (fldR (l.drop 2) 32768).2.2 + (fldR ((l.drop 2).drop (fldR (l.drop 2) 32768).2.2) 32768).2.2 + (fldR ((l.drop 2).drop ((fldR (l.drop 2) 32768).2.2 + (fldR ((l.drop 2).drop (fldR (l.drop 2) 32768).2.2) 32768).2.2)) 255).2.2 + 1) w) := by
 have C1 := Hi (fun w1 hb => pkind g s l 0 w1 (h.below hb))
 have C2 := Hi (fun w1 h1 => psize g s l 2 w1 h1)
 have C3 := Hi (fun w1 h1 => pdepth g s l (2 + (fldR (l.drop 2) 32768).2.2 + (fldR ((l.drop 2).drop (fldR (l.drop 2) 32768).2.2) 32768).2.2) w1 h1)
 have e3 : l.drop (2 + (fldR (l.drop 2) 32768).2.2 + (fldR ((l.drop 2).drop (fldR (l.drop 2) 32768).2.2) 32768).2.2) = (l.drop 2).drop ((fldR (l.drop 2) 32768).2.2 + (fldR ((l.drop 2).drop (fldR (l.drop 2) 32768).2.2) 32768).2.2) := by rw [Nat.add_assoc]; exact (List.drop_drop ..).symm
 rw [e3] at C3
 rw [List.drop_zero, Nat.zero_add] at C1
 have S : hdC l = _ := rfl
 conv at S => rhs; unfold hdC
 have lg := cu_lt h
 have ls := fun b e => (h.own.lt b e).2
 clear e3 h
 generalize hdC l = S0 at *
 generalize (fldR ((l.drop 2).drop ((fldR (l.drop 2) 32768).2.2 + (fldR ((l.drop 2).drop (fldR (l.drop 2) 32768).2.2) 32768).2.2)) 255).2.2 = n3 at *
 generalize depC ((l.drop 2).drop ((fldR (l.drop 2) 32768).2.2 + (fldR ((l.drop 2).drop (fldR (l.drop 2) 32768).2.2) 32768).2.2)) = c3 at *
 generalize fldR ((l.drop 2).drop (fldR (l.drop 2) 32768).2.2) 32768 = F2 at *
 generalize fldR (l.drop 2) 32768 = F1 at *
 generalize szC (l.drop 2) = c2 at *
 generalize kindC2 l = K at *
 obtain ⟨f1, x1, n1⟩ := F1
 obtain ⟨f2, x2, n2⟩ := F2
 obtain ⟨c1, z1⟩ := K
 simp only [] at S C1 C2 C3 ⊢
 have nx_m := Hi (show g ≠ w.heap.size + 1 ∧ s.ownBlock ≠ some (w.heap.size + 1) from ⟨by omega, fun e => by have := ls _ e; omega⟩)
 have nx_res := Hi (show g ≠ w.heap.size ∧ s.ownBlock ≠ some w.heap.size from ⟨by omega, fun e => by have := ls _ e; omega⟩)
 clear ls
 by_cases h1 : c1 = 0
 · have q1 := neq_f h1
   rw [if_neg (by omega)] at S
   replace h1 := Hi h1
   by_cases h2 : c2 = 0
   · have q2 := neq_f h2
     rw [if_neg (by omega)] at S
     replace S := Hi S
     replace h2 := Hi h2
     go_enter Tryz.func250, Tryz.ntmps250
     go_wp2_with fail
     have BB := start2 w #[.int .i64 0, .int .i64 0, .int .i64 0, .slice none 0 0] IT #[.int .i64 0, .int .i64 0, .int .i64 0, .slice none 0 0] IT
     obtain ⟨BB, hsz, q0, q3⟩ := BB
     generalize ((w.alloc (.cells #[.int .i64 0, .int .i64 0, .int .i64 0, .slice none 0 0] IT)).alloc (.cells #[.int .i64 0, .int .i64 0, .int .i64 0, .slice none 0 0] IT)) = w0 at *
     replace BB := Hi BB
     replace q0 := Hi q0
     replace q3 := Hi q3
     clear hsz
     have D1 := Hi (C1.out _ BB.out)
     clear C1
     replace BB := Hi (onl_of (g := g) BB.out)
     refine (D1.out).mono ?_
     rintro e w1 ⟨k1, rfl, hb, hc1, hk1⟩
     replace q0 := Hi (AtB.onl q0.out (by omega) hb)
     replace q3 := Hi (AtB.onl q3.out (by omega) hb)
     replace BB := Hi (onl_next BB.out hb)
     clear hb
     replace hc1 := Hi hc1
     replace hk1 := Hi hk1
     clear D1
     obtain ⟨q4, q5, q6, q7, q8, q9, qa, qb⟩ := reads4 q3.out
     have qk := q3.out.lt
     go_upto_region 4 with fail
     clear q4 q5 q6 q7 q8 q9 qa qb qk
     replace q0 := Hi (q0.out.far (p := w.heap.size + 1) (by omega) 2 (.int .i64 (z1 : Int)))
     replace q3 := Hi (q3.out.sn 2 (.int .i64 (z1 : Int)))
     replace BB := Hi (onl_far BB.out (b := w.heap.size + 1) (o := 2) (by omega) (.int .i64 (z1 : Int)))
     replace hc1 := Hi (CU.store nx_m.out hc1.out 2 (.int .i64 (z1 : Int)))
     generalize (w1.setCell ⟨w.heap.size + 1, 2, none⟩ (.int .i64 (z1 : Int))) = w2 at *
     obtain ⟨q4, q5, q6, q7, q8, q9, qa, qb⟩ := reads4 q3.out
     have qk := q3.out.lt
     obtain ⟨qc, qd, qe, qf, qg, qh, qi, qj⟩ := reads4 q0.out
     have ql := q0.out.lt
     go_wp2_with fail
     obtain rfl := hk1.out h1.out
     have D2 := Hi (C2.out _ hc1.out)
     clear hk1 C2
     clear hc1
     refine (D2.out).mono ?_
     rintro e w3 ⟨k2, X, Y, rfl, hb, hc2, hk2⟩
     clear q4 q5 q6 q7 q8 q9 qa qb qk qc qd qe qf qg qh qi qj ql
     replace q0 := Hi (AtB.onl q0.out (by omega) hb)
     replace q3 := Hi (AtB.onl q3.out (by omega) hb)
     replace BB := Hi (onl_next BB.out hb)
     clear hb
     replace hc2 := Hi hc2
     replace hk2 := Hi hk2
     clear D2
     obtain ⟨q4, q5, q6, q7, q8, q9, qa, qb⟩ := reads4 q3.out
     have qk := q3.out.lt
     go_upto_region 7 with fail
     clear q4 q5 q6 q7 q8 q9 qa qb qk
     replace q0 := Hi ((q0.out.far (p := w.heap.size + 1) (by omega) 0 (.int .i64 (X : Int))).far (p := w.heap.size + 1) (by omega) 1 (.int .i64 (Y : Int)))
     replace q3 := Hi ((q3.out.sn 0 (.int .i64 (X : Int))).sn 1 (.int .i64 (Y : Int)))
     replace BB := Hi (onl_far (onl_far BB.out (b := w.heap.size + 1) (o := 0) (by omega) (.int .i64 (X : Int))) (b := w.heap.size + 1) (o := 1) (by omega) (.int .i64 (Y : Int)))
     replace hc2 := Hi (CU.store nx_m.out (CU.store nx_m.out hc2.out 0 (.int .i64 (X : Int))) 1 (.int .i64 (Y : Int)))
     generalize ((w3.setCell ⟨w.heap.size + 1, 0, none⟩ (.int .i64 (X : Int))).setCell ⟨w.heap.size + 1, 1, none⟩ (.int .i64 (Y : Int))) = w4 at *
     obtain ⟨ek2, eXY⟩ := hk2.out h2.out
     subst ek2
     replace eXY := Hi eXY
     have D3 := Hi (fun w9 (hb : Below w4.heap.size w4 w9) => C3.out w9 (hc2.out.below hb))
     clear hk2 C3
     obtain ⟨q4, q5, q6, q7, q8, q9, qa, qb⟩ := reads4 q3.out
     have qk := q3.out.lt
     go_wp2_with fail
     clear hc2
     clear q4 q5 q6 q7 q8 q9 qa qb qk
     have KK := Hi (fun (w9 : World) (h : Onl g w4 w9) => (cells4 (q3.out.onl (by omega) h) : (w9.cell? ⟨w.heap.size + 1, 0, none⟩ = some (.int .i64 (X : Int)) ∧ w9.cell? ⟨w.heap.size + 1, 1, none⟩ = some (.int .i64 (Y : Int)) ∧ w9.cell? ⟨w.heap.size + 1, 2, none⟩ = some (.int .i64 (z1 : Int)) ∧ w9.cell? ⟨w.heap.size + 1, 3, none⟩ = some (.slice none 0 0))))
     have K0 := KK.out w4 (onl_of (Below.refl _ _))
     have KD := KK.out w4.drew (onl_of (below_drew (Below.refl _ _)))
     go_region_held3 (fun w9 => (w9.cell? ⟨w.heap.size + 1, 0, none⟩ = some (.int .i64 (X : Int)) ∧ w9.cell? ⟨w.heap.size + 1, 1, none⟩ = some (.int .i64 (Y : Int)) ∧ w9.cell? ⟨w.heap.size + 1, 2, none⟩ = some (.int .i64 (z1 : Int)) ∧ w9.cell? ⟨w.heap.size + 1, 3, none⟩ = some (.slice none 0 0)))
      (first | with_reducible exact KD | with_reducible exact K0 | with_reducible exact qv | with_reducible exact cells4 ((q3.out.onl (by omega) qm.out).far4 (by omega) _ _ _ _))
      (first
        | (go_at_call 330
           refine (D3.out _ (by repeat (first | with_reducible exact Below.refl _ _ | with_reducible apply below_drew | with_reducible apply below_new))).mono ?_
           rintro e w5 ⟨k3, rfl, hb, hc3, hk3⟩
           have qm := Hi (onl_next (onl_of (g := g) (by repeat (first | with_reducible exact Below.refl _ _ | with_reducible apply below_drew | with_reducible apply below_new)) : Onl g w4 _) hb)
           have qv := KK.out _ qm.out
           obtain ⟨qn, qo, qp, qq, qr, qs, qt, qu⟩ := reads4 (q0.out.onl (by omega) qm.out)
           have qw := (q0.out.onl (by omega) qm.out).lt
           clear hb))
     clear KK K0 KD qv
     replace q0 := kpo q0 (by omega) qm.out
     replace q3 := kpo q3 (by omega) qm.out
     replace BB := Hi (onl_next BB.out qm.out)
     clear qm
     clear qn qo qp qq qr qs qt qu qw
     replace hc3 := Hi hc3
     replace hk3 := Hi hk3
     replace q0 := Hi ((((q0.out.sn 0 (.int .i64 (X : Int))).sn 1 (.int .i64 (Y : Int))).sn 2 (.int .i64 (z1 : Int))).sn 3 (.slice none 0 0))
     replace q3 := Hi ((((q3.out.far (p := w.heap.size) (by omega) 0 (.int .i64 (X : Int))).far (p := w.heap.size) (by omega) 1 (.int .i64 (Y : Int))).far (p := w.heap.size) (by omega) 2 (.int .i64 (z1 : Int))).far (p := w.heap.size) (by omega) 3 (.slice none 0 0))
     replace BB := Hi (onl_far (onl_far (onl_far (onl_far BB.out (b := w.heap.size) (o := 0) (by omega) (.int .i64 (X : Int))) (b := w.heap.size) (o := 1) (by omega) (.int .i64 (Y : Int))) (b := w.heap.size) (o := 2) (by omega) (.int .i64 (z1 : Int))) (b := w.heap.size) (o := 3) (by omega) (.slice none 0 0))
     replace hc3 := Hi (CU.store nx_res.out (CU.store nx_res.out (CU.store nx_res.out (CU.store nx_res.out hc3.out 0 (.int .i64 (X : Int))) 1 (.int .i64 (Y : Int))) 2 (.int .i64 (z1 : Int))) 3 (.slice none 0 0))
     generalize ((((w5.setCell ⟨w.heap.size, 0, none⟩ (.int .i64 (X : Int))).setCell ⟨w.heap.size, 1, none⟩ (.int .i64 (Y : Int))).setCell ⟨w.heap.size, 2, none⟩ (.int .i64 (z1 : Int))).setCell ⟨w.heap.size, 3, none⟩ (.slice none 0 0)) = w6 at *
     go_wp2_with fail
     obtain ⟨qc, qd, qe, qf, qg, qh, qi, qj⟩ := reads4 q0.out
     have ql := q0.out.lt
     refine bret (.tuple #[imv (X : Int) (Y : Int) (z1 : Int) (.slice none 0 0), .int .i64 (c3 : Int)]) ?_
     exact ⟨_, X, Y, z1, by rw [S.out], BB.out, hc3.out, fun e => by rw [S.out] at e; exact ⟨hk3.out e, eXY.out.1, eXY.out.2, rfl⟩⟩
   · have q2 := neq_t h2
     rw [if_pos h2] at S
     replace S := Hi S
     replace h2 := Hi h2
     clear C3
     go_enter Tryz.func250, Tryz.ntmps250
     go_wp2_with fail
     have BB := start2 w #[.int .i64 0, .int .i64 0, .int .i64 0, .slice none 0 0] IT #[.int .i64 0, .int .i64 0, .int .i64 0, .slice none 0 0] IT
     obtain ⟨BB, hsz, q0, q3⟩ := BB
     generalize ((w.alloc (.cells #[.int .i64 0, .int .i64 0, .int .i64 0, .slice none 0 0] IT)).alloc (.cells #[.int .i64 0, .int .i64 0, .int .i64 0, .slice none 0 0] IT)) = w0 at *
     replace BB := Hi BB
     replace q0 := Hi q0
     replace q3 := Hi q3
     clear hsz
     have D1 := Hi (C1.out _ BB.out)
     clear C1
     replace BB := Hi (onl_of (g := g) BB.out)
     refine (D1.out).mono ?_
     rintro e w1 ⟨k1, rfl, hb, hc1, hk1⟩
     replace q0 := Hi (AtB.onl q0.out (by omega) hb)
     replace q3 := Hi (AtB.onl q3.out (by omega) hb)
     replace BB := Hi (onl_next BB.out hb)
     clear hb
     replace hc1 := Hi hc1
     replace hk1 := Hi hk1
     clear D1
     obtain ⟨q4, q5, q6, q7, q8, q9, qa, qb⟩ := reads4 q3.out
     have qk := q3.out.lt
     go_upto_region 4 with fail
     clear q4 q5 q6 q7 q8 q9 qa qb qk
     replace q0 := Hi (q0.out.far (p := w.heap.size + 1) (by omega) 2 (.int .i64 (z1 : Int)))
     replace q3 := Hi (q3.out.sn 2 (.int .i64 (z1 : Int)))
     replace BB := Hi (onl_far BB.out (b := w.heap.size + 1) (o := 2) (by omega) (.int .i64 (z1 : Int)))
     replace hc1 := Hi (CU.store nx_m.out hc1.out 2 (.int .i64 (z1 : Int)))
     generalize (w1.setCell ⟨w.heap.size + 1, 2, none⟩ (.int .i64 (z1 : Int))) = w2 at *
     obtain ⟨q4, q5, q6, q7, q8, q9, qa, qb⟩ := reads4 q3.out
     have qk := q3.out.lt
     obtain ⟨qc, qd, qe, qf, qg, qh, qi, qj⟩ := reads4 q0.out
     have ql := q0.out.lt
     go_wp2_with fail
     obtain rfl := hk1.out h1.out
     have D2 := Hi (C2.out _ hc1.out)
     clear hk1 C2
     clear hc1
     refine (D2.out).mono ?_
     rintro e w3 ⟨k2, X, Y, rfl, hb, hc2, hk2⟩
     clear q4 q5 q6 q7 q8 q9 qa qb qk qc qd qe qf qg qh qi qj ql
     replace q0 := Hi (AtB.onl q0.out (by omega) hb)
     replace q3 := Hi (AtB.onl q3.out (by omega) hb)
     replace BB := Hi (onl_next BB.out hb)
     clear hb
     replace hc2 := Hi hc2
     replace hk2 := Hi hk2
     clear D2
     obtain ⟨q4, q5, q6, q7, q8, q9, qa, qb⟩ := reads4 q3.out
     have qk := q3.out.lt
     go_upto_region 7 with fail
     clear q4 q5 q6 q7 q8 q9 qa qb qk
     replace q0 := Hi ((q0.out.far (p := w.heap.size + 1) (by omega) 0 (.int .i64 (X : Int))).far (p := w.heap.size + 1) (by omega) 1 (.int .i64 (Y : Int)))
     replace q3 := Hi ((q3.out.sn 0 (.int .i64 (X : Int))).sn 1 (.int .i64 (Y : Int)))
     replace BB := Hi (onl_far (onl_far BB.out (b := w.heap.size + 1) (o := 0) (by omega) (.int .i64 (X : Int))) (b := w.heap.size + 1) (o := 1) (by omega) (.int .i64 (Y : Int)))
     replace hc2 := Hi (CU.store nx_m.out (CU.store nx_m.out hc2.out 0 (.int .i64 (X : Int))) 1 (.int .i64 (Y : Int)))
     generalize ((w3.setCell ⟨w.heap.size + 1, 0, none⟩ (.int .i64 (X : Int))).setCell ⟨w.heap.size + 1, 1, none⟩ (.int .i64 (Y : Int))) = w4 at *
     clear hk2
     obtain ⟨q4, q5, q6, q7, q8, q9, qa, qb⟩ := reads4 q3.out
     have qk := q3.out.lt
     obtain ⟨qc, qd, qe, qf, qg, qh, qi, qj⟩ := reads4 q0.out
     have ql := q0.out.lt
     go_wp2_with fail
     clear q4 q5 q6 q7 q8 q9 qa qb qk qc qd qe qf qg qh qi qj ql
     replace q0 := Hi ((((q0.out.sn 0 (.int .i64 (X : Int))).sn 1 (.int .i64 (Y : Int))).sn 2 (.int .i64 (z1 : Int))).sn 3 (.slice none 0 0))
     replace q3 := Hi ((((q3.out.far (p := w.heap.size) (by omega) 0 (.int .i64 (X : Int))).far (p := w.heap.size) (by omega) 1 (.int .i64 (Y : Int))).far (p := w.heap.size) (by omega) 2 (.int .i64 (z1 : Int))).far (p := w.heap.size) (by omega) 3 (.slice none 0 0))
     replace BB := Hi (onl_far (onl_far (onl_far (onl_far BB.out (b := w.heap.size) (o := 0) (by omega) (.int .i64 (X : Int))) (b := w.heap.size) (o := 1) (by omega) (.int .i64 (Y : Int))) (b := w.heap.size) (o := 2) (by omega) (.int .i64 (z1 : Int))) (b := w.heap.size) (o := 3) (by omega) (.slice none 0 0))
     replace hc2 := Hi (CU.store nx_res.out (CU.store nx_res.out (CU.store nx_res.out (CU.store nx_res.out hc2.out 0 (.int .i64 (X : Int))) 1 (.int .i64 (Y : Int))) 2 (.int .i64 (z1 : Int))) 3 (.slice none 0 0))
     generalize ((((w4.setCell ⟨w.heap.size, 0, none⟩ (.int .i64 (X : Int))).setCell ⟨w.heap.size, 1, none⟩ (.int .i64 (Y : Int))).setCell ⟨w.heap.size, 2, none⟩ (.int .i64 (z1 : Int))).setCell ⟨w.heap.size, 3, none⟩ (.slice none 0 0)) = w5 at *
     go_wp2_with fail
     obtain ⟨qc, qd, qe, qf, qg, qh, qi, qj⟩ := reads4 q0.out
     have ql := q0.out.lt
     refine bret (.tuple #[imv (X : Int) (Y : Int) (z1 : Int) (.slice none 0 0), .int .i64 (c2 : Int)]) ?_
     exact ⟨_, X, Y, z1, by rw [S.out], BB.out, hc2.out, fun e => by rw [S.out] at e; exact absurd e h2.out⟩
 · have q1 := neq_t h1
   rw [if_pos h1] at S
   replace S := Hi S
   replace h1 := Hi h1
   clear C2 C3
   go_enter Tryz.func250, Tryz.ntmps250
   go_wp2_with fail
   have BB := start2 w #[.int .i64 0, .int .i64 0, .int .i64 0, .slice none 0 0] IT #[.int .i64 0, .int .i64 0, .int .i64 0, .slice none 0 0] IT
   obtain ⟨BB, hsz, q0, q3⟩ := BB
   generalize ((w.alloc (.cells #[.int .i64 0, .int .i64 0, .int .i64 0, .slice none 0 0] IT)).alloc (.cells #[.int .i64 0, .int .i64 0, .int .i64 0, .slice none 0 0] IT)) = w0 at *
   replace BB := Hi BB
   replace q0 := Hi q0
   replace q3 := Hi q3
   clear hsz
   have D1 := Hi (C1.out _ BB.out)
   clear C1
   replace BB := Hi (onl_of (g := g) BB.out)
   refine (D1.out).mono ?_
   rintro e w1 ⟨k1, rfl, hb, hc1, hk1⟩
   replace q0 := Hi (AtB.onl q0.out (by omega) hb)
   replace q3 := Hi (AtB.onl q3.out (by omega) hb)
   replace BB := Hi (onl_next BB.out hb)
   clear hb
   replace hc1 := Hi hc1
   replace hk1 := Hi hk1
   clear D1
   obtain ⟨q4, q5, q6, q7, q8, q9, qa, qb⟩ := reads4 q3.out
   have qk := q3.out.lt
   go_upto_region 4 with fail
   clear q4 q5 q6 q7 q8 q9 qa qb qk
   replace q0 := Hi (q0.out.far (p := w.heap.size + 1) (by omega) 2 (.int .i64 (z1 : Int)))
   replace q3 := Hi (q3.out.sn 2 (.int .i64 (z1 : Int)))
   replace BB := Hi (onl_far BB.out (b := w.heap.size + 1) (o := 2) (by omega) (.int .i64 (z1 : Int)))
   replace hc1 := Hi (CU.store nx_m.out hc1.out 2 (.int .i64 (z1 : Int)))
   generalize (w1.setCell ⟨w.heap.size + 1, 2, none⟩ (.int .i64 (z1 : Int))) = w2 at *
   obtain ⟨q4, q5, q6, q7, q8, q9, qa, qb⟩ := reads4 q3.out
   have qk := q3.out.lt
   obtain ⟨qc, qd, qe, qf, qg, qh, qi, qj⟩ := reads4 q0.out
   have ql := q0.out.lt
   go_wp2_with fail
   clear hk1
   clear q4 q5 q6 q7 q8 q9 qa qb qk qc qd qe qf qg qh qi qj ql
   replace q0 := Hi ((((q0.out.sn 0 (.int .i64 0)).sn 1 (.int .i64 0)).sn 2 (.int .i64 (z1 : Int))).sn 3 (.slice none 0 0))
   replace q3 := Hi ((((q3.out.far (p := w.heap.size) (by omega) 0 (.int .i64 0)).far (p := w.heap.size) (by omega) 1 (.int .i64 0)).far (p := w.heap.size) (by omega) 2 (.int .i64 (z1 : Int))).far (p := w.heap.size) (by omega) 3 (.slice none 0 0))
   replace BB := Hi (onl_far (onl_far (onl_far (onl_far BB.out (b := w.heap.size) (o := 0) (by omega) (.int .i64 0)) (b := w.heap.size) (o := 1) (by omega) (.int .i64 0)) (b := w.heap.size) (o := 2) (by omega) (.int .i64 (z1 : Int))) (b := w.heap.size) (o := 3) (by omega) (.slice none 0 0))
   replace hc1 := Hi (CU.store nx_res.out (CU.store nx_res.out (CU.store nx_res.out (CU.store nx_res.out hc1.out 0 (.int .i64 0)) 1 (.int .i64 0)) 2 (.int .i64 (z1 : Int))) 3 (.slice none 0 0))
   generalize ((((w2.setCell ⟨w.heap.size, 0, none⟩ (.int .i64 0)).setCell ⟨w.heap.size, 1, none⟩ (.int .i64 0)).setCell ⟨w.heap.size, 2, none⟩ (.int .i64 (z1 : Int))).setCell ⟨w.heap.size, 3, none⟩ (.slice none 0 0)) = w3 at *
   go_wp2_with fail
   obtain ⟨qc, qd, qe, qf, qg, qh, qi, qj⟩ := reads4 q0.out
   have ql := q0.out.lt
   refine bret (.tuple #[imv 0 0 (z1 : Int) (.slice none 0 0), .int .i64 (c1 : Int)]) ?_
   exact ⟨_, 0, 0, z1, by rw [S.out], BB.out, hc1.out, fun e => by rw [S.out] at e; exact absurd e h1.out⟩
/-- A new Cut. -/
def GiveNew (l : List UInt8) (w : World) (e : Ending) (w' : World) : Prop := ∃ g s, e = .returned (.pointer (some ⟨g, 0, none⟩)) ∧ Below w.heap.size w w' ∧ w.heap.size ≤ g ∧ CU w' g s l 0 ∧ w'.ownsRow w.heap.size U8T 1 s l.length (uV l)
theorem cnew (v : Value) (l : List UInt8) (hl : l.length ≤ 100000000) (w : World) (h : BY w v l) : Calls Tryz.prog 249 #[v] w (GiveNew l w) := by
 have C := Hi (clone_by v l hl w h)
 obtain ⟨A, cap, rfl⟩ := h.form
 clear h
 go_enter Tryz.func249, Tryz.ntmps249
 go_wp2_with fail
 refine C.out.mono ?_
 rintro e w1 ⟨s, rfl, hb, hown⟩
 obtain ⟨A, n, cap, rfl⟩ : ∃ A n cap, s = .slice A n cap := by
  obtain ⟨A, cap, e⟩ := own_form hown
  exact ⟨A, _, cap, e⟩
 replace hb := Hi hb
 replace hown := Hi hown
 go_wp2_with fail
 go_ret
 have hn := new_at w1 #[.slice A n cap, .int .i64 0] CT
 have ho2 := hown.out.alloc (.cells #[.slice A n cap, .int .i64 0] CT)
 refine ⟨w1.heap.size, _, rfl, below_new hb.out _, hb.out.size, ⟨hn, own_base ho2 (Nat.zero_le _), Nat.zero_le _, hl, fun e => ?_⟩, ho2⟩
 have := (hown.out.lt _ e).2
 omega
/-- What a reading gives: the code; the image where it is 0. -/
def GiveImg (R : Nat × Nat × Nat × Nat × List UInt8) (w : World) (e : Ending) (w' : World) : Prop :=
 ∃ (X Y Z : Int) (v : Value), e = .returned (.tuple #[imv X Y Z v, .int .i64 (R.1 : Int)]) ∧ Below w.heap.size w w' ∧ (∃ A n cap, v = .slice A n cap) ∧ (R.1 ≠ 0 → X = 0 ∧ Y = 0 ∧ Z = 0 ∧ v = .slice none 0 0) ∧
   (R.1 = 0 → X = (R.2.1 : Int) ∧ Y = (R.2.2.1 : Int) ∧ Z = (R.2.2.2.1 : Int) ∧ w'.ownsRow w.heap.size U8T 1 v R.2.2.2.2.length (uV R.2.2.2.2))
/-- The program's way of pnmR. -/
def pnmP (l : List UInt8) : Nat × Nat × Nat × Nat × List UInt8 :=
 if hdC l ≠ 0 then (hdC l, 0, 0, 0, []) else
 if (l.drop (2 + (fldR (l.drop 2) 32768).2.2 + (fldR ((l.drop 2).drop (fldR (l.drop 2) 32768).2.2) 32768).2.2 + (fldR ((l.drop 2).drop ((fldR (l.drop 2) 32768).2.2 + (fldR ((l.drop 2).drop (fldR (l.drop 2) 32768).2.2) 32768).2.2)) 255).2.2 + 1)).length < (fldR (l.drop 2) 32768).2.1 * (fldR ((l.drop 2).drop (fldR (l.drop 2) 32768).2.2) 32768).2.1 * (kindC2 l).2 then (20, 0, 0, 0, []) else
 if (fldR (l.drop 2) 32768).2.1 * (fldR ((l.drop 2).drop (fldR (l.drop 2) 32768).2.2) 32768).2.1 * (kindC2 l).2 < (l.drop (2 + (fldR (l.drop 2) 32768).2.2 + (fldR ((l.drop 2).drop (fldR (l.drop 2) 32768).2.2) 32768).2.2 + (fldR ((l.drop 2).drop ((fldR (l.drop 2) 32768).2.2 + (fldR ((l.drop 2).drop (fldR (l.drop 2) 32768).2.2) 32768).2.2)) 255).2.2 + 1)).length then (22, 0, 0, 0, []) else
 (0, (fldR (l.drop 2) 32768).2.1, (fldR ((l.drop 2).drop (fldR (l.drop 2) 32768).2.2) 32768).2.1, (kindC2 l).2, l.drop (2 + (fldR (l.drop 2) 32768).2.2 + (fldR ((l.drop 2).drop (fldR (l.drop 2) 32768).2.2) 32768).2.2 + (fldR ((l.drop 2).drop ((fldR (l.drop 2) 32768).2.2 + (fldR ((l.drop 2).drop (fldR (l.drop 2) 32768).2.2) 32768).2.2)) 255).2.2 + 1))
theorem pnmP_eq (l : List UInt8) : pnmP l = pnmR l := by
 match l with
 | [] => rfl
 | [x] =>
   by_cases h : x = 80
   · subst h; rfl
   · have e1 : wrd 80 53 [x] = 21 := by simp [wrd, h]
     have e2 : wrd 80 54 [x] = 21 := by simp [wrd, h]
     have e3 : hdC [x] = 21 := by simp [hdC, kindC2, e1, e2]
     unfold pnmP
     rw [e3]
     simp [pnmR, h]
 | x :: y :: t =>
   have kd : kindC2 (x :: y :: t) = if x = 80 ∧ y = 53 then (0, 1) else if x = 80 ∧ y = 54 then (0, 3) else (21, 3) := by
    unfold kindC2 wrd
    by_cases hx : x = 80
    · by_cases hy : y = 53
      · simp [hx, hy]
      · by_cases hz : y = 54
        · simp [hx, hy, hz]
        · simp [hx, hy, hz]
    · simp [hx]
   have dr : (x :: y :: t).drop 2 = t := rfl
   have hd : hdC (x :: y :: t) = if (kindC2 (x :: y :: t)).1 ≠ 0 then (kindC2 (x :: y :: t)).1 else if szC t ≠ 0 then szC t else depC (t.drop ((fldR t 32768).2.2 + (fldR (t.drop (fldR t 32768).2.2) 32768).2.2)) := rfl
   have dl : ∀ n, (x :: y :: t).drop (2 + n) = t.drop n := fun n => by rw [Nat.add_comm, List.drop_succ_cons, List.drop_succ_cons]
   have S : (pnmS t).1 = (if szC t ≠ 0 then szC t else depC (t.drop ((fldR t 32768).2.2 + (fldR (t.drop (fldR t 32768).2.2) 32768).2.2))) ∧ ((pnmS t).1 = 0 → (pnmS t).2.1 = (fldR t 32768).2.1 ∧ (pnmS t).2.2.1 = (fldR (t.drop (fldR t 32768).2.2) 32768).2.1 ∧
    (pnmS t).2.2.2 = t.drop ((fldR t 32768).2.2 + (fldR (t.drop (fldR t 32768).2.2) 32768).2.2 + (fldR (t.drop ((fldR t 32768).2.2 + (fldR (t.drop (fldR t 32768).2.2) 32768).2.2)) 255).2.2 + 1)) := by
    unfold pnmS szC depC
    have e0 : (t.drop (fldR t 32768).2.2).drop (fldR (t.drop (fldR t 32768).2.2) 32768).2.2 = t.drop ((fldR t 32768).2.2 + (fldR (t.drop (fldR t 32768).2.2) 32768).2.2) := List.drop_drop ..
    rw [e0]
    clear e0
    generalize hA : fldR (t.drop ((fldR t 32768).2.2 + (fldR (t.drop (fldR t 32768).2.2) 32768).2.2)) 255 = F3
    generalize hB : fldR (t.drop (fldR t 32768).2.2) 32768 = F2 at *
    generalize hC : fldR t 32768 = F1 at *
    by_cases c1 : F1.1 ≠ 0
    · rw [if_pos c1, if_pos c1, if_pos c1]; exact ⟨rfl, fun h => absurd h c1⟩
    rw [if_neg c1, if_neg c1]
    by_cases c2 : F2.1 ≠ 0
    · rw [if_pos c2, if_pos c2, if_pos c2]; exact ⟨rfl, fun h => absurd h c2⟩
    rw [if_neg c2, if_neg c2]
    by_cases c3 : F1.2.1 < 1 ∨ F2.2.1 < 1
    · rw [if_pos c3, if_pos c3]; exact ⟨rfl, fun h => by simp at h⟩
    rw [if_neg c3, if_neg c3]
    by_cases c4 : 4194304 < F1.2.1 * F2.2.1
    · rw [if_pos c4, if_pos c4]; exact ⟨rfl, fun h => by simp at h⟩
    rw [if_neg c4, if_neg c4]
    have e1 : (t.drop (F1.2.2 + F2.2.2)).drop F3.2.2 = t.drop (F1.2.2 + F2.2.2 + F3.2.2) := List.drop_drop ..
    have e2 : (t.drop (F1.2.2 + F2.2.2 + F3.2.2)).drop 1 = t.drop (F1.2.2 + F2.2.2 + F3.2.2 + 1) := List.drop_drop ..
    rw [e1, e2]
    by_cases c5 : F3.1 = 0 <;> by_cases c6 : F3.2.1 = 255 <;> by_cases c7 : (oneR (t.drop (F1.2.2 + F2.2.2 + F3.2.2))).1 = 0 <;> simp [c5, c6, c7]
   unfold pnmP
   rw [hd, dr]
   simp only [Nat.add_assoc, dl]
   simp only [Nat.add_assoc] at S
   obtain ⟨S1, S2⟩ := S
   rw [← S1]
   show _ = pnmR (x :: y :: t)
   simp only [pnmR]
   generalize hg1 : (fldR t 32768).2.1 = g1 at *
   generalize hg2 : (fldR (t.drop (fldR t 32768).2.2) 32768).2.1 = g2 at *
   generalize pnmS t = P at *
   clear hd hg1 hg2 S1
   by_cases h80 : x = 80
   · by_cases h53 : y = 53
     · rw [show kindC2 (x :: y :: t) = (0, 1) by rw [kd, if_pos ⟨h80, h53⟩]]
       clear kd
       by_cases hp : P.1 = 0
       · obtain ⟨s1, s2, s3⟩ := S2 hp
         subst s1 s2
         rw [← s3]
         simp [h80, h53, hp]
       · simp [h80, h53, hp]
     · by_cases h54 : y = 54
       · rw [show kindC2 (x :: y :: t) = (0, 3) by rw [kd, if_neg (fun h => h53 h.2), if_pos ⟨h80, h54⟩]]
         clear kd
         by_cases hp : P.1 = 0
         · obtain ⟨s1, s2, s3⟩ := S2 hp
           subst s1 s2
           rw [← s3]
           simp [h80, h54, hp]
         · simp [h80, h54, hp]
       · rw [show kindC2 (x :: y :: t) = (21, 3) by rw [kd, if_neg (fun h => h53 h.2), if_neg (fun h => h54 h.2)]]
         simp [h53, h54]
   · rw [show kindC2 (x :: y :: t) = (21, 3) by rw [kd, if_neg (fun h => h80 h.1), if_neg (fun h => h80 h.1)]]
     simp [h80]
attribute [go_sem] Tryz.results170
theorem own_store {w : World} {base x : Nat} {e : TypeId} {sz n : Nat} {v : Value} {xs : List Value} (hx : v.ownBlock ≠ some x) (h : w.ownsRow base e sz v n xs) (o : Nat) (u : Value) : (w.setCell ⟨x, o, none⟩ u).ownsRow base e sz v n xs := h.kept (grownBy_setCell w x o u) (.inr hx)
theorem pread_bad (v : Value) (l : List UInt8) (hl : l.length ≤ 100000000) (w : World) (h : BY w v l) (h0 : hdC l ≠ 0) : Calls Tryz.prog 170 #[v] w (GiveImg (hdC l, 0, 0, 0, []) w) := by
 have CN := Hi (fun w1 (hb : Below w.heap.size w w1) => cnew v l hl w1 (h.below hb))
 obtain ⟨A, cap, rfl⟩ := h.form
 clear h
 have q1 := neq_t h0
 replace h0 := Hi h0
 go_enter Tryz.func170, Tryz.ntmps170
 go_wp2_with fail
 obtain ⟨w0, e, BB, q0⟩ := en1 w #[.int .i64 0, .int .i64 0, .int .i64 0, .slice none 0 0] IT
 rw [e]; clear e
 have hsz := Hi q0.out.lt
 refine (CN.out _ BB.out).mono ?_
 rintro e w1 ⟨g, s, rfl, hb, hge, hcu, -⟩
 replace q0 := kp q0 hb
 replace BB := nx BB hb
 clear hb
 have ql := Hi (show w.heap.size ≠ g from by have := hsz.out; omega)
 have hg1 := Hi (show w.heap.size ≤ g from by have := hsz.out; omega)
 replace hge := hg1
 clear hg1 CN
 have D2 := Hi (phead g s l _ hcu)
 clear hcu
 go_wp2_with fail
 refine (D2.out).mono ?_
 rintro e w2 ⟨k1, X, Y, Z, rfl, hb, hc, hk⟩
 replace q0 := Hi (AtB.onl q0.out ql.out hb)
 replace BB := Hi (below_onl' BB.out hge.out hb)
 clear hb
 clear D2
 replace hc := Hi hc
 replace hk := Hi hk
 go_upto_region 3 with fail
 have gs := Hi (cu_lt hc.out)
 have qm := Hi (And.intro BB.out.size (And.intro q0.out.lt (True.intro)))
 obtain ⟨hb, q2⟩ := laid w2 #[.int .i64 X, .int .i64 Y, .int .i64 Z, .slice none 0 0] IT
 replace q0 := kp q0 hb
 replace hc := Hi (CU.below hc.out hb)
 replace BB := nx BB hb
 replace q2 := Hi q2
 clear hb
 generalize w2.alloc (.cells #[.int .i64 X, .int .i64 Y, .int .i64 Z, .slice none 0 0] IT) = w3 at *
 generalize w2.heap.size = g_m at *
 obtain ⟨qb, qc, qd, qe, qf, qg, qh, qi⟩ := reads4 q0.out
 have qj := q0.out.lt
 obtain ⟨q3, q4, q5, q6, q7, q8, q9, qa⟩ := reads4 q2.out
 have qk := q2.out.lt
 go_wp2_with fail
 clear qb qc qd qe qf qg qh qi qj q3 q4 q5 q6 q7 q8 q9 qa qk
 have F := st4 q0 BB 0 (.int .i64 0) 1 (.int .i64 0) 2 (.int .i64 0) 3 (.slice none 0 0)
 clear q0 BB
 obtain ⟨w4, e, q0, BB, F⟩ := F
 rw [e]; clear e
 replace q2 := F _ _ _ (by have dd_m := qm.out; omega) q2
 clear F
 go_wp2_with fail
 obtain ⟨qb, qc, qd, qe, qf, qg, qh, qi⟩ := reads4 q0.out
 have qj := q0.out.lt
 refine bret (.tuple #[imv 0 0 0 (.slice none 0 0), .int .i64 (hdC l : Int)]) ?_
 exact ⟨0, 0, 0, _, rfl, BB.out, ⟨_, _, _, rfl⟩, fun _ => ⟨rfl, rfl, rfl, rfl⟩, fun e => absurd e h0.out⟩
theorem pread_1 (v : Value) (l : List UInt8) (hl : l.length ≤ 100000000) (w : World) (h : BY w v l) (h0 : Hid (hdC l = 0)) (x y z K L p n : Nat) (hL : Hid (L = (l.drop K).length)) (m1 : IntKind.i64.wrap ((x : Int) * (y : Int)) = (p : Int)) (m2 : IntKind.i64.wrap ((p : Int) * (z : Int)) = (n : Int)) (m3 : wrap64 ((x : Int) * (y : Int)) = (p : Int)) (m4 : wrap64 ((p : Int) * (z : Int)) = (n : Int)) (PH : Hid (∀ g s w, CU w g s l 0 → Calls Tryz.prog 250 #[.pointer (some ⟨g, 0, none⟩)] w (GiveHd (hdC l) x y z g s l K w))) (hc : L < n) :
 Calls Tryz.prog 170 #[v] w (GiveImg (20, 0, 0, 0, []) w) := by
 have CN := Hi (fun w1 (hb : Below w.heap.size w w1) => cnew v l hl w1 (h.below hb))
 obtain ⟨A, cap, rfl⟩ := h.form
 clear h
 have q1 : ((hdC l : Int) != 0) = false := neq_f h0.out
 have g1 : (L : Int) < (n : Int) := by omega
 clear hc
 go_enter Tryz.func170, Tryz.ntmps170
 go_wp2_with fail
 obtain ⟨w0, e, BB, q0⟩ := en1 w #[.int .i64 0, .int .i64 0, .int .i64 0, .slice none 0 0] IT
 rw [e]; clear e
 have hsz := Hi q0.out.lt
 refine (CN.out _ BB.out).mono ?_
 rintro e w1 ⟨g, s, rfl, hb, hge, hcu, -⟩
 replace q0 := kp q0 hb
 replace BB := nx BB hb
 clear hb
 have ql := Hi (show w.heap.size ≠ g from by have := hsz.out; omega)
 have hg1 := Hi (show w.heap.size ≤ g from by have := hsz.out; omega)
 replace hge := hg1
 clear hg1 CN
 have D2 := Hi (PH.out g s _ hcu)
 clear hcu
 go_wp2_with fail
 refine (D2.out).mono ?_
 rintro e w2 ⟨k1, X, Y, Z, rfl, hb, hc, hk⟩
 replace q0 := Hi (AtB.onl q0.out ql.out hb)
 replace BB := Hi (below_onl' BB.out hge.out hb)
 clear hb
 clear D2
 replace hc := Hi hc
 replace hk := Hi hk
 go_upto_region 3 with fail
 have gs := Hi (cu_lt hc.out)
 have qm := Hi (And.intro BB.out.size (And.intro q0.out.lt (True.intro)))
 obtain ⟨hb, q2⟩ := laid w2 #[.int .i64 X, .int .i64 Y, .int .i64 Z, .slice none 0 0] IT
 replace q0 := kp q0 hb
 replace hc := Hi (CU.below hc.out hb)
 replace BB := nx BB hb
 replace q2 := Hi q2
 clear hb
 generalize w2.alloc (.cells #[.int .i64 X, .int .i64 Y, .int .i64 Z, .slice none 0 0] IT) = w3 at *
 generalize w2.heap.size = g_m at *
 obtain ⟨ek, rfl, rfl, rfl⟩ := hk.out h0.out
 rw [ek] at hc
 clear hk ek
 have CL := Hi (cleft g s l K _ hc.out)
 rw [← hL.out] at CL
 obtain ⟨q3, q4, q5, q6, q7, q8, q9, qa⟩ := reads4 q2.out
 have qk := q2.out.lt
 go_wp2_with fail
 refine (CL.out).mono ?_
 rintro e w4 ⟨rfl, hb⟩
 clear q3 q4 q5 q6 q7 q8 q9 qa qk
 replace q0 := kp q0 hb
 replace q2 := kp q2 hb
 replace hc := Hi (CU.below hc.out hb)
 replace BB := nx BB hb
 clear hb
 obtain ⟨q3, q4, q5, q6, q7, q8, q9, qa⟩ := reads4 q2.out
 have qk := q2.out.lt
 obtain ⟨qb, qc, qd, qe, qf, qg, qh, qi⟩ := reads4 q0.out
 have qj := q0.out.lt
 go_wp2_with fail
 clear q3 q4 q5 q6 q7 q8 q9 qa qk qb qc qd qe qf qg qh qi qj
 have F := st4 q0 BB 0 (.int .i64 0) 1 (.int .i64 0) 2 (.int .i64 0) 3 (.slice none 0 0)
 clear q0 BB
 obtain ⟨w5, e, q0, BB, F⟩ := F
 rw [e]; clear e
 replace q2 := F _ _ _ (by have dd_m := qm.out; omega) q2
 clear F
 go_wp2_with fail
 obtain ⟨qb, qc, qd, qe, qf, qg, qh, qi⟩ := reads4 q0.out
 have qj := q0.out.lt
 refine bret (.tuple #[imv 0 0 0 (.slice none 0 0), .int .i64 20]) ?_
 exact ⟨0, 0, 0, _, rfl, BB.out, ⟨_, _, _, rfl⟩, fun _ => ⟨rfl, rfl, rfl, rfl⟩, fun e => absurd e (by simp)⟩
theorem pread_2 (v : Value) (l : List UInt8) (hl : l.length ≤ 100000000) (w : World) (h : BY w v l) (h0 : Hid (hdC l = 0)) (x y z K L p n : Nat) (hL : Hid (L = (l.drop K).length)) (m1 : IntKind.i64.wrap ((x : Int) * (y : Int)) = (p : Int)) (m2 : IntKind.i64.wrap ((p : Int) * (z : Int)) = (n : Int)) (m3 : wrap64 ((x : Int) * (y : Int)) = (p : Int)) (m4 : wrap64 ((p : Int) * (z : Int)) = (n : Int)) (PH : Hid (∀ g s w, CU w g s l 0 → Calls Tryz.prog 250 #[.pointer (some ⟨g, 0, none⟩)] w (GiveHd (hdC l) x y z g s l K w))) (hc : n < L) :
 Calls Tryz.prog 170 #[v] w (GiveImg (22, 0, 0, 0, []) w) := by
 have CN := Hi (fun w1 (hb : Below w.heap.size w w1) => cnew v l hl w1 (h.below hb))
 obtain ⟨A, cap, rfl⟩ := h.form
 clear h
 have q1 : ((hdC l : Int) != 0) = false := neq_f h0.out
 have g1 : ¬ (L : Int) < (n : Int) := by omega
 have g2 : (n : Int) < (L : Int) := by omega
 clear hc
 go_enter Tryz.func170, Tryz.ntmps170
 go_wp2_with fail
 obtain ⟨w0, e, BB, q0⟩ := en1 w #[.int .i64 0, .int .i64 0, .int .i64 0, .slice none 0 0] IT
 rw [e]; clear e
 have hsz := Hi q0.out.lt
 refine (CN.out _ BB.out).mono ?_
 rintro e w1 ⟨g, s, rfl, hb, hge, hcu, -⟩
 replace q0 := kp q0 hb
 replace BB := nx BB hb
 clear hb
 have ql := Hi (show w.heap.size ≠ g from by have := hsz.out; omega)
 have hg1 := Hi (show w.heap.size ≤ g from by have := hsz.out; omega)
 replace hge := hg1
 clear hg1 CN
 have D2 := Hi (PH.out g s _ hcu)
 clear hcu
 go_wp2_with fail
 refine (D2.out).mono ?_
 rintro e w2 ⟨k1, X, Y, Z, rfl, hb, hc, hk⟩
 replace q0 := Hi (AtB.onl q0.out ql.out hb)
 replace BB := Hi (below_onl' BB.out hge.out hb)
 clear hb
 clear D2
 replace hc := Hi hc
 replace hk := Hi hk
 go_upto_region 3 with fail
 have gs := Hi (cu_lt hc.out)
 have qm := Hi (And.intro BB.out.size (And.intro q0.out.lt (True.intro)))
 obtain ⟨hb, q2⟩ := laid w2 #[.int .i64 X, .int .i64 Y, .int .i64 Z, .slice none 0 0] IT
 replace q0 := kp q0 hb
 replace hc := Hi (CU.below hc.out hb)
 replace BB := nx BB hb
 replace q2 := Hi q2
 clear hb
 generalize w2.alloc (.cells #[.int .i64 X, .int .i64 Y, .int .i64 Z, .slice none 0 0] IT) = w3 at *
 generalize w2.heap.size = g_m at *
 obtain ⟨ek, rfl, rfl, rfl⟩ := hk.out h0.out
 rw [ek] at hc
 clear hk ek
 have CL := Hi (cleft g s l K _ hc.out)
 rw [← hL.out] at CL
 obtain ⟨q3, q4, q5, q6, q7, q8, q9, qa⟩ := reads4 q2.out
 have qk := q2.out.lt
 go_wp2_with fail
 refine (CL.out).mono ?_
 rintro e w4 ⟨rfl, hb⟩
 clear q3 q4 q5 q6 q7 q8 q9 qa qk
 replace q0 := kp q0 hb
 replace q2 := kp q2 hb
 replace hc := Hi (CU.below hc.out hb)
 replace BB := nx BB hb
 clear hb
 obtain ⟨q3, q4, q5, q6, q7, q8, q9, qa⟩ := reads4 q2.out
 have qk := q2.out.lt
 have CL2 := Hi (cleft g s l K _ hc.out)
 rw [← hL.out] at CL2
 go_wp2_with fail
 refine (CL2.out).mono ?_
 rintro e w5 ⟨rfl, hb⟩
 clear q3 q4 q5 q6 q7 q8 q9 qa qk
 replace q0 := kp q0 hb
 replace q2 := kp q2 hb
 replace hc := Hi (CU.below hc.out hb)
 replace BB := nx BB hb
 clear hb
 obtain ⟨qb, qc, qd, qe, qf, qg, qh, qi⟩ := reads4 q0.out
 have qj := q0.out.lt
 go_wp2_with fail
 clear qb qc qd qe qf qg qh qi qj
 have F := st4 q0 BB 0 (.int .i64 0) 1 (.int .i64 0) 2 (.int .i64 0) 3 (.slice none 0 0)
 clear q0 BB
 obtain ⟨w6, e, q0, BB, F⟩ := F
 rw [e]; clear e
 replace q2 := F _ _ _ (by have dd_m := qm.out; omega) q2
 clear F
 go_wp2_with fail
 obtain ⟨qb, qc, qd, qe, qf, qg, qh, qi⟩ := reads4 q0.out
 have qj := q0.out.lt
 refine bret (.tuple #[imv 0 0 0 (.slice none 0 0), .int .i64 22]) ?_
 exact ⟨0, 0, 0, _, rfl, BB.out, ⟨_, _, _, rfl⟩, fun _ => ⟨rfl, rfl, rfl, rfl⟩, fun e => absurd e (by simp)⟩
theorem pread_3 (v : Value) (l : List UInt8) (hl : l.length ≤ 100000000) (w : World) (h : BY w v l) (h0 : Hid (hdC l = 0)) (x y z K L p n : Nat) (hL : Hid (L = (l.drop K).length)) (m1 : IntKind.i64.wrap ((x : Int) * (y : Int)) = (p : Int)) (m2 : IntKind.i64.wrap ((p : Int) * (z : Int)) = (n : Int)) (m3 : wrap64 ((x : Int) * (y : Int)) = (p : Int)) (m4 : wrap64 ((p : Int) * (z : Int)) = (n : Int)) (PH : Hid (∀ g s w, CU w g s l 0 → Calls Tryz.prog 250 #[.pointer (some ⟨g, 0, none⟩)] w (GiveHd (hdC l) x y z g s l K w))) (hc1 : n = L) :
 Calls Tryz.prog 170 #[v] w (GiveImg (0, x, y, z, l.drop K) w) := by
 have CN := Hi (fun w1 (hb : Below w.heap.size w w1) => cnew v l hl w1 (h.below hb))
 obtain ⟨A, cap, rfl⟩ := h.form
 clear h
 have q1 : ((hdC l : Int) != 0) = false := neq_f h0.out
 subst hc1
 have g1 : ¬ (n : Int) < (n : Int) := by omega
 go_enter Tryz.func170, Tryz.ntmps170
 go_wp2_with fail
 obtain ⟨w0, e, BB, q0⟩ := en1 w #[.int .i64 0, .int .i64 0, .int .i64 0, .slice none 0 0] IT
 rw [e]; clear e
 have hsz := Hi q0.out.lt
 refine (CN.out _ BB.out).mono ?_
 rintro e w1 ⟨g, s, rfl, hb, hge, hcu, -⟩
 replace q0 := kp q0 hb
 replace BB := nx BB hb
 clear hb
 have ql := Hi (show w.heap.size ≠ g from by have := hsz.out; omega)
 have hg1 := Hi (show w.heap.size ≤ g from by have := hsz.out; omega)
 replace hge := hg1
 clear hg1 CN
 have D2 := Hi (PH.out g s _ hcu)
 clear hcu
 go_wp2_with fail
 refine (D2.out).mono ?_
 rintro e w2 ⟨k1, X, Y, Z, rfl, hb, hc, hk⟩
 replace q0 := Hi (AtB.onl q0.out ql.out hb)
 replace BB := Hi (below_onl' BB.out hge.out hb)
 clear hb
 clear D2
 replace hc := Hi hc
 replace hk := Hi hk
 go_upto_region 3 with fail
 have gs := Hi (cu_lt hc.out)
 have qm := Hi (And.intro BB.out.size (And.intro q0.out.lt (True.intro)))
 obtain ⟨hb, q2⟩ := laid w2 #[.int .i64 X, .int .i64 Y, .int .i64 Z, .slice none 0 0] IT
 replace q0 := kp q0 hb
 replace hc := Hi (CU.below hc.out hb)
 replace BB := nx BB hb
 replace q2 := Hi q2
 clear hb
 generalize w2.alloc (.cells #[.int .i64 X, .int .i64 Y, .int .i64 Z, .slice none 0 0] IT) = w3 at *
 generalize w2.heap.size = g_m at *
 obtain ⟨ek, rfl, rfl, rfl⟩ := hk.out h0.out
 rw [ek] at hc
 clear hk ek
 have CL := Hi (cleft g s l K _ hc.out)
 rw [← hL.out] at CL
 obtain ⟨q3, q4, q5, q6, q7, q8, q9, qa⟩ := reads4 q2.out
 have qk := q2.out.lt
 go_wp2_with fail
 refine (CL.out).mono ?_
 rintro e w4 ⟨rfl, hb⟩
 clear q3 q4 q5 q6 q7 q8 q9 qa qk
 replace q0 := kp q0 hb
 replace q2 := kp q2 hb
 replace hc := Hi (CU.below hc.out hb)
 replace BB := nx BB hb
 clear hb
 obtain ⟨q3, q4, q5, q6, q7, q8, q9, qa⟩ := reads4 q2.out
 have qk := q2.out.lt
 have CL2 := Hi (cleft g s l K _ hc.out)
 rw [← hL.out] at CL2
 go_wp2_with fail
 refine (CL2.out).mono ?_
 rintro e w5 ⟨rfl, hb⟩
 clear q3 q4 q5 q6 q7 q8 q9 qa qk
 replace q0 := kp q0 hb
 replace q2 := kp q2 hb
 replace hc := Hi (CU.below hc.out hb)
 replace BB := nx BB hb
 clear hb
 have CT := Hi (ctake g s l K n _ hc.out (by rw [← hL.out]; exact Nat.le_refl _))
 have nm := Hi (show g < g_m ∧ g_m < w5.heap.size ∧ w.heap.size < w5.heap.size from ⟨gs.out, q2.out.lt, q0.out.lt⟩)
 have qn := Hi (show g_m ≠ g from by have := gs.out; omega)
 clear hc
 obtain ⟨q3, q4, q5, q6, q7, q8, q9, qa⟩ := reads4 q2.out
 have qk := q2.out.lt
 go_wp2_with fail
 refine (CT.out).mono ?_
 rintro e w6 ⟨vt, rfl, hb, -, hv⟩
 clear q3 q4 q5 q6 q7 q8 q9 qa qk
 replace q0 := Hi (AtB.onl q0.out ql.out hb)
 replace q2 := Hi (AtB.onl q2.out qn.out hb)
 replace BB := Hi (below_onl' BB.out hge.out hb)
 clear hb
 obtain ⟨A2, cap2, rfl⟩ := own_form hv
 have nv := fun b (e : (Value.slice A2 n cap2).ownBlock = some b) => (hv.lt b e).1
 have nv_m := Hi (show (Value.slice A2 n cap2).ownBlock ≠ some g_m from fun e => by have := nv _ e; have := nm.out; omega)
 have nv_res := Hi (show (Value.slice A2 n cap2).ownBlock ≠ some w.heap.size from fun e => by have := nv _ e; have := nm.out; omega)
 have hvb : w.heap.size ≤ w5.heap.size := by have := nm.out; omega
 replace hv := Hi (own_base hv hvb)
 clear nv hvb
 obtain ⟨q3, q4, q5, q6, q7, q8, q9, qa⟩ := reads4 q2.out
 have qk := q2.out.lt
 go_upto_region 11 with fail
 clear q3 q4 q5 q6 q7 q8 q9 qa qk
 replace q0 := Hi (q0.out.far (p := g_m) (by have dd_m := qm.out; omega) 3 (.slice A2 n cap2))
 replace q2 := Hi (q2.out.sn 3 (.slice A2 n cap2))
 replace BB := Hi (below_set BB.out (b := g_m) (o := 3) (by have dd := qm.out; omega) (.slice A2 n cap2))
 replace hv := Hi (own_store nv_m.out hv.out 3 (.slice A2 n cap2))
 generalize (w6.setCell ⟨g_m, 3, none⟩ (.slice A2 n cap2)) = w7 at *
 obtain ⟨q3, q4, q5, q6, q7, q8, q9, qa⟩ := reads4 q2.out
 have qk := q2.out.lt
 obtain ⟨qb, qc, qd, qe, qf, qg, qh, qi⟩ := reads4 q0.out
 have qj := q0.out.lt
 go_wp2_with fail
 clear q3 q4 q5 q6 q7 q8 q9 qa qk qb qc qd qe qf qg qh qi qj
 replace q0 := Hi ((((q0.out.sn 0 (.int .i64 (x : Int))).sn 1 (.int .i64 (y : Int))).sn 2 (.int .i64 (z : Int))).sn 3 (.slice A2 n cap2))
 replace q2 := Hi ((((q2.out.far (p := w.heap.size) (by have dd_m := qm.out; omega) 0 (.int .i64 (x : Int))).far (p := w.heap.size) (by have dd_m := qm.out; omega) 1 (.int .i64 (y : Int))).far (p := w.heap.size) (by have dd_m := qm.out; omega) 2 (.int .i64 (z : Int))).far (p := w.heap.size) (by have dd_m := qm.out; omega) 3 (.slice A2 n cap2))
 replace BB := Hi (below_set (below_set (below_set (below_set BB.out (b := w.heap.size) (o := 0) (by omega) (.int .i64 (x : Int))) (b := w.heap.size) (o := 1) (by omega) (.int .i64 (y : Int))) (b := w.heap.size) (o := 2) (by omega) (.int .i64 (z : Int))) (b := w.heap.size) (o := 3) (by omega) (.slice A2 n cap2))
 replace hv := Hi (own_store nv_res.out (own_store nv_res.out (own_store nv_res.out (own_store nv_res.out hv.out 0 (.int .i64 (x : Int))) 1 (.int .i64 (y : Int))) 2 (.int .i64 (z : Int))) 3 (.slice A2 n cap2))
 generalize ((((w7.setCell ⟨w.heap.size, 0, none⟩ (.int .i64 (x : Int))).setCell ⟨w.heap.size, 1, none⟩ (.int .i64 (y : Int))).setCell ⟨w.heap.size, 2, none⟩ (.int .i64 (z : Int))).setCell ⟨w.heap.size, 3, none⟩ (.slice A2 n cap2)) = w8 at *
 go_wp2_with fail
 obtain ⟨qb, qc, qd, qe, qf, qg, qh, qi⟩ := reads4 q0.out
 have qj := q0.out.lt
 refine bret (.tuple #[imv (x : Int) (y : Int) (z : Int) (.slice A2 n cap2), .int .i64 0]) ?_
 refine ⟨x, y, z, _, rfl, BB.out, ⟨_, _, _, rfl⟩, fun e => absurd rfl e, fun _ => ⟨rfl, rfl, rfl, ?_⟩⟩
 have hh := hv.out
 rw [List.take_of_length_le (by rw [← hL.out]; exact Nat.le_refl _)] at hh
 show World.ownsRow _ _ _ _ _ (l.drop K).length _
 rw [← hL.out]
 exact hh
/-- With a head that may be. -/
theorem pread_okay (v : Value) (l : List UInt8) (hl : l.length ≤ 100000000) (w : World) (h : BY w v l) (h0 : hdC l = 0) (x y z K L : Nat) (hx : x = (fldR (l.drop 2) 32768).2.1) (hy : y = (fldR ((l.drop 2).drop (fldR (l.drop 2) 32768).2.2) 32768).2.1) (hz : z = (kindC2 l).2)
 (hK : K = 2 + (fldR (l.drop 2) 32768).2.2 + (fldR ((l.drop 2).drop (fldR (l.drop 2) 32768).2.2) 32768).2.2 + (fldR ((l.drop 2).drop ((fldR (l.drop 2) 32768).2.2 + (fldR ((l.drop 2).drop (fldR (l.drop 2) 32768).2.2) 32768).2.2)) 255).2.2 + 1) (hL : L = (l.drop K).length) (hxy : x * y ≤ 4194304) (hz4 : z ≤ 4) :
 (L < x * y * z → Calls Tryz.prog 170 #[v] w (GiveImg (20, 0, 0, 0, []) w)) ∧ (x * y * z < L → Calls Tryz.prog 170 #[v] w (GiveImg (22, 0, 0, 0, []) w)) ∧ (L = x * y * z → Calls Tryz.prog 170 #[v] w (GiveImg (0, x, y, z, l.drop K) w)) := by
 have PH := Hi (fun g s w h => phead g s l w h)
 rw [← hx, ← hy, ← hz, ← hK] at PH
 replace hL := Hi hL
 replace hK := Hi hK
 replace h0 := Hi h0
 clear hx hy hz
 have e1 : (x : Int) * (y : Int) = ((x * y : Nat) : Int) := by rw [Int.natCast_mul]
 have e2 : ((x * y : Nat) : Int) * (z : Int) = ((x * y * z : Nat) : Int) := by rw [Int.natCast_mul (x * y)]
 have b2 : x * y * z ≤ 4194304 * 4 := Nat.mul_le_mul hxy hz4
 obtain ⟨p, hp⟩ : ∃ p, p = x * y := ⟨_, rfl⟩
 obtain ⟨n, hn⟩ : ∃ n, n = x * y * z := ⟨_, rfl⟩
 rw [← hn] at b2 e2 ⊢
 rw [← hp] at hxy e1 e2
 replace hp := Hi hp
 replace hn := Hi hn
 have m1 : IntKind.i64.wrap ((x : Int) * (y : Int)) = (p : Int) := by rw [e1]; exact iw ⟨by omega, by omega⟩
 have m2 : IntKind.i64.wrap ((p : Int) * (z : Int)) = (n : Int) := by rw [e2]; exact iw ⟨by omega, by omega⟩
 have m3 : wrap64 ((x : Int) * (y : Int)) = (p : Int) := by rw [e1]; exact ww ⟨by omega, by omega⟩
 have m4 : wrap64 ((p : Int) * (z : Int)) = (n : Int) := by rw [e2]; exact ww ⟨by omega, by omega⟩
 clear e1 e2 hxy hz4
 refine ⟨fun hc => ?_, fun hc => ?_, fun hc => ?_⟩
 · exact pread_1 v l hl w h h0 x y z K L p n hL m1 m2 m3 m4 PH (by omega)
 · exact pread_2 v l hl w h h0 x y z K L p n hL m1 m2 m3 m4 PH (by omega)
 · exact pread_3 v l hl w h h0 x y z K L p n hL m1 m2 m3 m4 PH (by omega)
theorem pread (v : Value) (l : List UInt8) (hl : l.length ≤ 100000000) (w : World) (h : BY w v l) : Calls Tryz.prog 170 #[v] w (GiveImg (pnmR l) w) := by
 rw [← pnmP_eq]
 unfold pnmP
 by_cases h0 : hdC l = 0
 · have hs : szC (l.drop 2) = 0 ∧ (kindC2 l).1 = 0 := by
    unfold hdC at h0
    split at h0
    · rename_i k; exact absurd h0 k
    · rename_i k
      split at h0
      · rename_i k2; exact absurd h0 k2
      · rename_i k2; exact ⟨by omega, by omega⟩
   have hxy : (fldR (l.drop 2) 32768).2.1 * (fldR ((l.drop 2).drop (fldR (l.drop 2) 32768).2.2) 32768).2.1 ≤ 4194304 := by
    have h1 := hs.1
    unfold szC at h1
    split at h1
    · rename_i k; exact absurd h1 k
    split at h1
    · rename_i k; exact absurd h1 k
    split at h1
    · omega
    split at h1
    · omega
    · rename_i k; omega
   have hz : (kindC2 l).2 ≤ 4 := by unfold kindC2; split <;> omega
   obtain ⟨a1, a2, a3⟩ := pread_okay v l hl w h h0 _ _ _ _ _ rfl rfl rfl rfl rfl hxy hz
   rw [if_neg (by omega)]
   split
   · rename_i k; exact a1 k
   · split
     · rename_i k; exact a2 k
     · rename_i k1 k2; exact a3 (by omega)
 · rw [if_pos h0]
   exact pread_bad v l hl w h h0
abbrev HT : TypeId := 352
abbrev FT : TypeId := 457
/-- Where a head's numbers stand, and in how many bytes. -/
def fo : Nat → Nat := fun i => [2, 6, 10, 14, 18, 22, 26, 28, 30, 34, 38, 42, 46, 50].getD i 54
def fw : Nat → Nat := fun i => [4, 4, 4, 4, 4, 4, 2, 2, 4, 4, 4, 4, 4, 4].getD i 0
def fv (h : Nat) (i : Nat) : List Value := [.pointer (some ⟨h, i, none⟩), .int .i64 (fw i : Int)]
def fCells (h : Nat) : Array Value := #[.pointer (some ⟨h, 0, none⟩), .int .i64 4, .pointer (some ⟨h, 1, none⟩), .int .i64 4, .pointer (some ⟨h, 2, none⟩), .int .i64 4, .pointer (some ⟨h, 3, none⟩), .int .i64 4, .pointer (some ⟨h, 4, none⟩), .int .i64 4, .pointer (some ⟨h, 5, none⟩), .int .i64 4, .pointer (some ⟨h, 6, none⟩), .int .i64 2, .pointer (some ⟨h, 7, none⟩), .int .i64 2, .pointer (some ⟨h, 8, none⟩), .int .i64 4, .pointer (some ⟨h, 9, none⟩), .int .i64 4, .pointer (some ⟨h, 10, none⟩), .int .i64 4, .pointer (some ⟨h, 11, none⟩), .int .i64 4, .pointer (some ⟨h, 12, none⟩), .int .i64 4, .pointer (some ⟨h, 13, none⟩), .int .i64 4]
theorem fCells_at (h j : Nat) (hj : j < 14) : (fCells h)[j * 2]? = some (.pointer (some ⟨h, j, none⟩)) ∧ (fCells h)[j * 2 + 1]? = some (.int .i64 (fw j : Int)) := by
 match j, hj with
 | 0, _ => exact ⟨rfl, rfl⟩ | 1, _ => exact ⟨rfl, rfl⟩ | 2, _ => exact ⟨rfl, rfl⟩ | 3, _ => exact ⟨rfl, rfl⟩ | 4, _ => exact ⟨rfl, rfl⟩ | 5, _ => exact ⟨rfl, rfl⟩ | 6, _ => exact ⟨rfl, rfl⟩
 | 7, _ => exact ⟨rfl, rfl⟩ | 8, _ => exact ⟨rfl, rfl⟩ | 9, _ => exact ⟨rfl, rfl⟩ | 10, _ => exact ⟨rfl, rfl⟩ | 11, _ => exact ⟨rfl, rfl⟩ | 12, _ => exact ⟨rfl, rfl⟩ | 13, _ => exact ⟨rfl, rfl⟩
/-- A head of which j numbers are there. -/
def hdV (v : Nat → Nat) (j : Nat) : Array Value := #[.int .u32 (if 0 < j then (v 0 : Int) else 0), .int .u32 (if 1 < j then (v 1 : Int) else 0), .int .u32 (if 2 < j then (v 2 : Int) else 0), .int .u32 (if 3 < j then (v 3 : Int) else 0), .int .u32 (if 4 < j then (v 4 : Int) else 0), .int .u32 (if 5 < j then (v 5 : Int) else 0), .int .u32 (if 6 < j then (v 6 : Int) else 0), .int .u32 (if 7 < j then (v 7 : Int) else 0), .int .u32 (if 8 < j then (v 8 : Int) else 0), .int .u32 (if 9 < j then (v 9 : Int) else 0), .int .u32 (if 10 < j then (v 10 : Int) else 0), .int .u32 (if 11 < j then (v 11 : Int) else 0), .int .u32 (if 12 < j then (v 12 : Int) else 0), .int .u32 (if 13 < j then (v 13 : Int) else 0)]
theorem hdV_set (v : Nat → Nat) (j : Nat) (hj : j < 14) : (hdV v j).setIfInBounds j (.int .u32 (v j : Int)) = hdV v (j + 1) ∧ (hdV v j)[j]? = some (.int .u32 0) := by
 match j, hj with
 | 0, _ => exact ⟨rfl, rfl⟩ | 1, _ => exact ⟨rfl, rfl⟩ | 2, _ => exact ⟨rfl, rfl⟩ | 3, _ => exact ⟨rfl, rfl⟩ | 4, _ => exact ⟨rfl, rfl⟩ | 5, _ => exact ⟨rfl, rfl⟩ | 6, _ => exact ⟨rfl, rfl⟩
 | 7, _ => exact ⟨rfl, rfl⟩ | 8, _ => exact ⟨rfl, rfl⟩ | 9, _ => exact ⟨rfl, rfl⟩ | 10, _ => exact ⟨rfl, rfl⟩ | 11, _ => exact ⟨rfl, rfl⟩ | 12, _ => exact ⟨rfl, rfl⟩ | 13, _ => exact ⟨rfl, rfl⟩
theorem bfields (h : Nat) (w : World) : Calls Tryz.prog 334 #[.pointer (some ⟨h, 0, none⟩)] w fun e w' => ∃ fb, e = .returned (.slice (some ⟨fb, 0, none⟩) 14 14) ∧ Below w.heap.size w w' ∧ w.heap.size ≤ fb ∧ AtB w' fb (fCells h) FT := by
 go_enter Tryz.func334, Tryz.ntmps334
 go_upto_region 1 with fail
 go_region
 go_wp2_with fail
 go_ret
 refine ⟨_, rfl, by repeat (first | with_reducible exact Below.refl _ _ | with_reducible apply below_new | with_reducible apply below_drew), by simp, ?_⟩
 exact AtB.drew (new_at w (fCells h) FT)
/-- The code of the head's bytes. -/
def tkC (l : List UInt8) : Nat := if wrd 66 77 l ≠ 0 then wrd 66 77 l else if (l.drop 2).length < 52 then 20 else 0
def hv (l : List UInt8) (i : Nat) : Nat := hdB l (fo i) (fw i)
def GiveTk (B g h : Nat) (s : Value) (l : List UInt8) (w : World) (e : Ending) (w' : World) : Prop := e = .returned (.int .i64 (tkC l : Int)) ∧ Below B w w' ∧ (tkC l = 0 → CU w' g s l 54 ∧ AtB w' h (hdV (hv l) 14) HT)
theorem fo_step (j : Nat) (hj : j < 14) : fo (j + 1) = fo j + fw j ∧ 1 ≤ fw j ∧ fw j ≤ 4 ∧ fo j + fw j ≤ 54 := by
 match j, hj with
 | 0, _ => decide | 1, _ => decide | 2, _ => decide | 3, _ => decide | 4, _ => decide | 5, _ => decide | 6, _ => decide
 | 7, _ => decide | 8, _ => decide | 9, _ => decide | 10, _ => decide | 11, _ => decide | 12, _ => decide | 13, _ => decide
theorem btake (B g h : Nat) (s : Value) (l : List UInt8) (w : World) (hc : CU w g s l 0) (hh : AtB w h (hdV (hv l) 0) HT) (hgh : g ≠ h) (hsh : s.ownBlock ≠ some h) (hBg : B ≤ g) (hBh : B ≤ h) :
 Calls Tryz.prog 253 #[.pointer (some ⟨h, 0, none⟩), .pointer (some ⟨g, 0, none⟩)] w (GiveTk B g h s l w) := by
 have CW := Lib.hid (cword 66 77 g s l 0 w hc)
 rw [List.drop_zero] at CW
 have gw := Lib.hid hc.box.lt
 have hw := Lib.hid hh.lt
 have hlen := Lib.hid hc.len
 replace hgh := Lib.hid hgh
 replace hsh := Lib.hid hsh
 replace hBg := Lib.hid hBg
 replace hBh := Lib.hid hBh
 replace hh := Lib.hid hh
 clear hc
 by_cases h1 : wrd 66 77 l = 0
 · rw [h1, if_pos rfl, Nat.zero_add] at CW
   have CL := Lib.hid (fun w1 (h1 : CU w1 g s l 2) => cleft g s l 2 w1 h1)
   obtain ⟨m, hm⟩ : ∃ m, m = (l.drop 2).length := ⟨_, rfl⟩
   rw [← hm] at CL
   by_cases h2 : m < 52
   · have hE := Lib.hid (show tkC l = 20 by unfold tkC; rw [if_neg (by omega), if_pos (by omega)])
     have g1 : (m : Int) < 52 := by omega
     clear h1 h2 hm hh
     go_enter Tryz.func253, Tryz.ntmps253
     go_wp2_with fail
     refine CW.out.mono ?_
     rintro e w1 ⟨rfl, ho, hc⟩
     have CL2 := Lib.hid (CL.out w1 hc)
     replace ho := Lib.hid ho
     replace hc := Lib.hid hc
     clear CL
     go_wp2_with fail
     refine CL2.out.mono ?_
     rintro e w2 ⟨rfl, hb⟩
     replace hb := Lib.hid hb
     go_wp2_with fail
     go_ret
     refine ⟨by rw [hE.out]; rfl, ?_, fun e => by rw [hE.out] at e; simp at e⟩
     have hb1 : Below B w w1 := (Below.refl B w).grown ho.out (by have := gw.out; have := hBg.out; omega) (fun k e => by cases e; exact hBg.out)
     exact hb1.trans (hb.out.mono (by have := hb1.size; have := gw.out; have := hBg.out; omega))
   · have hE := Lib.hid (show tkC l = 0 by unfold tkC; rw [if_neg (by omega), if_neg (by omega)])
     have g1 : ¬ (m : Int) < 52 := by omega
     have hl54 := Lib.hid (show 54 ≤ l.length by rw [List.length_drop] at hm; omega)
     clear h1 h2 hm
     go_enter Tryz.func253, Tryz.ntmps253
     go_wp2_with fail
     refine CW.out.mono ?_
     rintro e w1 ⟨rfl, ho, hc⟩
     have CL2 := Lib.hid (CL.out w1 hc)
     have hb1 := Lib.hid ((Below.refl B w).grown ho (by have := gw.out; have := hBg.out; omega) (fun k e => by cases e; exact hBg.out))
     replace hh := Lib.hid (hh.out.onl (fun e => hgh.out e.symm) ho)
     replace hc := Lib.hid hc
     clear CL ho
     go_wp2_with fail
     refine CL2.out.mono ?_
     rintro e w2 ⟨rfl, hb⟩
     replace hb1 := Lib.hid (hb1.out.trans (hb.mono (by have := hb1.out.size; have := gw.out; have := hBg.out; omega)))
     replace hh := Lib.hid (hh.out.keep hb)
     replace hc := Lib.hid (hc.out.below hb)
     have CF := Lib.hid (bfields h w2)
     clear hb CL2
     go_wp2_with fail
     refine CF.out.mono ?_
     rintro e w3 ⟨fb, rfl, hb, hfb, hF⟩
     have hfg := Lib.hid (show fb ≠ g ∧ fb ≠ h ∧ fb < w3.heap.size from ⟨by have := cu_lt hc.out; omega, by have := hh.out.lt; omega, hF.lt⟩)
     replace hb1 := Lib.hid (hb1.out.trans (hb.mono (by have := hb1.out.size; have := gw.out; have := hBg.out; omega)))
     replace hh := Lib.hid (hh.out.keep hb)
     replace hc := Lib.hid (hc.out.below hb)
     replace hF := Lib.hid hF
     clear hb CF hfb
     go_wp2_with fail
     go_loopw [19] (fun i wr => ∃ j : Nat, j ≤ 14 ∧ i = .int .i64 (j : Int) ∧ Hid (CU wr g s l (fo j) ∧ AtB wr h (hdV (hv l) j) HT ∧ AtB wr fb (fCells h) FT ∧ Below B w wr)) (fun i _ => 14 - (intOf i).toNat)
     case atStart => exact ⟨0, Nat.zero_le _, rfl, hc.out, hh.out, hF.out, hb1.out⟩
     case round =>
      clear hc hh hF hb1
      obtain ⟨j, hj, rfl, hI⟩ := hrel
      by_cases hlt : j < 14
      · obtain ⟨hc, hh, hF, hb1⟩ := hI.out
        obtain ⟨a1, a2⟩ := fCells_at h j hlt
        have cA := hF.cell (j * 2) a1
        have cB := hF.cell (j * 2 + 1) a2
        have lF := hF.lt
        obtain ⟨f1, f2, f3, f4⟩ := fo_step j hlt
        obtain ⟨s1, s2⟩ := hdV_set (hv l) j hlt
        have CLow := Lib.hid (fun w1 (h1 : CU w1 g s l (fo j)) => clow g s l (fo j) (fw j) f2 f3 w1 h1 (by have := hl54.out; rw [List.length_drop]; omega))
        rw [← f1] at CLow
        have hval : lowB (fw j) (l.drop (fo j)) = hv l j := rfl
        rw [hval] at CLow
        have q0 : (0 : Int) ≤ (j : Int) := by omega
        have q1 : (j : Int) < 14 := by omega
        have ew : IntKind.i64.wrap ((j : Int) + 1) = ((j + 1 : Nat) : Int) := by rw [show (j : Int) + 1 = ((j + 1 : Nat) : Int) by omega]; exact iw ⟨by omega, by omega⟩
        have hj2 := Lib.hid (show j + 1 ≤ 14 by omega)
        replace hc := Lib.hid hc
        replace hh := Lib.hid hh
        replace hF := Lib.hid hF
        replace hb1 := Lib.hid hb1
        replace s1 := Lib.hid s1
        replace s2 := Lib.hid s2
        clear hI a1 a2 f1 f2 f3 f4 hval hj hlt
        generalize fw j = n at *
        generalize hk1 : fo (j + 1) = k1 at *
        replace hk1 := Lib.hid hk1
        generalize fo j = k0 at *
        generalize hv l j = x at *
        go_upto_region 9 with fail
        have nef := Lib.hid (show wr.heap.size ≠ g ∧ wr.heap.size ≠ h from ⟨by have := cu_lt hc.out; omega, by have := hh.out.lt; omega⟩)
        have hBw := Lib.hid (show B ≤ wr.heap.size by have := hb1.out.size; have := gw.out; have := hBg.out; omega)
        obtain ⟨hb, rf⟩ := laid wr #[.pointer (some ⟨h, j, none⟩), .int .i64 (n : Int)] FT
        replace hc := Lib.hid (hc.out.below hb)
        replace hh := Lib.hid (hh.out.keep hb)
        replace hF := Lib.hid (hF.out.keep hb)
        replace hb1 := Lib.hid (hb1.out.trans (hb.mono hBw.out))
        replace rf := Lib.hid rf
        clear cA cB lF hb
        generalize wr.alloc (.cells #[.pointer (some ⟨h, j, none⟩), .int .i64 (n : Int)] FT) = wf at *
        generalize wr.heap.size = fa at *
        have KK := Lib.hid (fun (w9 : World) (h9 : Onl g wf w9) => (cells2 (rf.out.onl nef.out.1 h9) : w9.cell? ⟨fa, 0, none⟩ = some (.pointer (some ⟨h, j, none⟩)) ∧ w9.cell? ⟨fa, 1, none⟩ = some (.int .i64 (n : Int))))
        have K0 := KK.out wf (World.grownBy.refl _ _)
        have KD := KK.out wf.drew (onl_drew (World.grownBy.refl _ _))
        go_region_held3 (fun w9 => w9.cell? ⟨fa, 0, none⟩ = some (.pointer (some ⟨h, j, none⟩)) ∧ w9.cell? ⟨fa, 1, none⟩ = some (.int .i64 (n : Int)))
         (first | with_reducible exact KD | with_reducible exact K0 | with_reducible exact q3 | with_reducible exact KS _)
         (first
           | (go_at_call 335
              refine (CLow.out _ (hc.out.below (by repeat (first | with_reducible exact Below.refl _ _ | with_reducible apply below_drew | with_reducible apply below_new)))).mono ?_
              rintro e w5 ⟨rfl, ho, hc5⟩
              have q2 := Lib.hid (onl_next (onl_of (g := g) (by repeat (first | with_reducible exact Below.refl _ _ | with_reducible apply below_drew | with_reducible apply below_new)) : Onl g wf _) ho)
              have q3 := KK.out _ q2.out
              have KS := fun v => cells2 ((rf.out.onl nef.out.1 q2.out).far nef.out.2 j v)
              have hh5 := Lib.hid (hh.out.onl (fun e => hgh.out e.symm) q2.out)
              have cS := hh5.out.cell j s2.out
              have fS := hh5.out.fr j
              have lS := hh5.out.lt
              replace hc5 := Lib.hid hc5
              clear ho))
        clear KK K0 KD q3 KS cS fS lS
        go_wp2_with fail
        go_roundw
        case rel =>
         refine ⟨j + 1, hj2.out, by go_num, by rw [hk1.out]; exact CU.store ⟨hgh.out, hsh.out⟩ hc5.out j _, ?_, (hF.out.onl hfg.out.1 q2.out).far hfg.out.2.1 j _, ?_⟩
         · have := hh5.out.set_n j (.int .u32 (x : Int))
           rw [s1.out] at this
           exact this
         · exact (hb1.out.grown q2.out (by have := hb1.out.size; have := gw.out; have := hBg.out; omega) (fun k e => by cases e; exact hBg.out)).setCell (p := ⟨h, j, none⟩) hBh.out _
        case measure => simp [intOf, ew]; omega
      · obtain rfl : j = 14 := by omega
        obtain ⟨hc, hh, hF, hb1⟩ := hI.out
        replace hc := Lib.hid hc
        replace hh := Lib.hid hh
        replace hb1 := Lib.hid hb1
        clear hI hF hj hlt
        go_wp2_with fail
        go_ret
        exact ⟨by rw [hE.out]; rfl, hb1.out, fun _ => ⟨hc.out, hh.out⟩⟩
 · have hE := Lib.hid (show tkC l = wrd 66 77 l by unfold tkC; rw [if_pos h1])
   have q1 := neq_t h1
   rw [if_neg h1] at CW
   clear hh
   have h1' := Lib.hid h1
   clear h1
   generalize wrd 66 77 l = c at *
   go_enter Tryz.func253, Tryz.ntmps253
   go_wp2_with fail
   refine CW.out.mono ?_
   rintro e w1 ⟨rfl, ho, hc⟩
   replace ho := Lib.hid ho
   replace hc := Lib.hid hc
   go_wp2_with fail
   go_ret
   refine ⟨by rw [hE.out]; rfl, ?_, fun e => by rw [hE.out] at e; exact absurd e h1'.out⟩
   exact (Below.refl B w).grown ho.out (by have := gw.out; have := hBg.out; omega) (fun k e => by cases e; exact hBg.out)
end Go.Proofs.YtikpobembcgbfaaGreatDoor
