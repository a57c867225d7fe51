/- Parts of the proof: Rfm Rap Rou Cm0 Cm1 Cm2 Rcp. -/
import Derived.Test.YtikpobembcgbfaaGreatDoorQ26
import Derived.Test.YtikpobembcgbfaaGreatDoorQ14
set_option linter.unusedVariables false
set_option linter.unusedSimpArgs false
set_option maxRecDepth 100000
set_option maxHeartbeats 40000000
namespace Go.Proofs.YtikpobembcgbfaaGreatDoor
open Go.RowKit Go.Lib
abbrev WnT : TypeId := 90
def wnC : Array Value := #[.int .i64 6, .int .i64 4, .int .i64 0, .int .i64 10, .int .i64 4, .int .i64 54, .int .i64 14, .int .i64 4, .int .i64 40, .int .i64 26, .int .i64 2, .int .i64 1, .int .i64 30, .int .i64 4, .int .i64 0, .int .i64 46, .int .i64 4, .int .i64 0, .int .i64 50, .int .i64 4, .int .i64 0]
theorem rwants (w : World) : Calls Tryz.prog 34 #[] w fun e w' => ∃ fb, e = .returned (.slice (some ⟨fb, 0, none⟩) 7 7) ∧ Below w.heap.size w w' ∧ w.heap.size ≤ fb ∧ AtB w' fb wnC WnT := by
 go_enter Tryz.func34, Tryz.ntmps34
 go_wp2_with fail
 go_ret
 exact ⟨_, rfl, by repeat (first | with_reducible exact Below.refl _ _ | with_reducible apply below_new | with_reducible apply below_drew), by simp, new_at w wnC WnT⟩
def GiveV (x : Nat) (w : World) (e : Ending) (w' : World) : Prop := e = .returned (.int .i64 (x : Int)) ∧ Below w.heap.size w w'
/-- A number of the head. -/
theorem rlow (l : List UInt8) (n cap b off : Nat) (hn : n = l.length) (hN : n ≤ 100000000) (w : World) (h : BY w (.slice (some ⟨b, off, none⟩) n cap) l) (t m : Nat) (hm : 1 ≤ m ∧ m ≤ 4) (ht : t + m ≤ n) :
 Calls Tryz.prog 29 #[.slice (some ⟨b, off, none⟩) n cap, .int .i64 (t : Int), .int .i64 (m : Int)] w (GiveV (hdB l t m) w) := by
 refine rlow_q b off t m n cap (l.drop t) hm.2 hm.1 ht hN w (Hi fun i hi w1 hb => ?_)
 obtain ⟨b', off', e, hc⟩ := by_at hn.symm h (t + i) (by omega)
 simp only [Option.some.injEq, Addr.mk.injEq] at e
 obtain ⟨rfl, rfl, -⟩ := e
 rw [getD_drop8]
 exact hc w1 hb
theorem rform_0 (n cap : Nat) (A : Option Addr) (hn : n = 0) (w : World) : Calls Tryz.prog 28 #[.slice A n cap] w (GiveV 20 w) := by
 subst hn
 go_enter Tryz.func28, Tryz.ntmps28
 go_wp2_with fail
 go_ret
 exact ⟨rfl, Below.refl _ _⟩
theorem rform_1 (n cap b off S : Nat) (c : Int) (hn : n = 1) (w : World) (c0 : w.cell? ⟨b, off, none⟩ = some (.int .u8 c)) (hS1 : c = 66 → S = 20) (hS2 : c ≠ 66 → S = 21) : Calls Tryz.prog 28 #[.slice (some ⟨b, off, none⟩) n cap] w (GiveV S w) := by
 subst hn
 by_cases h : c = 66
 · have hS := Hi (hS1 h)
   subst h
   clear hS1 hS2
   go_enter Tryz.func28, Tryz.ntmps28
   go_wp2_with fail
   go_ret
   exact ⟨by rw [hS.out]; rfl, Below.refl _ _⟩
 · have hS := Hi (hS2 h)
   have q1 : (c == 66) = false := by rw [beq_eq_false_iff_ne]; exact h
   have q2 : (c != 66) = true := by rw [bne_iff_ne]; exact h
   clear hS1 hS2
   go_enter Tryz.func28, Tryz.ntmps28
   go_wp2_with fail
   go_ret
   exact ⟨by rw [hS.out]; rfl, Below.refl _ _⟩
theorem rform_2 (n cap b off S : Nat) (x y : Int) (g0 : (0 : Int) < n) (g1 : (1 : Int) < n) (e0 : ((n : Int) == 0) = false) (e1 : ((n : Int) == 1) = false) (w : World) (c0 : w.cell? ⟨b, off, none⟩ = some (.int .u8 x)) (c1 : w.cell? ⟨b, off + 1, none⟩ = some (.int .u8 y)) (hS1 : x ≠ 66 ∨ y ≠ 77 → S = 21) (hS2 : x = 66 → y = 77 → S = 20) (h : x ≠ 66 ∨ y ≠ 77 ∨ (n : Int) < 54) : Calls Tryz.prog 28 #[.slice (some ⟨b, off, none⟩) n cap] w (GiveV S w) := by
 by_cases hx : x = 66
 · by_cases hy : y = 77
   · have hS := Hi (hS2 hx hy)
     have g2 : (n : Int) < 54 := by omega
     subst hx
     subst hy
     clear hS1 hS2 h
     go_enter Tryz.func28, Tryz.ntmps28
     go_wp2_with fail
     go_ret
     exact ⟨by rw [hS.out]; rfl, Below.refl _ _⟩
   · have hS := Hi (hS1 (.inr hy))
     have q2 : (y != 77) = true := by rw [bne_iff_ne]; exact hy
     subst hx
     clear hS1 hS2 h
     go_enter Tryz.func28, Tryz.ntmps28
     go_wp2_with fail
     go_ret
     exact ⟨by rw [hS.out]; rfl, Below.refl _ _⟩
 · have hS := Hi (hS1 (.inl hx))
   have q1 : (x == 66) = false := by rw [beq_eq_false_iff_ne]; exact hx
   have q2 : (x != 66) = true := by rw [bne_iff_ne]; exact hx
   clear hS1 hS2 h
   go_enter Tryz.func28, Tryz.ntmps28
   go_wp2_with fail
   go_ret
   exact ⟨by rw [hS.out]; rfl, Below.refl _ _⟩
theorem rform_3 (n cap b off S : Nat) (g0 : (0 : Int) < n) (g1 : (1 : Int) < n) (g2 : ¬ (n : Int) < 54) (e0 : ((n : Int) == 0) = false) (e1 : ((n : Int) == 1) = false) (w : World) (c0 : w.cell? ⟨b, off, none⟩ = some (.int .u8 66)) (c1 : w.cell? ⟨b, off + 1, none⟩ = some (.int .u8 77)) (v0 v1 v2 v3 v4 v5 v6 vb : Nat)
 (L0 : Hid (∀ w1, Below w.heap.size w w1 → Calls Tryz.prog 29 #[.slice (some ⟨b, off, none⟩) n cap, .int .i64 6, .int .i64 4] w1 (GiveV v0 w1)))
 (L1 : Hid (∀ w1, Below w.heap.size w w1 → Calls Tryz.prog 29 #[.slice (some ⟨b, off, none⟩) n cap, .int .i64 10, .int .i64 4] w1 (GiveV v1 w1)))
 (L2 : Hid (∀ w1, Below w.heap.size w w1 → Calls Tryz.prog 29 #[.slice (some ⟨b, off, none⟩) n cap, .int .i64 14, .int .i64 4] w1 (GiveV v2 w1)))
 (L3 : Hid (∀ w1, Below w.heap.size w w1 → Calls Tryz.prog 29 #[.slice (some ⟨b, off, none⟩) n cap, .int .i64 26, .int .i64 2] w1 (GiveV v3 w1)))
 (L4 : Hid (∀ w1, Below w.heap.size w w1 → Calls Tryz.prog 29 #[.slice (some ⟨b, off, none⟩) n cap, .int .i64 30, .int .i64 4] w1 (GiveV v4 w1)))
 (L5 : Hid (∀ w1, Below w.heap.size w w1 → Calls Tryz.prog 29 #[.slice (some ⟨b, off, none⟩) n cap, .int .i64 46, .int .i64 4] w1 (GiveV v5 w1)))
 (L6 : Hid (∀ w1, Below w.heap.size w w1 → Calls Tryz.prog 29 #[.slice (some ⟨b, off, none⟩) n cap, .int .i64 50, .int .i64 4] w1 (GiveV v6 w1)))
 (LB : Hid (∀ w1, Below w.heap.size w w1 → Calls Tryz.prog 29 #[.slice (some ⟨b, off, none⟩) n cap, .int .i64 28, .int .i64 2] w1 (GiveV vb w1)))
 (hS1 : Hid (¬ (v0 = 0 ∧ v1 = 54 ∧ v2 = 40 ∧ v3 = 1 ∧ v4 = 0 ∧ v5 = 0 ∧ v6 = 0) → S = 21)) (hS2 : Hid ((v0 = 0 ∧ v1 = 54 ∧ v2 = 40 ∧ v3 = 1 ∧ v4 = 0 ∧ v5 = 0 ∧ v6 = 0) → vb ≠ 24 → vb ≠ 32 → S = 21)) (hS3 : Hid ((v0 = 0 ∧ v1 = 54 ∧ v2 = 40 ∧ v3 = 1 ∧ v4 = 0 ∧ v5 = 0 ∧ v6 = 0) → vb = 24 ∨ vb = 32 → S = 0)) :
 Calls Tryz.prog 28 #[.slice (some ⟨b, off, none⟩) n cap] w (GiveV S w) := by
 have WA := Hi (fun w => rwants w)
 go_enter Tryz.func28, Tryz.ntmps28
 go_wp2_with fail
 have BB : Hid (Below w.heap.size w w) := Below.refl _ _
 refine (WA.out _).mono ?_
 rintro e w1 ⟨g, rfl, hb, hge, hF⟩
 replace BB := nx BB hb
 clear hb
 replace hF := Hi hF
 have hg := Hi hge
 clear hge
 go_wp2_with fail
 go_loopw [4, 39] (fun _ i wr => Hid ((i = .int .i64 0 ∧ True) ∨ (i = .int .i64 1 ∧ True ∧ v0 = 0) ∨ (i = .int .i64 2 ∧ True ∧ v0 = 0 ∧ v1 = 54) ∨ (i = .int .i64 3 ∧ True ∧ v0 = 0 ∧ v1 = 54 ∧ v2 = 40) ∨ (i = .int .i64 4 ∧ True ∧ v0 = 0 ∧ v1 = 54 ∧ v2 = 40 ∧ v3 = 1) ∨ (i = .int .i64 5 ∧ True ∧ v0 = 0 ∧ v1 = 54 ∧ v2 = 40 ∧ v3 = 1 ∧ v4 = 0) ∨ (i = .int .i64 6 ∧ True ∧ v0 = 0 ∧ v1 = 54 ∧ v2 = 40 ∧ v3 = 1 ∧ v4 = 0 ∧ v5 = 0) ∨ (i = .int .i64 7 ∧ True ∧ v0 = 0 ∧ v1 = 54 ∧ v2 = 40 ∧ v3 = 1 ∧ v4 = 0 ∧ v5 = 0 ∧ v6 = 0)) ∧ AtB wr g wnC WnT ∧ Below w.heap.size w wr) (fun _ i _ => 7 - (RowKit.intOf i).toNat)
 case atStart => exact ⟨by exact .inl ⟨rfl, trivial⟩, hF.out, BB.out⟩
 case round =>
  clear BB hF c0 c1 e0 e1 g0 g1 g2
  obtain ⟨hd, hF, BB⟩ := hrel
  replace BB := Hi BB
  have lg := hF.lt
  rcases hd.out with ⟨rfl, -⟩ | ⟨rfl, -, o0⟩ | ⟨rfl, -, o0, o1⟩ | ⟨rfl, -, o0, o1, o2⟩ | ⟨rfl, -, o0, o1, o2, o3⟩ | ⟨rfl, -, o0, o1, o2, o3, o4⟩ | ⟨rfl, -, o0, o1, o2, o3, o4, o5⟩ | ⟨rfl, -, o0, o1, o2, o3, o4, o5, o6⟩
  · clear hd
    have LL := Hi (fun w9 (hb : Below wr.heap.size wr w9) => L0.out w9 (below_next BB.out hb))
    have d0 : wr.cell? ⟨g, 0, none⟩ = some (.int .i64 6) := hF.cell 0 rfl
    have d1 : wr.cell? ⟨g, 1, none⟩ = some (.int .i64 4) := hF.cell 1 rfl
    have d2 : wr.cell? ⟨g, 2, none⟩ = some (.int .i64 0) := hF.cell 2 rfl
    have HF := Hi hF
    by_cases hv : v0 = 0
    · have q : ((v0 : Int) != 0) = false := by rw [bne_eq_false_iff_eq]; omega
      replace hv := Hi hv
      go_upto_region 10 with fail
      have q4 := Hi (And.intro BB.out.size (True.intro))
      obtain ⟨w2, q0, e1, e2, hb, q3⟩ := bx wr #[.int .i64 6, .int .i64 4, .int .i64 0] WnT
      rw [e2] at q4; rw [e1, e2]
      replace HF := Hi (AtB.keep HF.out hb)
      replace BB := nx BB hb
      clear hb e1 e2
      have LL2 := Hi (fun w9 (hb : Below w2.heap.size w2 w9) => L0.out w9 (below_next BB.out hb))
      have KK := Hi (fun (w9 : World) (h : Below w2.heap.size w2 w9) => (cells3 (q3.out.keep h) : (w9.cell? ⟨q0, 0, none⟩ = some (.int .i64 6) ∧ w9.cell? ⟨q0, 1, none⟩ = some (.int .i64 4) ∧ w9.cell? ⟨q0, 2, none⟩ = some (.int .i64 0))))
      have K0 := KK.out w2 (Below.refl _ _)
      have KD := KK.out w2.drew (below_drew (Below.refl _ _))
      go_region_held3 (fun w9 => (w9.cell? ⟨q0, 0, none⟩ = some (.int .i64 6) ∧ w9.cell? ⟨q0, 1, none⟩ = some (.int .i64 4) ∧ w9.cell? ⟨q0, 2, none⟩ = some (.int .i64 0)))
       (first | with_reducible exact KD | with_reducible exact K0 | with_reducible exact qg)
       (first
         | (go_at_call 29
            refine (LL2.out _ ?_).mono ?_
            · repeat (first | with_reducible exact Below.refl _ _ | with_reducible apply below_drew | with_reducible apply below_new)
            rintro e w3 ⟨rfl, hb⟩
            have q9 := rn (w0 := w2) hb
            have qg := KK.out _ q9.out
            clear hb))
      clear KK K0 KD qg
      replace q3 := kp q3 q9.out
      replace HF := Hi (AtB.keep HF.out q9.out)
      replace BB := nx BB q9.out
      clear q9
      go_wp2_with fail
      go_roundw
      case rel => exact ⟨by exact .inr (.inl ⟨rfl, trivial, hv.out⟩), HF.out, BB.out⟩
      case measure => simp [RowKit.intOf]
    · have q : ((v0 : Int) != 0) = true := by rw [bne_iff_ne]; omega
      have hS := Hi (hS1.out (fun h => hv h.1))
      go_upto_region 10 with fail
      have q4 := Hi (And.intro BB.out.size (True.intro))
      obtain ⟨w2, q0, e1, e2, hb, q3⟩ := bx wr #[.int .i64 6, .int .i64 4, .int .i64 0] WnT
      rw [e2] at q4; rw [e1, e2]
      replace HF := Hi (AtB.keep HF.out hb)
      replace BB := nx BB hb
      clear hb e1 e2
      have LL2 := Hi (fun w9 (hb : Below w2.heap.size w2 w9) => L0.out w9 (below_next BB.out hb))
      have KK := Hi (fun (w9 : World) (h : Below w2.heap.size w2 w9) => (cells3 (q3.out.keep h) : (w9.cell? ⟨q0, 0, none⟩ = some (.int .i64 6) ∧ w9.cell? ⟨q0, 1, none⟩ = some (.int .i64 4) ∧ w9.cell? ⟨q0, 2, none⟩ = some (.int .i64 0))))
      have K0 := KK.out w2 (Below.refl _ _)
      have KD := KK.out w2.drew (below_drew (Below.refl _ _))
      go_region_held3 (fun w9 => (w9.cell? ⟨q0, 0, none⟩ = some (.int .i64 6) ∧ w9.cell? ⟨q0, 1, none⟩ = some (.int .i64 4) ∧ w9.cell? ⟨q0, 2, none⟩ = some (.int .i64 0)))
       (first | with_reducible exact KD | with_reducible exact K0 | with_reducible exact qg)
       (first
         | (go_at_call 29
            refine (LL2.out _ ?_).mono ?_
            · repeat (first | with_reducible exact Below.refl _ _ | with_reducible apply below_drew | with_reducible apply below_new)
            rintro e w3 ⟨rfl, hb⟩
            have q9 := rn (w0 := w2) hb
            have qg := KK.out _ q9.out
            clear hb))
      clear KK K0 KD qg
      replace q3 := kp q3 q9.out
      replace HF := Hi (AtB.keep HF.out q9.out)
      replace BB := nx BB q9.out
      clear q9
      go_wp2_with fail
      go_ret
      exact ⟨by rw [hS.out]; rfl, BB.out⟩
  · clear hd
    replace o0 := Hi o0
    have LL := Hi (fun w9 (hb : Below wr.heap.size wr w9) => L1.out w9 (below_next BB.out hb))
    have d0 : wr.cell? ⟨g, 3, none⟩ = some (.int .i64 10) := hF.cell 3 rfl
    have d1 : wr.cell? ⟨g, 4, none⟩ = some (.int .i64 4) := hF.cell 4 rfl
    have d2 : wr.cell? ⟨g, 5, none⟩ = some (.int .i64 54) := hF.cell 5 rfl
    have HF := Hi hF
    by_cases hv : v1 = 54
    · have q : ((v1 : Int) != 54) = false := by rw [bne_eq_false_iff_eq]; omega
      replace hv := Hi hv
      go_upto_region 10 with fail
      have q4 := Hi (And.intro BB.out.size (True.intro))
      obtain ⟨w4, q0, e1, e2, hb, q3⟩ := bx wr #[.int .i64 10, .int .i64 4, .int .i64 54] WnT
      rw [e2] at q4; rw [e1, e2]
      replace HF := Hi (AtB.keep HF.out hb)
      replace BB := nx BB hb
      clear hb e1 e2
      have LL2 := Hi (fun w9 (hb : Below w4.heap.size w4 w9) => L1.out w9 (below_next BB.out hb))
      have KK := Hi (fun (w9 : World) (h : Below w4.heap.size w4 w9) => (cells3 (q3.out.keep h) : (w9.cell? ⟨q0, 0, none⟩ = some (.int .i64 10) ∧ w9.cell? ⟨q0, 1, none⟩ = some (.int .i64 4) ∧ w9.cell? ⟨q0, 2, none⟩ = some (.int .i64 54))))
      have K0 := KK.out w4 (Below.refl _ _)
      have KD := KK.out w4.drew (below_drew (Below.refl _ _))
      go_region_held3 (fun w9 => (w9.cell? ⟨q0, 0, none⟩ = some (.int .i64 10) ∧ w9.cell? ⟨q0, 1, none⟩ = some (.int .i64 4) ∧ w9.cell? ⟨q0, 2, none⟩ = some (.int .i64 54)))
       (first | with_reducible exact KD | with_reducible exact K0 | with_reducible exact qh)
       (first
         | (go_at_call 29
            refine (LL2.out _ ?_).mono ?_
            · repeat (first | with_reducible exact Below.refl _ _ | with_reducible apply below_drew | with_reducible apply below_new)
            rintro e w5 ⟨rfl, hb⟩
            have qa := rn (w0 := w4) hb
            have qh := KK.out _ qa.out
            clear hb))
      clear KK K0 KD qh
      replace q3 := kp q3 qa.out
      replace HF := Hi (AtB.keep HF.out qa.out)
      replace BB := nx BB qa.out
      clear qa
      go_wp2_with fail
      go_roundw
      case rel => exact ⟨by exact .inr (.inr (.inl ⟨rfl, trivial, o0.out, hv.out⟩)), HF.out, BB.out⟩
      case measure => simp [RowKit.intOf]
    · have q : ((v1 : Int) != 54) = true := by rw [bne_iff_ne]; omega
      have hS := Hi (hS1.out (fun h => hv h.2.1))
      go_upto_region 10 with fail
      have q4 := Hi (And.intro BB.out.size (True.intro))
      obtain ⟨w4, q0, e1, e2, hb, q3⟩ := bx wr #[.int .i64 10, .int .i64 4, .int .i64 54] WnT
      rw [e2] at q4; rw [e1, e2]
      replace HF := Hi (AtB.keep HF.out hb)
      replace BB := nx BB hb
      clear hb e1 e2
      have LL2 := Hi (fun w9 (hb : Below w4.heap.size w4 w9) => L1.out w9 (below_next BB.out hb))
      have KK := Hi (fun (w9 : World) (h : Below w4.heap.size w4 w9) => (cells3 (q3.out.keep h) : (w9.cell? ⟨q0, 0, none⟩ = some (.int .i64 10) ∧ w9.cell? ⟨q0, 1, none⟩ = some (.int .i64 4) ∧ w9.cell? ⟨q0, 2, none⟩ = some (.int .i64 54))))
      have K0 := KK.out w4 (Below.refl _ _)
      have KD := KK.out w4.drew (below_drew (Below.refl _ _))
      go_region_held3 (fun w9 => (w9.cell? ⟨q0, 0, none⟩ = some (.int .i64 10) ∧ w9.cell? ⟨q0, 1, none⟩ = some (.int .i64 4) ∧ w9.cell? ⟨q0, 2, none⟩ = some (.int .i64 54)))
       (first | with_reducible exact KD | with_reducible exact K0 | with_reducible exact qh)
       (first
         | (go_at_call 29
            refine (LL2.out _ ?_).mono ?_
            · repeat (first | with_reducible exact Below.refl _ _ | with_reducible apply below_drew | with_reducible apply below_new)
            rintro e w5 ⟨rfl, hb⟩
            have qa := rn (w0 := w4) hb
            have qh := KK.out _ qa.out
            clear hb))
      clear KK K0 KD qh
      replace q3 := kp q3 qa.out
      replace HF := Hi (AtB.keep HF.out qa.out)
      replace BB := nx BB qa.out
      clear qa
      go_wp2_with fail
      go_ret
      exact ⟨by rw [hS.out]; rfl, BB.out⟩
  · clear hd
    replace o0 := Hi o0
    replace o1 := Hi o1
    have LL := Hi (fun w9 (hb : Below wr.heap.size wr w9) => L2.out w9 (below_next BB.out hb))
    have d0 : wr.cell? ⟨g, 6, none⟩ = some (.int .i64 14) := hF.cell 6 rfl
    have d1 : wr.cell? ⟨g, 7, none⟩ = some (.int .i64 4) := hF.cell 7 rfl
    have d2 : wr.cell? ⟨g, 8, none⟩ = some (.int .i64 40) := hF.cell 8 rfl
    have HF := Hi hF
    by_cases hv : v2 = 40
    · have q : ((v2 : Int) != 40) = false := by rw [bne_eq_false_iff_eq]; omega
      replace hv := Hi hv
      go_upto_region 10 with fail
      have q4 := Hi (And.intro BB.out.size (True.intro))
      obtain ⟨w6, q0, e1, e2, hb, q3⟩ := bx wr #[.int .i64 14, .int .i64 4, .int .i64 40] WnT
      rw [e2] at q4; rw [e1, e2]
      replace HF := Hi (AtB.keep HF.out hb)
      replace BB := nx BB hb
      clear hb e1 e2
      have LL2 := Hi (fun w9 (hb : Below w6.heap.size w6 w9) => L2.out w9 (below_next BB.out hb))
      have KK := Hi (fun (w9 : World) (h : Below w6.heap.size w6 w9) => (cells3 (q3.out.keep h) : (w9.cell? ⟨q0, 0, none⟩ = some (.int .i64 14) ∧ w9.cell? ⟨q0, 1, none⟩ = some (.int .i64 4) ∧ w9.cell? ⟨q0, 2, none⟩ = some (.int .i64 40))))
      have K0 := KK.out w6 (Below.refl _ _)
      have KD := KK.out w6.drew (below_drew (Below.refl _ _))
      go_region_held3 (fun w9 => (w9.cell? ⟨q0, 0, none⟩ = some (.int .i64 14) ∧ w9.cell? ⟨q0, 1, none⟩ = some (.int .i64 4) ∧ w9.cell? ⟨q0, 2, none⟩ = some (.int .i64 40)))
       (first | with_reducible exact KD | with_reducible exact K0 | with_reducible exact qi)
       (first
         | (go_at_call 29
            refine (LL2.out _ ?_).mono ?_
            · repeat (first | with_reducible exact Below.refl _ _ | with_reducible apply below_drew | with_reducible apply below_new)
            rintro e w7 ⟨rfl, hb⟩
            have qb := rn (w0 := w6) hb
            have qi := KK.out _ qb.out
            clear hb))
      clear KK K0 KD qi
      replace q3 := kp q3 qb.out
      replace HF := Hi (AtB.keep HF.out qb.out)
      replace BB := nx BB qb.out
      clear qb
      go_wp2_with fail
      go_roundw
      case rel => exact ⟨by exact .inr (.inr (.inr (.inl ⟨rfl, trivial, o0.out, o1.out, hv.out⟩))), HF.out, BB.out⟩
      case measure => simp [RowKit.intOf]
    · have q : ((v2 : Int) != 40) = true := by rw [bne_iff_ne]; omega
      have hS := Hi (hS1.out (fun h => hv h.2.2.1))
      go_upto_region 10 with fail
      have q4 := Hi (And.intro BB.out.size (True.intro))
      obtain ⟨w6, q0, e1, e2, hb, q3⟩ := bx wr #[.int .i64 14, .int .i64 4, .int .i64 40] WnT
      rw [e2] at q4; rw [e1, e2]
      replace HF := Hi (AtB.keep HF.out hb)
      replace BB := nx BB hb
      clear hb e1 e2
      have LL2 := Hi (fun w9 (hb : Below w6.heap.size w6 w9) => L2.out w9 (below_next BB.out hb))
      have KK := Hi (fun (w9 : World) (h : Below w6.heap.size w6 w9) => (cells3 (q3.out.keep h) : (w9.cell? ⟨q0, 0, none⟩ = some (.int .i64 14) ∧ w9.cell? ⟨q0, 1, none⟩ = some (.int .i64 4) ∧ w9.cell? ⟨q0, 2, none⟩ = some (.int .i64 40))))
      have K0 := KK.out w6 (Below.refl _ _)
      have KD := KK.out w6.drew (below_drew (Below.refl _ _))
      go_region_held3 (fun w9 => (w9.cell? ⟨q0, 0, none⟩ = some (.int .i64 14) ∧ w9.cell? ⟨q0, 1, none⟩ = some (.int .i64 4) ∧ w9.cell? ⟨q0, 2, none⟩ = some (.int .i64 40)))
       (first | with_reducible exact KD | with_reducible exact K0 | with_reducible exact qi)
       (first
         | (go_at_call 29
            refine (LL2.out _ ?_).mono ?_
            · repeat (first | with_reducible exact Below.refl _ _ | with_reducible apply below_drew | with_reducible apply below_new)
            rintro e w7 ⟨rfl, hb⟩
            have qb := rn (w0 := w6) hb
            have qi := KK.out _ qb.out
            clear hb))
      clear KK K0 KD qi
      replace q3 := kp q3 qb.out
      replace HF := Hi (AtB.keep HF.out qb.out)
      replace BB := nx BB qb.out
      clear qb
      go_wp2_with fail
      go_ret
      exact ⟨by rw [hS.out]; rfl, BB.out⟩
  · clear hd
    replace o0 := Hi o0
    replace o1 := Hi o1
    replace o2 := Hi o2
    have LL := Hi (fun w9 (hb : Below wr.heap.size wr w9) => L3.out w9 (below_next BB.out hb))
    have d0 : wr.cell? ⟨g, 9, none⟩ = some (.int .i64 26) := hF.cell 9 rfl
    have d1 : wr.cell? ⟨g, 10, none⟩ = some (.int .i64 2) := hF.cell 10 rfl
    have d2 : wr.cell? ⟨g, 11, none⟩ = some (.int .i64 1) := hF.cell 11 rfl
    have HF := Hi hF
    by_cases hv : v3 = 1
    · have q : ((v3 : Int) != 1) = false := by rw [bne_eq_false_iff_eq]; omega
      replace hv := Hi hv
      go_upto_region 10 with fail
      have q4 := Hi (And.intro BB.out.size (True.intro))
      obtain ⟨w8, q0, e1, e2, hb, q3⟩ := bx wr #[.int .i64 26, .int .i64 2, .int .i64 1] WnT
      rw [e2] at q4; rw [e1, e2]
      replace HF := Hi (AtB.keep HF.out hb)
      replace BB := nx BB hb
      clear hb e1 e2
      have LL2 := Hi (fun w9 (hb : Below w8.heap.size w8 w9) => L3.out w9 (below_next BB.out hb))
      have KK := Hi (fun (w9 : World) (h : Below w8.heap.size w8 w9) => (cells3 (q3.out.keep h) : (w9.cell? ⟨q0, 0, none⟩ = some (.int .i64 26) ∧ w9.cell? ⟨q0, 1, none⟩ = some (.int .i64 2) ∧ w9.cell? ⟨q0, 2, none⟩ = some (.int .i64 1))))
      have K0 := KK.out w8 (Below.refl _ _)
      have KD := KK.out w8.drew (below_drew (Below.refl _ _))
      go_region_held3 (fun w9 => (w9.cell? ⟨q0, 0, none⟩ = some (.int .i64 26) ∧ w9.cell? ⟨q0, 1, none⟩ = some (.int .i64 2) ∧ w9.cell? ⟨q0, 2, none⟩ = some (.int .i64 1)))
       (first | with_reducible exact KD | with_reducible exact K0 | with_reducible exact qc)
       (first
         | (go_at_call 29
            refine (LL2.out _ ?_).mono ?_
            · repeat (first | with_reducible exact Below.refl _ _ | with_reducible apply below_drew | with_reducible apply below_new)
            rintro e w10 ⟨rfl, hb⟩
            have q5 := rn (w0 := w8) hb
            have qc := KK.out _ q5.out
            clear hb))
      clear KK K0 KD qc
      replace q3 := kp q3 q5.out
      replace HF := Hi (AtB.keep HF.out q5.out)
      replace BB := nx BB q5.out
      clear q5
      go_wp2_with fail
      go_roundw
      case rel => exact ⟨by exact .inr (.inr (.inr (.inr (.inl ⟨rfl, trivial, o0.out, o1.out, o2.out, hv.out⟩)))), HF.out, BB.out⟩
      case measure => simp [RowKit.intOf]
    · have q : ((v3 : Int) != 1) = true := by rw [bne_iff_ne]; omega
      have hS := Hi (hS1.out (fun h => hv h.2.2.2.1))
      go_upto_region 10 with fail
      have q4 := Hi (And.intro BB.out.size (True.intro))
      obtain ⟨w8, q0, e1, e2, hb, q3⟩ := bx wr #[.int .i64 26, .int .i64 2, .int .i64 1] WnT
      rw [e2] at q4; rw [e1, e2]
      replace HF := Hi (AtB.keep HF.out hb)
      replace BB := nx BB hb
      clear hb e1 e2
      have LL2 := Hi (fun w9 (hb : Below w8.heap.size w8 w9) => L3.out w9 (below_next BB.out hb))
      have KK := Hi (fun (w9 : World) (h : Below w8.heap.size w8 w9) => (cells3 (q3.out.keep h) : (w9.cell? ⟨q0, 0, none⟩ = some (.int .i64 26) ∧ w9.cell? ⟨q0, 1, none⟩ = some (.int .i64 2) ∧ w9.cell? ⟨q0, 2, none⟩ = some (.int .i64 1))))
      have K0 := KK.out w8 (Below.refl _ _)
      have KD := KK.out w8.drew (below_drew (Below.refl _ _))
      go_region_held3 (fun w9 => (w9.cell? ⟨q0, 0, none⟩ = some (.int .i64 26) ∧ w9.cell? ⟨q0, 1, none⟩ = some (.int .i64 2) ∧ w9.cell? ⟨q0, 2, none⟩ = some (.int .i64 1)))
       (first | with_reducible exact KD | with_reducible exact K0 | with_reducible exact qc)
       (first
         | (go_at_call 29
            refine (LL2.out _ ?_).mono ?_
            · repeat (first | with_reducible exact Below.refl _ _ | with_reducible apply below_drew | with_reducible apply below_new)
            rintro e w10 ⟨rfl, hb⟩
            have q5 := rn (w0 := w8) hb
            have qc := KK.out _ q5.out
            clear hb))
      clear KK K0 KD qc
      replace q3 := kp q3 q5.out
      replace HF := Hi (AtB.keep HF.out q5.out)
      replace BB := nx BB q5.out
      clear q5
      go_wp2_with fail
      go_ret
      exact ⟨by rw [hS.out]; rfl, BB.out⟩
  · clear hd
    replace o0 := Hi o0
    replace o1 := Hi o1
    replace o2 := Hi o2
    replace o3 := Hi o3
    have LL := Hi (fun w9 (hb : Below wr.heap.size wr w9) => L4.out w9 (below_next BB.out hb))
    have d0 : wr.cell? ⟨g, 12, none⟩ = some (.int .i64 30) := hF.cell 12 rfl
    have d1 : wr.cell? ⟨g, 13, none⟩ = some (.int .i64 4) := hF.cell 13 rfl
    have d2 : wr.cell? ⟨g, 14, none⟩ = some (.int .i64 0) := hF.cell 14 rfl
    have HF := Hi hF
    by_cases hv : v4 = 0
    · have q : ((v4 : Int) != 0) = false := by rw [bne_eq_false_iff_eq]; omega
      replace hv := Hi hv
      go_upto_region 10 with fail
      have q4 := Hi (And.intro BB.out.size (True.intro))
      obtain ⟨w11, q0, e1, e2, hb, q3⟩ := bx wr #[.int .i64 30, .int .i64 4, .int .i64 0] WnT
      rw [e2] at q4; rw [e1, e2]
      replace HF := Hi (AtB.keep HF.out hb)
      replace BB := nx BB hb
      clear hb e1 e2
      have LL2 := Hi (fun w9 (hb : Below w11.heap.size w11 w9) => L4.out w9 (below_next BB.out hb))
      have KK := Hi (fun (w9 : World) (h : Below w11.heap.size w11 w9) => (cells3 (q3.out.keep h) : (w9.cell? ⟨q0, 0, none⟩ = some (.int .i64 30) ∧ w9.cell? ⟨q0, 1, none⟩ = some (.int .i64 4) ∧ w9.cell? ⟨q0, 2, none⟩ = some (.int .i64 0))))
      have K0 := KK.out w11 (Below.refl _ _)
      have KD := KK.out w11.drew (below_drew (Below.refl _ _))
      go_region_held3 (fun w9 => (w9.cell? ⟨q0, 0, none⟩ = some (.int .i64 30) ∧ w9.cell? ⟨q0, 1, none⟩ = some (.int .i64 4) ∧ w9.cell? ⟨q0, 2, none⟩ = some (.int .i64 0)))
       (first | with_reducible exact KD | with_reducible exact K0 | with_reducible exact qd)
       (first
         | (go_at_call 29
            refine (LL2.out _ ?_).mono ?_
            · repeat (first | with_reducible exact Below.refl _ _ | with_reducible apply below_drew | with_reducible apply below_new)
            rintro e w12 ⟨rfl, hb⟩
            have q6 := rn (w0 := w11) hb
            have qd := KK.out _ q6.out
            clear hb))
      clear KK K0 KD qd
      replace q3 := kp q3 q6.out
      replace HF := Hi (AtB.keep HF.out q6.out)
      replace BB := nx BB q6.out
      clear q6
      go_wp2_with fail
      go_roundw
      case rel => exact ⟨by exact .inr (.inr (.inr (.inr (.inr (.inl ⟨rfl, trivial, o0.out, o1.out, o2.out, o3.out, hv.out⟩))))), HF.out, BB.out⟩
      case measure => simp [RowKit.intOf]
    · have q : ((v4 : Int) != 0) = true := by rw [bne_iff_ne]; omega
      have hS := Hi (hS1.out (fun h => hv h.2.2.2.2.1))
      go_upto_region 10 with fail
      have q4 := Hi (And.intro BB.out.size (True.intro))
      obtain ⟨w11, q0, e1, e2, hb, q3⟩ := bx wr #[.int .i64 30, .int .i64 4, .int .i64 0] WnT
      rw [e2] at q4; rw [e1, e2]
      replace HF := Hi (AtB.keep HF.out hb)
      replace BB := nx BB hb
      clear hb e1 e2
      have LL2 := Hi (fun w9 (hb : Below w11.heap.size w11 w9) => L4.out w9 (below_next BB.out hb))
      have KK := Hi (fun (w9 : World) (h : Below w11.heap.size w11 w9) => (cells3 (q3.out.keep h) : (w9.cell? ⟨q0, 0, none⟩ = some (.int .i64 30) ∧ w9.cell? ⟨q0, 1, none⟩ = some (.int .i64 4) ∧ w9.cell? ⟨q0, 2, none⟩ = some (.int .i64 0))))
      have K0 := KK.out w11 (Below.refl _ _)
      have KD := KK.out w11.drew (below_drew (Below.refl _ _))
      go_region_held3 (fun w9 => (w9.cell? ⟨q0, 0, none⟩ = some (.int .i64 30) ∧ w9.cell? ⟨q0, 1, none⟩ = some (.int .i64 4) ∧ w9.cell? ⟨q0, 2, none⟩ = some (.int .i64 0)))
       (first | with_reducible exact KD | with_reducible exact K0 | with_reducible exact qd)
       (first
         | (go_at_call 29
            refine (LL2.out _ ?_).mono ?_
            · repeat (first | with_reducible exact Below.refl _ _ | with_reducible apply below_drew | with_reducible apply below_new)
            rintro e w12 ⟨rfl, hb⟩
            have q6 := rn (w0 := w11) hb
            have qd := KK.out _ q6.out
            clear hb))
      clear KK K0 KD qd
      replace q3 := kp q3 q6.out
      replace HF := Hi (AtB.keep HF.out q6.out)
      replace BB := nx BB q6.out
      clear q6
      go_wp2_with fail
      go_ret
      exact ⟨by rw [hS.out]; rfl, BB.out⟩
  · clear hd
    replace o0 := Hi o0
    replace o1 := Hi o1
    replace o2 := Hi o2
    replace o3 := Hi o3
    replace o4 := Hi o4
    have LL := Hi (fun w9 (hb : Below wr.heap.size wr w9) => L5.out w9 (below_next BB.out hb))
    have d0 : wr.cell? ⟨g, 15, none⟩ = some (.int .i64 46) := hF.cell 15 rfl
    have d1 : wr.cell? ⟨g, 16, none⟩ = some (.int .i64 4) := hF.cell 16 rfl
    have d2 : wr.cell? ⟨g, 17, none⟩ = some (.int .i64 0) := hF.cell 17 rfl
    have HF := Hi hF
    by_cases hv : v5 = 0
    · have q : ((v5 : Int) != 0) = false := by rw [bne_eq_false_iff_eq]; omega
      replace hv := Hi hv
      go_upto_region 10 with fail
      have q4 := Hi (And.intro BB.out.size (True.intro))
      obtain ⟨w13, q0, e1, e2, hb, q3⟩ := bx wr #[.int .i64 46, .int .i64 4, .int .i64 0] WnT
      rw [e2] at q4; rw [e1, e2]
      replace HF := Hi (AtB.keep HF.out hb)
      replace BB := nx BB hb
      clear hb e1 e2
      have LL2 := Hi (fun w9 (hb : Below w13.heap.size w13 w9) => L5.out w9 (below_next BB.out hb))
      have KK := Hi (fun (w9 : World) (h : Below w13.heap.size w13 w9) => (cells3 (q3.out.keep h) : (w9.cell? ⟨q0, 0, none⟩ = some (.int .i64 46) ∧ w9.cell? ⟨q0, 1, none⟩ = some (.int .i64 4) ∧ w9.cell? ⟨q0, 2, none⟩ = some (.int .i64 0))))
      have K0 := KK.out w13 (Below.refl _ _)
      have KD := KK.out w13.drew (below_drew (Below.refl _ _))
      go_region_held3 (fun w9 => (w9.cell? ⟨q0, 0, none⟩ = some (.int .i64 46) ∧ w9.cell? ⟨q0, 1, none⟩ = some (.int .i64 4) ∧ w9.cell? ⟨q0, 2, none⟩ = some (.int .i64 0)))
       (first | with_reducible exact KD | with_reducible exact K0 | with_reducible exact qe)
       (first
         | (go_at_call 29
            refine (LL2.out _ ?_).mono ?_
            · repeat (first | with_reducible exact Below.refl _ _ | with_reducible apply below_drew | with_reducible apply below_new)
            rintro e w14 ⟨rfl, hb⟩
            have q7 := rn (w0 := w13) hb
            have qe := KK.out _ q7.out
            clear hb))
      clear KK K0 KD qe
      replace q3 := kp q3 q7.out
      replace HF := Hi (AtB.keep HF.out q7.out)
      replace BB := nx BB q7.out
      clear q7
      go_wp2_with fail
      go_roundw
      case rel => exact ⟨by exact .inr (.inr (.inr (.inr (.inr (.inr (.inl ⟨rfl, trivial, o0.out, o1.out, o2.out, o3.out, o4.out, hv.out⟩)))))), HF.out, BB.out⟩
      case measure => simp [RowKit.intOf]
    · have q : ((v5 : Int) != 0) = true := by rw [bne_iff_ne]; omega
      have hS := Hi (hS1.out (fun h => hv h.2.2.2.2.2.1))
      go_upto_region 10 with fail
      have q4 := Hi (And.intro BB.out.size (True.intro))
      obtain ⟨w13, q0, e1, e2, hb, q3⟩ := bx wr #[.int .i64 46, .int .i64 4, .int .i64 0] WnT
      rw [e2] at q4; rw [e1, e2]
      replace HF := Hi (AtB.keep HF.out hb)
      replace BB := nx BB hb
      clear hb e1 e2
      have LL2 := Hi (fun w9 (hb : Below w13.heap.size w13 w9) => L5.out w9 (below_next BB.out hb))
      have KK := Hi (fun (w9 : World) (h : Below w13.heap.size w13 w9) => (cells3 (q3.out.keep h) : (w9.cell? ⟨q0, 0, none⟩ = some (.int .i64 46) ∧ w9.cell? ⟨q0, 1, none⟩ = some (.int .i64 4) ∧ w9.cell? ⟨q0, 2, none⟩ = some (.int .i64 0))))
      have K0 := KK.out w13 (Below.refl _ _)
      have KD := KK.out w13.drew (below_drew (Below.refl _ _))
      go_region_held3 (fun w9 => (w9.cell? ⟨q0, 0, none⟩ = some (.int .i64 46) ∧ w9.cell? ⟨q0, 1, none⟩ = some (.int .i64 4) ∧ w9.cell? ⟨q0, 2, none⟩ = some (.int .i64 0)))
       (first | with_reducible exact KD | with_reducible exact K0 | with_reducible exact qe)
       (first
         | (go_at_call 29
            refine (LL2.out _ ?_).mono ?_
            · repeat (first | with_reducible exact Below.refl _ _ | with_reducible apply below_drew | with_reducible apply below_new)
            rintro e w14 ⟨rfl, hb⟩
            have q7 := rn (w0 := w13) hb
            have qe := KK.out _ q7.out
            clear hb))
      clear KK K0 KD qe
      replace q3 := kp q3 q7.out
      replace HF := Hi (AtB.keep HF.out q7.out)
      replace BB := nx BB q7.out
      clear q7
      go_wp2_with fail
      go_ret
      exact ⟨by rw [hS.out]; rfl, BB.out⟩
  · clear hd
    replace o0 := Hi o0
    replace o1 := Hi o1
    replace o2 := Hi o2
    replace o3 := Hi o3
    replace o4 := Hi o4
    replace o5 := Hi o5
    have LL := Hi (fun w9 (hb : Below wr.heap.size wr w9) => L6.out w9 (below_next BB.out hb))
    have d0 : wr.cell? ⟨g, 18, none⟩ = some (.int .i64 50) := hF.cell 18 rfl
    have d1 : wr.cell? ⟨g, 19, none⟩ = some (.int .i64 4) := hF.cell 19 rfl
    have d2 : wr.cell? ⟨g, 20, none⟩ = some (.int .i64 0) := hF.cell 20 rfl
    have HF := Hi hF
    by_cases hv : v6 = 0
    · have q : ((v6 : Int) != 0) = false := by rw [bne_eq_false_iff_eq]; omega
      replace hv := Hi hv
      go_upto_region 10 with fail
      have q4 := Hi (And.intro BB.out.size (True.intro))
      obtain ⟨w15, q0, e1, e2, hb, q3⟩ := bx wr #[.int .i64 50, .int .i64 4, .int .i64 0] WnT
      rw [e2] at q4; rw [e1, e2]
      replace HF := Hi (AtB.keep HF.out hb)
      replace BB := nx BB hb
      clear hb e1 e2
      have LL2 := Hi (fun w9 (hb : Below w15.heap.size w15 w9) => L6.out w9 (below_next BB.out hb))
      have KK := Hi (fun (w9 : World) (h : Below w15.heap.size w15 w9) => (cells3 (q3.out.keep h) : (w9.cell? ⟨q0, 0, none⟩ = some (.int .i64 50) ∧ w9.cell? ⟨q0, 1, none⟩ = some (.int .i64 4) ∧ w9.cell? ⟨q0, 2, none⟩ = some (.int .i64 0))))
      have K0 := KK.out w15 (Below.refl _ _)
      have KD := KK.out w15.drew (below_drew (Below.refl _ _))
      go_region_held3 (fun w9 => (w9.cell? ⟨q0, 0, none⟩ = some (.int .i64 50) ∧ w9.cell? ⟨q0, 1, none⟩ = some (.int .i64 4) ∧ w9.cell? ⟨q0, 2, none⟩ = some (.int .i64 0)))
       (first | with_reducible exact KD | with_reducible exact K0 | with_reducible exact qf)
       (first
         | (go_at_call 29
            refine (LL2.out _ ?_).mono ?_
            · repeat (first | with_reducible exact Below.refl _ _ | with_reducible apply below_drew | with_reducible apply below_new)
            rintro e w16 ⟨rfl, hb⟩
            have q8 := rn (w0 := w15) hb
            have qf := KK.out _ q8.out
            clear hb))
      clear KK K0 KD qf
      replace q3 := kp q3 q8.out
      replace HF := Hi (AtB.keep HF.out q8.out)
      replace BB := nx BB q8.out
      clear q8
      go_wp2_with fail
      go_roundw
      case rel => exact ⟨by exact .inr (.inr (.inr (.inr (.inr (.inr (.inr (⟨rfl, trivial, o0.out, o1.out, o2.out, o3.out, o4.out, o5.out, hv.out⟩))))))), HF.out, BB.out⟩
      case measure => simp [RowKit.intOf]
    · have q : ((v6 : Int) != 0) = true := by rw [bne_iff_ne]; omega
      have hS := Hi (hS1.out (fun h => hv h.2.2.2.2.2.2))
      go_upto_region 10 with fail
      have q4 := Hi (And.intro BB.out.size (True.intro))
      obtain ⟨w15, q0, e1, e2, hb, q3⟩ := bx wr #[.int .i64 50, .int .i64 4, .int .i64 0] WnT
      rw [e2] at q4; rw [e1, e2]
      replace HF := Hi (AtB.keep HF.out hb)
      replace BB := nx BB hb
      clear hb e1 e2
      have LL2 := Hi (fun w9 (hb : Below w15.heap.size w15 w9) => L6.out w9 (below_next BB.out hb))
      have KK := Hi (fun (w9 : World) (h : Below w15.heap.size w15 w9) => (cells3 (q3.out.keep h) : (w9.cell? ⟨q0, 0, none⟩ = some (.int .i64 50) ∧ w9.cell? ⟨q0, 1, none⟩ = some (.int .i64 4) ∧ w9.cell? ⟨q0, 2, none⟩ = some (.int .i64 0))))
      have K0 := KK.out w15 (Below.refl _ _)
      have KD := KK.out w15.drew (below_drew (Below.refl _ _))
      go_region_held3 (fun w9 => (w9.cell? ⟨q0, 0, none⟩ = some (.int .i64 50) ∧ w9.cell? ⟨q0, 1, none⟩ = some (.int .i64 4) ∧ w9.cell? ⟨q0, 2, none⟩ = some (.int .i64 0)))
       (first | with_reducible exact KD | with_reducible exact K0 | with_reducible exact qf)
       (first
         | (go_at_call 29
            refine (LL2.out _ ?_).mono ?_
            · repeat (first | with_reducible exact Below.refl _ _ | with_reducible apply below_drew | with_reducible apply below_new)
            rintro e w16 ⟨rfl, hb⟩
            have q8 := rn (w0 := w15) hb
            have qf := KK.out _ q8.out
            clear hb))
      clear KK K0 KD qf
      replace q3 := kp q3 q8.out
      replace HF := Hi (AtB.keep HF.out q8.out)
      replace BB := nx BB q8.out
      clear q8
      go_wp2_with fail
      go_ret
      exact ⟨by rw [hS.out]; rfl, BB.out⟩
  · clear hd
    have hall : v0 = 0 ∧ v1 = 54 ∧ v2 = 40 ∧ v3 = 1 ∧ v4 = 0 ∧ v5 = 0 ∧ v6 = 0 := ⟨o0, o1, o2, o3, o4, o5, o6⟩
    replace hall := Hi hall
    clear o0 o1 o2 o3 o4 o5 o6 hF L0 L1 L2 L3 L4 L5 L6
    by_cases hv : vb = 24
    · have q : ((vb : Int) != 24) = false := by rw [bne_eq_false_iff_eq]; omega
      have hS := Hi (hS3.out hall.out (.inl hv))
      go_wp2_with fail
      refine (LB.out _ BB.out).mono ?_
      rintro e w17 ⟨rfl, hb⟩
      replace BB := nx BB hb
      clear hb
      go_wp2_with fail
      go_ret
      exact ⟨by rw [hS.out]; rfl, BB.out⟩
    · have q : ((vb : Int) != 24) = true := by rw [bne_iff_ne]; omega
      by_cases hv2 : vb = 32
      · have q2 : ((vb : Int) != 32) = false := by rw [bne_eq_false_iff_eq]; omega
        have hS := Hi (hS3.out hall.out (.inr hv2))
        go_wp2_with fail
        refine (LB.out _ BB.out).mono ?_
        rintro e w17 ⟨rfl, hb⟩
        replace BB := nx BB hb
        clear hb
        go_wp2_with fail
        refine (LB.out _ BB.out).mono ?_
        rintro e w18 ⟨rfl, hb⟩
        replace BB := nx BB hb
        clear hb
        go_wp2_with fail
        go_ret
        exact ⟨by rw [hS.out]; rfl, BB.out⟩
      · have q2 : ((vb : Int) != 32) = true := by rw [bne_iff_ne]; omega
        have hS := Hi (hS2.out hall.out hv hv2)
        go_wp2_with fail
        refine (LB.out _ BB.out).mono ?_
        rintro e w17 ⟨rfl, hb⟩
        replace BB := nx BB hb
        clear hb
        go_wp2_with fail
        refine (LB.out _ BB.out).mono ?_
        rintro e w18 ⟨rfl, hb⟩
        replace BB := nx BB hb
        clear hb
        go_wp2_with fail
        go_ret
        exact ⟨by rw [hS.out]; rfl, BB.out⟩
theorem rform (v : Value) (l : List UInt8) (hl : l.length ≤ 100000000) (w : World) (h : BY w v l) : Calls Tryz.prog 28 #[v] w (GiveV (bmpF l) w) := by
 obtain ⟨A, cap, e⟩ := h.form
 subst e
 match l, hl, h with
 | [], _, _ => exact rform_0 0 cap A rfl w
 | [c], _, h =>
   obtain ⟨b, off, c', e, -, -, -, hc⟩ := h.some (by simp)
   simp only [Value.slice.injEq] at e
   obtain ⟨rfl, -, -⟩ := e
   have ne : ∀ {x y : UInt8}, (x.toNat : Int) = (y.toNat : Int) → x = y := fun h => UInt8.toNat.inj (by omega)
   refine rform_1 1 cap b off _ (c.toNat : Int) rfl w (hc 0 (by simp)) (fun e => ?_) (fun e => ?_)
   · obtain rfl : c = 66 := ne e
     rfl
   · have hne : c ≠ 66 := fun h => e (by rw [h]; rfl)
     unfold bmpF
     rw [if_neg (by simp [hne]), if_pos (.inl (by simp [hne]))]
 | x :: y :: t, hl, h =>
   obtain ⟨b, off, c', e, -, -, -, hc⟩ := h.some (by simp)
   simp only [Value.slice.injEq] at e
   obtain ⟨rfl, -, -⟩ := e
   have ne : ∀ {x y : UInt8}, (x.toNat : Int) = (y.toNat : Int) → x = y := fun h => UInt8.toNat.inj (by omega)
   have hx : (x.toNat : Int) = 66 ↔ x = 66 := ⟨fun e => ne e, fun e => by rw [e]; rfl⟩
   have hy : (y.toNat : Int) = 77 ↔ y = 77 := ⟨fun e => ne e, fun e => by rw [e]; rfl⟩
   have c0 : w.cell? ⟨b, off, none⟩ = some (.int .u8 (x.toNat : Int)) := hc 0 (by simp)
   have c1 : w.cell? ⟨b, off + 1, none⟩ = some (.int .u8 (y.toNat : Int)) := hc 1 (by simp)
   have LW := fun t m hm ht w1 (hb : Below w.heap.size w w1) => rlow _ _ cap b off rfl hl w1 (h.below hb) t m hm ht
   have hF : bmpF (x :: y :: t) = if x ≠ 66 ∨ y ≠ 77 then 21 else if (x :: y :: t).length < 54 then 20 else
    if hdB (x :: y :: t) 6 4 ≠ 0 ∨ hdB (x :: y :: t) 10 4 ≠ 54 ∨ hdB (x :: y :: t) 14 4 ≠ 40 ∨ hdB (x :: y :: t) 26 2 ≠ 1 ∨ hdB (x :: y :: t) 30 4 ≠ 0 ∨ hdB (x :: y :: t) 46 4 ≠ 0 ∨ hdB (x :: y :: t) 50 4 ≠ 0 then 21 else
    if hdB (x :: y :: t) 28 2 ≠ 24 ∧ hdB (x :: y :: t) 28 2 ≠ 32 then 21 else 0 := by
    unfold bmpF
    rw [if_neg (by simp)]
    simp
   have hlen : 2 ≤ (x :: y :: t).length := by simp
   generalize x :: y :: t = l at *
   by_cases h2 : x ≠ 66 ∨ y ≠ 77 ∨ l.length < 54
   · refine rform_2 _ cap b off _ _ _ (by omega) (by omega) (by rw [beq_eq_false_iff_ne]; omega) (by rw [beq_eq_false_iff_ne]; omega) w c0 c1 (fun e => ?_) (fun e1 e2 => ?_) ?_
     · rw [hF, if_pos (e.imp (fun h k => h (hx.2 k)) (fun h k => h (hy.2 k)))]
     · rw [hF, if_neg (by rw [hx] at e1; rw [hy] at e2; simp [e1, e2]), if_pos (by rw [hx] at e1; rw [hy] at e2; simpa [e1, e2] using h2)]
     · rcases h2 with h2 | h2 | h2
       · exact .inl (fun e => h2 (hx.1 e))
       · exact .inr (.inl (fun e => h2 (hy.1 e)))
       · exact .inr (.inr (by omega))
   · have hx1 : x = 66 := by by_cases h : x = 66; exact h; exact absurd (.inl h) h2
     have hy1 : y = 77 := by by_cases h : y = 77; exact h; exact absurd (.inr (.inl h)) h2
     have hl54 : ¬ l.length < 54 := fun h => h2 (.inr (.inr h))
     rw [hx.2 hx1] at c0
     rw [hy.2 hy1] at c1
     rw [if_neg (by simp [hx1, hy1]), if_neg hl54] at hF
     refine rform_3 _ cap b off _ (by omega) (by omega) (by omega) (by rw [beq_eq_false_iff_ne]; omega) (by rw [beq_eq_false_iff_ne]; omega) w c0 c1 (hdB l 6 4) (hdB l 10 4) (hdB l 14 4) (hdB l 26 2) (hdB l 30 4) (hdB l 46 4) (hdB l 50 4) (hdB l 28 2)
      (Hi (LW 6 4 (by omega) (by omega))) (Hi (LW 10 4 (by omega) (by omega))) (Hi (LW 14 4 (by omega) (by omega))) (Hi (LW 26 2 (by omega) (by omega))) (Hi (LW 30 4 (by omega) (by omega))) (Hi (LW 46 4 (by omega) (by omega))) (Hi (LW 50 4 (by omega) (by omega))) (Hi (LW 28 2 (by omega) (by omega)))
      (Hi fun h => ?_) (Hi fun h h1 h2 => ?_) (Hi fun h h1 => ?_)
     · rw [hF, if_pos (by omega)]
     · rw [hF, if_neg (by omega), if_pos ⟨h1, h2⟩]
     · rw [hF, if_neg (by omega), if_neg (by omega)]
attribute [go_sem] Tryz.results27
/-- Three more bytes onto a row of one's own. -/
theorem app_three (wr : World) (base : Nat) (u : Value) (L : List UInt8) (c d e : UInt8) (h : wr.ownsRow base U8T 1 u L.length (uV L)) (hl : L.length ≤ 100000000) (hbase : base ≤ wr.heap.size) :
 ∃ g cap w', (∀ ty, (Builtin.append_ #[BLT, BLT] ty #[u, .slice (some ⟨wr.heap.size, 0, none⟩) 3 3]).run Tryz.prog (wr.alloc (.cells #[.int .u8 (c.toNat : Int), .int .u8 (d.toNat : Int), .int .u8 (e.toNat : Int)] U8T)) = .ok (.slice (some ⟨g, 0, none⟩) (L.length + 3) cap) w') ∧
   w'.ownsRow base U8T 1 (.slice (some ⟨g, 0, none⟩) (L.length + 3) cap) (L ++ [c, d, e]).length (uV (L ++ [c, d, e])) ∧ (wr.alloc (.cells #[.int .u8 (c.toNat : Int), .int .u8 (d.toNat : Int), .int .u8 (e.toNat : Int)] U8T)).grownBy w' u.ownBlock := by
 obtain ⟨i0, hi0, hz0, hz1, hz2⟩ := info_parts info_u8
 have hnew : ∀ j v, (uV [c, d, e])[j]? = some v → (wr.alloc (.cells #[.int .u8 (c.toNat : Int), .int .u8 (d.toNat : Int), .int .u8 (e.toNat : Int)] U8T)).cell? ((⟨wr.heap.size, 0, none⟩ : Addr).add j) = some v := by
  intro j v hj
  have hb := new_at wr #[.int .u8 (c.toNat : Int), .int .u8 (d.toNat : Int), .int .u8 (e.toNat : Int)] U8T
  have hjl : j < 3 := (List.getElem?_eq_some_iff.1 hj).1
  rw [addr_add, Nat.zero_add]
  match j, hjl with
  | 0, _ => cases hj; exact hb.cell 0 rfl
  | 1, _ => cases hj; exact hb.cell 1 rfl
  | 2, _ => cases hj; exact hb.cell 2 rfl
 have huv : uV (L ++ [c, d, e]) = uV L ++ uV [c, d, e] := by simp [uV]
 obtain ⟨g, cap, w', hr, hown, hgr, hat, -⟩ := run_append_lies (P := Tryz.prog) (wr.alloc (.cells #[.int .u8 (c.toNat : Int), .int .u8 (d.toNat : Int), .int .u8 (e.toNat : Int)] U8T)) BLT BLT base U8T i0 (.int .u8 0) 1 1 Tryz.underlying22 hi0 hz0 hz1 hz2 rfl (by decide) u L.length (uV L) (h.alloc _) ⟨wr.heap.size, 0, none⟩ 3 3 (uV [c, d, e]) rfl hnew (uV_one [c, d, e]) (by decide) (by unfold maxLen; omega) (by omega) (by simp; omega) _ rfl
 refine ⟨g, cap, w', fun ty => hr, ?_, hgr⟩
 rw [huv, List.length_append]
 exact hown
def GiveRim (R : Nat × Nat × Nat × Nat × List UInt8) (w : World) (e : Ending) (w' : World) : Prop :=
 ∃ (X Y Z : Int) (v : Value), e = .returned (.tuple #[imv X Y Z v, .int .i64 (R.1 : Int)]) ∧ Below w.heap.size w w' ∧ (∃ A n cap, v = .slice A n cap) ∧ (R.1 ≠ 0 → X = 0 ∧ Y = 0 ∧ Z = 0 ∧ v = .slice none 0 0) ∧
   (R.1 = 0 → X = (R.2.1 : Int) ∧ Y = (R.2.2.1 : Int) ∧ Z = (R.2.2.2.1 : Int) ∧ BY w' v R.2.2.2.2)
theorem rmade (X Y Z : Int) (A : Option Addr) (n cap : Nat) (w : World) : Calls Tryz.prog 27 #[.int .i64 X, .int .i64 Y, .int .i64 Z, .slice A n cap] w fun e w' => e = .returned (imv X Y Z (.slice A n cap)) ∧ Below w.heap.size w w' := by
 go_enter Tryz.func27, Tryz.ntmps27
 go_upto_region 1 with fail
 obtain ⟨w0, e, BB, q0⟩ := en1 w #[.int .i64 0, .int .i64 0, .int .i64 0, .slice none 0 0] IT
 rw [e]; clear e
 obtain ⟨q1, q2, q3, q4, q5, q6, q7, q8⟩ := reads4 q0.out
 have q9 := q0.out.lt
 go_wp2_with fail
 clear q1 q2 q3 q4 q5 q6 q7 q8 q9
 have F := st4 q0 BB 0 (.int .i64 X) 1 (.int .i64 Y) 2 (.int .i64 Z) 3 (.slice A n cap)
 clear q0 BB
 obtain ⟨w1, e, q0, BB, F⟩ := F
 rw [e]; clear e
 clear F
 obtain ⟨q1, q2, q3, q4, q5, q6, q7, q8⟩ := reads4 q0.out
 have q9 := q0.out.lt
 refine bret (imv X Y Z (.slice A n cap)) ?_
 exact ⟨rfl, BB.out⟩
theorem routs (ga oa ca gb ob cb : Nat) (u v : Value) (l : List UInt8) (w : World) (ha : ga < w.heap.size) (hb : gb < w.heap.size) (c0 : w.cell? ⟨ga, oa, none⟩ = some u) (d0 : w.cell? ⟨gb, ob, none⟩ = some v) (hu : BY w u l) (hv : BY w v l) :
 Calls Tryz.prog 20 #[.slice (some ⟨ga, oa, none⟩) 1 ca, .slice (some ⟨gb, ob, none⟩) 1 cb] w fun e w' => e = .returned (.bool true) ∧ Below w.heap.size w w' := by
 have C1 := Lib.hid (fun w1 (h : Below w.heap.size w w1) => (h.cell (p := ⟨ga, oa, none⟩) ha).trans c0)
 have C2 := Lib.hid (fun w1 (h : Below w.heap.size w w1) => (h.cell (p := ⟨gb, ob, none⟩) hb).trans d0)
 have K1 := Lib.hid (fun w1 (h : Below w.heap.size w w1) => conv_by (hu.below h))
 have K2 := Lib.hid (fun w1 (h : Below w.heap.size w w1) => conv_by (hv.below h))
 clear hu hv c0 d0 ha hb
 generalize strOfNums (uI l) = s at *
 go_enter Tryz.func20, Tryz.ntmps20
 go_wp2_with fail
 go_loopw [5] (fun i wr => (i = .int .i64 0 ∨ i = .int .i64 1) ∧ Hid (Below w.heap.size w wr)) (fun i _ => 1 - (RowKit.intOf i).toNat)
 case atStart => exact ⟨.inl rfl, Below.refl _ _⟩
 case round =>
  obtain ⟨hi, BB⟩ := hrel
  rcases hi with rfl | rfl
  · have c0 := C1.out wr BB.out
    have d0 := C2.out wr BB.out
    have k1 := fun n => K1.out (wr.drewN n) (below_drawn BB.out n)
    have k2 := fun n => K2.out (wr.drewN n) (below_drawn BB.out n)
    go_wp2_with fail
    go_quiet (fail)
    go_wp2_with fail
    go_roundw
    case rel => exact ⟨.inr rfl, below_drawn BB.out _⟩
    case measure => simp [RowKit.intOf]
  · go_wp2_with fail
    go_ret
    exact ⟨rfl, BB.out⟩
abbrev FmT : TypeId := 100
abbrev CmT : TypeId := 59
def fnV (k : Nat) : Value := .func (.func k) #[] #[]
def numV (z : Int) : Value := .func (.func 54) #[.int .i64 z] #[]
def richV (a b : Int) : Value := .func (.func 56) #[.agg #[.int .i64 a, .int .i64 b]] #[]
def fmC : Array Value := #[
 .string ⟨#[108, 111, 97, 100]⟩, .int .i64 1, fnV 53, numV 1,
 .string ⟨#[115, 105, 122, 101]⟩, .int .i64 2, fnV 53, numV 2,
 .string ⟨#[107, 101, 114, 110, 101, 108]⟩, .int .i64 3, fnV 55, richV 3 1,
 .string ⟨#[98, 111, 114, 100, 101, 114]⟩, .int .i64 4, fnV 57, richV 0 4,
 .string ⟨#[109, 105, 112, 115]⟩, .int .i64 5, fnV 53, numV 1,
 .string ⟨#[116, 105, 108, 101]⟩, .int .i64 6, fnV 53, numV 2,
 .string ⟨#[99, 97, 99, 104, 101]⟩, .int .i64 7, fnV 53, numV 1,
 .string ⟨#[111, 114, 100, 101, 114]⟩, .int .i64 8, fnV 58, richV 5 1,
 .string ⟨#[115, 97, 118, 101]⟩, .int .i64 10, fnV 59, numV 0,
 .string ⟨#[116, 105, 110, 116]⟩, .int .i64 11, fnV 53, numV 1,
 .string ⟨#[99, 114, 111, 112]⟩, .int .i64 12, fnV 53, numV 4,
 .string ⟨#[98, 117, 100, 103, 101, 116]⟩, .int .i64 13, fnV 53, numV 1]
theorem cforms (w : World) : Calls Tryz.prog 36 #[] w fun e w' => ∃ fb, e = .returned (.slice (some ⟨fb, 0, none⟩) 12 12) ∧ Below w.heap.size w w' ∧ w.heap.size ≤ fb ∧ AtB w' fb fmC FmT := by
 go_enter Tryz.func36, Tryz.ntmps36
 go_wp2_with fail
 go_ret
 exact ⟨_, rfl, by repeat (first | with_reducible exact Below.refl _ _ | with_reducible apply below_new | with_reducible apply below_drew), by simp, new_at w fmC FmT⟩
abbrev SlS : TypeId := 41
def GiveEq (a b : ByteArray) (w : World) (e : Ending) (w' : World) : Prop := e = .returned (.bool (a.toList == b.toList)) ∧ Below w.heap.size w w'
theorem cpick (a nm : ByteArray) (op : Int) (fv gv : Value) (p b off n cap : Nat) (w : World) (hp : AtB w p #[.slice (some ⟨b, off, none⟩) n cap] SlS) (hs : w.cell? ⟨b, off, none⟩ = some (.string nm)) (hb : b < w.heap.size) (hn : (0 : Int) < n) :
 Calls Tryz.prog 38 #[.agg #[.string a, .int .i64 op, fv, gv], .pointer (some ⟨p, 0, none⟩)] w (GiveEq a nm w) := by
 have hP := Hi hp
 have hs' := Hi (fun w1 (h : Below w.heap.size w w1) => (h.cell (p := ⟨b, off, none⟩) hb).trans hs)
 clear hp hs hb
 go_enter Tryz.func38, Tryz.ntmps38
 go_upto_region 1 with fail
 obtain ⟨w0, e, BB, q4⟩ := en1 w #[.string a, .int .i64 op, fv, gv] FmT
 rw [e]; clear e
 have c0 := hs'.out _ BB.out
 have q5 := hP.out.keep BB.out
 obtain ⟨p0, p1⟩ := reads1 q5
 have lp := q5.lt
 obtain ⟨c_f0, c_f1, c_f2, c_f3, f_f0, f_f1, f_f2, f_f3⟩ := reads4 q4.out
 have l_f := q4.out.lt
 go_wp2_with fail
 go_quiet (fail)
 go_wp2_with fail
 go_ret
 exact ⟨rfl, below_drawn BB.out _⟩
def fmN : List ByteArray := [⟨#[108, 111, 97, 100]⟩, ⟨#[115, 105, 122, 101]⟩, ⟨#[107, 101, 114, 110, 101, 108]⟩, ⟨#[98, 111, 114, 100, 101, 114]⟩, ⟨#[109, 105, 112, 115]⟩, ⟨#[116, 105, 108, 101]⟩, ⟨#[99, 97, 99, 104, 101]⟩, ⟨#[111, 114, 100, 101, 114]⟩, ⟨#[115, 97, 118, 101]⟩, ⟨#[116, 105, 110, 116]⟩, ⟨#[99, 114, 111, 112]⟩, ⟨#[98, 117, 100, 103, 101, 116]⟩]
def fmO : List Int := [1, 2, 3, 4, 5, 6, 7, 8, 10, 11, 12, 13]
def fmF : List Value := [fnV 53, fnV 53, fnV 55, fnV 57, fnV 53, fnV 53, fnV 53, fnV 58, fnV 59, fnV 53, fnV 53, fnV 53]
def fmG : List Value := [numV 1, numV 2, richV 3 1, richV 0 4, numV 1, numV 2, numV 1, richV 5 1, numV 0, numV 1, numV 4, numV 1]
theorem fm_at (j : Nat) (hj : j < 12) : fmC[j * 4]? = some (.string (fmN.getD j ⟨#[]⟩)) ∧ fmC[j * 4 + 1]? = some (.int .i64 (fmO.getD j 0)) ∧ fmC[j * 4 + 2]? = some (fmF.getD j (numV 0)) ∧ fmC[j * 4 + 3]? = some (fmG.getD j (numV 0)) := by
 match j, hj with
 | 0, _ => exact ⟨rfl, rfl, rfl, rfl⟩ | 1, _ => exact ⟨rfl, rfl, rfl, rfl⟩ | 2, _ => exact ⟨rfl, rfl, rfl, rfl⟩ | 3, _ => exact ⟨rfl, rfl, rfl, rfl⟩
 | 4, _ => exact ⟨rfl, rfl, rfl, rfl⟩ | 5, _ => exact ⟨rfl, rfl, rfl, rfl⟩ | 6, _ => exact ⟨rfl, rfl, rfl, rfl⟩ | 7, _ => exact ⟨rfl, rfl, rfl, rfl⟩
 | 8, _ => exact ⟨rfl, rfl, rfl, rfl⟩ | 9, _ => exact ⟨rfl, rfl, rfl, rfl⟩ | 10, _ => exact ⟨rfl, rfl, rfl, rfl⟩ | 11, _ => exact ⟨rfl, rfl, rfl, rfl⟩
theorem cidx (fb p b off : Nat) (nm : ByteArray) (n cap T : Nat) (w : World) (hF : AtB w fb fmC FmT) (hp : AtB w p #[.slice (some ⟨b, off, none⟩) n cap] SlS) (hs : w.cell? ⟨b, off, none⟩ = some (.string nm)) (hb : b < w.heap.size) (hn : (0 : Int) < n) (hT : T < 12)
 (h0 : Hid (∀ j, j < T → ((fmN.getD j ⟨#[]⟩).toList == nm.toList) = false)) (h1 : Hid (((fmN.getD T ⟨#[]⟩).toList == nm.toList) = true)) :
 Calls Tryz.prog 37 #[.slice (some ⟨fb, 0, none⟩) 12 12, .func (.func 38) #[] #[.pointer (some ⟨p, 0, none⟩)]] w fun e w' => e = .returned (.int .i64 (T : Int)) ∧ Below w.heap.size w w' := by
 have hs' := Hi (fun w1 (h : Below w.heap.size w w1) => (h.cell (p := ⟨b, off, none⟩) hb).trans hs)
 have CP := Hi (fun w1 (h : Below w.heap.size w w1) a op fv gv => cpick a nm op fv gv p b off n cap w1 (hp.keep h) (hs'.out w1 h) (Nat.lt_of_lt_of_le hb h.size) hn)
 have hF' := Hi hF
 clear hF hp hs
 go_enter Tryz.func37, Tryz.ntmps37
 go_wp2_with fail
 go_loopw [5, 8] (fun _ i wr => ∃ j : Nat, j ≤ T ∧ i = .int .i64 (j : Int) ∧ Hid (Below w.heap.size w wr)) (fun _ i _ => 12 - (RowKit.intOf i).toNat)
 case atStart => exact ⟨0, by omega, rfl, Below.refl _ _⟩
 case round =>
  obtain ⟨j, hj, rfl, BB⟩ := hrel
  have q3 := hF'.out.keep BB.out
  obtain ⟨a0, a1, a2, a3⟩ := fm_at j (by omega)
  have d0 := q3.cell _ a0
  have d1 := q3.cell _ a1
  have d2 := q3.cell _ a2
  have d3 := q3.cell _ a3
  have lt' := q3.lt
  have q0 : (0 : Int) ≤ (j : Int) := by omega
  have q1 : (j : Int) < 12 := by omega
  have q2 : j < 12 := by omega
  have C := Hi (CP.out wr BB.out (fmN.getD j ⟨#[]⟩) (fmO.getD j 0) (fmF.getD j (numV 0)) (fmG.getD j (numV 0)))
  have i1 : I64 ((j + 1 : Nat) : Int) := ⟨by omega, by omega⟩
  have j1 : (j : Int) + 1 = ((j + 1 : Nat) : Int) := by omega
  have ek : IntKind.i64.wrap ((j : Int) + 1) = ((j + 1 : Nat) : Int) := by rw [j1]; exact iw i1
  clear a0 a1 a2 a3 i1 j1
  unfold GiveEq at C
  by_cases hlt : j < T
  · have hq := h0.out j hlt
    rw [hq] at C
    generalize fmN.getD j ⟨#[]⟩ = a at *
    generalize fmO.getD j 0 = op at *
    generalize fmF.getD j (numV 0) = fv at *
    generalize fmG.getD j (numV 0) = gv at *
    have hlt' := Hi hlt
    clear hq hlt hj
    go_wp2_with fail
    refine C.out.mono ?_
    rintro e w1 ⟨rfl, hb⟩
    clear d0 d1 d2 d3 q3 lt'
    go_wp2_with fail
    go_roundw
    case rel => exact ⟨j + 1, hlt'.out, by go_num, below_next BB.out hb⟩
    case measure => have := hlt'.out; simp [RowKit.intOf, ek]; clear ek; omega
  · obtain rfl : j = T := by omega
    rw [h1.out] at C
    clear h0 h1 hlt hj
    generalize fmN.getD j ⟨#[]⟩ = a at *
    generalize fmO.getD j 0 = op at *
    generalize fmF.getD j (numV 0) = fv at *
    generalize fmG.getD j (numV 0) = gv at *
    go_wp2_with fail
    refine C.out.mono ?_
    rintro e w1 ⟨rfl, hb⟩
    clear d0 d1 d2 d3 q3 lt'
    go_wp2_with fail
    go_ret
    exact ⟨rfl, below_next BB.out hb⟩
def GiveEqC (c : Int) (a b : ByteArray) (w : World) (e : Ending) (w' : World) : Prop := e = .returned (.bool (decide (0 < c) && (a.toList == b.toList))) ∧ Below w.heap.size w w'
theorem kpick (a nm : ByteArray) (c : Int) (p : Nat) (w : World) (hp : AtB w p #[.string nm] 9) :
 Calls Tryz.prog 100 #[.agg #[.string a, .int .i64 c], .pointer (some ⟨p, 0, none⟩)] w (GiveEqC c a nm w) := by
 have hP := Hi hp
 clear hp
 by_cases hc : 0 < c
 · have hd := Hi (decide_eq_true hc)
   go_enter Tryz.func100, Tryz.ntmps100
   go_upto_region 1 with fail
   obtain ⟨w0, e, BB, q4⟩ := en1 w #[.string a, .int .i64 c] FoT
   rw [e]; clear e
   have q5 := hP.out.keep BB.out
   obtain ⟨p0, p1⟩ := reads1 q5
   have lp := q5.lt
   obtain ⟨qa, qb, qc, qd⟩ := reads2 q4.out
   have qe := q4.out.lt
   go_wp2_with fail
   go_ret
   exact ⟨by rw [hd.out]; rfl, BB.out⟩
 · have hd := Hi (decide_eq_false hc)
   go_enter Tryz.func100, Tryz.ntmps100
   go_upto_region 1 with fail
   obtain ⟨w0, e, BB, q4⟩ := en1 w #[.string a, .int .i64 c] FoT
   rw [e]; clear e
   have q5 := hP.out.keep BB.out
   obtain ⟨p0, p1⟩ := reads1 q5
   have lp := q5.lt
   obtain ⟨qa, qb, qc, qd⟩ := reads2 q4.out
   have qe := q4.out.lt
   go_wp2_with fail
   go_ret
   exact ⟨by rw [hd.out]; rfl, BB.out⟩
def kfN : List ByteArray := [⟨#[]⟩, ⟨#[112, 103, 109]⟩, ⟨#[112, 112, 109]⟩, ⟨#[98, 109, 112, 50, 52]⟩, ⟨#[98, 109, 112, 51, 50]⟩]
def kfO : List Int := [0, 1, 3, 3, 4]
theorem kf_at (j : Nat) (hj : j < 5) : kCells[j * 2]? = some (.string (kfN.getD j ⟨#[]⟩)) ∧ kCells[j * 2 + 1]? = some (.int .i64 (kfO.getD j 0)) := by
 match j, hj with
 | 0, _ => exact ⟨rfl, rfl⟩ | 1, _ => exact ⟨rfl, rfl⟩ | 2, _ => exact ⟨rfl, rfl⟩ | 3, _ => exact ⟨rfl, rfl⟩ | 4, _ => exact ⟨rfl, rfl⟩
theorem kidx (fb p : Nat) (nm : ByteArray) (T : Nat) (w : World) (hF : AtB w fb kCells FoT) (hp : AtB w p #[.string nm] 9) (hT : T < 5)
 (h0 : Hid (∀ j, j < T → (decide (0 < kfO.getD j 0) && ((kfN.getD j ⟨#[]⟩).toList == nm.toList)) = false)) (h1 : Hid ((decide (0 < kfO.getD T 0) && ((kfN.getD T ⟨#[]⟩).toList == nm.toList)) = true)) :
 Calls Tryz.prog 98 #[.slice (some ⟨fb, 0, none⟩) 5 5, .func (.func 100) #[] #[.pointer (some ⟨p, 0, none⟩)]] w fun e w' => e = .returned (.int .i64 (T : Int)) ∧ Below w.heap.size w w' := by
 have CP := Hi (fun w1 (h : Below w.heap.size w w1) a c => kpick a nm c p w1 (hp.keep h))
 have hF' := Hi hF
 clear hF hp
 go_enter Tryz.func98, Tryz.ntmps98
 go_wp2_with fail
 go_loopw [5, 8] (fun _ i wr => ∃ j : Nat, j ≤ T ∧ i = .int .i64 (j : Int) ∧ Hid (Below w.heap.size w wr)) (fun _ i _ => 5 - (RowKit.intOf i).toNat)
 case atStart => exact ⟨0, by omega, rfl, Below.refl _ _⟩
 case round =>
  obtain ⟨j, hj, rfl, BB⟩ := hrel
  have q6 := hF'.out.keep BB.out
  obtain ⟨a0, a1⟩ := kf_at j (by omega)
  have d0 := q6.cell _ a0
  have d1 := q6.cell _ a1
  have lt' := q6.lt
  have q0 : (0 : Int) ≤ (j : Int) := by omega
  have q1 : (j : Int) < 5 := by omega
  have q2 : j < 5 := by omega
  have C := Hi (CP.out wr BB.out (kfN.getD j ⟨#[]⟩) (kfO.getD j 0))
  have i1 : I64 ((j + 1 : Nat) : Int) := ⟨by omega, by omega⟩
  have j1 : (j : Int) + 1 = ((j + 1 : Nat) : Int) := by omega
  have ek : IntKind.i64.wrap ((j : Int) + 1) = ((j + 1 : Nat) : Int) := by rw [j1]; exact iw i1
  clear a0 a1 i1 j1
  unfold GiveEqC at C
  by_cases hlt : j < T
  · have hq := h0.out j hlt
    rw [hq] at C
    generalize kfN.getD j ⟨#[]⟩ = a at *
    generalize kfO.getD j 0 = op at *
    have hlt' := Hi hlt
    clear hq hlt hj
    go_wp2_with fail
    refine C.out.mono ?_
    rintro e w1 ⟨rfl, hb⟩
    clear d0 d1 q6 lt'
    go_wp2_with fail
    go_roundw
    case rel => exact ⟨j + 1, hlt'.out, by go_num, below_next BB.out hb⟩
    case measure => have := hlt'.out; simp [RowKit.intOf, ek]; clear ek; omega
  · obtain rfl : j = T := by omega
    rw [h1.out] at C
    clear h0 h1 hlt hj
    generalize kfN.getD j ⟨#[]⟩ = a at *
    generalize kfO.getD j 0 = op at *
    go_wp2_with fail
    refine C.out.mono ?_
    rintro e w1 ⟨rfl, hb⟩
    clear d0 d1 q6 lt'
    go_wp2_with fail
    go_ret
    exact ⟨rfl, below_next BB.out hb⟩
def GiveNmd (k : Nat) (b : Bool) (w : World) (e : Ending) (w' : World) : Prop := e = .returned (.tuple #[.int .i64 (k : Int), .bool b]) ∧ Below w.heap.size w w'
theorem knamed (T : Nat) (nm : ByteArray) (w : World) (hT : T < 5) (h0 : Hid (∀ j, j < T → (decide (0 < kfO.getD j 0) && ((kfN.getD j ⟨#[]⟩).toList == nm.toList)) = false)) (h1 : Hid ((decide (0 < kfO.getD T 0) && ((kfN.getD T ⟨#[]⟩).toList == nm.toList)) = true)) :
 Calls Tryz.prog 59 #[.string nm] w (GiveNmd T true w) := by
 have KF := Hi (fun w => kforms w)
 have q0 : (0 : Int) ≤ (T : Int) := by omega
 have q1 : max (T : Int) 0 = (T : Int) := by omega
 go_enter Tryz.func59, Tryz.ntmps59
 go_upto_region 1 with fail
 obtain ⟨w0, e, BB, q3⟩ := en1 w #[.string nm] 9
 rw [e]; clear e
 obtain ⟨q7, q8⟩ := reads1 q3.out
 have q9 := q3.out.lt
 go_wp2_with fail
 refine (KF.out _).mono ?_
 rintro e w1 ⟨fb, rfl, hb, hge, hF⟩
 clear q7 q8 q9
 replace q3 := kp q3 hb
 replace BB := nx BB hb
 clear hb
 have KI := Hi (kidx fb _ nm T _ hF q3.out hT h0 h1)
 clear hF
 obtain ⟨q7, q8⟩ := reads1 q3.out
 have q9 := q3.out.lt
 go_wp2_with fail
 refine (KI.out).mono ?_
 rintro e w2 ⟨rfl, hb⟩
 clear q7 q8 q9
 replace q3 := kp q3 hb
 replace BB := nx BB hb
 clear hb
 go_wp2_with fail
 go_ret2
 exact ⟨rfl, BB.out⟩
/-- The name of a kind is its own. -/
theorem knamed_k (k : Nat) (hk : k = 1 ∨ k = 2 ∨ k = 3 ∨ k = 4) (w : World) : Calls Tryz.prog 59 #[.string ⟨(kName k).toArray⟩] w (GiveNmd k true w) := by
 refine knamed k _ w (by omega) (Hi fun j hj => ?_) (Hi ?_)
 · simp only [Go.ByteArray.toList_eq]
   rcases hk with rfl | rfl | rfl | rfl <;> (revert j; decide)
 · simp only [Go.ByteArray.toList_eq]
   rcases hk with rfl | rfl | rfl | rfl <;> decide
theorem wp_cp_run {w : World} {o : Oper} {a : Act} {K : Act → World → Prop} {Q : Exit → Act → World → Prop} (s x : Operand) (t t2 : TypeId)
 (ho : o.op = .call { callee := .builtin .copy, args := #[s, x], argTypes := #[t, t2] }) {v u v' : Value} {w' : World} (hs : a.eval s = v) (hx : a.eval x = u)
 (hr : ∀ ty, (Builtin.copy_ #[t, t2] ty #[v, u]).run Tryz.prog w = .ok v' w') (h : K (a.put o.dst v') w') : o.wp Tryz.prog a w K Q := by
 unfold Oper.wp execOp
 simp only [ho, resolve, invoke, builtin, Sem.run_bind, Sem.run_pure, Result.andThen_ok, List.map_toArray, List.map_cons, List.map_nil, hs, hx, hr]
 exact h
theorem wpList_cp_run {w : World} {ops : Array Oper} {rest : List Oper} {o : Oper} {a : Act} {Q : Exit → Act → World → Prop} (hgd : o.guard = none) (s x : Operand) (t t2 : TypeId)
 (ho : o.op = .call { callee := .builtin .copy, args := #[s, x], argTypes := #[t, t2] }) {v u v' : Value} {w' : World} (hs : a.eval s = v) (hx : a.eval x = u)
 (hr : ∀ ty, (Builtin.copy_ #[t, t2] ty #[v, u]).run Tryz.prog w = .ok v' w') (h : wpList Tryz.prog ops Q rest (a.put o.dst v') w') : wpList Tryz.prog ops Q (o :: rest) a w :=
 wpList_plain hgd fun _ hK => wp_cp_run s x t t2 ho hs hx hr (hK _ _ h)
/-- Bytes with others in the place of some. -/
def spl (L m : List UInt8) (o : Nat) : List UInt8 := L.take o ++ m ++ L.drop (o + m.length)
theorem spl_len (L m : List UInt8) (o : Nat) (h : o + m.length ≤ L.length) : (spl L m o).length = L.length := by
 unfold spl
 simp only [List.length_append, List.length_take, List.length_drop]
 omega
theorem uV_spl (L m : List UInt8) (o : Nat) : uV (spl L m o) = (uV L).take o ++ uV m ++ (uV L).drop (o + (uV m).length) := by
 unfold spl uV
 simp [List.map_take, List.map_drop]
theorem made_uV (n : Nat) : madeCells #[.int .u8 0] n = (uV (List.replicate n 0)).toArray := by
 unfold madeCells uV
 apply Array.ext
 · simp
 · intro i h1 h2
   simp [Nat.mod_one, bv]
theorem cp_row {w : World} {g o D E k cap : Nat} {A : Option Addr} {L m : List UInt8} (hg : AtB w g (uV L).toArray U8T) (hs : BY w (.slice A k cap) m) (hm : m ≠ []) (hk : k = m.length) (ho : o + m.length ≤ L.length) (hd : m.length ≤ D) :
 ∃ w2, (∀ ty, (Builtin.copy_ #[BLT, BLT] ty #[.slice (some ⟨g, o, none⟩) D E, .slice A k cap]).run Tryz.prog w = .ok (goInt m.length) w2) ∧ Onl g w w2 ∧ AtB w2 g (uV (spl L m o)).toArray U8T := by
 subst hk
 obtain ⟨b, off, c', e, -, -, -, hcell⟩ := hs.some hm
 simp only [Value.slice.injEq] at e
 obtain ⟨rfl, -, -⟩ := e
 have hc : ∀ j v, (uV m)[j]? = some v → w.cell? ((⟨b, off, none⟩ : Addr).add j) = some v := by
  intro j v hj
  have hjl : j < m.length := by have := (List.getElem?_eq_some_iff.1 hj).1; rwa [uV_len] at this
  rw [uV_at hjl] at hj
  rw [addr_add, hcell j hjl]
  exact hj
 have hr := fun ty => run_copy_row (P := Tryz.prog) w BLT BLT ty U8T g o D E ⟨b, off, none⟩ m.length cap _ U8T (uV m) Tryz.underlying22 size_u8s hg (by rw [uV_len]; simp [Nat.min_def]; omega) hc (by simp only [List.size_toArray, uV_len]; omega) (uV_one m)
 refine ⟨_, fun ty => by rw [hr ty, uV_len], onl_setRow _ _ _, ?_⟩
 rw [uV_spl, uV_len]
 exact row_set w g ((uV L).take o ++ uV m ++ (uV L).drop (o + m.length)) hg
theorem cp_str {w : World} {g o D E : Nat} {L m : List UInt8} (z : Int) (hz : (m.length : Int) = z) (hg : AtB w g (uV L).toArray U8T) (ho : o + m.length ≤ L.length) (hd : m.length ≤ D) :
 ∃ w2, (∀ ty, (Builtin.copy_ #[BLT, 9] ty #[.slice (some ⟨g, o, none⟩) D E, .string ⟨m.toArray⟩]).run Tryz.prog w = .ok (.int .i64 z) w2) ∧ Onl g w w2 ∧ AtB w2 g (uV (spl L m o)).toArray U8T := by
 have hr := fun ty => run_copy_row_string (P := Tryz.prog) w BLT 9 ty U8T g o D E ⟨m.toArray⟩ _ U8T Tryz.underlying22 size_u8s hg (by rw [sx_len]; exact hd) (by rw [sx_len]; simp only [List.size_toArray, uV_len]; omega)
 have e : byteCells m = uV m := rfl
 refine ⟨_, fun ty => by rw [hr ty, sx_len, ← hz]; rfl, onl_setRow _ _ _, ?_⟩
 have := row_set w g ((uV L).take o ++ uV m ++ (uV L).drop (o + (uV m).length)) hg
 rw [uV_spl]
 simpa [e, uV_len] using this
theorem set_uV {w : World} {g o : Nat} {L : List UInt8} (hg : AtB w g (uV L).toArray U8T) (c : UInt8) : AtB (w.setCell ⟨g, o, none⟩ (.int .u8 (c.toNat : Int))) g (uV (L.set o c)).toArray U8T := by
 have := hg.set_n o (.int .u8 (c.toNat : Int))
 rw [List.setIfInBounds_toArray] at this
 unfold uV
 rw [List.map_set]
 exact this
/-- The head, put down piece by piece. -/
theorem head_made (W H C m : Nat) :
 spl (spl (spl (spl (spl (spl (spl (spl (spl (spl (spl (spl (List.replicate 54 0 ++ List.replicate m 0) [66, 77] 0) (putB 4 (54 + strideN W C * H)) 2) (putB 4 (0)) 6) (putB 4 (54)) 10) (putB 4 (40)) 14) (putB 2 (1)) 26) (putB 4 (0)) 30) (putB 4 (0)) 46) (putB 4 (0)) 50) (putB 4 (W)) 18) (putB 4 (H)) 22) (putB 2 (8 * C)) 28
  = bmpHd W H C ++ List.replicate m 0 := by
 generalize List.replicate m (0 : UInt8) = z
 kernel_rfl
section
variable {W H C : Nat} {p : List UInt8}
/-- What stands there when i bytes of the pixels are put down. -/
def wrtN (W H C : Nat) (p : List UInt8) : Nat → List UInt8
 | 0 => bmpHd W H C ++ List.replicate (strideN W C * H) 0
 | i + 1 => (wrtN W H C p i).set (posW W H C i) (p.getD i 0)
theorem wrtN_len (i : Nat) : (wrtN W H C p i).length = 54 + strideN W C * H := by
 induction i with
 | zero => simp [wrtN, bmpHd_len]
 | succ i ih => simp [wrtN, ih]
theorem wrtN_at (hp : p.length = H * (W * C)) (hC : C = 3 ∨ C = 4) : ∀ i, i ≤ H * (W * C) → ∀ q, q < 54 + strideN W C * H →
 ((q < 54 ∨ ∃ j, j < i ∧ posW W H C j = q) → (wrtN W H C p i).getD q 0 = (bmpW W H C p).getD q 0) ∧ (¬ (q < 54 ∨ ∃ j, j < i ∧ posW W H C j = q) → (wrtN W H C p i).getD q 0 = 0)
 | 0, _, q, hq => by
   refine ⟨fun h => ?_, fun h => ?_⟩
   · rcases h with h | ⟨j, h, -⟩
     · show (bmpHd W H C ++ _).getD q 0 = (bmpHd W H C ++ _).getD q 0
       rw [getD_left _ _ (by rw [bmpHd_len]; exact h), getD_left _ _ (by rw [bmpHd_len]; exact h)]
     · omega
   · have h54 : ¬ q < 54 := fun k => h (.inl k)
     obtain ⟨d, rfl⟩ := Nat.exists_eq_add_of_le (Nat.not_lt.1 h54)
     have := getD_right (bmpHd W H C) (List.replicate (strideN W C * H) 0) d
     rw [bmpHd_len] at this
     show (bmpHd W H C ++ _).getD (54 + d) 0 = 0
     rw [this]
     simp [List.getD, List.getElem?_replicate]
     split <;> rfl
 | i + 1, hi, q, hq => by
   obtain ⟨ih1, ih2⟩ := wrtN_at hp hC i (by omega) q hq
   have hpos := posW_at hp hC (i := i) (by omega)
   have hl := wrtN_len (W := W) (H := H) (C := C) (p := p) i
   by_cases he : posW W H C i = q
   · have e : (wrtN W H C p (i + 1)).getD q 0 = p.getD i 0 := by
      show ((wrtN W H C p i).set (posW W H C i) (p.getD i 0)).getD q 0 = _
      rw [he]
      simp [List.getD, List.getElem?_set, hl, hq]
     refine ⟨fun _ => ?_, fun h => absurd (.inr ⟨i, by omega, he⟩) h⟩
     rw [e, ← hpos.1, he]
   · have e : (wrtN W H C p (i + 1)).getD q 0 = (wrtN W H C p i).getD q 0 := by
      show ((wrtN W H C p i).set (posW W H C i) (p.getD i 0)).getD q 0 = _
      simp [List.getD, List.getElem?_set, he]
     rw [e]
     refine ⟨fun h => ih1 ?_, fun h => ih2 fun k => h ?_⟩
     · rcases h with h | ⟨j, h1, h2⟩
       · exact .inl h
       · refine .inr ⟨j, ?_, h2⟩
         rcases Nat.lt_or_ge j i with h3 | h3
         · exact h3
         · obtain rfl : j = i := by omega
           exact absurd h2 he
     · rcases k with k | ⟨j, h1, h2⟩
       · exact .inl k
       · exact .inr ⟨j, by omega, h2⟩
theorem wrtN_all (hp : p.length = H * (W * C)) (hC : C = 3 ∨ C = 4) (hW : 0 < W) : wrtN W H C p p.length = bmpW W H C p := by
 have hl := wrtN_len (W := W) (H := H) (C := C) (p := p) p.length
 have hl2 := bmp_len (W := W) (C := C) hp
 apply List.ext_getElem?
 intro q
 by_cases hq : q < 54 + strideN W C * H
 · obtain ⟨h1, h2⟩ := wrtN_at hp hC p.length (by omega) q hq
   have key : (wrtN W H C p p.length).getD q 0 = (bmpW W H C p).getD q 0 := by
    by_cases hc : q < 54 ∨ ∃ j, j < p.length ∧ posW W H C j = q
    · exact h1 hc
    · rw [h2 hc]
      refine (posW_not hp hC hW (Nat.not_lt.1 (fun k => hc (.inl k))) hq (fun i hi e => hc (.inr ⟨i, by omega, e⟩))).symm
   simp only [List.getD] at key
   rw [List.getElem?_eq_getElem (by omega), List.getElem?_eq_getElem (by omega)] at key ⊢
   simpa using key
 · rw [List.getElem?_eq_none (by omega), List.getElem?_eq_none (by omega)]
end
end Go.Proofs.YtikpobembcgbfaaGreatDoor
