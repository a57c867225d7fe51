/- fix.Read at any text. -/
import Derived.Test.YthdbchghhpoadaaDoorFxP
import Derived.Test.YthdbchghhpoadaaDoorFxD
import Derived.Test.YthdbchghhpoadaaDoorFxH
import Derived.Test.YthdbchghhpoadaaDoorRegG
set_option linter.unusedVariables false
set_option linter.unusedSimpArgs false
namespace Go.Proofs.YthdbchghhpoadaaDoor
open Go.RowKit
def GiveFin (c : Option Int) (l : List UInt8) (w : World) (e : Ending) (w' : World) : Prop := e = .returned (.tuple #[.int .i64 (finT c l).1, .bool (finT c l).2]) ∧ Below w.heap.size w w'
theorem give_none {l : List UInt8} {w w' : World} (hb : Below w.heap.size w w') : GiveFin none l w (.returned (.tuple #[.int .i64 0, .bool false])) w' := ⟨rfl, hb⟩
theorem give_far {z : Int} {l : List UInt8} {w w' : World} (h : fitsB z 63 = false) (hb : Below w.heap.size w w') : GiveFin (some z) l w (.returned (.tuple #[.int .i64 0, .bool false])) w' := by
  refine ⟨?_, hb⟩
  have e : finT (some z) l = (0, false) := by unfold finT; simp only []; rw [if_neg (by simp [h])]
  rw [e]
theorem give_ne {z : Int} {l : List UInt8} {w w' : World} (h : ¬ sT z = l) (hb : Below w.heap.size w w') : GiveFin (some z) l w (.returned (.tuple #[.int .i64 0, .bool false])) w' := by
  refine ⟨?_, hb⟩
  have e : finT (some z) l = (0, false) := by unfold finT; simp only []; rw [if_neg (by simp [h])]
  rw [e]
theorem give_eq {z : Int} {l : List UInt8} {w w' : World} (h : fitsB z 63 = true) (h2 : sT z = l) (hb : Below w.heap.size w w') : GiveFin (some z) l w (.returned (.tuple #[.int .i64 z, .bool true])) w' := by
  refine ⟨?_, hb⟩
  have e : finT (some z) l = (z, true) := by unfold finT; simp only []; rw [if_pos ⟨h, h2⟩]
  rw [e]
theorem str_eq (a b : List UInt8) : ((⟨a.toArray⟩ : ByteArray).toList == (⟨b.toArray⟩ : ByteArray).toList) = decide (a = b) := by
  simp
  by_cases h : a = b <;> simp [h]
abbrev CutP (s t : ByteArray) (neg : Bool) : Prop := ∀ w, Calls Tryd.prog 46 #[.string s, .string ⟨#[45]⟩] w fun e w' => e = .returned (.tuple #[.string t, .bool neg]) ∧ w = w'
abbrev CutC (t h r : ByteArray) (pt : Bool) : Prop := ∀ w, Calls Tryd.prog 47 #[.string t, .string ⟨#[46]⟩] w fun e w' => e = .returned (.tuple #[.string h, .string r, .bool pt]) ∧ Below w.heap.size w w'
set_option maxRecDepth 100000 in
set_option maxHeartbeats 2000000 in
theorem fread_nonum (s t h r : ByteArray) (l : List UInt8) (neg pt : Bool) (CP : Hid (CutP s t neg)) (CC : Hid (CutC t h r pt)) (CN : Hid (∀ w, Calls Tryd.prog 48 #[.string h] w fun e w' => e = .returned (.tuple #[.int .u64 0, .bool false]) ∧ Below w.heap.size w w')) (w : World) :
    Calls Tryd.prog 22 #[.string s] w (GiveFin none l w) := by
  go_enter Tryd.func22, Tryd.ntmps22
  go_wp2_with fail
  have BB : Hid (Below w.heap.size w w) := Below.refl _ _
  refine (CP.out _).mono ?_
  rintro e w9 ⟨rfl, rfl⟩
  go_wp2_with fail
  refine (CC.out _).mono ?_
  rintro e w1 ⟨rfl, hb⟩
  replace BB := Lib.hid (below_next BB.out hb)
  clear hb
  go_wp2_with fail
  refine (CN.out _).mono ?_
  rintro e w2 ⟨rfl, hb⟩
  replace BB := Lib.hid (below_next BB.out hb)
  clear hb
  go_wp2_with fail
  refine bodyPost_ret (v := .tuple #[.int .i64 0, .bool false]) (by unfold results; simp only [Tryd.results22]; go_simp) rfl ?_
  exact give_none BB.out
set_option maxRecDepth 100000 in
set_option maxHeartbeats 2000000 in
theorem fread_big (s t h r : ByteArray) (l : List UInt8) (neg pt : Bool) (n : Nat) (CP : Hid (CutP s t neg)) (CC : Hid (CutC t h r pt)) (CN : Hid (∀ w, Calls Tryd.prog 48 #[.string h] w fun e w' => e = .returned (.tuple #[.int .u64 (n : Int), .bool true]) ∧ Below w.heap.size w w')) (hn : 140737488355328 < n) (w : World) :
    Calls Tryd.prog 22 #[.string s] w (GiveFin none l w) := by
  have g1 : (140737488355328 : Int) < (n : Int) := by omega
  clear hn
  go_enter Tryd.func22, Tryd.ntmps22
  go_wp2_with fail
  have BB : Hid (Below w.heap.size w w) := Below.refl _ _
  refine (CP.out _).mono ?_
  rintro e w9 ⟨rfl, rfl⟩
  go_wp2_with fail
  refine (CC.out _).mono ?_
  rintro e w1 ⟨rfl, hb⟩
  replace BB := Lib.hid (below_next BB.out hb)
  clear hb
  go_wp2_with fail
  refine (CN.out _).mono ?_
  rintro e w2 ⟨rfl, hb⟩
  replace BB := Lib.hid (below_next BB.out hb)
  clear hb
  go_wp2_with fail
  refine bodyPost_ret (v := .tuple #[.int .i64 0, .bool false]) (by unfold results; simp only [Tryd.results22]; go_simp) rfl ?_
  exact give_none BB.out
set_option maxRecDepth 100000 in
set_option maxHeartbeats 2000000 in
theorem fread_nopart (s t h r : ByteArray) (l : List UInt8) (neg : Bool) (n : Nat) (CP : Hid (CutP s t neg)) (CC : Hid (CutC t h r true)) (CN : Hid (∀ w, Calls Tryd.prog 48 #[.string h] w fun e w' => e = .returned (.tuple #[.int .u64 (n : Int), .bool true]) ∧ Below w.heap.size w w')) (hn : n ≤ 140737488355328)
    (CQ : Hid (∀ w, Calls Tryd.prog 49 #[.string r] w fun e w' => e = .returned (.tuple #[.int .i64 0, .bool false]) ∧ Below w.heap.size w w')) (w : World) :
    Calls Tryd.prog 22 #[.string s] w (GiveFin none l w) := by
  have g1 : ¬ (140737488355328 : Int) < (n : Int) := by omega
  have e1 : wrap64 (n : Int) = (n : Int) := ww ⟨by omega, by omega⟩
  have e2 : IntKind.i64.wrap (n : Int) = (n : Int) := iw ⟨by omega, by omega⟩
  have CM := Lib.hid (fun w => wmul (n : Int) 65536 (show I64 (n : Int) by unfold I64; omega) (by unfold I64; omega) w)
  clear hn
  generalize (n : Int) * 65536 = z at *
  go_enter Tryd.func22, Tryd.ntmps22
  go_wp2_with fail
  have BB : Hid (Below w.heap.size w w) := Below.refl _ _
  refine (CP.out _).mono ?_
  rintro e w9 ⟨rfl, rfl⟩
  go_wp2_with fail
  refine (CC.out _).mono ?_
  rintro e w1 ⟨rfl, hb⟩
  replace BB := Lib.hid (below_next BB.out hb)
  clear hb
  go_wp2_with fail
  refine (CN.out _).mono ?_
  rintro e w2 ⟨rfl, hb⟩
  replace BB := Lib.hid (below_next BB.out hb)
  clear hb
  go_wp2_with fail
  refine (CM.out _).mono ?_
  rintro e w3 ⟨h1, l1, rfl, hb, k1⟩
  replace BB := Lib.hid (below_next BB.out hb)
  clear hb
  clear k1
  go_wp2_with fail
  have d_m := Lib.hid (And.intro BB.out.size (True.intro))
  obtain ⟨hb, r_m⟩ := laid w3 #[.int .i64 h1, .int .u64 l1] WTX
  replace BB := Lib.hid (below_next BB.out hb)
  replace r_m := Lib.hid r_m
  clear hb
  generalize w3.alloc (.cells #[.int .i64 h1, .int .u64 l1] WTX) = w4 at *
  generalize w3.heap.size = g_m at *
  refine (CQ.out _).mono ?_
  rintro e w5 ⟨rfl, hb⟩
  replace r_m := Lib.hid (r_m.out.keep hb)
  replace BB := Lib.hid (below_next BB.out hb)
  clear hb
  go_wp2_with fail
  refine bodyPost_ret (v := .tuple #[.int .i64 0, .bool false]) (by unfold results; simp only [Tryd.results22]; go_simp) rfl ?_
  exact give_none BB.out
set_option maxRecDepth 100000 in
set_option maxHeartbeats 4000000 in
theorem fread_pos (t h r : ByteArray) (l : List UInt8) (n : Nat) (CP : Hid (CutP ⟨l.toArray⟩ t false)) (CC : Hid (CutC t h r false)) (CN : Hid (∀ w, Calls Tryd.prog 48 #[.string h] w fun e w' => e = .returned (.tuple #[.int .u64 (n : Int), .bool true]) ∧ Below w.heap.size w w')) (hn : n ≤ 140737488355328)
    (w : World) (ht : Tab w) : Calls Tryd.prog 22 #[.string ⟨l.toArray⟩] w (GiveFin (some ((n : Int) * 65536)) l w) := by
  have g1 : ¬ (140737488355328 : Int) < (n : Int) := by omega
  have e1 : wrap64 (n : Int) = (n : Int) := ww ⟨by omega, by omega⟩
  have e2 : IntKind.i64.wrap (n : Int) = (n : Int) := iw ⟨by omega, by omega⟩
  have CM := Lib.hid (fun w => wmul (n : Int) 65536 (show I64 (n : Int) by unfold I64; omega) (by unfold I64; omega) w)
  obtain ⟨z1, hz1⟩ : ∃ z, z = (n : Int) * 65536 := ⟨_, rfl⟩
  obtain ⟨z, hz⟩ : ∃ z, z = z1 := ⟨_, rfl⟩
  rw [← hz1] at CM ⊢
  rw [← hz] at CM ⊢
  clear hz hz1 hn
  have CF := Lib.hid (fun h l k w => wfits z h l k w)
  have CS : Hid (I64 z → ∀ w9, Below w.heap.size w w9 → Calls Tryd.prog 21 #[.int .i64 z] w9 fun e w' => e = .returned (.string ⟨(sT z).toArray⟩) ∧ Below w9.heap.size w9 w') := fun hz w9 hb => fshow z hz w9 (tab_on ht hb)
  have hq1 := str_eq (sT z) l
  obtain ⟨Q, hQ⟩ : ∃ Q : ByteArray, Q = ⟨(sT z).toArray⟩ := ⟨_, rfl⟩
  obtain ⟨s, hs⟩ : ∃ Q : ByteArray, Q = ⟨l.toArray⟩ := ⟨_, rfl⟩
  rw [← hQ, ← hs] at hq1
  rw [← hQ] at CS
  rw [← hs] at CP ⊢
  obtain ⟨same, hsame⟩ : ∃ b : Bool, b = decide (sT z = l) := ⟨_, rfl⟩
  rw [← hsame] at hq1
  have hq2 : (Q.toList != s.toList) = !same := by rw [bne, hq1]
  replace hsame := Lib.hid hsame
  clear hQ hs ht
  obtain ⟨fx, hfx⟩ : ∃ x, x = fitX z := ⟨_, rfl⟩
  obtain ⟨fb, hfb⟩ : ∃ x, x = fitsB z 63 := ⟨_, rfl⟩
  rw [← hfx, ← hfb] at CF
  replace hfx := Lib.hid hfx
  replace hfb := Lib.hid hfb
  go_enter Tryd.func22, Tryd.ntmps22
  go_wp2_with fail
  have BB : Hid (Below w.heap.size w w) := Below.refl _ _
  refine (CP.out _).mono ?_
  rintro e w9 ⟨rfl, rfl⟩
  go_wp2_with fail
  refine (CC.out _).mono ?_
  rintro e w1 ⟨rfl, hb⟩
  replace BB := Lib.hid (below_next BB.out hb)
  clear hb
  go_wp2_with fail
  refine (CN.out _).mono ?_
  rintro e w2 ⟨rfl, hb⟩
  replace BB := Lib.hid (below_next BB.out hb)
  clear hb
  go_wp2_with fail
  refine (CM.out _).mono ?_
  rintro e w3 ⟨h1, l1, rfl, hb, k1⟩
  replace BB := Lib.hid (below_next BB.out hb)
  clear hb
  replace k1 := Lib.hid k1
  go_wp2_with fail
  have d_m := Lib.hid (And.intro BB.out.size (True.intro))
  obtain ⟨hb, r_m⟩ := laid w3 #[.int .i64 h1, .int .u64 l1] WTX
  replace BB := Lib.hid (below_next BB.out hb)
  replace r_m := Lib.hid r_m
  clear hb
  generalize w3.alloc (.cells #[.int .i64 h1, .int .u64 l1] WTX) = w4 at *
  generalize w3.heap.size = g_m at *
  obtain ⟨c_m0, c_m1, f_m0, f_m1⟩ := reads2 r_m.out
  have l_m := r_m.out.lt
  go_wp2_with fail
  refine (CF.out _ _ k1.out _).mono ?_
  rintro e w5 ⟨rfl, hb⟩
  clear c_m0 c_m1 f_m0 f_m1 l_m
  replace r_m := Lib.hid (r_m.out.keep hb)
  replace BB := Lib.hid (below_next BB.out hb)
  clear hb
  cases fb with
  | false =>
    go_wp2_with fail
    refine bodyPost_ret (v := .tuple #[.int .i64 0, .bool false]) (by unfold results; simp only [Tryd.results22]; go_simp) rfl ?_
    exact give_far hfb.out.symm BB.out
  | true =>
    have hz0 : Hid (fitsB z 63 = true) := hfb.out.symm
    have hz1 : fx = z := by rw [hfx.out]; exact fitX_t hz0.out
    have DS := Lib.hid (CS.out (fits_63.1 hz0.out))
    subst hz1
    clear CS hfx hfb
    go_wp2_with fail
    refine (DS.out _ BB.out).mono ?_
    rintro e w6 ⟨rfl, hb⟩
    replace r_m := Lib.hid (r_m.out.keep hb)
    replace BB := Lib.hid (below_next BB.out hb)
    clear hb
    cases same with
    | false =>
      go_wp2_with fail
      refine bodyPost_ret (v := .tuple #[.int .i64 0, .bool false]) (by unfold results; simp only [Tryd.results22]; go_simp) rfl ?_
      exact give_ne (of_decide_eq_false hsame.out.symm) BB.out
    | true =>
      go_wp2_with fail
      refine bodyPost_ret (v := .tuple #[.int .i64 fx, .bool true]) (by unfold results; simp only [Tryd.results22]; go_simp) rfl ?_
      exact give_eq hz0.out (of_decide_eq_true hsame.out.symm) BB.out
set_option maxRecDepth 100000 in
set_option maxHeartbeats 4000000 in
theorem fread_neg (t h r : ByteArray) (l : List UInt8) (n : Nat) (CP : Hid (CutP ⟨l.toArray⟩ t true)) (CC : Hid (CutC t h r false)) (CN : Hid (∀ w, Calls Tryd.prog 48 #[.string h] w fun e w' => e = .returned (.tuple #[.int .u64 (n : Int), .bool true]) ∧ Below w.heap.size w w')) (hn : n ≤ 140737488355328)
    (w : World) (ht : Tab w) : Calls Tryd.prog 22 #[.string ⟨l.toArray⟩] w (GiveFin (some (-((n : Int) * 65536))) l w) := by
  have g1 : ¬ (140737488355328 : Int) < (n : Int) := by omega
  have e1 : wrap64 (n : Int) = (n : Int) := ww ⟨by omega, by omega⟩
  have e2 : IntKind.i64.wrap (n : Int) = (n : Int) := iw ⟨by omega, by omega⟩
  have CM := Lib.hid (fun w => wmul (n : Int) 65536 (show I64 (n : Int) by unfold I64; omega) (by unfold I64; omega) w)
  obtain ⟨z1, hz1⟩ : ∃ z, z = (n : Int) * 65536 := ⟨_, rfl⟩
  obtain ⟨z, hz⟩ : ∃ z, z = -z1 := ⟨_, rfl⟩
  have hr : Hid (I128 z) := by unfold I128; show _ ∧ _; omega
  have CG := Lib.hid (fun h l k w => wneg z1 h l k w)
  rw [← hz1] at CM ⊢
  rw [← hz] at CG ⊢
  clear hz hz1 hn
  have CF := Lib.hid (fun h l k w => wfits z h l k w)
  have CS : Hid (I64 z → ∀ w9, Below w.heap.size w w9 → Calls Tryd.prog 21 #[.int .i64 z] w9 fun e w' => e = .returned (.string ⟨(sT z).toArray⟩) ∧ Below w9.heap.size w9 w') := fun hz w9 hb => fshow z hz w9 (tab_on ht hb)
  have hq1 := str_eq (sT z) l
  obtain ⟨Q, hQ⟩ : ∃ Q : ByteArray, Q = ⟨(sT z).toArray⟩ := ⟨_, rfl⟩
  obtain ⟨s, hs⟩ : ∃ Q : ByteArray, Q = ⟨l.toArray⟩ := ⟨_, rfl⟩
  rw [← hQ, ← hs] at hq1
  rw [← hQ] at CS
  rw [← hs] at CP ⊢
  obtain ⟨same, hsame⟩ : ∃ b : Bool, b = decide (sT z = l) := ⟨_, rfl⟩
  rw [← hsame] at hq1
  have hq2 : (Q.toList != s.toList) = !same := by rw [bne, hq1]
  replace hsame := Lib.hid hsame
  clear hQ hs ht
  obtain ⟨fx, hfx⟩ : ∃ x, x = fitX z := ⟨_, rfl⟩
  obtain ⟨fb, hfb⟩ : ∃ x, x = fitsB z 63 := ⟨_, rfl⟩
  rw [← hfx, ← hfb] at CF
  replace hfx := Lib.hid hfx
  replace hfb := Lib.hid hfb
  go_enter Tryd.func22, Tryd.ntmps22
  go_wp2_with fail
  have BB : Hid (Below w.heap.size w w) := Below.refl _ _
  refine (CP.out _).mono ?_
  rintro e w9 ⟨rfl, rfl⟩
  go_wp2_with fail
  refine (CC.out _).mono ?_
  rintro e w1 ⟨rfl, hb⟩
  replace BB := Lib.hid (below_next BB.out hb)
  clear hb
  go_wp2_with fail
  refine (CN.out _).mono ?_
  rintro e w2 ⟨rfl, hb⟩
  replace BB := Lib.hid (below_next BB.out hb)
  clear hb
  go_wp2_with fail
  refine (CM.out _).mono ?_
  rintro e w3 ⟨h1, l1, rfl, hb, k1⟩
  replace BB := Lib.hid (below_next BB.out hb)
  clear hb
  replace k1 := Lib.hid k1
  go_wp2_with fail
  have d_m := Lib.hid (And.intro BB.out.size (True.intro))
  obtain ⟨hb, r_m⟩ := laid w3 #[.int .i64 h1, .int .u64 l1] WTX
  replace BB := Lib.hid (below_next BB.out hb)
  replace r_m := Lib.hid r_m
  clear hb
  generalize w3.alloc (.cells #[.int .i64 h1, .int .u64 l1] WTX) = w4 at *
  generalize w3.heap.size = g_m at *
  obtain ⟨c_m0, c_m1, f_m0, f_m1⟩ := reads2 r_m.out
  have l_m := r_m.out.lt
  go_wp2_with fail
  refine (CG.out _ _ k1.out _).mono ?_
  rintro e w5 ⟨h4, l4, ok4, rfl, hb, k4⟩
  clear c_m0 c_m1 f_m0 f_m1 l_m
  replace r_m := Lib.hid (r_m.out.keep hb)
  replace BB := Lib.hid (below_next BB.out hb)
  clear hb
  obtain ⟨rfl, kk4⟩ := wb_room k4 hr.out
  clear k4
  replace kk4 := Lib.hid kk4
  obtain ⟨c_m0, c_m1, f_m0, f_m1⟩ := reads2 r_m.out
  have l_m := r_m.out.lt
  go_upto_region 14 with fail
  clear c_m0 c_m1 f_m0 f_m1 l_m
  have e_st : ((w5.setCell ⟨g_m, 0, none⟩ (.int .i64 h4)).setCell ⟨g_m, 1, none⟩ (.int .u64 l4)) = setFrom w5 (g_m) 0 [.int .i64 h4, .int .u64 l4] := by simp only [setFrom, Nat.reduceAdd]
  rw [e_st]
  clear e_st
  replace r_m := Lib.hid (AtB.setAll r_m.out [.int .i64 h4, .int .u64 l4] rfl)
  replace BB := Lib.hid (below_setAll (b := g_m) (by have dd := d_m.out; omega) [.int .i64 h4, .int .u64 l4] 0 BB.out)
  generalize setFrom w5 (g_m) 0 [.int .i64 h4, .int .u64 l4] = w6 at *
  obtain ⟨c_m0, c_m1, f_m0, f_m1⟩ := reads2 r_m.out
  have l_m := r_m.out.lt
  go_wp2_with fail
  refine (CF.out _ _ kk4.out _).mono ?_
  rintro e w7 ⟨rfl, hb⟩
  clear c_m0 c_m1 f_m0 f_m1 l_m
  replace r_m := Lib.hid (r_m.out.keep hb)
  replace BB := Lib.hid (below_next BB.out hb)
  clear hb
  cases fb with
  | false =>
    go_wp2_with fail
    refine bodyPost_ret (v := .tuple #[.int .i64 0, .bool false]) (by unfold results; simp only [Tryd.results22]; go_simp) rfl ?_
    exact give_far hfb.out.symm BB.out
  | true =>
    have hz0 : Hid (fitsB z 63 = true) := hfb.out.symm
    have hz1 : fx = z := by rw [hfx.out]; exact fitX_t hz0.out
    have DS := Lib.hid (CS.out (fits_63.1 hz0.out))
    subst hz1
    clear CS hfx hfb
    go_wp2_with fail
    refine (DS.out _ BB.out).mono ?_
    rintro e w8 ⟨rfl, hb⟩
    replace r_m := Lib.hid (r_m.out.keep hb)
    replace BB := Lib.hid (below_next BB.out hb)
    clear hb
    cases same with
    | false =>
      go_wp2_with fail
      refine bodyPost_ret (v := .tuple #[.int .i64 0, .bool false]) (by unfold results; simp only [Tryd.results22]; go_simp) rfl ?_
      exact give_ne (of_decide_eq_false hsame.out.symm) BB.out
    | true =>
      go_wp2_with fail
      refine bodyPost_ret (v := .tuple #[.int .i64 fx, .bool true]) (by unfold results; simp only [Tryd.results22]; go_simp) rfl ?_
      exact give_eq hz0.out (of_decide_eq_true hsame.out.symm) BB.out
set_option maxRecDepth 100000 in
set_option maxHeartbeats 4000000 in
theorem fread_pos_pt (t h r : ByteArray) (l : List UInt8) (n : Nat) (p : Nat) (hp : p < 65536) (CP : Hid (CutP ⟨l.toArray⟩ t false)) (CC : Hid (CutC t h r true)) (CN : Hid (∀ w, Calls Tryd.prog 48 #[.string h] w fun e w' => e = .returned (.tuple #[.int .u64 (n : Int), .bool true]) ∧ Below w.heap.size w w')) (hn : n ≤ 140737488355328)
    (CQ : Hid (∀ w, Calls Tryd.prog 49 #[.string r] w fun e w' => e = .returned (.tuple #[.int .i64 (p : Int), .bool true]) ∧ Below w.heap.size w w'))
    (w : World) (ht : Tab w) : Calls Tryd.prog 22 #[.string ⟨l.toArray⟩] w (GiveFin (some ((n : Int) * 65536 + p)) l w) := by
  have g1 : ¬ (140737488355328 : Int) < (n : Int) := by omega
  have e1 : wrap64 (n : Int) = (n : Int) := ww ⟨by omega, by omega⟩
  have e2 : IntKind.i64.wrap (n : Int) = (n : Int) := iw ⟨by omega, by omega⟩
  have CM := Lib.hid (fun w => wmul (n : Int) 65536 (show I64 (n : Int) by unfold I64; omega) (by unfold I64; omega) w)
  obtain ⟨z1, hz1⟩ : ∃ z, z = (n : Int) * 65536 := ⟨_, rfl⟩
  obtain ⟨z2, hz2⟩ : ∃ z, z = (n : Int) * 65536 + p := ⟨_, rfl⟩
  have CO := Lib.hid (fun w => wof (p : Int) (show I64 (p : Int) by unfold I64; omega) w)
  have CA := Lib.hid (fun h l h2 l2 k k2 w => wadd ((n : Int) * 65536) (p : Int) h l h2 l2 k k2 w)
  have hr2 : Hid (I128 z2) := by unfold I128; show _ ∧ _; omega
  obtain ⟨z, hz⟩ : ∃ z, z = z2 := ⟨_, rfl⟩
  rw [← hz2] at CA ⊢
  rw [← hz1] at CA CM
  rw [← hz] at CA hr2 ⊢
  clear hz hz1 hn hz2 hp
  have CF := Lib.hid (fun h l k w => wfits z h l k w)
  have CS : Hid (I64 z → ∀ w9, Below w.heap.size w w9 → Calls Tryd.prog 21 #[.int .i64 z] w9 fun e w' => e = .returned (.string ⟨(sT z).toArray⟩) ∧ Below w9.heap.size w9 w') := fun hz w9 hb => fshow z hz w9 (tab_on ht hb)
  have hq1 := str_eq (sT z) l
  obtain ⟨Q, hQ⟩ : ∃ Q : ByteArray, Q = ⟨(sT z).toArray⟩ := ⟨_, rfl⟩
  obtain ⟨s, hs⟩ : ∃ Q : ByteArray, Q = ⟨l.toArray⟩ := ⟨_, rfl⟩
  rw [← hQ, ← hs] at hq1
  rw [← hQ] at CS
  rw [← hs] at CP ⊢
  obtain ⟨same, hsame⟩ : ∃ b : Bool, b = decide (sT z = l) := ⟨_, rfl⟩
  rw [← hsame] at hq1
  have hq2 : (Q.toList != s.toList) = !same := by rw [bne, hq1]
  replace hsame := Lib.hid hsame
  clear hQ hs ht
  obtain ⟨fx, hfx⟩ : ∃ x, x = fitX z := ⟨_, rfl⟩
  obtain ⟨fb, hfb⟩ : ∃ x, x = fitsB z 63 := ⟨_, rfl⟩
  rw [← hfx, ← hfb] at CF
  replace hfx := Lib.hid hfx
  replace hfb := Lib.hid hfb
  go_enter Tryd.func22, Tryd.ntmps22
  go_wp2_with fail
  have BB : Hid (Below w.heap.size w w) := Below.refl _ _
  refine (CP.out _).mono ?_
  rintro e w9 ⟨rfl, rfl⟩
  go_wp2_with fail
  refine (CC.out _).mono ?_
  rintro e w1 ⟨rfl, hb⟩
  replace BB := Lib.hid (below_next BB.out hb)
  clear hb
  go_wp2_with fail
  refine (CN.out _).mono ?_
  rintro e w2 ⟨rfl, hb⟩
  replace BB := Lib.hid (below_next BB.out hb)
  clear hb
  go_wp2_with fail
  refine (CM.out _).mono ?_
  rintro e w3 ⟨h1, l1, rfl, hb, k1⟩
  replace BB := Lib.hid (below_next BB.out hb)
  clear hb
  replace k1 := Lib.hid k1
  go_wp2_with fail
  have d_m := Lib.hid (And.intro BB.out.size (True.intro))
  obtain ⟨hb, r_m⟩ := laid w3 #[.int .i64 h1, .int .u64 l1] WTX
  replace BB := Lib.hid (below_next BB.out hb)
  replace r_m := Lib.hid r_m
  clear hb
  generalize w3.alloc (.cells #[.int .i64 h1, .int .u64 l1] WTX) = w4 at *
  generalize w3.heap.size = g_m at *
  refine (CQ.out _).mono ?_
  rintro e w5 ⟨rfl, hb⟩
  replace r_m := Lib.hid (r_m.out.keep hb)
  replace BB := Lib.hid (below_next BB.out hb)
  clear hb
  obtain ⟨c_m0, c_m1, f_m0, f_m1⟩ := reads2 r_m.out
  have l_m := r_m.out.lt
  go_wp2_with fail
  clear c_m0 c_m1 f_m0 f_m1 l_m
  have KK := Lib.hid (fun (w9 : World) (h : Below w5.heap.size w5 w9) => (cells2 (r_m.out.keep h) : (w9.cell? ⟨g_m, 0, none⟩ = some (.int .i64 h1) ∧ w9.cell? ⟨g_m, 1, none⟩ = some (.int .u64 l1))))
  have K0 := KK.out w5 (Below.refl _ _)
  have KD := KK.out w5.drew (below_drew (Below.refl _ _))
  refine AnyG.begin_ (fun w9 => (w9.cell? ⟨g_m, 0, none⟩ = some (.int .i64 h1) ∧ w9.cell? ⟨g_m, 1, none⟩ = some (.int .u64 l1))) 7 (by kernel_rfl) ?_
  refine AnyG.take (i := 0) (v := ?_) rfl (by kernel_rfl) (by kernel_rfl) (by kernel_rfl) (fun _ _ _ h => h) (by kernel_rfl) (by kernel_rfl) (Or.inl ⟨by rfl, ?_⟩) (by assumption) ?_
  rotate_left
  · intro w9 hSw; (try dsimp only at hSw); go_simp <;> with_reducible rfl
  try simp only [Act.put, List.getElem_toArray, List.getElem_cons_zero, List.getElem_cons_succ, List.setIfInBounds_toArray, List.set_cons_zero, List.set_cons_succ]
  refine AnyG.take (i := 1) (v := ?_) rfl (by kernel_rfl) (by kernel_rfl) (by kernel_rfl) (fun _ _ _ h => h) (by kernel_rfl) (by kernel_rfl) (Or.inl ⟨by rfl, ?_⟩) (by assumption) ?_
  rotate_left
  · intro w9 hSw; (try dsimp only at hSw); go_simp <;> with_reducible rfl
  try simp only [Act.put, List.getElem_toArray, List.getElem_cons_zero, List.getElem_cons_succ, List.setIfInBounds_toArray, List.set_cons_zero, List.set_cons_succ]
  refine AnyG.step (i := 2) (by kernel_rfl) rfl (fun K hK => ?_)
  go_simp
  go_at_call 27
  refine (CO.out _).mono ?_
  rintro e w6 ⟨h2, l2, rfl, hb, k2⟩
  have B_w6 := Lib.hid (reg_next (w0 := w5) (by repeat (first | with_reducible exact Below.refl _ _ | with_reducible apply below_drew | with_reducible apply below_new)) hb)
  have K_w6 := KK.out _ B_w6.out
  clear hb
  refine hK.out _ _ (fun _ => K_w6) (fun hHeld => ?_)
  replace hHeld := hHeld (by decide)
  clear hK
  try simp only [Act.put, List.getElem_toArray, List.getElem_cons_zero, List.getElem_cons_succ, List.setIfInBounds_toArray, List.set_cons_zero, List.set_cons_succ]
  refine AnyG.step (i := 3) (by kernel_rfl) rfl (fun K hK => ?_)
  go_simp
  go_at_call 26
  refine (CA.out _ _ _ _ k1.out k2 _).mono ?_
  rintro e w7 ⟨h3, l3, ok3, rfl, hb, k3⟩
  have B_w7 := Lib.hid (below_next B_w6.out hb)
  have K_w7 := KK.out _ B_w7.out
  obtain ⟨rc_m0, rc_m1, rf_m0, rf_m1⟩ := reads2 (r_m.out.keep B_w7.out)
  have rl_m := (r_m.out.keep B_w7.out).lt
  clear hb
  refine hK.out _ _ (fun _ => K_w7) (fun hHeld => ?_)
  replace hHeld := hHeld (by decide)
  clear hK
  try simp only [Act.put, List.getElem_toArray, List.getElem_cons_zero, List.getElem_cons_succ, List.setIfInBounds_toArray, List.set_cons_zero, List.set_cons_succ]
  refine AnyG.take (i := 4) (v := ?_) rfl (by kernel_rfl) (by kernel_rfl) (by kernel_rfl) (fun _ _ _ h => h) (by kernel_rfl) (by kernel_rfl) (Or.inl ⟨by rfl, ?_⟩) (by assumption) ?_
  rotate_left
  · intro w9 hSw; (try dsimp only at hSw); go_simp <;> with_reducible rfl
  try simp only [Act.put, List.getElem_toArray, List.getElem_cons_zero, List.getElem_cons_succ, List.setIfInBounds_toArray, List.set_cons_zero, List.set_cons_succ]
  refine AnyG.take (i := 5) (v := ?_) rfl (by kernel_rfl) (by kernel_rfl) (by kernel_rfl) (fun _ _ _ h => h) (by kernel_rfl) (by kernel_rfl) (Or.inl ⟨by rfl, ?_⟩) (by assumption) ?_
  rotate_left
  · intro w9 hSw; (try dsimp only at hSw); go_simp <;> with_reducible rfl
  try simp only [Act.put, List.getElem_toArray, List.getElem_cons_zero, List.getElem_cons_succ, List.setIfInBounds_toArray, List.set_cons_zero, List.set_cons_succ]
  refine AnyG.take0 (i := 6) (v := ?_) rfl (by kernel_rfl) (by kernel_rfl) (by kernel_rfl) (fun _ _ _ h => h) (by decide) (Or.inl ⟨by rfl, ?_⟩) (by assumption) ?_
  rotate_left
  · intro w9 hSw; clear hSw; go_simp <;> with_reducible rfl
  try simp only [Act.put, List.getElem_toArray, List.getElem_cons_zero, List.getElem_cons_succ, List.setIfInBounds_toArray, List.set_cons_zero, List.set_cons_succ]
  refine AnyG.step (i := 7) (by kernel_rfl) rfl (fun K hK => ?_)
  go_simp
  refine hK.out _ _ (fun h => absurd h (by decide)) (fun _ => ?_)
  clear hK
  try simp only [Act.put, List.getElem_toArray, List.getElem_cons_zero, List.getElem_cons_succ, List.setIfInBounds_toArray, List.set_cons_zero, List.set_cons_succ]
  refine AnyG.done (by kernel_rfl) ?_ _
  clear KK K0 KD K_w6 K_w7
  replace r_m := Lib.hid (r_m.out.keep B_w7.out)
  replace BB := Lib.hid (below_next BB.out B_w7.out)
  clear B_w6 B_w7
  obtain ⟨-, kk3⟩ := wb_room k3 hr2.out
  replace kk3 := Lib.hid kk3
  clear k3 k1
  have e_st : ((w7.setCell ⟨g_m, 0, none⟩ (.int .i64 h3)).setCell ⟨g_m, 1, none⟩ (.int .u64 l3)) = setFrom w7 (g_m) 0 [.int .i64 h3, .int .u64 l3] := by simp only [setFrom, Nat.reduceAdd]
  rw [e_st]
  clear e_st
  replace r_m := Lib.hid (AtB.setAll r_m.out [.int .i64 h3, .int .u64 l3] rfl)
  replace BB := Lib.hid (below_setAll (b := g_m) (by have dd := d_m.out; omega) [.int .i64 h3, .int .u64 l3] 0 BB.out)
  generalize setFrom w7 (g_m) 0 [.int .i64 h3, .int .u64 l3] = w8 at *
  obtain ⟨c_m0, c_m1, f_m0, f_m1⟩ := reads2 r_m.out
  have l_m := r_m.out.lt
  go_wp2_with fail
  refine (CF.out _ _ kk3.out _).mono ?_
  rintro e w10 ⟨rfl, hb⟩
  clear c_m0 c_m1 f_m0 f_m1 l_m
  replace r_m := Lib.hid (r_m.out.keep hb)
  replace BB := Lib.hid (below_next BB.out hb)
  clear hb
  cases fb with
  | false =>
    go_wp2_with fail
    refine bodyPost_ret (v := .tuple #[.int .i64 0, .bool false]) (by unfold results; simp only [Tryd.results22]; go_simp) rfl ?_
    exact give_far hfb.out.symm BB.out
  | true =>
    have hz0 : Hid (fitsB z 63 = true) := hfb.out.symm
    have hz1 : fx = z := by rw [hfx.out]; exact fitX_t hz0.out
    have DS := Lib.hid (CS.out (fits_63.1 hz0.out))
    subst hz1
    clear CS hfx hfb
    go_wp2_with fail
    refine (DS.out _ BB.out).mono ?_
    rintro e w11 ⟨rfl, hb⟩
    replace r_m := Lib.hid (r_m.out.keep hb)
    replace BB := Lib.hid (below_next BB.out hb)
    clear hb
    cases same with
    | false =>
      go_wp2_with fail
      refine bodyPost_ret (v := .tuple #[.int .i64 0, .bool false]) (by unfold results; simp only [Tryd.results22]; go_simp) rfl ?_
      exact give_ne (of_decide_eq_false hsame.out.symm) BB.out
    | true =>
      go_wp2_with fail
      refine bodyPost_ret (v := .tuple #[.int .i64 fx, .bool true]) (by unfold results; simp only [Tryd.results22]; go_simp) rfl ?_
      exact give_eq hz0.out (of_decide_eq_true hsame.out.symm) BB.out
set_option maxRecDepth 100000 in
set_option maxHeartbeats 4000000 in
theorem fread_neg_pt (t h r : ByteArray) (l : List UInt8) (n : Nat) (p : Nat) (hp : p < 65536) (CP : Hid (CutP ⟨l.toArray⟩ t true)) (CC : Hid (CutC t h r true)) (CN : Hid (∀ w, Calls Tryd.prog 48 #[.string h] w fun e w' => e = .returned (.tuple #[.int .u64 (n : Int), .bool true]) ∧ Below w.heap.size w w')) (hn : n ≤ 140737488355328)
    (CQ : Hid (∀ w, Calls Tryd.prog 49 #[.string r] w fun e w' => e = .returned (.tuple #[.int .i64 (p : Int), .bool true]) ∧ Below w.heap.size w w'))
    (w : World) (ht : Tab w) : Calls Tryd.prog 22 #[.string ⟨l.toArray⟩] w (GiveFin (some (-((n : Int) * 65536 + p))) l w) := by
  have g1 : ¬ (140737488355328 : Int) < (n : Int) := by omega
  have e1 : wrap64 (n : Int) = (n : Int) := ww ⟨by omega, by omega⟩
  have e2 : IntKind.i64.wrap (n : Int) = (n : Int) := iw ⟨by omega, by omega⟩
  have CM := Lib.hid (fun w => wmul (n : Int) 65536 (show I64 (n : Int) by unfold I64; omega) (by unfold I64; omega) w)
  obtain ⟨z1, hz1⟩ : ∃ z, z = (n : Int) * 65536 := ⟨_, rfl⟩
  obtain ⟨z2, hz2⟩ : ∃ z, z = (n : Int) * 65536 + p := ⟨_, rfl⟩
  have CO := Lib.hid (fun w => wof (p : Int) (show I64 (p : Int) by unfold I64; omega) w)
  have CA := Lib.hid (fun h l h2 l2 k k2 w => wadd ((n : Int) * 65536) (p : Int) h l h2 l2 k k2 w)
  have hr2 : Hid (I128 z2) := by unfold I128; show _ ∧ _; omega
  obtain ⟨z, hz⟩ : ∃ z, z = -z2 := ⟨_, rfl⟩
  have hr : Hid (I128 z) := by unfold I128; show _ ∧ _; omega
  have CG := Lib.hid (fun h l k w => wneg z2 h l k w)
  rw [← hz2] at CA ⊢
  rw [← hz1] at CA CM
  rw [← hz] at CG ⊢
  clear hz hz1 hn hz2 hp
  have CF := Lib.hid (fun h l k w => wfits z h l k w)
  have CS : Hid (I64 z → ∀ w9, Below w.heap.size w w9 → Calls Tryd.prog 21 #[.int .i64 z] w9 fun e w' => e = .returned (.string ⟨(sT z).toArray⟩) ∧ Below w9.heap.size w9 w') := fun hz w9 hb => fshow z hz w9 (tab_on ht hb)
  have hq1 := str_eq (sT z) l
  obtain ⟨Q, hQ⟩ : ∃ Q : ByteArray, Q = ⟨(sT z).toArray⟩ := ⟨_, rfl⟩
  obtain ⟨s, hs⟩ : ∃ Q : ByteArray, Q = ⟨l.toArray⟩ := ⟨_, rfl⟩
  rw [← hQ, ← hs] at hq1
  rw [← hQ] at CS
  rw [← hs] at CP ⊢
  obtain ⟨same, hsame⟩ : ∃ b : Bool, b = decide (sT z = l) := ⟨_, rfl⟩
  rw [← hsame] at hq1
  have hq2 : (Q.toList != s.toList) = !same := by rw [bne, hq1]
  replace hsame := Lib.hid hsame
  clear hQ hs ht
  obtain ⟨fx, hfx⟩ : ∃ x, x = fitX z := ⟨_, rfl⟩
  obtain ⟨fb, hfb⟩ : ∃ x, x = fitsB z 63 := ⟨_, rfl⟩
  rw [← hfx, ← hfb] at CF
  replace hfx := Lib.hid hfx
  replace hfb := Lib.hid hfb
  go_enter Tryd.func22, Tryd.ntmps22
  go_wp2_with fail
  have BB : Hid (Below w.heap.size w w) := Below.refl _ _
  refine (CP.out _).mono ?_
  rintro e w9 ⟨rfl, rfl⟩
  go_wp2_with fail
  refine (CC.out _).mono ?_
  rintro e w1 ⟨rfl, hb⟩
  replace BB := Lib.hid (below_next BB.out hb)
  clear hb
  go_wp2_with fail
  refine (CN.out _).mono ?_
  rintro e w2 ⟨rfl, hb⟩
  replace BB := Lib.hid (below_next BB.out hb)
  clear hb
  go_wp2_with fail
  refine (CM.out _).mono ?_
  rintro e w3 ⟨h1, l1, rfl, hb, k1⟩
  replace BB := Lib.hid (below_next BB.out hb)
  clear hb
  replace k1 := Lib.hid k1
  go_wp2_with fail
  have d_m := Lib.hid (And.intro BB.out.size (True.intro))
  obtain ⟨hb, r_m⟩ := laid w3 #[.int .i64 h1, .int .u64 l1] WTX
  replace BB := Lib.hid (below_next BB.out hb)
  replace r_m := Lib.hid r_m
  clear hb
  generalize w3.alloc (.cells #[.int .i64 h1, .int .u64 l1] WTX) = w4 at *
  generalize w3.heap.size = g_m at *
  refine (CQ.out _).mono ?_
  rintro e w5 ⟨rfl, hb⟩
  replace r_m := Lib.hid (r_m.out.keep hb)
  replace BB := Lib.hid (below_next BB.out hb)
  clear hb
  obtain ⟨c_m0, c_m1, f_m0, f_m1⟩ := reads2 r_m.out
  have l_m := r_m.out.lt
  go_wp2_with fail
  clear c_m0 c_m1 f_m0 f_m1 l_m
  have KK := Lib.hid (fun (w9 : World) (h : Below w5.heap.size w5 w9) => (cells2 (r_m.out.keep h) : (w9.cell? ⟨g_m, 0, none⟩ = some (.int .i64 h1) ∧ w9.cell? ⟨g_m, 1, none⟩ = some (.int .u64 l1))))
  have K0 := KK.out w5 (Below.refl _ _)
  have KD := KK.out w5.drew (below_drew (Below.refl _ _))
  refine AnyG.begin_ (fun w9 => (w9.cell? ⟨g_m, 0, none⟩ = some (.int .i64 h1) ∧ w9.cell? ⟨g_m, 1, none⟩ = some (.int .u64 l1))) 7 (by kernel_rfl) ?_
  refine AnyG.take (i := 0) (v := ?_) rfl (by kernel_rfl) (by kernel_rfl) (by kernel_rfl) (fun _ _ _ h => h) (by kernel_rfl) (by kernel_rfl) (Or.inl ⟨by rfl, ?_⟩) (by assumption) ?_
  rotate_left
  · intro w9 hSw; (try dsimp only at hSw); go_simp <;> with_reducible rfl
  try simp only [Act.put, List.getElem_toArray, List.getElem_cons_zero, List.getElem_cons_succ, List.setIfInBounds_toArray, List.set_cons_zero, List.set_cons_succ]
  refine AnyG.take (i := 1) (v := ?_) rfl (by kernel_rfl) (by kernel_rfl) (by kernel_rfl) (fun _ _ _ h => h) (by kernel_rfl) (by kernel_rfl) (Or.inl ⟨by rfl, ?_⟩) (by assumption) ?_
  rotate_left
  · intro w9 hSw; (try dsimp only at hSw); go_simp <;> with_reducible rfl
  try simp only [Act.put, List.getElem_toArray, List.getElem_cons_zero, List.getElem_cons_succ, List.setIfInBounds_toArray, List.set_cons_zero, List.set_cons_succ]
  refine AnyG.step (i := 2) (by kernel_rfl) rfl (fun K hK => ?_)
  go_simp
  go_at_call 27
  refine (CO.out _).mono ?_
  rintro e w6 ⟨h2, l2, rfl, hb, k2⟩
  have B_w6 := Lib.hid (reg_next (w0 := w5) (by repeat (first | with_reducible exact Below.refl _ _ | with_reducible apply below_drew | with_reducible apply below_new)) hb)
  have K_w6 := KK.out _ B_w6.out
  clear hb
  refine hK.out _ _ (fun _ => K_w6) (fun hHeld => ?_)
  replace hHeld := hHeld (by decide)
  clear hK
  try simp only [Act.put, List.getElem_toArray, List.getElem_cons_zero, List.getElem_cons_succ, List.setIfInBounds_toArray, List.set_cons_zero, List.set_cons_succ]
  refine AnyG.step (i := 3) (by kernel_rfl) rfl (fun K hK => ?_)
  go_simp
  go_at_call 26
  refine (CA.out _ _ _ _ k1.out k2 _).mono ?_
  rintro e w7 ⟨h3, l3, ok3, rfl, hb, k3⟩
  have B_w7 := Lib.hid (below_next B_w6.out hb)
  have K_w7 := KK.out _ B_w7.out
  obtain ⟨rc_m0, rc_m1, rf_m0, rf_m1⟩ := reads2 (r_m.out.keep B_w7.out)
  have rl_m := (r_m.out.keep B_w7.out).lt
  clear hb
  refine hK.out _ _ (fun _ => K_w7) (fun hHeld => ?_)
  replace hHeld := hHeld (by decide)
  clear hK
  try simp only [Act.put, List.getElem_toArray, List.getElem_cons_zero, List.getElem_cons_succ, List.setIfInBounds_toArray, List.set_cons_zero, List.set_cons_succ]
  refine AnyG.take (i := 4) (v := ?_) rfl (by kernel_rfl) (by kernel_rfl) (by kernel_rfl) (fun _ _ _ h => h) (by kernel_rfl) (by kernel_rfl) (Or.inl ⟨by rfl, ?_⟩) (by assumption) ?_
  rotate_left
  · intro w9 hSw; (try dsimp only at hSw); go_simp <;> with_reducible rfl
  try simp only [Act.put, List.getElem_toArray, List.getElem_cons_zero, List.getElem_cons_succ, List.setIfInBounds_toArray, List.set_cons_zero, List.set_cons_succ]
  refine AnyG.take (i := 5) (v := ?_) rfl (by kernel_rfl) (by kernel_rfl) (by kernel_rfl) (fun _ _ _ h => h) (by kernel_rfl) (by kernel_rfl) (Or.inl ⟨by rfl, ?_⟩) (by assumption) ?_
  rotate_left
  · intro w9 hSw; (try dsimp only at hSw); go_simp <;> with_reducible rfl
  try simp only [Act.put, List.getElem_toArray, List.getElem_cons_zero, List.getElem_cons_succ, List.setIfInBounds_toArray, List.set_cons_zero, List.set_cons_succ]
  refine AnyG.take0 (i := 6) (v := ?_) rfl (by kernel_rfl) (by kernel_rfl) (by kernel_rfl) (fun _ _ _ h => h) (by decide) (Or.inl ⟨by rfl, ?_⟩) (by assumption) ?_
  rotate_left
  · intro w9 hSw; clear hSw; go_simp <;> with_reducible rfl
  try simp only [Act.put, List.getElem_toArray, List.getElem_cons_zero, List.getElem_cons_succ, List.setIfInBounds_toArray, List.set_cons_zero, List.set_cons_succ]
  refine AnyG.step (i := 7) (by kernel_rfl) rfl (fun K hK => ?_)
  go_simp
  refine hK.out _ _ (fun h => absurd h (by decide)) (fun _ => ?_)
  clear hK
  try simp only [Act.put, List.getElem_toArray, List.getElem_cons_zero, List.getElem_cons_succ, List.setIfInBounds_toArray, List.set_cons_zero, List.set_cons_succ]
  refine AnyG.done (by kernel_rfl) ?_ _
  clear KK K0 KD K_w6 K_w7
  replace r_m := Lib.hid (r_m.out.keep B_w7.out)
  replace BB := Lib.hid (below_next BB.out B_w7.out)
  clear B_w6 B_w7
  obtain ⟨-, kk3⟩ := wb_room k3 hr2.out
  replace kk3 := Lib.hid kk3
  clear k3 k1
  have e_st : ((w7.setCell ⟨g_m, 0, none⟩ (.int .i64 h3)).setCell ⟨g_m, 1, none⟩ (.int .u64 l3)) = setFrom w7 (g_m) 0 [.int .i64 h3, .int .u64 l3] := by simp only [setFrom, Nat.reduceAdd]
  rw [e_st]
  clear e_st
  replace r_m := Lib.hid (AtB.setAll r_m.out [.int .i64 h3, .int .u64 l3] rfl)
  replace BB := Lib.hid (below_setAll (b := g_m) (by have dd := d_m.out; omega) [.int .i64 h3, .int .u64 l3] 0 BB.out)
  generalize setFrom w7 (g_m) 0 [.int .i64 h3, .int .u64 l3] = w8 at *
  obtain ⟨c_m0, c_m1, f_m0, f_m1⟩ := reads2 r_m.out
  have l_m := r_m.out.lt
  go_wp2_with fail
  refine (CG.out _ _ kk3.out _).mono ?_
  rintro e w10 ⟨h4, l4, ok4, rfl, hb, k4⟩
  clear c_m0 c_m1 f_m0 f_m1 l_m
  replace r_m := Lib.hid (r_m.out.keep hb)
  replace BB := Lib.hid (below_next BB.out hb)
  clear hb
  obtain ⟨rfl, kk4⟩ := wb_room k4 hr.out
  clear k4
  replace kk4 := Lib.hid kk4
  obtain ⟨c_m0, c_m1, f_m0, f_m1⟩ := reads2 r_m.out
  have l_m := r_m.out.lt
  go_upto_region 14 with fail
  clear c_m0 c_m1 f_m0 f_m1 l_m
  have e_st : ((w10.setCell ⟨g_m, 0, none⟩ (.int .i64 h4)).setCell ⟨g_m, 1, none⟩ (.int .u64 l4)) = setFrom w10 (g_m) 0 [.int .i64 h4, .int .u64 l4] := by simp only [setFrom, Nat.reduceAdd]
  rw [e_st]
  clear e_st
  replace r_m := Lib.hid (AtB.setAll r_m.out [.int .i64 h4, .int .u64 l4] rfl)
  replace BB := Lib.hid (below_setAll (b := g_m) (by have dd := d_m.out; omega) [.int .i64 h4, .int .u64 l4] 0 BB.out)
  generalize setFrom w10 (g_m) 0 [.int .i64 h4, .int .u64 l4] = w11 at *
  obtain ⟨c_m0, c_m1, f_m0, f_m1⟩ := reads2 r_m.out
  have l_m := r_m.out.lt
  go_wp2_with fail
  refine (CF.out _ _ kk4.out _).mono ?_
  rintro e w12 ⟨rfl, hb⟩
  clear c_m0 c_m1 f_m0 f_m1 l_m
  replace r_m := Lib.hid (r_m.out.keep hb)
  replace BB := Lib.hid (below_next BB.out hb)
  clear hb
  cases fb with
  | false =>
    go_wp2_with fail
    refine bodyPost_ret (v := .tuple #[.int .i64 0, .bool false]) (by unfold results; simp only [Tryd.results22]; go_simp) rfl ?_
    exact give_far hfb.out.symm BB.out
  | true =>
    have hz0 : Hid (fitsB z 63 = true) := hfb.out.symm
    have hz1 : fx = z := by rw [hfx.out]; exact fitX_t hz0.out
    have DS := Lib.hid (CS.out (fits_63.1 hz0.out))
    subst hz1
    clear CS hfx hfb
    go_wp2_with fail
    refine (DS.out _ BB.out).mono ?_
    rintro e w13 ⟨rfl, hb⟩
    replace r_m := Lib.hid (r_m.out.keep hb)
    replace BB := Lib.hid (below_next BB.out hb)
    clear hb
    cases same with
    | false =>
      go_wp2_with fail
      refine bodyPost_ret (v := .tuple #[.int .i64 0, .bool false]) (by unfold results; simp only [Tryd.results22]; go_simp) rfl ?_
      exact give_ne (of_decide_eq_false hsame.out.symm) BB.out
    | true =>
      go_wp2_with fail
      refine bodyPost_ret (v := .tuple #[.int .i64 fx, .bool true]) (by unfold results; simp only [Tryd.results22]; go_simp) rfl ?_
      exact give_eq hz0.out (of_decide_eq_true hsame.out.symm) BB.out
theorem fread_mid (t h r l : List UInt8) (neg pt : Bool) (CP : CutP ⟨l.toArray⟩ ⟨t.toArray⟩ neg) (CC : CutC ⟨t.toArray⟩ ⟨h.toArray⟩ ⟨r.toArray⟩ pt) (hc : cutD t = (h, if pt then some r else none)) (w : World) (ht : Tab w) :
    Calls Tryd.prog 22 #[.string ⟨l.toArray⟩] w (GiveFin (if neg then (candU t).map (fun z => -z) else candU t) l w) := by
  have e0 : candU t = match numO h with | none => none | some n => if 140737488355328 < n then none else match (if pt then some r else none) with | none => some ((n : Int) * 65536) | some r => match partO r with | none => none | some p => some ((n : Int) * 65536 + p) := by
    unfold candU; rw [hc]; rfl
  cases hn : numO h with
  | none =>
    rw [hn] at e0
    rw [e0]
    have := fread_nonum ⟨l.toArray⟩ _ _ _ l neg pt CP CC (fun w => num_no h hn w) w
    cases neg <;> exact this
  | some n =>
    rw [hn] at e0
    have hN : Hid (∀ w, Calls Tryd.prog 48 #[.string ⟨h.toArray⟩] w fun e w' => e = .returned (.tuple #[.int .u64 (n : Int), .bool true]) ∧ Below w.heap.size w w') := fun w => (num_is h n hn w).2
    by_cases hb : 140737488355328 < n
    · simp only [hb, if_true] at e0
      rw [e0]
      have := fread_big ⟨l.toArray⟩ _ _ _ l neg pt n CP CC hN hb w
      cases neg <;> exact this
    · simp only [hb, if_false] at e0
      cases pt with
      | false =>
        rw [e0]
        cases neg
        · exact fread_pos _ _ _ l n CP CC hN (by omega) w ht
        · exact fread_neg _ _ _ l n CP CC hN (by omega) w ht
      | true =>
        simp only [if_true] at e0
        cases hp : partO r with
        | none =>
          rw [hp] at e0
          rw [e0]
          have := fread_nopart ⟨l.toArray⟩ _ _ _ l neg n CP CC hN (by omega) (fun w => part_no r hp w) w
          cases neg <;> exact this
        | some p =>
          rw [hp] at e0
          rw [e0]
          have hP : Hid (∀ w, Calls Tryd.prog 49 #[.string ⟨r.toArray⟩] w fun e w' => e = .returned (.tuple #[.int .i64 (p : Int), .bool true]) ∧ Below w.heap.size w w') := fun w => (part_is r p hp w).2
          cases neg
          · exact fread_pos_pt _ _ _ l n p (part_is r p hp w).1 CP CC hN (by omega) hP w ht
          · exact fread_neg_pt _ _ _ l n p (part_is r p hp w).1 CP CC hN (by omega) hP w ht
theorem fread_any (l : List UInt8) (hl : l.length ≤ 1000) (w : World) (ht : Tab w) : Calls Tryd.prog 22 #[.string ⟨l.toArray⟩] w (GiveFin (signed candU l) l w) := by
  have main : ∀ (t : List UInt8) (neg : Bool), t.length ≤ 1000 → CutP ⟨l.toArray⟩ ⟨t.toArray⟩ neg → Calls Tryd.prog 22 #[.string ⟨l.toArray⟩] w (GiveFin (if neg then (candU t).map (fun z => -z) else candU t) l w) := by
    intro t neg htl CP
    rcases cutD_cases t with ⟨h1, h2⟩ | ⟨h, r, h1, h2, h3⟩
    · exact fread_mid t t [] l neg false CP (fun w => cut_no t h1 w) h2 w ht
    · exact fread_mid t h r l neg true CP (fun w => by rw [h1]; exact cut_yes h r h2 (by rw [← h1]; exact htl) w) h3 w ht
  unfold signed
  by_cases hh : l.head? = some 45
  · rw [if_pos hh]
    cases l with
    | nil => simp at hh
    | cons c t =>
      obtain rfl : c = 45 := by simpa using hh
      exact main t true (by simp at hl ⊢; omega) (fun w => cp_yes t w)
  · rw [if_neg hh]
    exact main l false hl (fun w => cp_no l hh w)
end Go.Proofs.YthdbchghhpoadaaDoor
