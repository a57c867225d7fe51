/- Parts of the proof: Rr18 Rr19. -/
import Derived.Test.YtikpobembcgbfaaGreatDoorQ27
import Derived.Test.YtikpobembcgbfaaGreatDoorQ14
import Derived.Test.YtikpobembcgbfaaGreatDoorQ38
import Derived.Test.YtikpobembcgbfaaGreatDoorQ39
set_option linter.unusedVariables false
set_option linter.unusedSimpArgs false
set_option maxRecDepth 100000
set_option maxHeartbeats 40000000
namespace Go.Proofs.YtikpobembcgbfaaGreatDoor
open Go.RowKit Go.Lib
attribute [go_sem] Tryz.results15
theorem rr16_form (n cap S : Nat) (A : Option Addr) (w : World) (hS : S ≠ 0) (CF : Hid (∀ w1, Below w.heap.size w w1 → Calls Tryz.prog 28 #[.slice A n cap] w1 (GiveV S w1))) :
 Calls Tryz.prog 15 #[.slice A n cap] w (GiveRim (S, 0, 0, 0, []) w) := by
 have q1 : ((S : Int) != 0) = true := neq_t hS
 replace hS := Hi hS
 go_enter Tryz.func15, Tryz.ntmps15
 go_upto_region 1 with fail
 obtain ⟨w0, e, BB, q7⟩ := en1 w #[.int .i64 0, .int .i64 0, .int .i64 0, .slice none 0 0] IT
 rw [e]; clear e
 go_wp2_with fail
 refine (CF.out _ BB.out).mono ?_
 rintro e w1 ⟨rfl, hb⟩
 replace q7 := kp q7 hb
 replace BB := nx BB hb
 clear hb
 obtain ⟨qa, qb, qc, qd, qe, qf, qg, qh⟩ := reads4 q7.out
 have qi := q7.out.lt
 go_wp2_with fail
 clear qa qb qc qd qe qf qg qh qi
 have F := st4 q7 BB 0 (.int .i64 0) 1 (.int .i64 0) 2 (.int .i64 0) 3 (.slice none 0 0)
 clear q7 BB
 obtain ⟨w2, e, q7, BB, F⟩ := F
 rw [e]; clear e
 clear F
 obtain ⟨qa, qb, qc, qd, qe, qf, qg, qh⟩ := reads4 q7.out
 have qi := q7.out.lt
 refine bret (.tuple #[imv 0 0 0 (.slice none 0 0), .int .i64 (S : Int)]) ?_
 exact ⟨0, 0, 0, _, rfl, BB.out, ⟨_, _, _, rfl⟩, fun _ => ⟨rfl, rfl, rfl, rfl⟩, fun e => absurd e (hS.out)⟩
def badE (W H C s N WH L v2 v34 n S : Nat) : Prop := (((W : Int) == 0) = true ∧ S = 12) ∨ (((W : Int) == 0) = false ∧ ((H : Int) == 0) = true ∧ S = 12) ∨ (((W : Int) == 0) = false ∧ ((H : Int) == 0) = false ∧ (32768 : Int) < (W : Int) ∧ S = 30) ∨ (((W : Int) == 0) = false ∧ ((H : Int) == 0) = false ∧ ¬ (32768 : Int) < (W : Int) ∧ (32768 : Int) < (H : Int) ∧ S = 30) ∨ (((W : Int) == 0) = false ∧ ((H : Int) == 0) = false ∧ ¬ (32768 : Int) < (W : Int) ∧ ¬ (32768 : Int) < (H : Int) ∧ IntKind.i64.wrap ((W : Int) * (H : Int)) = (WH : Int) ∧ wrap64 ((W : Int) * (H : Int)) = (WH : Int) ∧ (4194304 : Int) < (WH : Int) ∧ S = 30) ∨ (((W : Int) == 0) = false ∧ ((H : Int) == 0) = false ∧ ¬ (32768 : Int) < (W : Int) ∧ ¬ (32768 : Int) < (H : Int) ∧ IntKind.i64.wrap ((W : Int) * (H : Int)) = (WH : Int) ∧ wrap64 ((W : Int) * (H : Int)) = (WH : Int) ∧ ¬ (4194304 : Int) < (WH : Int) ∧ Hid (∀ w1, Calls Tryz.prog 30 #[.int .i64 (W : Int), .int .i64 (C : Int)] w1 (GiveV s w1)) ∧ IntKind.i64.wrap ((s : Int) * (H : Int)) = (N : Int) ∧ wrap64 ((s : Int) * (H : Int)) = (N : Int) ∧ IntKind.i64.wrap ((n : Int) - 54) = (L : Int) ∧ (L : Int) < (N : Int) ∧ S = 20) ∨ (((W : Int) == 0) = false ∧ ((H : Int) == 0) = false ∧ ¬ (32768 : Int) < (W : Int) ∧ ¬ (32768 : Int) < (H : Int) ∧ IntKind.i64.wrap ((W : Int) * (H : Int)) = (WH : Int) ∧ wrap64 ((W : Int) * (H : Int)) = (WH : Int) ∧ ¬ (4194304 : Int) < (WH : Int) ∧ Hid (∀ w1, Calls Tryz.prog 30 #[.int .i64 (W : Int), .int .i64 (C : Int)] w1 (GiveV s w1)) ∧ IntKind.i64.wrap ((s : Int) * (H : Int)) = (N : Int) ∧ wrap64 ((s : Int) * (H : Int)) = (N : Int) ∧ IntKind.i64.wrap ((n : Int) - 54) = (L : Int) ∧ ¬ (L : Int) < (N : Int) ∧ (N : Int) < (L : Int) ∧ S = 22) ∨ (((W : Int) == 0) = false ∧ ((H : Int) == 0) = false ∧ ¬ (32768 : Int) < (W : Int) ∧ ¬ (32768 : Int) < (H : Int) ∧ IntKind.i64.wrap ((W : Int) * (H : Int)) = (WH : Int) ∧ wrap64 ((W : Int) * (H : Int)) = (WH : Int) ∧ ¬ (4194304 : Int) < (WH : Int) ∧ Hid (∀ w1, Calls Tryz.prog 30 #[.int .i64 (W : Int), .int .i64 (C : Int)] w1 (GiveV s w1)) ∧ IntKind.i64.wrap ((s : Int) * (H : Int)) = (N : Int) ∧ wrap64 ((s : Int) * (H : Int)) = (N : Int) ∧ IntKind.i64.wrap ((n : Int) - 54) = (L : Int) ∧ ¬ (L : Int) < (N : Int) ∧ ¬ (N : Int) < (L : Int) ∧ ((v2 : Int) != (n : Int)) = true ∧ S = 21) ∨ (((W : Int) == 0) = false ∧ ((H : Int) == 0) = false ∧ ¬ (32768 : Int) < (W : Int) ∧ ¬ (32768 : Int) < (H : Int) ∧ IntKind.i64.wrap ((W : Int) * (H : Int)) = (WH : Int) ∧ wrap64 ((W : Int) * (H : Int)) = (WH : Int) ∧ ¬ (4194304 : Int) < (WH : Int) ∧ Hid (∀ w1, Calls Tryz.prog 30 #[.int .i64 (W : Int), .int .i64 (C : Int)] w1 (GiveV s w1)) ∧ IntKind.i64.wrap ((s : Int) * (H : Int)) = (N : Int) ∧ wrap64 ((s : Int) * (H : Int)) = (N : Int) ∧ IntKind.i64.wrap ((n : Int) - 54) = (L : Int) ∧ ¬ (L : Int) < (N : Int) ∧ ¬ (N : Int) < (L : Int) ∧ ((v2 : Int) != (n : Int)) = false ∧ ((v34 : Int) != 0) = true ∧ ((v34 : Int) != (N : Int)) = true ∧ S = 21)
theorem rr16_bad (n cap b off W h0 H s N WH L v2 v34 S C : Nat) (hC : C = 3 ∨ C = 4) (w : World)
 (CF : Hid (∀ w1, Below w.heap.size w w1 → Calls Tryz.prog 28 #[.slice (some ⟨b, off, none⟩) n cap] w1 (GiveV 0 w1)))
 (LW : Hid (∀ w1, Below w.heap.size w w1 → Calls Tryz.prog 29 #[.slice (some ⟨b, off, none⟩) n cap, .int .i64 18, .int .i64 4] w1 (GiveV W w1)))
 (LH : Hid (∀ w1, Below w.heap.size w w1 → Calls Tryz.prog 29 #[.slice (some ⟨b, off, none⟩) n cap, .int .i64 22, .int .i64 4] w1 (GiveV h0 w1)))
 (LC : Hid (∀ w1, Below w.heap.size w w1 → Calls Tryz.prog 29 #[.slice (some ⟨b, off, none⟩) n cap, .int .i64 28, .int .i64 2] w1 (GiveV (8 * C) w1)))
 (L2 : Hid (∀ w1, Below w.heap.size w w1 → Calls Tryz.prog 29 #[.slice (some ⟨b, off, none⟩) n cap, .int .i64 2, .int .i64 4] w1 (GiveV v2 w1)))
 (L3 : Hid (∀ w1, Below w.heap.size w w1 → Calls Tryz.prog 29 #[.slice (some ⟨b, off, none⟩) n cap, .int .i64 34, .int .i64 4] w1 (GiveV v34 w1)))
 (d : ((2147483648 : Int) ≤ (h0 : Int) ∧ IntKind.i64.wrap ((4294967296 : Int) - (h0 : Int)) = (H : Int)) ∨ (decide ((2147483648 : Int) ≤ (h0 : Int)) = false ∧ h0 = H))
 (E : badE W H C s N WH L v2 v34 n S) :
 Calls Tryz.prog 15 #[.slice (some ⟨b, off, none⟩) n cap] w (GiveRim (S, 0, 0, 0, []) w) := by
 go_enter Tryz.func15, Tryz.ntmps15
 go_upto_region 1 with fail
 obtain ⟨w0, e, BB, q7⟩ := en1 w #[.int .i64 0, .int .i64 0, .int .i64 0, .slice none 0 0] IT
 rw [e]; clear e
 go_wp2_with fail
 refine (CF.out _ BB.out).mono ?_
 rintro e w1 ⟨rfl, hb⟩
 replace q7 := kp q7 hb
 replace BB := nx BB hb
 clear hb
 go_wp2_with fail
 refine (LW.out _ BB.out).mono ?_
 rintro e w2 ⟨rfl, hb⟩
 replace q7 := kp q7 hb
 replace BB := nx BB hb
 clear hb
 go_wp2_with fail
 refine (LH.out _ BB.out).mono ?_
 rintro e w3 ⟨rfl, hb⟩
 replace q7 := kp q7 hb
 replace BB := nx BB hb
 clear hb
 go_upto_region 6 with fail
 go_cut [7] from 25 to 27 (fun u wc => u = .int .i64 (C : Int) ∧ Hid (AtB wc w.heap.size #[.int .i64 0, .int .i64 0, .int .i64 0, .slice none 0 0] IT ∧ Below w.heap.size w wc))
 case first =>
  rcases hC with rfl | rfl
  ·
   go_wp2_with fail
   refine (LC.out _ BB.out).mono ?_
   rintro e w4 ⟨rfl, hb⟩
   replace q7 := kp q7 hb
   replace BB := nx BB hb
   clear hb
   go_wp2_with fail
   go_meet
   exact ⟨rfl, q7.out, BB.out⟩
  ·
   go_wp2_with fail
   refine (LC.out _ BB.out).mono ?_
   rintro e w4 ⟨rfl, hb⟩
   replace q7 := kp q7 hb
   replace BB := nx BB hb
   clear hb
   go_wp2_with fail
   go_meet
   exact ⟨rfl, q7.out, BB.out⟩
 case rest =>
 clear q7 BB CF LW LH LC
 obtain ⟨rfl, hI⟩ := hcut
 obtain ⟨q7, BB⟩ := hI.out
 replace q7 := Hi q7; replace BB := Hi BB
 clear hI
 replace d : (decide ((2147483648 : Int) ≤ (h0 : Int)) = true ∧ IntKind.i64.wrap ((4294967296 : Int) - (h0 : Int)) = (H : Int)) ∨ (decide ((2147483648 : Int) ≤ (h0 : Int)) = false ∧ h0 = H) := d.imp (fun h => ⟨decide_eq_true h.1, h.2⟩) id
 go_upto_if 30 with fail
 generalize decide ((2147483648 : Int) ≤ (h0 : Int)) = dn at *
 go_cut [6] from 31 to 32 (fun u wd => u = .int .i64 (H : Int) ∧ Hid (AtB wd w.heap.size #[.int .i64 0, .int .i64 0, .int .i64 0, .slice none 0 0] IT ∧ Below w.heap.size w wd))
 case first =>
  rcases d with ⟨rfl, d2⟩ | ⟨rfl, d2⟩
  · go_wp2_with fail
    go_meet
    exact ⟨rfl, q7.out, BB.out⟩
  · obtain rfl : H = h0 := d2.symm
    clear d2
    go_wp2_with fail
    go_meet
    exact ⟨rfl, q7.out, BB.out⟩
 case rest =>
 clear q7 BB d
 obtain ⟨rfl, hI⟩ := hcut
 obtain ⟨q7, BB⟩ := hI.out
 replace q7 := Hi q7; replace BB := Hi BB
 clear hI
 unfold badE at E
 rcases E with ⟨q0, rfl⟩ | ⟨q0, q1, rfl⟩ | ⟨q0, q1, q2, rfl⟩ | ⟨q0, q1, q2, q3, rfl⟩ | ⟨q0, q1, q2, q3, q4, q5, q6, rfl⟩ | ⟨q0, q1, q2, q3, q4, q5, q6, CS, q8, q9, q10, q11, rfl⟩ | ⟨q0, q1, q2, q3, q4, q5, q6, CS, q8, q9, q10, q11, q12, rfl⟩ | ⟨q0, q1, q2, q3, q4, q5, q6, CS, q8, q9, q10, q11, q12, q13, rfl⟩ | ⟨q0, q1, q2, q3, q4, q5, q6, CS, q8, q9, q10, q11, q12, q13, q14, q15, rfl⟩
 ·
  obtain ⟨qa, qb, qc, qd, qe, qf, qg, qh⟩ := reads4 q7.out
  have qi := q7.out.lt
  go_wp2_with fail
  clear qa qb qc qd qe qf qg qh qi
  have F := st4 q7 BB 0 (.int .i64 0) 1 (.int .i64 0) 2 (.int .i64 0) 3 (.slice none 0 0)
  clear q7 BB
  obtain ⟨w5, e, q7, BB, F⟩ := F
  rw [e]; clear e
  clear F
  obtain ⟨qa, qb, qc, qd, qe, qf, qg, qh⟩ := reads4 q7.out
  have qi := q7.out.lt
  refine bret (.tuple #[imv 0 0 0 (.slice none 0 0), .int .i64 12]) ?_
  exact ⟨0, 0, 0, _, rfl, BB.out, ⟨_, _, _, rfl⟩, fun _ => ⟨rfl, rfl, rfl, rfl⟩, fun e => absurd e (by simp)⟩
 ·
  obtain ⟨qa, qb, qc, qd, qe, qf, qg, qh⟩ := reads4 q7.out
  have qi := q7.out.lt
  go_wp2_with fail
  clear qa qb qc qd qe qf qg qh qi
  have F := st4 q7 BB 0 (.int .i64 0) 1 (.int .i64 0) 2 (.int .i64 0) 3 (.slice none 0 0)
  clear q7 BB
  obtain ⟨w5, e, q7, BB, F⟩ := F
  rw [e]; clear e
  clear F
  obtain ⟨qa, qb, qc, qd, qe, qf, qg, qh⟩ := reads4 q7.out
  have qi := q7.out.lt
  refine bret (.tuple #[imv 0 0 0 (.slice none 0 0), .int .i64 12]) ?_
  exact ⟨0, 0, 0, _, rfl, BB.out, ⟨_, _, _, rfl⟩, fun _ => ⟨rfl, rfl, rfl, rfl⟩, fun e => absurd e (by simp)⟩
 ·
  obtain ⟨qa, qb, qc, qd, qe, qf, qg, qh⟩ := reads4 q7.out
  have qi := q7.out.lt
  go_wp2_with fail
  clear qa qb qc qd qe qf qg qh qi
  have F := st4 q7 BB 0 (.int .i64 0) 1 (.int .i64 0) 2 (.int .i64 0) 3 (.slice none 0 0)
  clear q7 BB
  obtain ⟨w5, e, q7, BB, F⟩ := F
  rw [e]; clear e
  clear F
  obtain ⟨qa, qb, qc, qd, qe, qf, qg, qh⟩ := reads4 q7.out
  have qi := q7.out.lt
  refine bret (.tuple #[imv 0 0 0 (.slice none 0 0), .int .i64 30]) ?_
  exact ⟨0, 0, 0, _, rfl, BB.out, ⟨_, _, _, rfl⟩, fun _ => ⟨rfl, rfl, rfl, rfl⟩, fun e => absurd e (by simp)⟩
 ·
  obtain ⟨qa, qb, qc, qd, qe, qf, qg, qh⟩ := reads4 q7.out
  have qi := q7.out.lt
  go_wp2_with fail
  clear qa qb qc qd qe qf qg qh qi
  have F := st4 q7 BB 0 (.int .i64 0) 1 (.int .i64 0) 2 (.int .i64 0) 3 (.slice none 0 0)
  clear q7 BB
  obtain ⟨w5, e, q7, BB, F⟩ := F
  rw [e]; clear e
  clear F
  obtain ⟨qa, qb, qc, qd, qe, qf, qg, qh⟩ := reads4 q7.out
  have qi := q7.out.lt
  refine bret (.tuple #[imv 0 0 0 (.slice none 0 0), .int .i64 30]) ?_
  exact ⟨0, 0, 0, _, rfl, BB.out, ⟨_, _, _, rfl⟩, fun _ => ⟨rfl, rfl, rfl, rfl⟩, fun e => absurd e (by simp)⟩
 ·
  obtain ⟨qa, qb, qc, qd, qe, qf, qg, qh⟩ := reads4 q7.out
  have qi := q7.out.lt
  go_wp2_with fail
  clear qa qb qc qd qe qf qg qh qi
  have F := st4 q7 BB 0 (.int .i64 0) 1 (.int .i64 0) 2 (.int .i64 0) 3 (.slice none 0 0)
  clear q7 BB
  obtain ⟨w5, e, q7, BB, F⟩ := F
  rw [e]; clear e
  clear F
  obtain ⟨qa, qb, qc, qd, qe, qf, qg, qh⟩ := reads4 q7.out
  have qi := q7.out.lt
  refine bret (.tuple #[imv 0 0 0 (.slice none 0 0), .int .i64 30]) ?_
  exact ⟨0, 0, 0, _, rfl, BB.out, ⟨_, _, _, rfl⟩, fun _ => ⟨rfl, rfl, rfl, rfl⟩, fun e => absurd e (by simp)⟩
 ·
  go_wp2_with fail
  refine (CS.out _).mono ?_
  rintro e w5 ⟨rfl, hb⟩
  replace q7 := kp q7 hb
  replace BB := nx BB hb
  clear hb
  obtain ⟨qa, qb, qc, qd, qe, qf, qg, qh⟩ := reads4 q7.out
  have qi := q7.out.lt
  go_wp2_with fail
  clear qa qb qc qd qe qf qg qh qi
  have F := st4 q7 BB 0 (.int .i64 0) 1 (.int .i64 0) 2 (.int .i64 0) 3 (.slice none 0 0)
  clear q7 BB
  obtain ⟨w6, e, q7, BB, F⟩ := F
  rw [e]; clear e
  clear F
  obtain ⟨qa, qb, qc, qd, qe, qf, qg, qh⟩ := reads4 q7.out
  have qi := q7.out.lt
  refine bret (.tuple #[imv 0 0 0 (.slice none 0 0), .int .i64 20]) ?_
  exact ⟨0, 0, 0, _, rfl, BB.out, ⟨_, _, _, rfl⟩, fun _ => ⟨rfl, rfl, rfl, rfl⟩, fun e => absurd e (by simp)⟩
 ·
  go_wp2_with fail
  refine (CS.out _).mono ?_
  rintro e w5 ⟨rfl, hb⟩
  replace q7 := kp q7 hb
  replace BB := nx BB hb
  clear hb
  obtain ⟨qa, qb, qc, qd, qe, qf, qg, qh⟩ := reads4 q7.out
  have qi := q7.out.lt
  go_wp2_with fail
  clear qa qb qc qd qe qf qg qh qi
  have F := st4 q7 BB 0 (.int .i64 0) 1 (.int .i64 0) 2 (.int .i64 0) 3 (.slice none 0 0)
  clear q7 BB
  obtain ⟨w6, e, q7, BB, F⟩ := F
  rw [e]; clear e
  clear F
  obtain ⟨qa, qb, qc, qd, qe, qf, qg, qh⟩ := reads4 q7.out
  have qi := q7.out.lt
  refine bret (.tuple #[imv 0 0 0 (.slice none 0 0), .int .i64 22]) ?_
  exact ⟨0, 0, 0, _, rfl, BB.out, ⟨_, _, _, rfl⟩, fun _ => ⟨rfl, rfl, rfl, rfl⟩, fun e => absurd e (by simp)⟩
 ·
  go_wp2_with fail
  refine (CS.out _).mono ?_
  rintro e w5 ⟨rfl, hb⟩
  replace q7 := kp q7 hb
  replace BB := nx BB hb
  clear hb
  go_wp2_with fail
  refine (L2.out _ BB.out).mono ?_
  rintro e w6 ⟨rfl, hb⟩
  replace q7 := kp q7 hb
  replace BB := nx BB hb
  clear hb
  obtain ⟨qa, qb, qc, qd, qe, qf, qg, qh⟩ := reads4 q7.out
  have qi := q7.out.lt
  go_wp2_with fail
  clear qa qb qc qd qe qf qg qh qi
  have F := st4 q7 BB 0 (.int .i64 0) 1 (.int .i64 0) 2 (.int .i64 0) 3 (.slice none 0 0)
  clear q7 BB
  obtain ⟨w7, e, q7, BB, F⟩ := F
  rw [e]; clear e
  clear F
  obtain ⟨qa, qb, qc, qd, qe, qf, qg, qh⟩ := reads4 q7.out
  have qi := q7.out.lt
  refine bret (.tuple #[imv 0 0 0 (.slice none 0 0), .int .i64 21]) ?_
  exact ⟨0, 0, 0, _, rfl, BB.out, ⟨_, _, _, rfl⟩, fun _ => ⟨rfl, rfl, rfl, rfl⟩, fun e => absurd e (by simp)⟩
 ·
  go_wp2_with fail
  refine (CS.out _).mono ?_
  rintro e w5 ⟨rfl, hb⟩
  replace q7 := kp q7 hb
  replace BB := nx BB hb
  clear hb
  go_wp2_with fail
  refine (L2.out _ BB.out).mono ?_
  rintro e w6 ⟨rfl, hb⟩
  replace q7 := kp q7 hb
  replace BB := nx BB hb
  clear hb
  go_wp2_with fail
  refine (L3.out _ BB.out).mono ?_
  rintro e w7 ⟨rfl, hb⟩
  replace q7 := kp q7 hb
  replace BB := nx BB hb
  clear hb
  go_wp2_with fail
  refine (L3.out _ BB.out).mono ?_
  rintro e w8 ⟨rfl, hb⟩
  replace q7 := kp q7 hb
  replace BB := nx BB hb
  clear hb
  obtain ⟨qa, qb, qc, qd, qe, qf, qg, qh⟩ := reads4 q7.out
  have qi := q7.out.lt
  go_wp2_with fail
  clear qa qb qc qd qe qf qg qh qi
  have F := st4 q7 BB 0 (.int .i64 0) 1 (.int .i64 0) 2 (.int .i64 0) 3 (.slice none 0 0)
  clear q7 BB
  obtain ⟨w10, e, q7, BB, F⟩ := F
  rw [e]; clear e
  clear F
  obtain ⟨qa, qb, qc, qd, qe, qf, qg, qh⟩ := reads4 q7.out
  have qi := q7.out.lt
  refine bret (.tuple #[imv 0 0 0 (.slice none 0 0), .int .i64 21]) ?_
  exact ⟨0, 0, 0, _, rfl, BB.out, ⟨_, _, _, rfl⟩, fun _ => ⟨rfl, rfl, rfl, rfl⟩, fun e => absurd e (by simp)⟩
theorem i64_k {k : Nat} (h : k ≤ 1000000000000) : I64 (k : Int) := ⟨by omega, by omega⟩
/-- The row that stands at number k. -/
def rkN (down : Bool) (H k : Nat) : Nat := if down then k else H - 1 - k
def pxN (l : List UInt8) (W H C : Nat) (down : Bool) (k j : Nat) : List UInt8 := rowsB l W H C down k ++ turnL C ((l.drop (54 + rkN down H k * strideN W C)).take (C * j))
theorem turnL_nil (C : Nat) : turnL C [] = [] := by unfold turnL; split <;> rfl
section
variable {l : List UInt8} {W H C : Nat} {down : Bool}
theorem px_zero (k : Nat) : pxN l W H C down k 0 = rowsB l W H C down k := by unfold pxN; rw [Nat.mul_zero, List.take_zero, turnL_nil, List.append_nil]
theorem px_all (k : Nat) : pxN l W H C down k W = rowsB l W H C down (k + 1) := by unfold pxN; rw [Nat.mul_comm C W]; rfl
theorem rk_lt {k : Nat} (h : k < H) : rkN down H k < H := by unfold rkN; split <;> omega
theorem px_room (hl : l.length = 54 + strideN W C * H) {k j : Nat} (hk : k < H) (hj : j < W) : 54 + rkN down H k * strideN W C + j * C + C ≤ l.length := by
 have h1 := Nat.mul_le_mul_right (strideN W C) (show rkN down H k + 1 ≤ H from rk_lt hk)
 rw [Nat.add_mul, Nat.one_mul, Nat.mul_comm H] at h1
 have h2 := Nat.mul_le_mul_right C (show j + 1 ≤ W from hj)
 rw [Nat.add_mul, Nat.one_mul] at h2
 have h3 := stride_ge W C
 omega
theorem px_len (hl : l.length = 54 + strideN W C * H) (hl2 : l.length ≤ 20000) {k : Nat} (hk : k < H) (j : Nat) : (pxN l W H C down k j).length ≤ 50000000 := by
 have h1 := rowsB_len (b := l) (w := W) (h := H) (c := C) (down := down) (by omega) k (by omega)
 have h2 := Nat.mul_le_mul_right (W * C) (show k ≤ H by omega)
 have h3 := Nat.mul_le_mul_right H (stride_ge W C)
 rw [Nat.mul_comm H] at h2
 unfold pxN
 rw [List.length_append, turnL_len, List.length_take, List.length_drop, h1]
 omega
theorem px_step3 (hl : l.length = 54 + strideN W 3 * H) {k j : Nat} (hk : k < H) (hj : j < W) :
 pxN l W H 3 down k (j + 1) = pxN l W H 3 down k j ++ [l.getD (54 + rkN down H k * strideN W 3 + j * 3 + 2) 0, l.getD (54 + rkN down H k * strideN W 3 + j * 3 + 1) 0, l.getD (54 + rkN down H k * strideN W 3 + j * 3) 0] := by
 have hr := px_room (down := down) hl hk hj
 have e := turn3_step j (l.drop (54 + rkN down H k * strideN W 3)) (by rw [List.length_drop]; omega)
 unfold pxN turnL
 rw [if_neg (by decide), if_neg (by decide), e, getD_drop8, getD_drop8, getD_drop8, List.append_assoc, Nat.mul_comm 3 j]
 simp only [Nat.add_assoc]
theorem px_step4 (hl : l.length = 54 + strideN W 4 * H) {k j : Nat} (hk : k < H) (hj : j < W) :
 pxN l W H 4 down k (j + 1) = pxN l W H 4 down k j ++ ([l.getD (54 + rkN down H k * strideN W 4 + j * 4 + 2) 0, l.getD (54 + rkN down H k * strideN W 4 + j * 4 + 1) 0, l.getD (54 + rkN down H k * strideN W 4 + j * 4) 0] ++ [l.getD (54 + rkN down H k * strideN W 4 + j * 4 + 3) 0]) := by
 have hr := px_room (down := down) hl hk hj
 have e := turn4_step j (l.drop (54 + rkN down H k * strideN W 4)) (by rw [List.length_drop]; omega)
 unfold pxN turnL
 rw [if_pos rfl, if_pos rfl, e, getD_drop8, getD_drop8, getD_drop8, getD_drop8, List.append_assoc, Nat.mul_comm 4 j]
 simp only [Nat.add_assoc, List.cons_append, List.nil_append]
end
theorem bmpF_ok {l : List UInt8} (h : bmpF l = 0) : 54 ≤ l.length ∧ (hdB l 28 2 = 24 ∨ hdB l 28 2 = 32) := by
 unfold bmpF at h
 split at h
 · omega
 split at h
 · omega
 split at h
 · omega
 split at h
 · omega
 split at h
 · omega
 omega
theorem ne_int {a b : Nat} (h : a ≠ b) : ((a : Int) != (b : Int)) = true := by rw [bne_iff_ne]; omega
theorem eq_int {a b : Nat} (h : a = b) : ((a : Int) != (b : Int)) = false := by rw [bne_eq_false_iff_eq]; omega
theorem rread16 (v : Value) (l : List UInt8) (hl : l.length ≤ 20000) (w : World) (h : BY w v l) : Calls Tryz.prog 15 #[v] w (GiveRim (bmpR l) w) := by
 have CF := Lib.hid (fun w1 (hb : Below w.heap.size w w1) => rform v l (by omega) w1 (h.below hb))
 obtain ⟨A, cap, e⟩ := h.form
 subst e
 by_cases hF : bmpF l = 0
 · obtain ⟨h54, hbits⟩ := bmpF_ok hF
   rw [hF] at CF
   obtain ⟨b, off, c', e, hc1, hc2, hlt, hc⟩ := h.some (by rintro rfl; simp at h54)
   simp only [Value.slice.injEq] at e
   obtain ⟨rfl, -, rfl⟩ := e
   have LL := fun t m hm ht w1 (hb : Below w.heap.size w w1) => rlow l l.length cap b off rfl (by omega) w1 (h.below hb) t m hm ht
   have LW := Lib.hid (LL 18 4 (by omega) (by omega))
   have LH := Lib.hid (LL 22 4 (by omega) (by omega))
   have LC := Lib.hid (LL 28 2 (by omega) (by omega))
   have L2 := Lib.hid (LL 2 4 (by omega) (by omega))
   have L3 := Lib.hid (LL 34 4 (by omega) (by omega))
   have hcell : Hid (∀ q, q < l.length → ∀ w1, Below w.heap.size w w1 → w1.cell? ⟨b, off + q, none⟩ = some (.int .u8 ((l.getD q 0).toNat : Int))) := fun q hq w1 hb => (hb.cell (p := ⟨b, off + q, none⟩) hlt).trans (hc q hq)
   have hh0 : hdB l 22 4 < 4294967296 := lowB_lt 4 _
   have d : ((2147483648 : Int) ≤ ((hdB l 22 4 : Nat) : Int) ∧ IntKind.i64.wrap ((4294967296 : Int) - ((hdB l 22 4 : Nat) : Int)) = ((bmpH l : Nat) : Int)) ∨ (decide ((2147483648 : Int) ≤ ((hdB l 22 4 : Nat) : Int)) = false ∧ hdB l 22 4 = bmpH l) := by
    unfold bmpH
    by_cases hd : 2147483648 ≤ hdB l 22 4
    · left
      rw [if_pos hd]
      exact ⟨by omega, by rw [show (4294967296 : Int) - ((hdB l 22 4 : Nat) : Int) = ((4294967296 - hdB l 22 4 : Nat) : Int) by omega]; exact iw (i64_k (by omega))⟩
    · right
      rw [if_neg hd]
      exact ⟨decide_eq_false (by omega), rfl⟩
   have hdn : decide (2147483648 ≤ hdB l 22 4) = true ↔ (2147483648 : Int) ≤ ((hdB l 22 4 : Nat) : Int) := by rw [decide_eq_true_iff]; omega
   unfold bmpR
   rw [if_neg (by omega)]
   generalize hR : rowsB l (hdB l 18 4) (bmpH l) (hdB l 28 2 / 8) (decide (2147483648 ≤ hdB l 22 4)) (bmpH l) = R
   obtain ⟨dn, hdn2⟩ : ∃ dn, dn = decide (2147483648 ≤ hdB l 22 4) := ⟨_, rfl⟩
   rw [← hdn2] at hR hdn
   generalize hdB l 22 4 = h0 at *
   generalize bmpH l = H at *
   generalize hdB l 18 4 = W at *
   generalize hdB l 34 4 = v34 at *
   generalize hdB l 2 4 = v2 at *
   obtain ⟨C, hC⟩ : ∃ C, C = hdB l 28 2 / 8 := ⟨_, rfl⟩
   have hC34 : C = 3 ∨ C = 4 := by omega
   have hc0 : hdB l 28 2 = 8 * C := by omega
   rw [← hC] at hR ⊢
   rw [hc0] at LC
   clear hC
   have bad : ∀ s N WH L S, badE W H C s N WH L v2 v34 l.length S → Calls Tryz.prog 15 #[.slice (some ⟨b, off, none⟩) l.length cap] w (GiveRim (S, 0, 0, 0, []) w) := by
    intro s N WH L S hE
    exact rr16_bad l.length cap b off W h0 H s N WH L v2 v34 S C hC34 w CF LW LH LC L2 L3 d hE
   by_cases k1 : W = 0
   · rw [if_pos (.inl k1)]
     exact bad 0 0 0 0 12 (.inl ⟨by rw [beq_iff_eq]; omega, rfl⟩)
   by_cases k2 : H = 0
   · rw [if_pos (.inr k2)]
     exact bad 0 0 0 0 12 (.inr (.inl ⟨by rw [beq_eq_false_iff_ne]; omega, by rw [beq_iff_eq]; omega, rfl⟩))
   rw [if_neg (fun h => h.elim k1 k2)]
   have e1 : ((W : Int) == 0) = false := by rw [beq_eq_false_iff_ne]; omega
   have e2 : ((H : Int) == 0) = false := by rw [beq_eq_false_iff_ne]; omega
   by_cases k3 : 32768 < W
   · rw [if_pos (.inl k3)]
     exact bad 0 0 0 0 30 (.inr (.inr (.inl ⟨e1, e2, by omega, rfl⟩)))
   by_cases k4 : 32768 < H
   · rw [if_pos (.inr (.inl k4))]
     exact bad 0 0 0 0 30 (.inr (.inr (.inr (.inl ⟨e1, e2, by omega, by omega, rfl⟩))))
   have hWH : W * H ≤ 32768 * 32768 := Nat.mul_le_mul (by omega) (by omega)
   have w1 : IntKind.i64.wrap ((W : Int) * (H : Int)) = ((W * H : Nat) : Int) := by rw [← Int.natCast_mul]; exact iw (i64_k (Nat.le_trans hWH (by decide)))
   have w2 : wrap64 ((W : Int) * (H : Int)) = ((W * H : Nat) : Int) := by rw [← Int.natCast_mul]; exact ww (i64_k (Nat.le_trans hWH (by decide)))
   have e3 : ¬ (32768 : Int) < (W : Int) := by omega
   have e4 : ¬ (32768 : Int) < (H : Int) := by omega
   by_cases k5 : 4194304 < W * H
   · rw [if_pos (.inr (.inr k5))]
     exact bad 0 0 (W * H) 0 30 (.inr (.inr (.inr (.inr (.inl ⟨e1, e2, e3, e4, w1, w2, Int.ofNat_lt.2 k5, rfl⟩)))))
   rw [if_neg (fun h => h.elim k3 (fun h => h.elim k4 k5))]
   have e5 : ¬ (4194304 : Int) < ((W * H : Nat) : Int) := fun h => k5 (Int.ofNat_lt.1 h)
   have hWC : W * C ≤ 32768 * 4 := Nat.mul_le_mul (by omega) (by omega)
   obtain ⟨s, hs⟩ : ∃ s, s = strideN W C := ⟨_, rfl⟩
   have hs4 : s ≤ 131075 := by have := stride_le W C; omega
   have CS : ∀ w1, Calls Tryz.prog 30 #[.int .i64 (W : Int), .int .i64 (C : Int)] w1 (GiveV s w1) := fun w1 =>
    rstride_q W C (W * C) s (by omega) hs (by rw [← Int.natCast_mul]; exact iw (i64_k (Nat.le_trans hWC (by decide)))) (by rw [← Int.natCast_mul]; exact ww (i64_k (Nat.le_trans hWC (by decide)))) w1
   rw [← hs]
   have hN : s * H ≤ 131075 * 32768 := Nat.mul_le_mul hs4 (by omega)
   have m1 : IntKind.i64.wrap ((s : Int) * (H : Int)) = ((s * H : Nat) : Int) := by rw [← Int.natCast_mul]; exact iw (i64_k (Nat.le_trans hN (by decide)))
   have m2 : wrap64 ((s : Int) * (H : Int)) = ((s * H : Nat) : Int) := by rw [← Int.natCast_mul]; exact ww (i64_k (Nat.le_trans hN (by decide)))
   have m3 : IntKind.i64.wrap ((l.length : Int) - 54) = ((l.length - 54 : Nat) : Int) := by rw [show (l.length : Int) - 54 = ((l.length - 54 : Nat) : Int) by omega]; exact iw (i64_k (by omega))
   by_cases k6 : l.length - 54 < s * H
   · rw [if_pos k6]
     exact bad s (s * H) (W * H) (l.length - 54) 20 (.inr (.inr (.inr (.inr (.inr (.inl ⟨e1, e2, e3, e4, w1, w2, e5, CS, m1, m2, m3, Int.ofNat_lt.2 k6, rfl⟩))))))
   rw [if_neg k6]
   have e6 : ¬ ((l.length - 54 : Nat) : Int) < ((s * H : Nat) : Int) := fun h => k6 (Int.ofNat_lt.1 h)
   by_cases k7 : s * H < l.length - 54
   · rw [if_pos k7]
     exact bad s (s * H) (W * H) (l.length - 54) 22 (.inr (.inr (.inr (.inr (.inr (.inr (.inl ⟨e1, e2, e3, e4, w1, w2, e5, CS, m1, m2, m3, e6, Int.ofNat_lt.2 k7, rfl⟩)))))))
   rw [if_neg k7]
   have e7 : ¬ ((s * H : Nat) : Int) < ((l.length - 54 : Nat) : Int) := fun h => k7 (Int.ofNat_lt.1 h)
   have hz : l.length - 54 = s * H := Nat.le_antisymm (Nat.not_lt.1 k7) (Nat.not_lt.1 k6)
   have hlen : l.length = 54 + s * H := by rw [← hz]; exact (Nat.add_sub_cancel' h54).symm
   by_cases k8 : v2 ≠ l.length
   · rw [if_pos (.inl k8)]
     exact bad s (s * H) (W * H) (l.length - 54) 21 (.inr (.inr (.inr (.inr (.inr (.inr (.inr (.inl ⟨e1, e2, e3, e4, w1, w2, e5, CS, m1, m2, m3, e6, e7, ne_int k8, rfl⟩))))))))
   have q2 := eq_int (Decidable.not_not.1 k8)
   by_cases k9 : v34 ≠ 0 ∧ v34 ≠ s * H
   · rw [if_pos (.inr k9)]
     exact bad s (s * H) (W * H) (l.length - 54) 21 (.inr (.inr (.inr (.inr (.inr (.inr (.inr (.inr ⟨e1, e2, e3, e4, w1, w2, e5, CS, m1, m2, m3, e6, e7, q2, ne_int (b := 0) k9.1, ne_int k9.2, rfl⟩))))))))
   rw [if_neg (fun h => h.elim k8 k9)]
   have q3 : ((v34 : Int) != 0) = false ∨ (((v34 : Int) != 0) = true ∧ ((v34 : Int) != ((s * H : Nat) : Int)) = false) := by
    by_cases h0 : v34 = 0
    · exact .inl (eq_int (b := 0) h0)
    · exact .inr ⟨ne_int (b := 0) h0, eq_int (Decidable.not_not.1 (fun h => k9 ⟨h0, h⟩))⟩
   have m3' : IntKind.i64.wrap ((l.length : Int) - 54) = ((s * H : Nat) : Int) := by
    rw [m3, hz]
   have hHb : H ≤ 32768 := by omega
   subst hR
   clear bad
   rw [hs] at hlen
   rcases hC34 with rfl | rfl
   · cases dn with
     | true =>
       have d1 := d.resolve_right (fun k => absurd k.1 (by rw [decide_eq_true (hdn.1 rfl)]; simp))
       exact rr16_ok_3_1 l.length cap b off W h0 H s (s * H) (W * H) 0 v2 v34 (fun q => l.getD q 0) (rowsB l W H 3 true) (pxN l W H 3 true) w hl hHb hcell CF LW LH LC L2 L3 CS d1 e1 e2 e3 e4 w1 w2 e5 m1 m2 m3' q2 q3
        (Lib.hid rfl) (Lib.hid (fun k => px_zero k)) (Lib.hid (fun k _ => px_all k)) (Lib.hid (fun k j hk => px_len hlen hl hk j)) (Lib.hid (fun k j hk hj => by rw [hs]; exact px_step3 hlen hk hj)) (Lib.hid (fun k j hk hj => by rw [hs]; exact px_room hlen (down := true) hk hj))
     | false =>
       have d1 := d.resolve_left (fun k => absurd (hdn.2 k.1) (by simp))
       exact rr16_ok_3_0 l.length cap b off W h0 H s (s * H) (W * H) 0 v2 v34 (fun q => l.getD q 0) (rowsB l W H 3 false) (pxN l W H 3 false) w hl hHb hcell CF LW LH LC L2 L3 CS d1 e1 e2 e3 e4 w1 w2 e5 m1 m2 m3' q2 q3
        (Lib.hid rfl) (Lib.hid (fun k => px_zero k)) (Lib.hid (fun k _ => px_all k)) (Lib.hid (fun k j hk => px_len hlen hl hk j)) (Lib.hid (fun k j hk hj => by rw [hs]; exact px_step3 hlen hk hj)) (Lib.hid (fun k j hk hj => by rw [hs]; exact px_room hlen (down := false) hk hj))
   · cases dn with
     | true =>
       have d1 := d.resolve_right (fun k => absurd k.1 (by rw [decide_eq_true (hdn.1 rfl)]; simp))
       exact rr16_ok_4_1 l.length cap b off W h0 H s (s * H) (W * H) 0 v2 v34 (fun q => l.getD q 0) (rowsB l W H 4 true) (pxN l W H 4 true) w hl hHb hcell CF LW LH LC L2 L3 CS d1 e1 e2 e3 e4 w1 w2 e5 m1 m2 m3' q2 q3
        (Lib.hid rfl) (Lib.hid (fun k => px_zero k)) (Lib.hid (fun k _ => px_all k)) (Lib.hid (fun k j hk => px_len hlen hl hk j)) (Lib.hid (fun k j hk hj => by rw [hs]; exact px_step4 hlen hk hj)) (Lib.hid (fun k j hk hj => by rw [hs]; exact px_room hlen (down := true) hk hj))
     | false =>
       have d1 := d.resolve_left (fun k => absurd (hdn.2 k.1) (by simp))
       exact rr16_ok_4_0 l.length cap b off W h0 H s (s * H) (W * H) 0 v2 v34 (fun q => l.getD q 0) (rowsB l W H 4 false) (pxN l W H 4 false) w hl hHb hcell CF LW LH LC L2 L3 CS d1 e1 e2 e3 e4 w1 w2 e5 m1 m2 m3' q2 q3
        (Lib.hid rfl) (Lib.hid (fun k => px_zero k)) (Lib.hid (fun k _ => px_all k)) (Lib.hid (fun k j hk => px_len hlen hl hk j)) (Lib.hid (fun k j hk hj => by rw [hs]; exact px_step4 hlen hk hj)) (Lib.hid (fun k j hk hj => by rw [hs]; exact px_room hlen (down := false) hk hj))
 · unfold bmpR
   rw [if_pos (by omega)]
   exact rr16_form l.length cap _ A w hF CF
end Go.Proofs.YtikpobembcgbfaaGreatDoor
