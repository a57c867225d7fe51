/- The walk of NearBy. -/
import Derived.Test.YtnklbnphiokpiaaNb0
import Derived.Test.YtnklbnphiokpiaaBoxN
set_option linter.unusedVariables false
set_option linter.unusedSimpArgs false
namespace Go.Proofs.Ytnklbnphiokpiaa
open Go.RowKit
abbrev A2T : TypeId := 22
set_option maxRecDepth 100000 in
set_option maxHeartbeats 4000000 in
theorem nearBy_many (n u v : Int) (A : Option Addr) (l cap : Nat) (h : 50 < n ∨ 50 < l) (w : World) :
    Calls Try.prog 5 #[.int .i64 n, .agg #[.int .i64 u, .int .i64 v], .slice A l cap] w fun e w' => e = .returned (.bool true) ∧ Below w.heap.size w w' := by
  by_cases h1 : 50 < n
  · skip
    go_enter Try.func5, Try.ntmps5
    go_wp2_with fail
    have BB := start1 w #[.int .i64 u, .int .i64 v] A2T
    obtain ⟨BB, hsz, r_p⟩ := BB
    generalize (w.alloc (.cells #[.int .i64 u, .int .i64 v] A2T)) = w0 at *
    replace BB := Lib.hid BB
    replace r_p := Lib.hid r_p
    clear hsz
    go_wp2_with fail
    go_ret
    exact ⟨rfl, BB.out⟩
  · have h2 : (50 : Int) < (l : Int) := by omega
    go_enter Try.func5, Try.ntmps5
    go_wp2_with fail
    have BB := start1 w #[.int .i64 u, .int .i64 v] A2T
    obtain ⟨BB, hsz, r_p⟩ := BB
    generalize (w.alloc (.cells #[.int .i64 u, .int .i64 v] A2T)) = w0 at *
    replace BB := Lib.hid BB
    replace r_p := Lib.hid r_p
    clear hsz
    go_wp2_with fail
    go_ret
    exact ⟨rfl, BB.out⟩
set_option maxRecDepth 100000 in
set_option maxHeartbeats 4000000 in
theorem nearBy_less (n u v : Int) (A : Option Addr) (l cap : Nat) (h : n < 1) (hl : l ≤ 50) (w : World) :
    Calls Try.prog 5 #[.int .i64 n, .agg #[.int .i64 u, .int .i64 v], .slice A l cap] w fun e w' => e = .returned (.bool true) ∧ Below w.heap.size w w' := by
  have h1 : ¬ 50 < n := by omega
  have h2 : ¬ (50 : Int) < (l : Int) := by omega
  have CA := Lib.hid (fun f w => nby_lt f n u v h w)
  have CL := Lib.hid (fun w => near_alive w)
  go_enter Try.func5, Try.ntmps5
  go_wp2_with fail
  have BB := start2 w #[.int .i64 u, .int .i64 v] A2T #[.slice A l cap, .slice none 0 0] AGT
  obtain ⟨BB, hsz, r_p, r_a⟩ := BB
  generalize ((w.alloc (.cells #[.int .i64 u, .int .i64 v] A2T)).alloc (.cells #[.slice A l cap, .slice none 0 0] AGT)) = w0 at *
  replace BB := Lib.hid BB
  replace r_p := Lib.hid r_p
  replace r_a := Lib.hid r_a
  clear hsz
  refine (CA.out _ _).mono ?_
  rintro e w1 ⟨rfl, hb⟩
  replace r_p := Lib.hid (r_p.out.keep hb)
  replace r_a := Lib.hid (r_a.out.keep hb)
  replace BB := Lib.hid (below_next BB.out hb)
  clear hb
  obtain ⟨c_p0, c_p1, f_p0, f_p1⟩ := reads2 r_p.out
  have l_p := r_p.out.lt
  go_wp2_with fail
  refine (CA.out _ _).mono ?_
  rintro e w2 ⟨rfl, hb⟩
  clear c_p0 c_p1 f_p0 f_p1 l_p
  replace r_p := Lib.hid (r_p.out.keep hb)
  replace r_a := Lib.hid (r_a.out.keep hb)
  replace BB := Lib.hid (below_next BB.out hb)
  clear hb
  obtain ⟨c_a0, c_a1, f_a0, f_a1⟩ := reads2 r_a.out
  have l_a := r_a.out.lt
  go_wp2_with fail
  refine (CL.out _).mono ?_
  rintro e w9 ⟨rfl, rfl⟩
  go_wp2_with fail
  go_ret
  exact ⟨rfl, BB.out⟩
set_option maxRecDepth 100000 in
set_option maxHeartbeats 4000000 in
theorem nearBy_out (n u v : Int) (A : Option Addr) (l cap : Nat) (h : 1 ≤ n) (hn : n ≤ 50) (hl : l ≤ 50) (hin : (inB u 70368744177664 && inB v 70368744177664) = false) (w : World) :
    Calls Try.prog 5 #[.int .i64 n, .agg #[.int .i64 u, .int .i64 v], .slice A l cap] w fun e w' => e = .returned (.bool true) ∧ Below w.heap.size w w' := by
  have h1 : ¬ 50 < n := by omega
  have h2 : ¬ (50 : Int) < (l : Int) := by omega
  have h3 : decide (n < 1) = false := decide_eq_false (by omega)
  have CA := Lib.hid (fun K a w => nby_out K a n u v h hin w)
  have CN := Lib.hid (fun w => nby_nil n u v h w)
  have CR := Lib.hid (fun w => right_any u v w)
  replace hin := Lib.hid hin
  have CL := Lib.hid (fun w => near_alive w)
  go_enter Try.func5, Try.ntmps5
  go_wp2_with fail
  have BB := start2 w #[.int .i64 u, .int .i64 v] A2T #[.slice A l cap, .slice none 0 0] AGT
  obtain ⟨BB, hsz, r_p, r_a⟩ := BB
  generalize ((w.alloc (.cells #[.int .i64 u, .int .i64 v] A2T)).alloc (.cells #[.slice A l cap, .slice none 0 0] AGT)) = w0 at *
  replace BB := Lib.hid BB
  replace r_p := Lib.hid r_p
  replace r_a := Lib.hid r_a
  clear hsz
  refine (CA.out _ _ _).mono ?_
  rintro e w1 ⟨rfl, hb⟩
  replace r_p := Lib.hid (r_p.out.keep hb)
  replace r_a := Lib.hid (r_a.out.keep hb)
  replace BB := Lib.hid (below_next BB.out hb)
  clear hb
  obtain ⟨c_p0, c_p1, f_p0, f_p1⟩ := reads2 r_p.out
  have l_p := r_p.out.lt
  go_wp2_with fail
  refine (CN.out _).mono ?_
  rintro e w2 ⟨rfl, hb⟩
  clear c_p0 c_p1 f_p0 f_p1 l_p
  replace r_p := Lib.hid (r_p.out.keep hb)
  replace r_a := Lib.hid (r_a.out.keep hb)
  replace BB := Lib.hid (below_next BB.out hb)
  clear hb
  obtain ⟨c_a0, c_a1, f_a0, f_a1⟩ := reads2 r_a.out
  have l_a := r_a.out.lt
  obtain ⟨c_p0, c_p1, f_p0, f_p1⟩ := reads2 r_p.out
  have l_p := r_p.out.lt
  go_wp2_with fail
  refine (CR.out _).mono ?_
  rintro e w9 ⟨rfl, rfl⟩
  rw [hin.out]
  go_wp2_with fail
  refine (CL.out _).mono ?_
  rintro e w9 ⟨rfl, rfl⟩
  go_wp2_with fail
  go_ret
  exact ⟨rfl, BB.out⟩
set_option maxRecDepth 100000 in
set_option maxHeartbeats 8000000 in
theorem nearBy_ok (c : Nat) (u v : Int) (A : Option Addr) (cap : Nat) (L : List Int) (hc : 1 ≤ c ∧ c ≤ 50) (hl : L.length ≤ 50) (hin : (inB u 70368744177664 && inB v 70368744177664) = true) (w : World) (hs : BS w (.slice A L.length cap) L) :
    Calls Try.prog 5 #[.int .i64 (c : Int), .agg #[.int .i64 u, .int .i64 v], .slice A L.length cap] w fun e w' => e = .returned (.bool true) ∧ Below w.heap.size w w' := by
  have h1 : ¬ 50 < (c : Int) := by omega
  have h2 : ¬ (50 : Int) < (L.length : Int) := by omega
  have h3 : decide ((c : Int) < 1) = false := decide_eq_false (by omega)
  have hin2 := hin
  rw [Bool.and_eq_true] at hin2
  obtain ⟨u0, u1⟩ := inB_iff.1 hin2.1
  obtain ⟨v0, v1⟩ := inB_iff.1 hin2.2
  have CB := Lib.hid (fun g w hg hs hf => nby28 g c (by omega) (.slice A L.length cap) L u v hin2.1 hin2.2 w hg hs hf)
  have CN := Lib.hid (fun w => nby_nil c u v (by omega) w)
  have CR := Lib.hid (fun w => right_any u v w)
  have CU := Lib.hid (fun w => nearest_any u u0 u1 w)
  have CV := Lib.hid (fun w => nearest_any v v0 v1 w)
  change Hid (∀ w, Calls _ _ _ _ (fun e w' => e = .returned (.int .i64 (X28 u)) ∧ _)) at CU
  change Hid (∀ w, Calls _ _ _ _ (fun e w' => e = .returned (.int .i64 (X28 v)) ∧ _)) at CV
  have CL := Lib.hid (fun w => near_alive w)
  have hf : Hid (L ≠ [] → ∀ a n cap2, (Value.slice A L.length cap) = .slice (some a) n cap2 → a.block ≠ w.heap.size + 1) := fun hL a n cap2 ea => by
    obtain ⟨b', off', cap3, e2, -, -, hlt2, -⟩ := hs.some hL
    rw [e2] at ea
    simp only [Value.slice.injEq, Option.some.injEq] at ea
    rw [← ea.1]
    show b' ≠ w.heap.size + 1
    omega
  have hyb := Lib.hid (fun k => hs.bytes k)
  replace hs := Lib.hid hs
  replace hin := Lib.hid hin
  clear hin2 u0 u1 v0 v1
  generalize X28 u = X at *
  generalize X28 v = Y at *
  obtain ⟨l, hll⟩ : ∃ l, l = L.length := ⟨_, rfl⟩
  replace hll := Lib.hid hll
  rw [← hll.out] at h2 CB hf hs hl ⊢
  go_enter Try.func5, Try.ntmps5
  go_wp2_with fail
  have BB := start2 w #[.int .i64 u, .int .i64 v] A2T #[.slice A l cap, .slice none 0 0] AGT
  obtain ⟨BB, hsz, r_p, r_a⟩ := BB
  generalize ((w.alloc (.cells #[.int .i64 u, .int .i64 v] A2T)).alloc (.cells #[.slice A l cap, .slice none 0 0] AGT)) = w0 at *
  replace BB := Lib.hid BB
  replace r_p := Lib.hid r_p
  replace r_a := Lib.hid r_a
  clear hsz
  refine (CB.out _ _ r_a.out (hs.out.below BB.out) hf.out).mono ?_
  rintro e wr ⟨o, b, cap2, rfl, hr, hat, e0, e1, hb2, hb1, ho, hs', hbb⟩
  have h_r := Lib.hid hr
  have h_s := Lib.hid hs'
  have h_x := Lib.hid (show XR wr b X Y from ⟨e0, e1, hb2⟩)
  replace r_a := Lib.hid hat
  replace r_p := Lib.hid (r_p.out.keepB (hbb (w.heap.size + 1) (Nat.le_refl _)) (by omega))
  replace BB := Lib.hid (BB.out.trans (hbb w.heap.size (by omega)))
  clear hr hat e0 e1 hb2 hb1 ho hs' hbb hf CB hs
  obtain ⟨c_p0, c_p1, f_p0, f_p1⟩ := reads2 r_p.out
  have l_p := r_p.out.lt
  go_wp2_with fail
  refine (CN.out _).mono ?_
  rintro e w1 ⟨rfl, hb⟩
  clear c_p0 c_p1 f_p0 f_p1 l_p
  replace r_p := Lib.hid (r_p.out.keep hb)
  replace r_a := Lib.hid (r_a.out.keep hb)
  replace h_r := Lib.hid (BRow.keep h_r.out hb)
  replace h_s := Lib.hid (BS.below h_s.out hb)
  replace h_x := Lib.hid (XR.below h_x.out hb)
  replace BB := Lib.hid (below_next BB.out hb)
  clear hb
  obtain ⟨c_a0, c_a1, f_a0, f_a1⟩ := reads2 r_a.out
  have l_a := r_a.out.lt
  obtain ⟨c_p0, c_p1, f_p0, f_p1⟩ := reads2 r_p.out
  have l_p := r_p.out.lt
  go_wp2_with fail
  refine (CR.out _).mono ?_
  rintro e w9 ⟨rfl, rfl⟩
  rw [hin.out]
  go_wp2_with fail
  refine wp_loop_rounds 2 ?_
  obtain ⟨q0, q1, q2⟩ := h_x.out
  rw [rounds_succ]
  go_wp2_with fail
  have Q_0 := Lib.hid (fun n => quiet_same (CU.out (w1.drewN n)))
  have Q_1 := Lib.hid (fun n => quiet_same (CV.out (w1.drewN n)))
  go_quiet ((first | (go_at_call 30; with_reducible exact Q_0.out _) | (go_at_call 30; with_reducible exact Q_1.out _)))
  clear Q_0 Q_1
  have hb := below_drawn (Below.refl w1.heap.size w1) nq
  generalize w1.drewN nq = w2 at *
  clear c_a0 c_a1 f_a0 f_a1 l_a c_p0 c_p1 f_p0 f_p1 l_p
  replace r_p := Lib.hid (r_p.out.keep hb)
  replace r_a := Lib.hid (r_a.out.keep hb)
  replace h_r := Lib.hid (BRow.keep h_r.out hb)
  replace h_s := Lib.hid (BS.below h_s.out hb)
  replace h_x := Lib.hid (XR.below h_x.out hb)
  replace BB := Lib.hid (below_next BB.out hb)
  clear hb nq
  go_wp2_with fail
  rw [rounds_succ]
  go_wp2_with fail
  clear q0 q1 q2 CU CV CR CN
  go_loop [12, 13] (fun i _ => ∃ k : Nat, k ≤ c ∧ i = .int .i64 k) (fun i _ => c - (intOf i).toNat)
  case atStart => exact ⟨0, by omega, rfl⟩
  case round =>
    obtain ⟨k, hk, rfl⟩ := hrel
    by_cases hlt : k < c
    · have k0 : (0 : Int) ≤ (k : Int) := by omega
      have k1 : (k : Int) < (c : Int) := by omega
      have cz := row8 h_r.out (by rw [padL_len]; exact hlt)
      rw [padL_get hlt] at cz
      by_cases hkl : k < l
      · rw [if_pos (by rw [← hll.out]; exact hkl)] at cz
        have k2 : (k : Int) < (l : Int) := by omega
        obtain ⟨sb, so, scap, se, s1, s2, s3, s4⟩ := h_s.out.some (fun e => by rw [hll.out, e] at hkl; simp at hkl)
        rw [← hll.out] at se s1
        simp only [Value.slice.injEq, true_and] at se
        obtain ⟨rfl, rfl⟩ := se
        have cl := s4 k (by rw [← hll.out]; exact hkl)
        generalize L.getD k 0 = z at *
        clear s4
        go_wp2_with fail
        go_round
        case rel => exact ⟨k + 1, by omega, by go_num⟩
        case measure => simp [intOf]; omega
      · rw [if_neg (by rw [← hll.out]; exact hkl)] at cz
        have k2 : ¬ (k : Int) < (l : Int) := by omega
        go_wp2_with fail
        go_round
        case rel => exact ⟨k + 1, by omega, by go_num⟩
        case measure => simp [intOf]; omega
    · obtain rfl : k = c := by omega
      go_wp2_with fail
      refine (CL.out _).mono ?_
      rintro e w9 ⟨rfl, rfl⟩
      go_wp2_with fail
      go_ret
      exact ⟨rfl, BB.out⟩
theorem nearBy_any (n u v : Int) (s : Value) (L : List Int) (w : World) (hs : BS w s L) :
    Calls Try.prog 5 #[.int .i64 n, .agg #[.int .i64 u, .int .i64 v], s] w fun e w' => e = .returned (.bool true) ∧ Below w.heap.size w w' := by
  obtain ⟨A, cap, rfl⟩ := hs.form
  by_cases h : 50 < n ∨ 50 < L.length
  · exact nearBy_many n u v A _ cap h w
  · by_cases h1 : n < 1
    · exact nearBy_less n u v A _ cap h1 (by omega) w
    · cases hin : inB u 70368744177664 && inB v 70368744177664
      · exact nearBy_out n u v A _ cap (by omega) (by omega) (by omega) hin w
      · obtain ⟨c, rfl⟩ : ∃ c : Nat, n = (c : Int) := ⟨n.toNat, by omega⟩
        exact nearBy_ok c u v A cap L (by omega) (by omega) hin w hs
end Go.Proofs.Ytnklbnphiokpiaa
