/- The walk of law05.MatTurned: a matrix that is right. -/
import Derived.Test.YthoakbjnofhpbaaTu0
import Derived.Test.YthoakbjnofhpbaaMtL
set_option linter.unusedVariables false
set_option linter.unusedSimpArgs false
namespace Go.Proofs.Ythoakbjnofhpbaa
open Go.RowKit
set_option maxRecDepth 100000 in
set_option maxHeartbeats 32000000 in
theorem turned_ok (m0 m1 m2 m3 m4 m5 m6 m7 m8 n0 n1 n2 n3 n4 n5 n6 n7 n8 : Int) (hz : ∀ z ∈ [m0, m1, m2, m3, m4, m5, m6, m7, m8], I64 z) (hz2 : ∀ z ∈ [n0, n1, n2, n3, n4, n5, n6, n7, n8], I64 z) (hf : [m0, m1, m2, m3, m4, m5, m6, m7, m8].any farM = false) (w : World) : Calls Try.prog 9 #[.agg #[.int .i64 m0, .int .i64 m1, .int .i64 m2, .int .i64 m3, .int .i64 m4, .int .i64 m5, .int .i64 m6, .int .i64 m7, .int .i64 m8], .agg #[.int .i64 n0, .int .i64 n1, .int .i64 n2, .int .i64 n3, .int .i64 n4, .int .i64 n5, .int .i64 n6, .int .i64 n7, .int .i64 n8]] w fun e w' => e = .returned (.bool true) ∧ Below w.heap.size w w' := by
  have CA := Lib.hid (fun w => madj_ok m0 m1 m2 m3 m4 m5 m6 m7 m8 (far_i32 hf) w)
  have CD := Lib.hid (fun w => mdet_ok m0 m1 m2 m3 m4 m5 m6 m7 m8 (far_i32 hf) w)
  have CV := Lib.hid (fun w => alive5_any w)
  have CO := Lib.hid (fun w => of_any 0 (by unfold I64; omega) w)
  have Wm : ∀ z ∈ [m0, m1, m2, m3, m4, m5, m6, m7, m8], Wd 200 z := fun z h => (i64_wd (hz z h)).up (by omega)
  have CO1 := Lib.hid (fun p w => of_any ([m0, m1, m2, m3, m4, m5, m6, m7, m8].getD p 0) (getD_i64 hz p) w)
  have CB := Lib.hid (fun z h l hw w => lbig_any z h l hw w)
  have HC : ∀ t, Wd 200 ((fun t => cofI [m0, m1, m2, m3, m4, m5, m6, m7, m8] (t % 3) (t / 3)) t) := fun t => by
    have h := cof_in (far_i32 hf) (t % 3) (t / 3)
    show Wd 200 (cofI [m0, m1, m2, m3, m4, m5, m6, m7, m8] (t % 3) (t / 3))
    exact (i128_wd (by unfold I128; omega)).up (by omega)
  have HXY := Lib.hid (fun (i k : Nat) (hi : i < 3) (hk : k < 3) => txy_at m0 m1 m2 m3 m4 m5 m6 m7 m8 hi hk)
  have DW := Lib.hid (show Wd 400 (detM [m0, m1, m2, m3, m4, m5, m6, m7, m8]) from detM_wd hz (far_i32 hf))
  have Q0 : Hid ([n0, n1, n2, n3, n4, n5, n6, n7, n8].any farM = true → ∀ w, Calls Try.prog 30 #[.agg #[.int .i64 n0, .int .i64 n1, .int .i64 n2, .int .i64 n3, .int .i64 n4, .int .i64 n5, .int .i64 n6, .int .i64 n7, .int .i64 n8]] w fun e w' => e = .returned (.tuple #[wv 0 0, .int .i64 11]) ∧ Below w.heap.size w w') := fun h w => mdet_no n0 n1 n2 n3 n4 n5 n6 n7 n8 hz2 h w
  have Q1 : Hid ([n0, n1, n2, n3, n4, n5, n6, n7, n8].any farM = false → ∀ w, Calls Try.prog 30 #[.agg #[.int .i64 n0, .int .i64 n1, .int .i64 n2, .int .i64 n3, .int .i64 n4, .int .i64 n5, .int .i64 n6, .int .i64 n7, .int .i64 n8]] w (GiveDet (detM [n0, n1, n2, n3, n4, n5, n6, n7, n8]) w)) := fun h w => mdet_ok n0 n1 n2 n3 n4 n5 n6 n7 n8 (far_i32 h) w
  have Q2 : Hid ([n0, n1, n2, n3, n4, n5, n6, n7, n8].any farM = true → ∀ w, Calls Try.prog 41 #[.agg #[.int .i64 m0, .int .i64 m1, .int .i64 m2, .int .i64 m3, .int .i64 m4, .int .i64 m5, .int .i64 m6, .int .i64 m7, .int .i64 m8], .agg #[.int .i64 n0, .int .i64 n1, .int .i64 n2, .int .i64 n3, .int .i64 n4, .int .i64 n5, .int .i64 n6, .int .i64 n7, .int .i64 n8]] w fun e w' => e = .returned (.tuple #[.agg #[.int .i64 0, .int .u64 0, .int .i64 0, .int .u64 0, .int .i64 0, .int .u64 0, .int .i64 0, .int .u64 0, .int .i64 0, .int .u64 0, .int .i64 0, .int .u64 0, .int .i64 0, .int .u64 0, .int .i64 0, .int .u64 0, .int .i64 0, .int .u64 0], .int .i64 11]) ∧ Below w.heap.size w w') := fun h w => mmul_no2 m0 m1 m2 m3 m4 m5 m6 m7 m8 n0 n1 n2 n3 n4 n5 n6 n7 n8 hz hz2 hf h w
  have Q3 : Hid ([n0, n1, n2, n3, n4, n5, n6, n7, n8].any farM = false → ∀ w, Calls Try.prog 41 #[.agg #[.int .i64 m0, .int .i64 m1, .int .i64 m2, .int .i64 m3, .int .i64 m4, .int .i64 m5, .int .i64 m6, .int .i64 m7, .int .i64 m8], .agg #[.int .i64 n0, .int .i64 n1, .int .i64 n2, .int .i64 n3, .int .i64 n4, .int .i64 n5, .int .i64 n6, .int .i64 n7, .int .i64 n8]] w (GiveWide9 (mulF [m0, m1, m2, m3, m4, m5, m6, m7, m8] [n0, n1, n2, n3, n4, n5, n6, n7, n8]) w)) := fun h w => mmul_ok m0 m1 m2 m3 m4 m5 m6 m7 m8 n0 n1 n2 n3 n4 n5 n6 n7 n8 (far_i32 hf) (far_i32 h) w
  have Q4 : Hid ([n0, n1, n2, n3, n4, n5, n6, n7, n8].any farM = false → Wd 400 (detM [n0, n1, n2, n3, n4, n5, n6, n7, n8])) := fun h => detM_wd hz2 (far_i32 h)
  have Q5 : Hid ((∀ z ∈ [mulF [m0, m1, m2, m3, m4, m5, m6, m7, m8] [n0, n1, n2, n3, n4, n5, n6, n7, n8] 0, mulF [m0, m1, m2, m3, m4, m5, m6, m7, m8] [n0, n1, n2, n3, n4, n5, n6, n7, n8] 1, mulF [m0, m1, m2, m3, m4, m5, m6, m7, m8] [n0, n1, n2, n3, n4, n5, n6, n7, n8] 2, mulF [m0, m1, m2, m3, m4, m5, m6, m7, m8] [n0, n1, n2, n3, n4, n5, n6, n7, n8] 3, mulF [m0, m1, m2, m3, m4, m5, m6, m7, m8] [n0, n1, n2, n3, n4, n5, n6, n7, n8] 4, mulF [m0, m1, m2, m3, m4, m5, m6, m7, m8] [n0, n1, n2, n3, n4, n5, n6, n7, n8] 5, mulF [m0, m1, m2, m3, m4, m5, m6, m7, m8] [n0, n1, n2, n3, n4, n5, n6, n7, n8] 6, mulF [m0, m1, m2, m3, m4, m5, m6, m7, m8] [n0, n1, n2, n3, n4, n5, n6, n7, n8] 7, mulF [m0, m1, m2, m3, m4, m5, m6, m7, m8] [n0, n1, n2, n3, n4, n5, n6, n7, n8] 8], I64 z) → [mulF [m0, m1, m2, m3, m4, m5, m6, m7, m8] [n0, n1, n2, n3, n4, n5, n6, n7, n8] 0, mulF [m0, m1, m2, m3, m4, m5, m6, m7, m8] [n0, n1, n2, n3, n4, n5, n6, n7, n8] 1, mulF [m0, m1, m2, m3, m4, m5, m6, m7, m8] [n0, n1, n2, n3, n4, n5, n6, n7, n8] 2, mulF [m0, m1, m2, m3, m4, m5, m6, m7, m8] [n0, n1, n2, n3, n4, n5, n6, n7, n8] 3, mulF [m0, m1, m2, m3, m4, m5, m6, m7, m8] [n0, n1, n2, n3, n4, n5, n6, n7, n8] 4, mulF [m0, m1, m2, m3, m4, m5, m6, m7, m8] [n0, n1, n2, n3, n4, n5, n6, n7, n8] 5, mulF [m0, m1, m2, m3, m4, m5, m6, m7, m8] [n0, n1, n2, n3, n4, n5, n6, n7, n8] 6, mulF [m0, m1, m2, m3, m4, m5, m6, m7, m8] [n0, n1, n2, n3, n4, n5, n6, n7, n8] 7, mulF [m0, m1, m2, m3, m4, m5, m6, m7, m8] [n0, n1, n2, n3, n4, n5, n6, n7, n8] 8].any farM = true → ∀ w, Calls Try.prog 30 #[.agg #[.int .i64 (mulF [m0, m1, m2, m3, m4, m5, m6, m7, m8] [n0, n1, n2, n3, n4, n5, n6, n7, n8] 0), .int .i64 (mulF [m0, m1, m2, m3, m4, m5, m6, m7, m8] [n0, n1, n2, n3, n4, n5, n6, n7, n8] 1), .int .i64 (mulF [m0, m1, m2, m3, m4, m5, m6, m7, m8] [n0, n1, n2, n3, n4, n5, n6, n7, n8] 2), .int .i64 (mulF [m0, m1, m2, m3, m4, m5, m6, m7, m8] [n0, n1, n2, n3, n4, n5, n6, n7, n8] 3), .int .i64 (mulF [m0, m1, m2, m3, m4, m5, m6, m7, m8] [n0, n1, n2, n3, n4, n5, n6, n7, n8] 4), .int .i64 (mulF [m0, m1, m2, m3, m4, m5, m6, m7, m8] [n0, n1, n2, n3, n4, n5, n6, n7, n8] 5), .int .i64 (mulF [m0, m1, m2, m3, m4, m5, m6, m7, m8] [n0, n1, n2, n3, n4, n5, n6, n7, n8] 6), .int .i64 (mulF [m0, m1, m2, m3, m4, m5, m6, m7, m8] [n0, n1, n2, n3, n4, n5, n6, n7, n8] 7), .int .i64 (mulF [m0, m1, m2, m3, m4, m5, m6, m7, m8] [n0, n1, n2, n3, n4, n5, n6, n7, n8] 8)]] w fun e w' => e = .returned (.tuple #[wv 0 0, .int .i64 11]) ∧ Below w.heap.size w w') := fun hg h w => mdet_no _ _ _ _ _ _ _ _ _ hg h w
  have Q6 : Hid ([mulF [m0, m1, m2, m3, m4, m5, m6, m7, m8] [n0, n1, n2, n3, n4, n5, n6, n7, n8] 0, mulF [m0, m1, m2, m3, m4, m5, m6, m7, m8] [n0, n1, n2, n3, n4, n5, n6, n7, n8] 1, mulF [m0, m1, m2, m3, m4, m5, m6, m7, m8] [n0, n1, n2, n3, n4, n5, n6, n7, n8] 2, mulF [m0, m1, m2, m3, m4, m5, m6, m7, m8] [n0, n1, n2, n3, n4, n5, n6, n7, n8] 3, mulF [m0, m1, m2, m3, m4, m5, m6, m7, m8] [n0, n1, n2, n3, n4, n5, n6, n7, n8] 4, mulF [m0, m1, m2, m3, m4, m5, m6, m7, m8] [n0, n1, n2, n3, n4, n5, n6, n7, n8] 5, mulF [m0, m1, m2, m3, m4, m5, m6, m7, m8] [n0, n1, n2, n3, n4, n5, n6, n7, n8] 6, mulF [m0, m1, m2, m3, m4, m5, m6, m7, m8] [n0, n1, n2, n3, n4, n5, n6, n7, n8] 7, mulF [m0, m1, m2, m3, m4, m5, m6, m7, m8] [n0, n1, n2, n3, n4, n5, n6, n7, n8] 8].any farM = false → ∀ w, Calls Try.prog 30 #[.agg #[.int .i64 (mulF [m0, m1, m2, m3, m4, m5, m6, m7, m8] [n0, n1, n2, n3, n4, n5, n6, n7, n8] 0), .int .i64 (mulF [m0, m1, m2, m3, m4, m5, m6, m7, m8] [n0, n1, n2, n3, n4, n5, n6, n7, n8] 1), .int .i64 (mulF [m0, m1, m2, m3, m4, m5, m6, m7, m8] [n0, n1, n2, n3, n4, n5, n6, n7, n8] 2), .int .i64 (mulF [m0, m1, m2, m3, m4, m5, m6, m7, m8] [n0, n1, n2, n3, n4, n5, n6, n7, n8] 3), .int .i64 (mulF [m0, m1, m2, m3, m4, m5, m6, m7, m8] [n0, n1, n2, n3, n4, n5, n6, n7, n8] 4), .int .i64 (mulF [m0, m1, m2, m3, m4, m5, m6, m7, m8] [n0, n1, n2, n3, n4, n5, n6, n7, n8] 5), .int .i64 (mulF [m0, m1, m2, m3, m4, m5, m6, m7, m8] [n0, n1, n2, n3, n4, n5, n6, n7, n8] 6), .int .i64 (mulF [m0, m1, m2, m3, m4, m5, m6, m7, m8] [n0, n1, n2, n3, n4, n5, n6, n7, n8] 7), .int .i64 (mulF [m0, m1, m2, m3, m4, m5, m6, m7, m8] [n0, n1, n2, n3, n4, n5, n6, n7, n8] 8)]] w (GiveDet (detM [m0, m1, m2, m3, m4, m5, m6, m7, m8] * detM [n0, n1, n2, n3, n4, n5, n6, n7, n8]) w)) := fun h w => by
    rw [← det_mul]
    exact mdet_ok _ _ _ _ _ _ _ _ _ (far_i32 h) w
  generalize mulF [m0, m1, m2, m3, m4, m5, m6, m7, m8] [n0, n1, n2, n3, n4, n5, n6, n7, n8] = G at *
  generalize detM [n0, n1, n2, n3, n4, n5, n6, n7, n8] = E at *
  generalize [n0, n1, n2, n3, n4, n5, n6, n7, n8].any farM = bn at *
  generalize hF : (fun t => cofI [m0, m1, m2, m3, m4, m5, m6, m7, m8] (t % 3) (t / 3)) = F at *
  have CM1 := Lib.hid (fun (p q : Nat) (u v : Value) w (hu : BR w u ([m0, m1, m2, m3, m4, m5, m6, m7, m8].getD p 0)) (hv : BR w v (F q)) => mul_any u v _ _ w hu hv ((getD_wd Wm p).mid (by omega)) ((HC q).mid (by omega)))
  have CM2 := Lib.hid (fun (p q : Nat) (u v : Value) w (hu : BR w u (F p)) (hv : BR w v ([m0, m1, m2, m3, m4, m5, m6, m7, m8].getD q 0)) => mul_any u v _ _ w hu hv ((HC p).mid (by omega)) ((getD_wd Wm q).mid (by omega)))
  have CA1 : Hid (∀ (i k q : Nat) (hq : q < 3) (u v : Value) w (hu : BR w u (txS [m0, m1, m2, m3, m4, m5, m6, m7, m8] F i k q)) (hv : BR w v ([m0, m1, m2, m3, m4, m5, m6, m7, m8].getD (3 * i + q) 0 * F (3 * q + k))), Calls Try.prog 46 #[u, v] w (GiveB (txS [m0, m1, m2, m3, m4, m5, m6, m7, m8] F i k (q + 1)) w)) := fun i k q hq u v w hu hv => add_any u v _ _ w hu hv ((txS_wd Wm HC i k q).mid (by omega)) (((getD_wd Wm _).mul (HC _)).mid (by omega))
  have CA2 : Hid (∀ (i k q : Nat) (hq : q < 3) (u v : Value) w (hu : BR w u (tyS [m0, m1, m2, m3, m4, m5, m6, m7, m8] F i k q)) (hv : BR w v (F (3 * i + q) * [m0, m1, m2, m3, m4, m5, m6, m7, m8].getD (3 * q + k) 0)), Calls Try.prog 46 #[u, v] w (GiveB (tyS [m0, m1, m2, m3, m4, m5, m6, m7, m8] F i k (q + 1)) w)) := fun i k q hq u v w hu hv => add_any u v _ _ w hu hv ((tyS_wd Wm HC i k q).mid (by omega)) (((HC _).mul (getD_wd Wm _)).mid (by omega))
  have CC := Lib.hid (fun (z : Int) (hz : Wd 1000 z) (u v : Value) w (hu : BR w u z) (hv : BR w v z) => cmp_any u v z z w hu hv (hz.mid (by omega)) (hz.mid (by omega)))
  simp only [cmpI_eq] at CC
  have X0 : Hid (∀ i k, txS [m0, m1, m2, m3, m4, m5, m6, m7, m8] F i k 0 = 0 ∧ tyS [m0, m1, m2, m3, m4, m5, m6, m7, m8] F i k 0 = 0) := fun i k => ⟨rfl, rfl⟩
  generalize detM [m0, m1, m2, m3, m4, m5, m6, m7, m8] = D at *
  generalize txS [m0, m1, m2, m3, m4, m5, m6, m7, m8] F = X at *
  generalize tyS [m0, m1, m2, m3, m4, m5, m6, m7, m8] F = Y at *
  have HMg := Lib.hid (fun (g : Nat) (W : World) (h : AtB W g #[.int .i64 m0, .int .i64 m1, .int .i64 m2, .int .i64 m3, .int .i64 m4, .int .i64 m5, .int .i64 m6, .int .i64 m7, .int .i64 m8] M9T) (t : Nat) (ht : t < 9) => cell9 h ht)
  generalize hms : [m0, m1, m2, m3, m4, m5, m6, m7, m8] = ms at *
  clear hz hz2 hf Wm HC hF hms
  go_enter Try.func9, Try.ntmps9
  go_upto_region 1 with fail
  have BB := start2 w #[.int .i64 m0, .int .i64 m1, .int .i64 m2, .int .i64 m3, .int .i64 m4, .int .i64 m5, .int .i64 m6, .int .i64 m7, .int .i64 m8] M9T #[.int .i64 n0, .int .i64 n1, .int .i64 n2, .int .i64 n3, .int .i64 n4, .int .i64 n5, .int .i64 n6, .int .i64 n7, .int .i64 n8] M9T
  obtain ⟨BB, hsz, r_m, r_n⟩ := BB
  generalize ((w.alloc (.cells #[.int .i64 m0, .int .i64 m1, .int .i64 m2, .int .i64 m3, .int .i64 m4, .int .i64 m5, .int .i64 m6, .int .i64 m7, .int .i64 m8] M9T)).alloc (.cells #[.int .i64 n0, .int .i64 n1, .int .i64 n2, .int .i64 n3, .int .i64 n4, .int .i64 n5, .int .i64 n6, .int .i64 n7, .int .i64 n8] M9T)) = w0 at *
  replace BB := Lib.hid BB
  replace r_m := Lib.hid r_m
  replace r_n := Lib.hid r_n
  clear hsz
  obtain ⟨c_m0, c_m1, c_m2, c_m3, c_m4, c_m5, c_m6, c_m7, c_m8, f_m0, f_m1, f_m2, f_m3, f_m4, f_m5, f_m6, f_m7, f_m8⟩ := reads9 r_m.out
  have l_m := r_m.out.lt
  go_wp2_with fail
  refine (CA.out _).mono ?_
  rintro e w1 ⟨h0, l0, h1, l1, h2, l2, h3, l3, h4, l4, h5, l5, h6, l6, h7, l7, h8, l8, rfl, hb, f0, f1, f2, f3, f4, f5, f6, f7, f8⟩
  clear c_m0 c_m1 c_m2 c_m3 c_m4 c_m5 c_m6 c_m7 c_m8 f_m0 f_m1 f_m2 f_m3 f_m4 f_m5 f_m6 f_m7 f_m8 l_m
  replace r_m := Lib.hid (r_m.out.keep hb)
  replace r_n := Lib.hid (r_n.out.keep hb)
  replace BB := Lib.hid (below_next BB.out hb)
  clear hb
  obtain ⟨cs, hcs⟩ : ∃ cs, (#[.int .i64 h0, .int .u64 l0, .int .i64 h1, .int .u64 l1, .int .i64 h2, .int .u64 l2, .int .i64 h3, .int .u64 l3, .int .i64 h4, .int .u64 l4, .int .i64 h5, .int .u64 l5, .int .i64 h6, .int .u64 l6, .int .i64 h7, .int .u64 l7, .int .i64 h8, .int .u64 l8] : Array Value) = cs := ⟨_, rfl⟩
  have hcz : cs.size = 18 := by rw [← hcs]; rfl
  have hc1 : cs.all (·.oneCell') = true := by rw [← hcs]; kernel_rfl
  rw [hcs]
  replace hcs := Lib.hid hcs
  obtain ⟨ST1, ST2⟩ := wide_new w1 #[.int .i64 0, .int .u64 0, .int .i64 0, .int .u64 0, .int .i64 0, .int .u64 0, .int .i64 0, .int .u64 0, .int .i64 0, .int .u64 0, .int .i64 0, .int .u64 0, .int .i64 0, .int .u64 0, .int .i64 0, .int .u64 0, .int .i64 0, .int .u64 0] cs rfl hcz hc1
  clear CA
  go_upto_region 2 with fail
  clear ST1 ST2
  have d_a := Lib.hid (And.intro BB.out.size (And.intro r_m.out.lt (And.intro r_n.out.lt (True.intro))))
  obtain ⟨hb, r_a⟩ := laid w1 cs W9T
  replace r_m := Lib.hid (r_m.out.keep hb)
  replace r_n := Lib.hid (r_n.out.keep hb)
  replace BB := Lib.hid (below_next BB.out hb)
  replace r_a := Lib.hid r_a
  clear hb
  generalize w1.alloc (.cells cs W9T) = w2 at *
  generalize w1.heap.size = g_a at *
  obtain ⟨c_m0, c_m1, c_m2, c_m3, c_m4, c_m5, c_m6, c_m7, c_m8, f_m0, f_m1, f_m2, f_m3, f_m4, f_m5, f_m6, f_m7, f_m8⟩ := reads9 r_m.out
  have l_m := r_m.out.lt
  go_wp2_with fail
  refine (CD.out _).mono ?_
  rintro e w3 ⟨dh, dl, rfl, hb, hd⟩
  clear c_m0 c_m1 c_m2 c_m3 c_m4 c_m5 c_m6 c_m7 c_m8 f_m0 f_m1 f_m2 f_m3 f_m4 f_m5 f_m6 f_m7 f_m8 l_m
  replace r_m := Lib.hid (r_m.out.keep hb)
  replace r_n := Lib.hid (r_n.out.keep hb)
  replace r_a := Lib.hid (r_a.out.keep hb)
  replace BB := Lib.hid (below_next BB.out hb)
  clear hb
  have CBd := Lib.hid (fun w => CB.out D dh dl hd w)
  clear CD
  go_upto_region 3 with fail
  have d_d := Lib.hid (And.intro BB.out.size (And.intro r_m.out.lt (And.intro r_n.out.lt (And.intro r_a.out.lt (True.intro)))))
  obtain ⟨hb, r_d⟩ := laid w3 #[.int .i64 dh, .int .u64 dl] WT5
  replace r_m := Lib.hid (r_m.out.keep hb)
  replace r_n := Lib.hid (r_n.out.keep hb)
  replace r_a := Lib.hid (r_a.out.keep hb)
  replace BB := Lib.hid (below_next BB.out hb)
  replace r_d := Lib.hid r_d
  clear hb
  generalize w3.alloc (.cells #[.int .i64 dh, .int .u64 dl] WT5) = w4 at *
  generalize w3.heap.size = g_d at *
  obtain ⟨c_d0, c_d1, f_d0, f_d1⟩ := reads2 r_d.out
  have l_d := r_d.out.lt
  go_wp2_with fail
  refine (CBd.out _).mono ?_
  rintro e w5 ⟨v_e, rfl, hb, h_e⟩
  obtain ⟨A_e, n_e, cap_e, rfl, -⟩ := id h_e.form
  replace h_e := Lib.hid h_e
  clear c_d0 c_d1 f_d0 f_d1 l_d
  replace r_m := Lib.hid (r_m.out.keep hb)
  replace r_n := Lib.hid (r_n.out.keep hb)
  replace r_a := Lib.hid (r_a.out.keep hb)
  replace r_d := Lib.hid (r_d.out.keep hb)
  replace BB := Lib.hid (below_next BB.out hb)
  clear hb
  clear CBd
  go_upto_region 6 with fail
  have d_e := Lib.hid (And.intro BB.out.size (And.intro r_m.out.lt (And.intro r_n.out.lt (And.intro r_a.out.lt (And.intro r_d.out.lt (True.intro))))))
  obtain ⟨hb, r_e⟩ := laid w5 #[.bool (sgn (D)), .slice A_e n_e cap_e] 76
  replace r_m := Lib.hid (r_m.out.keep hb)
  replace r_n := Lib.hid (r_n.out.keep hb)
  replace r_a := Lib.hid (r_a.out.keep hb)
  replace r_d := Lib.hid (r_d.out.keep hb)
  replace h_e := Lib.hid (h_e.out.below hb)
  replace BB := Lib.hid (below_next BB.out hb)
  replace r_e := Lib.hid r_e
  clear hb
  generalize w5.alloc (.cells #[.bool (sgn (D)), .slice A_e n_e cap_e] 76) = w6 at *
  generalize w5.heap.size = g_e at *
  rw [← hcs.out] at r_a
  have HA := Lib.hid (wide_cells r_a.out f0 f1 f2 f3 f4 f5 f6 f7 f8)
  have HM := Lib.hid (fun (t : Nat) (ht : t < 9) w9 (h9 : Below w6.heap.size w6 w9) => HMg.out _ w9 (r_m.out.keep h9) t ht)
  have HE := Lib.hid (fun w9 (h9 : Below w6.heap.size w6 w9) => cells2 (r_e.out.keep h9))
  have BO := BB
  generalize w6 = wB at *
  clear hcs hcz hc1 HMg
  go_wp2_with fail
  go_loopw [10] (fun i wr => ∃ q : Nat, q ≤ 3 ∧ i = .int .i64 q ∧ Hid (Below wB.heap.size wB wr)) (fun i _ => 3 - (intOf i).toNat)
  case atStart => exact ⟨0, by omega, rfl, Below.refl _ _⟩
  case round =>
    clear BB
    obtain ⟨i, hi, rfl, BB⟩ := hrel
    by_cases hi3 : i < 3
    · have i0 : (0 : Int) ≤ (i : Int) := by omega
      have i1 : (i : Int) < 3 := by omega
      go_wp2_with fail
      go_loopw [11] (fun i wr => ∃ q : Nat, q ≤ 3 ∧ i = .int .i64 q ∧ Hid (Below wB.heap.size wB wr)) (fun i _ => 3 - (intOf i).toNat)
      case atStart => exact ⟨0, by omega, rfl, BB.out⟩
      case round =>
        clear BB
        obtain ⟨k, hk, rfl, BB⟩ := hrel
        by_cases hk3 : k < 3
        · have k0 : (0 : Int) ≤ (k : Int) := by omega
          have k1 : (k : Int) < 3 := by omega
          have hxy := Lib.hid (HXY.out i k hi3 hk3)
          have X0' := Lib.hid (X0.out i k)
          have A1 := Lib.hid (CA1.out i k)
          have A2 := Lib.hid (CA2.out i k)
          generalize X i k = X at *
          generalize Y i k = Y at *
          clear HXY X0 CA1 CA2
          go_wp2_with fail
          refine (CO.out _).mono ?_
          rintro e w7 ⟨v_x, rfl, hb, h_x⟩
          obtain ⟨A_x, n_x, cap_x, rfl, -⟩ := id h_x.form
          replace h_x := Lib.hid h_x
          replace BB := Lib.hid (below_next BB.out hb)
          clear hb
          go_wp2_with fail
          refine (CO.out _).mono ?_
          rintro e w8 ⟨v_y, rfl, hb, h_y⟩
          obtain ⟨A_y, n_y, cap_y, rfl, -⟩ := id h_y.form
          replace h_y := Lib.hid h_y
          replace h_x := Lib.hid (h_x.out.below hb)
          replace BB := Lib.hid (below_next BB.out hb)
          clear hb
          go_upto_region 13 with fail
          have d_x := Lib.hid (And.intro BB.out.size (True.intro))
          obtain ⟨hb, -, r_x, r_y⟩ := start2 w8 #[.bool (sgn 0), .slice A_x n_x cap_x] BT #[.bool (sgn 0), .slice A_y n_y cap_y] BT
          replace h_x := Lib.hid (h_x.out.below hb)
          replace h_y := Lib.hid (h_y.out.below hb)
          replace BB := Lib.hid (below_next BB.out hb)
          clear hb
          replace r_x := Lib.hid r_x; replace r_y := Lib.hid r_y
          generalize (w8.alloc (.cells #[.bool (sgn 0), .slice A_x n_x cap_x] BT)).alloc (.cells #[.bool (sgn 0), .slice A_y n_y cap_y] BT) = w10 at *
          generalize w8.heap.size = g_x at *
          have d_y := d_x
          go_wp2_with fail
          go_loopw [14] (fun j wr => ∃ q A n c A2 n2 c2, q ≤ 3 ∧ j = .int .i64 ((q : Nat) : Int) ∧ Hid (AtB wr g_x #[.bool (sgn (X q)), .slice A n c] BT ∧ BR wr (.agg #[.bool (sgn (X q)), .slice A n c]) (X q) ∧ AtB wr (g_x + 1) #[.bool (sgn (Y q)), .slice A2 n2 c2] BT ∧ BR wr (.agg #[.bool (sgn (Y q)), .slice A2 n2 c2]) (Y q) ∧ Below wB.heap.size wB wr)) (fun j _ => 3 - (intOf j).toNat)
          case atStart => exact ⟨0, A_x, n_x, cap_x, A_y, n_y, cap_y, by omega, rfl, by rw [X0'.out.1, X0'.out.2]; exact ⟨r_x.out, h_x.out, r_y.out, h_y.out, BB.out⟩⟩
          case round =>
            clear BB h_x h_y r_x r_y
            obtain ⟨q, A_x, n_x, cap_x, A_y, n_y, cap_y, hq, rfl, hinv⟩ := hrel
            obtain ⟨r_x, h_x, r_y, h_y, BB⟩ := hinv.out
            replace r_x := Lib.hid r_x; replace h_x := Lib.hid h_x; replace r_y := Lib.hid r_y; replace h_y := Lib.hid h_y; replace BB := Lib.hid BB
            clear hinv
            by_cases hq3 : q < 3
            · have q0 : (0 : Int) ≤ (q : Int) := by omega
              have q1 : (q : Int) < 3 := by omega
              obtain ⟨p1, hp1⟩ : ∃ v, v = 3 * i + q := ⟨_, rfl⟩
              obtain ⟨p2, hp2⟩ : ∃ v, v = 3 * q + k := ⟨_, rfl⟩
              obtain ⟨ah, al, hac, haw⟩ := HA.out p2 (by omega)
              obtain ⟨bh, bl, hbc, hbw⟩ := HA.out p1 (by omega)
              have CA1 := Lib.hid hac
              have CA2 := Lib.hid hbc
              have CM1' := Lib.hid (HM.out p1 (by omega))
              have CM2' := Lib.hid (HM.out p2 (by omega))
              obtain ⟨i3, hi3'⟩ : ∃ v : Int, v = 3 * (i : Int) := ⟨_, rfl⟩
              obtain ⟨q3, hq3'⟩ : ∃ v : Int, v = 3 * (q : Int) := ⟨_, rfl⟩
              have e1 : IntKind.i64.wrap (3 * (i : Int)) = i3 := by rw [hi3']; exact iw ⟨by omega, by omega⟩
              have e2 : IntKind.i64.wrap (i3 + (q : Int)) = (p1 : Int) := by rw [show i3 + (q : Int) = (p1 : Int) by omega]; exact iw ⟨by omega, by omega⟩
              have e3 : IntKind.i64.wrap (3 * (q : Int)) = q3 := by rw [hq3']; exact iw ⟨by omega, by omega⟩
              have e4 : IntKind.i64.wrap (q3 + (k : Int)) = (p2 : Int) := by rw [show q3 + (k : Int) = (p2 : Int) by omega]; exact iw ⟨by omega, by omega⟩
              have b1 : (0 : Int) ≤ (p1 : Int) := by omega
              have b2 : (p1 : Int) < 9 := by omega
              have b3 : (0 : Int) ≤ (p2 : Int) := by omega
              have b4 : (p2 : Int) < 9 := by omega
              have O1 := Lib.hid (CO1.out p1)
              have O2 := Lib.hid (CO1.out p2)
              have B1 := Lib.hid (CB.out (F p2) ah al haw)
              have B2 := Lib.hid (CB.out (F p1) bh bl hbw)
              have M1 := Lib.hid (CM1.out p1 p2)
              have M2 := Lib.hid (CM2.out p1 p2)
              have D1 := A1.out q hq3
              have D2 := A2.out q hq3
              rw [← hp1, ← hp2] at D1 D2
              replace D1 := Lib.hid D1
              replace D2 := Lib.hid D2
              have KX : Hid (∃ a b, a = X (q + 1) ∧ b = Y (q + 1)) := ⟨_, _, rfl, rfl⟩
              obtain ⟨xn, yn, hxn, hyn⟩ := KX.out
              rw [← hxn] at D1
              rw [← hyn] at D2
              replace hxn := Lib.hid hxn; replace hyn := Lib.hid hyn
              clear KX CO1 CB CM1 CM2 A1 A2 HA HM hxy X0' hi3' hq3' haw hbw hac hbc hp1 hp2
              generalize X q = x0 at *
              generalize Y q = y0 at *
              generalize ms.getD p1 0 = ma at *
              generalize ms.getD p2 0 = mb at *
              generalize F p1 = fa at *
              generalize F p2 = fb at *
              generalize ma * fb = P at *
              generalize fa * mb = Q at *
              go_wp2_with fail
              have KK := Lib.hid (fun (w9 : World) (h : Below wr.heap.size wr w9) => (⟨cells2 (r_x.out.keep h), CM1'.out _ (below_next BB.out h), CA1.out _ (below_next BB.out h)⟩ : (w9.cell? ⟨g_x, 0, none⟩ = some (.bool (sgn x0)) ∧ w9.cell? ⟨g_x, 1, none⟩ = some (.slice A_x n_x cap_x)) ∧ (w9.cell? ⟨w.heap.size, p1, none⟩ = some (.int .i64 ma)) ∧ (w9.cell? ⟨g_a, p2 * 2, none⟩ = some (.int .i64 ah) ∧ w9.cell? ⟨g_a, p2 * 2 + 1, none⟩ = some (.int .u64 al))))
              have K0 := KK.out wr (Below.refl _ _)
              have KD := KK.out wr.drew (below_drew (Below.refl _ _))
              refine AnyG.begin_ (fun w9 => (w9.cell? ⟨g_x, 0, none⟩ = some (.bool (sgn x0)) ∧ w9.cell? ⟨g_x, 1, none⟩ = some (.slice A_x n_x cap_x)) ∧ (w9.cell? ⟨w.heap.size, p1, none⟩ = some (.int .i64 ma)) ∧ (w9.cell? ⟨g_a, p2 * 2, none⟩ = some (.int .i64 ah) ∧ w9.cell? ⟨g_a, p2 * 2 + 1, none⟩ = some (.int .u64 al))) 17 (by kernel_rfl) ?_
              refine AnyG.take (i := 0) (v := ?_) rfl (by kernel_rfl) (by kernel_rfl) (by kernel_rfl) (fun _ _ _ h => h) (by kernel_rfl) (by kernel_rfl) (Or.inl ⟨by rfl, ?_⟩) (by assumption) ?_
              rotate_left
              · intro w9 hSw; (try dsimp only at hSw); go_simp <;> with_reducible rfl
              try simp only [Act.put, List.getElem_toArray, List.getElem_cons_zero, List.getElem_cons_succ, List.setIfInBounds_toArray, List.set_cons_zero, List.set_cons_succ]
              refine AnyG.take (i := 1) (v := ?_) rfl (by kernel_rfl) (by kernel_rfl) (by kernel_rfl) (fun _ _ _ h => h) (by kernel_rfl) (by kernel_rfl) (Or.inl ⟨by rfl, ?_⟩) (by assumption) ?_
              rotate_left
              · intro w9 hSw; (try dsimp only at hSw); go_simp <;> with_reducible rfl
              try simp only [Act.put, List.getElem_toArray, List.getElem_cons_zero, List.getElem_cons_succ, List.setIfInBounds_toArray, List.set_cons_zero, List.set_cons_succ]
              refine AnyG.take (i := 2) (v := ?_) rfl (by kernel_rfl) (by kernel_rfl) (by kernel_rfl) (fun _ _ _ h => h) (by kernel_rfl) (by kernel_rfl) (Or.inl ⟨by rfl, ?_⟩) (by assumption) ?_
              rotate_left
              · intro w9 hSw; (try dsimp only at hSw); go_simp <;> with_reducible rfl
              try simp only [Act.put, List.getElem_toArray, List.getElem_cons_zero, List.getElem_cons_succ, List.setIfInBounds_toArray, List.set_cons_zero, List.set_cons_succ]
              refine AnyG.take (i := 3) (v := ?_) rfl (by kernel_rfl) (by kernel_rfl) (by kernel_rfl) (fun _ _ _ h => h) (by kernel_rfl) (by kernel_rfl) (Or.inl ⟨by rfl, ?_⟩) (by assumption) ?_
              rotate_left
              · intro w9 hSw; (try dsimp only at hSw); go_simp <;> with_reducible rfl
              try simp only [Act.put, List.getElem_toArray, List.getElem_cons_zero, List.getElem_cons_succ, List.setIfInBounds_toArray, List.set_cons_zero, List.set_cons_succ]
              refine AnyG.take (i := 4) (v := ?_) rfl (by kernel_rfl) (by kernel_rfl) (by kernel_rfl) (fun _ _ _ h => h) (by kernel_rfl) (by kernel_rfl) (Or.inl ⟨by rfl, ?_⟩) (by assumption) ?_
              rotate_left
              · intro w9 hSw; (try dsimp only at hSw); go_simp <;> with_reducible rfl
              try simp only [Act.put, List.getElem_toArray, List.getElem_cons_zero, List.getElem_cons_succ, List.setIfInBounds_toArray, List.set_cons_zero, List.set_cons_succ]
              refine AnyG.take (i := 5) (v := ?_) rfl (by kernel_rfl) (by kernel_rfl) (by kernel_rfl) (fun _ _ _ h => h) (by kernel_rfl) (by kernel_rfl) (Or.inl ⟨by rfl, ?_⟩) (by assumption) ?_
              rotate_left
              · intro w9 hSw; (try dsimp only at hSw); go_simp <;> with_reducible rfl
              try simp only [Act.put, List.getElem_toArray, List.getElem_cons_zero, List.getElem_cons_succ, List.setIfInBounds_toArray, List.set_cons_zero, List.set_cons_succ]
              refine AnyG.take (i := 6) (v := ?_) rfl (by kernel_rfl) (by kernel_rfl) (by kernel_rfl) (fun _ _ _ h => h) (by kernel_rfl) (by kernel_rfl) (Or.inl ⟨by rfl, ?_⟩) (by assumption) ?_
              rotate_left
              · intro w9 hSw; (try dsimp only at hSw); go_simp <;> with_reducible rfl
              try simp only [Act.put, List.getElem_toArray, List.getElem_cons_zero, List.getElem_cons_succ, List.setIfInBounds_toArray, List.set_cons_zero, List.set_cons_succ]
              refine AnyG.take (i := 8) (v := ?_) rfl (by kernel_rfl) (by kernel_rfl) (by kernel_rfl) (fun _ _ _ h => h) (by kernel_rfl) (by kernel_rfl) (Or.inl ⟨by rfl, ?_⟩) (by assumption) ?_
              rotate_left
              · intro w9 hSw; (try dsimp only at hSw); go_simp <;> with_reducible rfl
              try simp only [Act.put, List.getElem_toArray, List.getElem_cons_zero, List.getElem_cons_succ, List.setIfInBounds_toArray, List.set_cons_zero, List.set_cons_succ]
              refine AnyG.take (i := 9) (v := ?_) rfl (by kernel_rfl) (by kernel_rfl) (by kernel_rfl) (fun _ _ _ h => h) (by kernel_rfl) (by kernel_rfl) (Or.inl ⟨by rfl, ?_⟩) (by assumption) ?_
              rotate_left
              · intro w9 hSw; (try dsimp only at hSw); go_simp <;> with_reducible rfl
              try simp only [Act.put, List.getElem_toArray, List.getElem_cons_zero, List.getElem_cons_succ, List.setIfInBounds_toArray, List.set_cons_zero, List.set_cons_succ]
              refine AnyG.take (i := 10) (v := ?_) rfl (by kernel_rfl) (by kernel_rfl) (by kernel_rfl) (fun _ _ _ h => h) (by kernel_rfl) (by kernel_rfl) (Or.inl ⟨by rfl, ?_⟩) (by assumption) ?_
              rotate_left
              · intro w9 hSw; (try dsimp only at hSw); go_simp <;> with_reducible rfl
              try simp only [Act.put, List.getElem_toArray, List.getElem_cons_zero, List.getElem_cons_succ, List.setIfInBounds_toArray, List.set_cons_zero, List.set_cons_succ]
              refine AnyG.take (i := 11) (v := ?_) rfl (by kernel_rfl) (by kernel_rfl) (by kernel_rfl) (fun _ _ _ h => h) (by kernel_rfl) (by kernel_rfl) (Or.inl ⟨by rfl, ?_⟩) (by assumption) ?_
              rotate_left
              · intro w9 hSw; (try dsimp only at hSw); go_simp <;> with_reducible rfl
              try simp only [Act.put, List.getElem_toArray, List.getElem_cons_zero, List.getElem_cons_succ, List.setIfInBounds_toArray, List.set_cons_zero, List.set_cons_succ]
              refine AnyG.take (i := 12) (v := ?_) rfl (by kernel_rfl) (by kernel_rfl) (by kernel_rfl) (fun _ _ _ h => h) (by kernel_rfl) (by kernel_rfl) (Or.inl ⟨by rfl, ?_⟩) (by assumption) ?_
              rotate_left
              · intro w9 hSw; (try dsimp only at hSw); go_simp <;> with_reducible rfl
              try simp only [Act.put, List.getElem_toArray, List.getElem_cons_zero, List.getElem_cons_succ, List.setIfInBounds_toArray, List.set_cons_zero, List.set_cons_succ]
              refine AnyG.take (i := 13) (v := ?_) rfl (by kernel_rfl) (by kernel_rfl) (by kernel_rfl) (fun _ _ _ h => h) (by kernel_rfl) (by kernel_rfl) (Or.inl ⟨by rfl, ?_⟩) (by assumption) ?_
              rotate_left
              · intro w9 hSw; (try dsimp only at hSw); go_simp <;> with_reducible rfl
              try simp only [Act.put, List.getElem_toArray, List.getElem_cons_zero, List.getElem_cons_succ, List.setIfInBounds_toArray, List.set_cons_zero, List.set_cons_succ]
              refine AnyG.step (i := 7) (by kernel_rfl) rfl (fun K hK => ?_)
              go_simp
              go_at_call 45
              refine (O1.out _).mono ?_
              rintro e w11 ⟨v_oa, rfl, hb, h_oa⟩
              obtain ⟨A_oa, n_oa, cap_oa, rfl, -⟩ := id h_oa.form
              replace h_oa := Lib.hid h_oa
              have B_w11 := Lib.hid (reg_next (w0 := wr) (by repeat (first | with_reducible exact Below.refl _ _ | with_reducible apply below_drew | with_reducible apply below_new)) hb)
              have K_w11 := KK.out _ B_w11.out
              clear hb
              refine hK.out _ _ (fun _ => K_w11) (fun hHeld => ?_)
              replace hHeld := hHeld (by decide)
              clear hK
              try simp only [Act.put, List.getElem_toArray, List.getElem_cons_zero, List.getElem_cons_succ, List.setIfInBounds_toArray, List.set_cons_zero, List.set_cons_succ]
              refine AnyG.step (i := 14) (by kernel_rfl) rfl (fun K hK => ?_)
              go_simp
              go_at_call 44
              refine (B1.out _).mono ?_
              rintro e w12 ⟨v_ob, rfl, hb, h_ob⟩
              obtain ⟨A_ob, n_ob, cap_ob, rfl, -⟩ := id h_ob.form
              replace h_ob := Lib.hid h_ob
              replace h_oa := Lib.hid (h_oa.out.below hb)
              have B_w12 := Lib.hid (below_next B_w11.out hb)
              have K_w12 := KK.out _ B_w12.out
              clear hb
              refine hK.out _ _ (fun _ => K_w12) (fun hHeld => ?_)
              replace hHeld := hHeld (by decide)
              clear hK
              try simp only [Act.put, List.getElem_toArray, List.getElem_cons_zero, List.getElem_cons_succ, List.setIfInBounds_toArray, List.set_cons_zero, List.set_cons_succ]
              refine AnyG.step (i := 15) (by kernel_rfl) rfl (fun K hK => ?_)
              go_simp
              go_at_call 47
              refine (M1.out _ _ _ h_oa.out h_ob.out).mono ?_
              rintro e w13 ⟨v_oc, rfl, hb, h_oc⟩
              obtain ⟨A_oc, n_oc, cap_oc, rfl, -⟩ := id h_oc.form
              replace h_oc := Lib.hid h_oc
              replace h_oa := Lib.hid (h_oa.out.below hb)
              replace h_ob := Lib.hid (h_ob.out.below hb)
              have B_w13 := Lib.hid (below_next B_w12.out hb)
              have K_w13 := KK.out _ B_w13.out
              clear hb
              refine hK.out _ _ (fun _ => K_w13) (fun hHeld => ?_)
              replace hHeld := hHeld (by decide)
              clear hK
              try simp only [Act.put, List.getElem_toArray, List.getElem_cons_zero, List.getElem_cons_succ, List.setIfInBounds_toArray, List.set_cons_zero, List.set_cons_succ]
              refine AnyG.step (i := 16) (by kernel_rfl) rfl (fun K hK => ?_)
              go_simp
              go_at_call 46
              refine (D1.out _ _ _ (h_x.out.below B_w13.out) h_oc.out).mono ?_
              rintro e w14 ⟨v_od, rfl, hb, h_od⟩
              obtain ⟨A_od, n_od, cap_od, rfl, -⟩ := id h_od.form
              replace h_od := Lib.hid h_od
              replace h_oa := Lib.hid (h_oa.out.below hb)
              replace h_ob := Lib.hid (h_ob.out.below hb)
              replace h_oc := Lib.hid (h_oc.out.below hb)
              have B_w14 := Lib.hid (below_next B_w13.out hb)
              have K_w14 := KK.out _ B_w14.out
              obtain ⟨rc_x0, rc_x1, rf_x0, rf_x1⟩ := reads2 (r_x.out.keep B_w14.out)
              have rl_x := (r_x.out.keep B_w14.out).lt
              clear hb
              refine hK.out _ _ (fun _ => K_w14) (fun hHeld => ?_)
              replace hHeld := hHeld (by decide)
              clear hK
              try simp only [Act.put, List.getElem_toArray, List.getElem_cons_zero, List.getElem_cons_succ, List.setIfInBounds_toArray, List.set_cons_zero, List.set_cons_succ]
              refine AnyG.step (i := 17) (by kernel_rfl) rfl (fun K hK => ?_)
              go_simp
              refine hK.out _ _ (fun h => absurd h (by decide)) (fun _ => ?_)
              clear hK
              try simp only [Act.put, List.getElem_toArray, List.getElem_cons_zero, List.getElem_cons_succ, List.setIfInBounds_toArray, List.set_cons_zero, List.set_cons_succ]
              refine AnyG.done (by kernel_rfl) ?_ _
              clear KK K0 KD K_w11 K_w12 K_w13 K_w14
              replace r_x := Lib.hid (r_x.out.keep B_w14.out)
              replace r_y := Lib.hid (r_y.out.keep B_w14.out)
              replace h_x := Lib.hid (h_x.out.below B_w14.out)
              replace h_y := Lib.hid (h_y.out.below B_w14.out)
              replace BB := Lib.hid (below_next BB.out B_w14.out)
              clear B_w11 B_w12 B_w13 B_w14
              replace h_od := Lib.hid (h_od.out.far2 r_x.out (by decide) (.bool (sgn xn)) (.slice A_od n_od cap_od))
              replace h_y := Lib.hid (h_y.out.far2 r_x.out (by decide) (.bool (sgn xn)) (.slice A_od n_od cap_od))
              clear h_oa h_ob h_oc
              replace h_x := Lib.hid (h_x.out.far2 r_x.out (by decide) (.bool (sgn xn)) (.slice A_od n_od cap_od))
              replace r_x := Lib.hid (r_x.out.set2 (.bool (sgn xn)) (.slice A_od n_od cap_od))
              replace r_y := Lib.hid (r_y.out.far2 (p := g_x) (by have dd_y := d_y.out; have dd_x := d_x.out; omega) (.bool (sgn xn)) (.slice A_od n_od cap_od))
              replace BB := Lib.hid (below_far2 BB.out (p := g_x) (by have dd := d_x.out; omega) (.bool (sgn xn)) (.slice A_od n_od cap_od))
              generalize ((w14.setCell ⟨g_x, 0, none⟩ (.bool (sgn xn))).setCell ⟨g_x, 1, none⟩ (.slice A_od n_od cap_od)) = w15 at *
              go_wp2_with fail
              have KK := Lib.hid (fun (w9 : World) (h : Below w15.heap.size w15 w9) => (⟨cells2 (r_y.out.keep h), CM2'.out _ (below_next BB.out h), CA2.out _ (below_next BB.out h)⟩ : (w9.cell? ⟨g_x + 1, 0, none⟩ = some (.bool (sgn y0)) ∧ w9.cell? ⟨g_x + 1, 1, none⟩ = some (.slice A_y n_y cap_y)) ∧ (w9.cell? ⟨w.heap.size, p2, none⟩ = some (.int .i64 mb)) ∧ (w9.cell? ⟨g_a, p1 * 2, none⟩ = some (.int .i64 bh) ∧ w9.cell? ⟨g_a, p1 * 2 + 1, none⟩ = some (.int .u64 bl))))
              have K0 := KK.out w15 (Below.refl _ _)
              have KD := KK.out w15.drew (below_drew (Below.refl _ _))
              refine AnyG.begin_ (fun w9 => (w9.cell? ⟨g_x + 1, 0, none⟩ = some (.bool (sgn y0)) ∧ w9.cell? ⟨g_x + 1, 1, none⟩ = some (.slice A_y n_y cap_y)) ∧ (w9.cell? ⟨w.heap.size, p2, none⟩ = some (.int .i64 mb)) ∧ (w9.cell? ⟨g_a, p1 * 2, none⟩ = some (.int .i64 bh) ∧ w9.cell? ⟨g_a, p1 * 2 + 1, none⟩ = some (.int .u64 bl))) 17 (by kernel_rfl) ?_
              refine AnyG.take (i := 0) (v := ?_) rfl (by kernel_rfl) (by kernel_rfl) (by kernel_rfl) (fun _ _ _ h => h) (by kernel_rfl) (by kernel_rfl) (Or.inl ⟨by rfl, ?_⟩) (by assumption) ?_
              rotate_left
              · intro w9 hSw; (try dsimp only at hSw); go_simp <;> with_reducible rfl
              try simp only [Act.put, List.getElem_toArray, List.getElem_cons_zero, List.getElem_cons_succ, List.setIfInBounds_toArray, List.set_cons_zero, List.set_cons_succ]
              refine AnyG.take (i := 1) (v := ?_) rfl (by kernel_rfl) (by kernel_rfl) (by kernel_rfl) (fun _ _ _ h => h) (by kernel_rfl) (by kernel_rfl) (Or.inl ⟨by rfl, ?_⟩) (by assumption) ?_
              rotate_left
              · intro w9 hSw; (try dsimp only at hSw); go_simp <;> with_reducible rfl
              try simp only [Act.put, List.getElem_toArray, List.getElem_cons_zero, List.getElem_cons_succ, List.setIfInBounds_toArray, List.set_cons_zero, List.set_cons_succ]
              refine AnyG.take (i := 2) (v := ?_) rfl (by kernel_rfl) (by kernel_rfl) (by kernel_rfl) (fun _ _ _ h => h) (by kernel_rfl) (by kernel_rfl) (Or.inl ⟨by rfl, ?_⟩) (by assumption) ?_
              rotate_left
              · intro w9 hSw; (try dsimp only at hSw); go_simp <;> with_reducible rfl
              try simp only [Act.put, List.getElem_toArray, List.getElem_cons_zero, List.getElem_cons_succ, List.setIfInBounds_toArray, List.set_cons_zero, List.set_cons_succ]
              refine AnyG.take (i := 3) (v := ?_) rfl (by kernel_rfl) (by kernel_rfl) (by kernel_rfl) (fun _ _ _ h => h) (by kernel_rfl) (by kernel_rfl) (Or.inl ⟨by rfl, ?_⟩) (by assumption) ?_
              rotate_left
              · intro w9 hSw; (try dsimp only at hSw); go_simp <;> with_reducible rfl
              try simp only [Act.put, List.getElem_toArray, List.getElem_cons_zero, List.getElem_cons_succ, List.setIfInBounds_toArray, List.set_cons_zero, List.set_cons_succ]
              refine AnyG.take (i := 4) (v := ?_) rfl (by kernel_rfl) (by kernel_rfl) (by kernel_rfl) (fun _ _ _ h => h) (by kernel_rfl) (by kernel_rfl) (Or.inl ⟨by rfl, ?_⟩) (by assumption) ?_
              rotate_left
              · intro w9 hSw; (try dsimp only at hSw); go_simp <;> with_reducible rfl
              try simp only [Act.put, List.getElem_toArray, List.getElem_cons_zero, List.getElem_cons_succ, List.setIfInBounds_toArray, List.set_cons_zero, List.set_cons_succ]
              refine AnyG.take (i := 5) (v := ?_) rfl (by kernel_rfl) (by kernel_rfl) (by kernel_rfl) (fun _ _ _ h => h) (by kernel_rfl) (by kernel_rfl) (Or.inl ⟨by rfl, ?_⟩) (by assumption) ?_
              rotate_left
              · intro w9 hSw; (try dsimp only at hSw); go_simp <;> with_reducible rfl
              try simp only [Act.put, List.getElem_toArray, List.getElem_cons_zero, List.getElem_cons_succ, List.setIfInBounds_toArray, List.set_cons_zero, List.set_cons_succ]
              refine AnyG.take (i := 6) (v := ?_) rfl (by kernel_rfl) (by kernel_rfl) (by kernel_rfl) (fun _ _ _ h => h) (by kernel_rfl) (by kernel_rfl) (Or.inl ⟨by rfl, ?_⟩) (by assumption) ?_
              rotate_left
              · intro w9 hSw; (try dsimp only at hSw); go_simp <;> with_reducible rfl
              try simp only [Act.put, List.getElem_toArray, List.getElem_cons_zero, List.getElem_cons_succ, List.setIfInBounds_toArray, List.set_cons_zero, List.set_cons_succ]
              refine AnyG.take (i := 8) (v := ?_) rfl (by kernel_rfl) (by kernel_rfl) (by kernel_rfl) (fun _ _ _ h => h) (by kernel_rfl) (by kernel_rfl) (Or.inl ⟨by rfl, ?_⟩) (by assumption) ?_
              rotate_left
              · intro w9 hSw; (try dsimp only at hSw); go_simp <;> with_reducible rfl
              try simp only [Act.put, List.getElem_toArray, List.getElem_cons_zero, List.getElem_cons_succ, List.setIfInBounds_toArray, List.set_cons_zero, List.set_cons_succ]
              refine AnyG.take (i := 9) (v := ?_) rfl (by kernel_rfl) (by kernel_rfl) (by kernel_rfl) (fun _ _ _ h => h) (by kernel_rfl) (by kernel_rfl) (Or.inl ⟨by rfl, ?_⟩) (by assumption) ?_
              rotate_left
              · intro w9 hSw; (try dsimp only at hSw); go_simp <;> with_reducible rfl
              try simp only [Act.put, List.getElem_toArray, List.getElem_cons_zero, List.getElem_cons_succ, List.setIfInBounds_toArray, List.set_cons_zero, List.set_cons_succ]
              refine AnyG.take (i := 10) (v := ?_) rfl (by kernel_rfl) (by kernel_rfl) (by kernel_rfl) (fun _ _ _ h => h) (by kernel_rfl) (by kernel_rfl) (Or.inl ⟨by rfl, ?_⟩) (by assumption) ?_
              rotate_left
              · intro w9 hSw; (try dsimp only at hSw); go_simp <;> with_reducible rfl
              try simp only [Act.put, List.getElem_toArray, List.getElem_cons_zero, List.getElem_cons_succ, List.setIfInBounds_toArray, List.set_cons_zero, List.set_cons_succ]
              refine AnyG.take (i := 11) (v := ?_) rfl (by kernel_rfl) (by kernel_rfl) (by kernel_rfl) (fun _ _ _ h => h) (by kernel_rfl) (by kernel_rfl) (Or.inl ⟨by rfl, ?_⟩) (by assumption) ?_
              rotate_left
              · intro w9 hSw; (try dsimp only at hSw); go_simp <;> with_reducible rfl
              try simp only [Act.put, List.getElem_toArray, List.getElem_cons_zero, List.getElem_cons_succ, List.setIfInBounds_toArray, List.set_cons_zero, List.set_cons_succ]
              refine AnyG.take (i := 12) (v := ?_) rfl (by kernel_rfl) (by kernel_rfl) (by kernel_rfl) (fun _ _ _ h => h) (by kernel_rfl) (by kernel_rfl) (Or.inl ⟨by rfl, ?_⟩) (by assumption) ?_
              rotate_left
              · intro w9 hSw; (try dsimp only at hSw); go_simp <;> with_reducible rfl
              try simp only [Act.put, List.getElem_toArray, List.getElem_cons_zero, List.getElem_cons_succ, List.setIfInBounds_toArray, List.set_cons_zero, List.set_cons_succ]
              refine AnyG.take (i := 13) (v := ?_) rfl (by kernel_rfl) (by kernel_rfl) (by kernel_rfl) (fun _ _ _ h => h) (by kernel_rfl) (by kernel_rfl) (Or.inl ⟨by rfl, ?_⟩) (by assumption) ?_
              rotate_left
              · intro w9 hSw; (try dsimp only at hSw); go_simp <;> with_reducible rfl
              try simp only [Act.put, List.getElem_toArray, List.getElem_cons_zero, List.getElem_cons_succ, List.setIfInBounds_toArray, List.set_cons_zero, List.set_cons_succ]
              refine AnyG.step (i := 7) (by kernel_rfl) rfl (fun K hK => ?_)
              go_simp
              go_at_call 44
              refine (B2.out _).mono ?_
              rintro e w16 ⟨v_pa, rfl, hb, h_pa⟩
              obtain ⟨A_pa, n_pa, cap_pa, rfl, -⟩ := id h_pa.form
              replace h_pa := Lib.hid h_pa
              have B_w16 := Lib.hid (reg_next (w0 := w15) (by repeat (first | with_reducible exact Below.refl _ _ | with_reducible apply below_drew | with_reducible apply below_new)) hb)
              have K_w16 := KK.out _ B_w16.out
              clear hb
              refine hK.out _ _ (fun _ => K_w16) (fun hHeld => ?_)
              replace hHeld := hHeld (by decide)
              clear hK
              try simp only [Act.put, List.getElem_toArray, List.getElem_cons_zero, List.getElem_cons_succ, List.setIfInBounds_toArray, List.set_cons_zero, List.set_cons_succ]
              refine AnyG.step (i := 14) (by kernel_rfl) rfl (fun K hK => ?_)
              go_simp
              go_at_call 45
              refine (O2.out _).mono ?_
              rintro e w17 ⟨v_pb, rfl, hb, h_pb⟩
              obtain ⟨A_pb, n_pb, cap_pb, rfl, -⟩ := id h_pb.form
              replace h_pb := Lib.hid h_pb
              replace h_pa := Lib.hid (h_pa.out.below hb)
              have B_w17 := Lib.hid (below_next B_w16.out hb)
              have K_w17 := KK.out _ B_w17.out
              clear hb
              refine hK.out _ _ (fun _ => K_w17) (fun hHeld => ?_)
              replace hHeld := hHeld (by decide)
              clear hK
              try simp only [Act.put, List.getElem_toArray, List.getElem_cons_zero, List.getElem_cons_succ, List.setIfInBounds_toArray, List.set_cons_zero, List.set_cons_succ]
              refine AnyG.step (i := 15) (by kernel_rfl) rfl (fun K hK => ?_)
              go_simp
              go_at_call 47
              refine (M2.out _ _ _ h_pa.out h_pb.out).mono ?_
              rintro e w18 ⟨v_pc, rfl, hb, h_pc⟩
              obtain ⟨A_pc, n_pc, cap_pc, rfl, -⟩ := id h_pc.form
              replace h_pc := Lib.hid h_pc
              replace h_pa := Lib.hid (h_pa.out.below hb)
              replace h_pb := Lib.hid (h_pb.out.below hb)
              have B_w18 := Lib.hid (below_next B_w17.out hb)
              have K_w18 := KK.out _ B_w18.out
              clear hb
              refine hK.out _ _ (fun _ => K_w18) (fun hHeld => ?_)
              replace hHeld := hHeld (by decide)
              clear hK
              try simp only [Act.put, List.getElem_toArray, List.getElem_cons_zero, List.getElem_cons_succ, List.setIfInBounds_toArray, List.set_cons_zero, List.set_cons_succ]
              refine AnyG.step (i := 16) (by kernel_rfl) rfl (fun K hK => ?_)
              go_simp
              go_at_call 46
              refine (D2.out _ _ _ (h_y.out.below B_w18.out) h_pc.out).mono ?_
              rintro e w19 ⟨v_pd, rfl, hb, h_pd⟩
              obtain ⟨A_pd, n_pd, cap_pd, rfl, -⟩ := id h_pd.form
              replace h_pd := Lib.hid h_pd
              replace h_pa := Lib.hid (h_pa.out.below hb)
              replace h_pb := Lib.hid (h_pb.out.below hb)
              replace h_pc := Lib.hid (h_pc.out.below hb)
              have B_w19 := Lib.hid (below_next B_w18.out hb)
              have K_w19 := KK.out _ B_w19.out
              obtain ⟨rc_y0, rc_y1, rf_y0, rf_y1⟩ := reads2 (r_y.out.keep B_w19.out)
              have rl_y := (r_y.out.keep B_w19.out).lt
              clear hb
              refine hK.out _ _ (fun _ => K_w19) (fun hHeld => ?_)
              replace hHeld := hHeld (by decide)
              clear hK
              try simp only [Act.put, List.getElem_toArray, List.getElem_cons_zero, List.getElem_cons_succ, List.setIfInBounds_toArray, List.set_cons_zero, List.set_cons_succ]
              refine AnyG.step (i := 17) (by kernel_rfl) rfl (fun K hK => ?_)
              go_simp
              refine hK.out _ _ (fun h => absurd h (by decide)) (fun _ => ?_)
              clear hK
              try simp only [Act.put, List.getElem_toArray, List.getElem_cons_zero, List.getElem_cons_succ, List.setIfInBounds_toArray, List.set_cons_zero, List.set_cons_succ]
              refine AnyG.done (by kernel_rfl) ?_ _
              clear KK K0 KD K_w16 K_w17 K_w18 K_w19
              replace r_x := Lib.hid (r_x.out.keep B_w19.out)
              replace r_y := Lib.hid (r_y.out.keep B_w19.out)
              replace h_x := Lib.hid (h_x.out.below B_w19.out)
              replace h_y := Lib.hid (h_y.out.below B_w19.out)
              replace h_od := Lib.hid (h_od.out.below B_w19.out)
              replace BB := Lib.hid (below_next BB.out B_w19.out)
              clear B_w16 B_w17 B_w18 B_w19
              replace h_od := Lib.hid (h_od.out.far2 r_y.out (by decide) (.bool (sgn yn)) (.slice A_pd n_pd cap_pd))
              replace h_pd := Lib.hid (h_pd.out.far2 r_y.out (by decide) (.bool (sgn yn)) (.slice A_pd n_pd cap_pd))
              clear h_pa h_pb h_pc
              replace r_x := Lib.hid (r_x.out.far2 (p := g_x + 1) (by have dd_x := d_x.out; have dd_y := d_y.out; omega) (.bool (sgn yn)) (.slice A_pd n_pd cap_pd))
              replace r_y := Lib.hid (r_y.out.set2 (.bool (sgn yn)) (.slice A_pd n_pd cap_pd))
              replace BB := Lib.hid (below_far2 BB.out (p := g_x + 1) (by have dd := d_y.out; omega) (.bool (sgn yn)) (.slice A_pd n_pd cap_pd))
              generalize ((w19.setCell ⟨g_x + 1, 0, none⟩ (.bool (sgn yn))).setCell ⟨g_x + 1, 1, none⟩ (.slice A_pd n_pd cap_pd)) = w20 at *
              go_wp2_with fail
              go_roundw
              case rel => exact ⟨q + 1, A_od, n_od, cap_od, A_pd, n_pd, cap_pd, by omega, by go_num, by rw [← hxn.out, ← hyn.out]; exact ⟨r_x.out, h_od.out, r_y.out, h_pd.out, BB.out⟩⟩
              case measure => simp [intOf]; omega
            · obtain rfl : q = 3 := by omega
              clear A1 A2 CO1 CB CM1 CM2 HA HM X0'
              by_cases hik : i = k
              · have hx := hxy.out
                rw [if_pos hik] at hx
                rw [hx.1] at r_x h_x
                rw [hx.2] at r_y h_y
                clear hx hxy
                have hik2 := hik.symm
                clear hik
                subst hik2
                go_wp2_with fail
                refine (CO.out _).mono ?_
                rintro e w21 ⟨v_o, rfl, hb, h_o⟩
                obtain ⟨A_o, n_o, cap_o, rfl, -⟩ := id h_o.form
                replace h_o := Lib.hid h_o
                replace r_x := Lib.hid (r_x.out.keep hb)
                replace r_y := Lib.hid (r_y.out.keep hb)
                replace h_x := Lib.hid (h_x.out.below hb)
                replace h_y := Lib.hid (h_y.out.below hb)
                replace BB := Lib.hid (below_next BB.out hb)
                clear hb
                go_upto_region 19 with fail
                have d_o := Lib.hid (And.intro BB.out.size (And.intro r_x.out.lt (And.intro r_y.out.lt (True.intro))))
                obtain ⟨hb, r_o⟩ := laid w21 #[.bool (sgn (0)), .slice A_o n_o cap_o] 76
                replace r_x := Lib.hid (r_x.out.keep hb)
                replace r_y := Lib.hid (r_y.out.keep hb)
                replace h_x := Lib.hid (h_x.out.below hb)
                replace h_y := Lib.hid (h_y.out.below hb)
                replace h_o := Lib.hid (h_o.out.below hb)
                replace BB := Lib.hid (below_next BB.out hb)
                replace r_o := Lib.hid r_o
                clear hb
                generalize w21.alloc (.cells #[.bool (sgn (0)), .slice A_o n_o cap_o] 76) = w22 at *
                generalize w21.heap.size = g_o at *
                have h_v := Lib.hid (h_e.out.below BB.out)
                obtain ⟨ce0, ce1⟩ := HE.out _ BB.out
                obtain ⟨c_o0, c_o1, f_o0, f_o1⟩ := reads2 r_o.out
                have l_o := r_o.out.lt
                go_upto_region 21 with fail
                clear ce0 ce1
                replace h_x := Lib.hid (h_x.out.far2 r_o.out (by decide) (.bool (sgn D)) (.slice A_e n_e cap_e))
                replace h_y := Lib.hid (h_y.out.far2 r_o.out (by decide) (.bool (sgn D)) (.slice A_e n_e cap_e))
                replace h_v := Lib.hid (h_v.out.far2 r_o.out (by decide) (.bool (sgn D)) (.slice A_e n_e cap_e))
                replace h_o := Lib.hid (h_o.out.far2 r_o.out (by decide) (.bool (sgn D)) (.slice A_e n_e cap_e))
                clear c_o0 c_o1 f_o0 f_o1 l_o
                replace r_x := Lib.hid (r_x.out.far2 (p := g_o) (by have dd_x := d_x.out; have dd_o := d_o.out; omega) (.bool (sgn D)) (.slice A_e n_e cap_e))
                replace r_y := Lib.hid (r_y.out.far2 (p := g_o) (by have dd_y := d_y.out; have dd_o := d_o.out; omega) (.bool (sgn D)) (.slice A_e n_e cap_e))
                replace r_o := Lib.hid (r_o.out.set2 (.bool (sgn D)) (.slice A_e n_e cap_e))
                replace BB := Lib.hid (below_far2 BB.out (p := g_o) (by have dd := d_o.out; omega) (.bool (sgn D)) (.slice A_e n_e cap_e))
                generalize ((w22.setCell ⟨g_o, 0, none⟩ (.bool (sgn D))).setCell ⟨g_o, 1, none⟩ (.slice A_e n_e cap_e)) = w23 at *
                obtain ⟨c_x0, c_x1, f_x0, f_x1⟩ := reads2 r_x.out
                have l_x := r_x.out.lt
                obtain ⟨c_o0, c_o1, f_o0, f_o1⟩ := reads2 r_o.out
                have l_o := r_o.out.lt
                go_wp2_with fail
                refine (CC.out D (DW.out.up (by omega)) _ _ _ h_x.out h_v.out).mono ?_
                rintro e w24 ⟨rfl, hb⟩
                clear c_x0 c_x1 f_x0 f_x1 l_x c_o0 c_o1 f_o0 f_o1 l_o
                replace r_x := Lib.hid (r_x.out.keep hb)
                replace r_y := Lib.hid (r_y.out.keep hb)
                replace r_o := Lib.hid (r_o.out.keep hb)
                replace h_x := Lib.hid (h_x.out.below hb)
                replace h_y := Lib.hid (h_y.out.below hb)
                replace h_o := Lib.hid (h_o.out.below hb)
                replace h_v := Lib.hid (h_v.out.below hb)
                replace BB := Lib.hid (below_next BB.out hb)
                clear hb
                obtain ⟨c_y0, c_y1, f_y0, f_y1⟩ := reads2 r_y.out
                have l_y := r_y.out.lt
                obtain ⟨c_o0, c_o1, f_o0, f_o1⟩ := reads2 r_o.out
                have l_o := r_o.out.lt
                go_wp2_with fail
                refine (CC.out D (DW.out.up (by omega)) _ _ _ h_y.out h_v.out).mono ?_
                rintro e w25 ⟨rfl, hb⟩
                clear c_y0 c_y1 f_y0 f_y1 l_y c_o0 c_o1 f_o0 f_o1 l_o
                replace r_x := Lib.hid (r_x.out.keep hb)
                replace r_y := Lib.hid (r_y.out.keep hb)
                replace r_o := Lib.hid (r_o.out.keep hb)
                replace h_x := Lib.hid (h_x.out.below hb)
                replace h_y := Lib.hid (h_y.out.below hb)
                replace h_o := Lib.hid (h_o.out.below hb)
                replace h_v := Lib.hid (h_v.out.below hb)
                replace BB := Lib.hid (below_next BB.out hb)
                clear hb
                go_wp2_with fail
                go_roundw
                case rel => exact ⟨k + 1, by omega, by go_num, BB.out⟩
                case measure => simp [intOf]; omega
              · have hx := hxy.out
                rw [if_neg hik] at hx
                rw [hx.1] at r_x h_x
                rw [hx.2] at r_y h_y
                clear hx hxy
                have f1 : ((i : Int) == (k : Int)) = false := by simp; omega
                have f2 : ¬ (i : Int) = (k : Int) := by omega
                have Z0 : Hid (Wd 1000 0) := by show Wd 1000 0; unfold Wd; have := two_pos 1000; omega
                go_wp2_with fail
                refine (CO.out _).mono ?_
                rintro e w26 ⟨v_o, rfl, hb, h_o⟩
                obtain ⟨A_o, n_o, cap_o, rfl, -⟩ := id h_o.form
                replace h_o := Lib.hid h_o
                replace r_x := Lib.hid (r_x.out.keep hb)
                replace r_y := Lib.hid (r_y.out.keep hb)
                replace h_x := Lib.hid (h_x.out.below hb)
                replace h_y := Lib.hid (h_y.out.below hb)
                replace BB := Lib.hid (below_next BB.out hb)
                clear hb
                go_upto_region 19 with fail
                have d_o := Lib.hid (And.intro BB.out.size (And.intro r_x.out.lt (And.intro r_y.out.lt (True.intro))))
                obtain ⟨hb, r_o⟩ := laid w26 #[.bool (sgn (0)), .slice A_o n_o cap_o] 76
                replace r_x := Lib.hid (r_x.out.keep hb)
                replace r_y := Lib.hid (r_y.out.keep hb)
                replace h_x := Lib.hid (h_x.out.below hb)
                replace h_y := Lib.hid (h_y.out.below hb)
                replace h_o := Lib.hid (h_o.out.below hb)
                replace BB := Lib.hid (below_next BB.out hb)
                replace r_o := Lib.hid r_o
                clear hb
                generalize w26.alloc (.cells #[.bool (sgn (0)), .slice A_o n_o cap_o] 76) = w27 at *
                generalize w26.heap.size = g_o at *
                obtain ⟨c_x0, c_x1, f_x0, f_x1⟩ := reads2 r_x.out
                have l_x := r_x.out.lt
                obtain ⟨c_o0, c_o1, f_o0, f_o1⟩ := reads2 r_o.out
                have l_o := r_o.out.lt
                go_wp2_with fail
                refine (CC.out 0 Z0.out _ _ _ h_x.out h_o.out).mono ?_
                rintro e w28 ⟨rfl, hb⟩
                clear c_x0 c_x1 f_x0 f_x1 l_x c_o0 c_o1 f_o0 f_o1 l_o
                replace r_x := Lib.hid (r_x.out.keep hb)
                replace r_y := Lib.hid (r_y.out.keep hb)
                replace r_o := Lib.hid (r_o.out.keep hb)
                replace h_x := Lib.hid (h_x.out.below hb)
                replace h_y := Lib.hid (h_y.out.below hb)
                replace h_o := Lib.hid (h_o.out.below hb)
                replace BB := Lib.hid (below_next BB.out hb)
                clear hb
                obtain ⟨c_y0, c_y1, f_y0, f_y1⟩ := reads2 r_y.out
                have l_y := r_y.out.lt
                obtain ⟨c_o0, c_o1, f_o0, f_o1⟩ := reads2 r_o.out
                have l_o := r_o.out.lt
                go_wp2_with fail
                refine (CC.out 0 Z0.out _ _ _ h_y.out h_o.out).mono ?_
                rintro e w29 ⟨rfl, hb⟩
                clear c_y0 c_y1 f_y0 f_y1 l_y c_o0 c_o1 f_o0 f_o1 l_o
                replace r_x := Lib.hid (r_x.out.keep hb)
                replace r_y := Lib.hid (r_y.out.keep hb)
                replace r_o := Lib.hid (r_o.out.keep hb)
                replace h_x := Lib.hid (h_x.out.below hb)
                replace h_y := Lib.hid (h_y.out.below hb)
                replace h_o := Lib.hid (h_o.out.below hb)
                replace BB := Lib.hid (below_next BB.out hb)
                clear hb
                go_wp2_with fail
                go_roundw
                case rel => exact ⟨k + 1, by omega, by go_num, BB.out⟩
                case measure => simp [intOf]; omega
        · obtain rfl : k = 3 := by omega
          go_wp2_with fail
          go_roundw
          case rel => exact ⟨i + 1, by omega, by go_num, BB.out⟩
          case measure => simp [intOf]; omega
    · obtain rfl : i = 3 := by omega
      clear HXY X0 CA1 CA2 CM1 CM2 CO1 HA HM HE CO
      replace r_m := Lib.hid (r_m.out.keep BB.out)
      replace r_n := Lib.hid (r_n.out.keep BB.out)
      replace r_e := Lib.hid (r_e.out.keep BB.out)
      replace h_e := Lib.hid (h_e.out.below BB.out)
      replace BB := Lib.hid (below_next BO.out BB.out)
      clear BO r_a r_d
      cases bn
      · have DN := Lib.hid (Q1.out rfl)
        have DP := Lib.hid (Q3.out rfl)
        have EW := Lib.hid (Q4.out rfl)
        clear Q0 Q1 Q2 Q3 Q4
        obtain ⟨c_n0, c_n1, c_n2, c_n3, c_n4, c_n5, c_n6, c_n7, c_n8, f_n0, f_n1, f_n2, f_n3, f_n4, f_n5, f_n6, f_n7, f_n8⟩ := reads9 r_n.out
        have l_n := r_n.out.lt
        go_wp2_with fail
        refine (DN.out _).mono ?_
        rintro e w30 ⟨gh, gl, rfl, hb, hgd⟩
        clear c_n0 c_n1 c_n2 c_n3 c_n4 c_n5 c_n6 c_n7 c_n8 f_n0 f_n1 f_n2 f_n3 f_n4 f_n5 f_n6 f_n7 f_n8 l_n
        replace r_m := Lib.hid (r_m.out.keep hb)
        replace r_n := Lib.hid (r_n.out.keep hb)
        replace r_e := Lib.hid (r_e.out.keep hb)
        replace h_e := Lib.hid (h_e.out.below hb)
        replace BB := Lib.hid (below_next BB.out hb)
        clear hb
        have Bg := Lib.hid (fun w => CB.out E gh gl hgd w)
        go_upto_region 24 with fail
        have d_g := Lib.hid (And.intro BB.out.size (And.intro r_m.out.lt (And.intro r_n.out.lt (And.intro r_e.out.lt (True.intro)))))
        obtain ⟨hb, r_g⟩ := laid w30 #[.int .i64 gh, .int .u64 gl] WT5
        replace r_m := Lib.hid (r_m.out.keep hb)
        replace r_n := Lib.hid (r_n.out.keep hb)
        replace r_e := Lib.hid (r_e.out.keep hb)
        replace h_e := Lib.hid (h_e.out.below hb)
        replace BB := Lib.hid (below_next BB.out hb)
        replace r_g := Lib.hid r_g
        clear hb
        generalize w30.alloc (.cells #[.int .i64 gh, .int .u64 gl] WT5) = w31 at *
        generalize w30.heap.size = g_g at *
        obtain ⟨c_m0, c_m1, c_m2, c_m3, c_m4, c_m5, c_m6, c_m7, c_m8, f_m0, f_m1, f_m2, f_m3, f_m4, f_m5, f_m6, f_m7, f_m8⟩ := reads9 r_m.out
        have l_m := r_m.out.lt
        obtain ⟨c_n0, c_n1, c_n2, c_n3, c_n4, c_n5, c_n6, c_n7, c_n8, f_n0, f_n1, f_n2, f_n3, f_n4, f_n5, f_n6, f_n7, f_n8⟩ := reads9 r_n.out
        have l_n := r_n.out.lt
        go_wp2_with fail
        refine (DP.out _).mono ?_
        rintro e w32 ⟨ph0, pl0, ph1, pl1, ph2, pl2, ph3, pl3, ph4, pl4, ph5, pl5, ph6, pl6, ph7, pl7, ph8, pl8, rfl, hb, pf0, pf1, pf2, pf3, pf4, pf5, pf6, pf7, pf8⟩
        clear c_m0 c_m1 c_m2 c_m3 c_m4 c_m5 c_m6 c_m7 c_m8 f_m0 f_m1 f_m2 f_m3 f_m4 f_m5 f_m6 f_m7 f_m8 l_m c_n0 c_n1 c_n2 c_n3 c_n4 c_n5 c_n6 c_n7 c_n8 f_n0 f_n1 f_n2 f_n3 f_n4 f_n5 f_n6 f_n7 f_n8 l_n
        replace r_m := Lib.hid (r_m.out.keep hb)
        replace r_n := Lib.hid (r_n.out.keep hb)
        replace r_e := Lib.hid (r_e.out.keep hb)
        replace r_g := Lib.hid (r_g.out.keep hb)
        replace h_e := Lib.hid (h_e.out.below hb)
        replace BB := Lib.hid (below_next BB.out hb)
        clear hb
        obtain ⟨cs, hcs⟩ : ∃ cs, (#[.int .i64 ph0, .int .u64 pl0, .int .i64 ph1, .int .u64 pl1, .int .i64 ph2, .int .u64 pl2, .int .i64 ph3, .int .u64 pl3, .int .i64 ph4, .int .u64 pl4, .int .i64 ph5, .int .u64 pl5, .int .i64 ph6, .int .u64 pl6, .int .i64 ph7, .int .u64 pl7, .int .i64 ph8, .int .u64 pl8] : Array Value) = cs := ⟨_, rfl⟩
        have hcz : cs.size = 18 := by rw [← hcs]; rfl
        have hc1 : cs.all (·.oneCell') = true := by rw [← hcs]; kernel_rfl
        rw [hcs]
        replace hcs := Lib.hid hcs
        obtain ⟨ST1, ST2⟩ := wide_new w32 #[.int .i64 0, .int .u64 0, .int .i64 0, .int .u64 0, .int .i64 0, .int .u64 0, .int .i64 0, .int .u64 0, .int .i64 0, .int .u64 0, .int .i64 0, .int .u64 0, .int .i64 0, .int .u64 0, .int .i64 0, .int .u64 0, .int .i64 0, .int .u64 0] cs rfl hcz hc1
        go_upto_region 25 with fail
        clear ST1 ST2
        have d_p := Lib.hid (And.intro BB.out.size (And.intro r_m.out.lt (And.intro r_n.out.lt (And.intro r_e.out.lt (And.intro r_g.out.lt (True.intro))))))
        obtain ⟨hb, r_p⟩ := laid w32 cs W9T
        replace r_m := Lib.hid (r_m.out.keep hb)
        replace r_n := Lib.hid (r_n.out.keep hb)
        replace r_e := Lib.hid (r_e.out.keep hb)
        replace r_g := Lib.hid (r_g.out.keep hb)
        replace h_e := Lib.hid (h_e.out.below hb)
        replace BB := Lib.hid (below_next BB.out hb)
        replace r_p := Lib.hid r_p
        clear hb
        generalize w32.alloc (.cells cs W9T) = w33 at *
        generalize w32.heap.size = g_p at *
        rw [← hcs.out] at r_p
        clear hcs hcz hc1
        go_wp2_with fail
        have d_s := Lib.hid (And.intro BB.out.size (And.intro r_m.out.lt (And.intro r_n.out.lt (And.intro r_e.out.lt (And.intro r_g.out.lt (And.intro r_p.out.lt (True.intro)))))))
        obtain ⟨hb, r_s⟩ := laid w33 #[.int .i64 0, .int .i64 0, .int .i64 0, .int .i64 0, .int .i64 0, .int .i64 0, .int .i64 0, .int .i64 0, .int .i64 0] M9T
        replace r_m := Lib.hid (r_m.out.keep hb)
        replace r_n := Lib.hid (r_n.out.keep hb)
        replace r_e := Lib.hid (r_e.out.keep hb)
        replace r_g := Lib.hid (r_g.out.keep hb)
        replace r_p := Lib.hid (r_p.out.keep hb)
        replace h_e := Lib.hid (h_e.out.below hb)
        replace BB := Lib.hid (below_next BB.out hb)
        replace r_s := Lib.hid r_s
        clear hb
        generalize w33.alloc (.cells #[.int .i64 0, .int .i64 0, .int .i64 0, .int .i64 0, .int .i64 0, .int .i64 0, .int .i64 0, .int .i64 0, .int .i64 0] M9T) = w34 at *
        generalize w33.heap.size = g_s at *
        refine wp_loop_rounds 10 ?_
        rw [rounds_succ]
        have c_p0 := r_p.out.cell 0 rfl
        have c_p1 := r_p.out.cell 1 rfl
        by_cases hfk : fitsB (G 0) 63 = true
        rotate_left
        · have CF := Lib.hid (fun w => wfits (G 0) ph0 pl0 pf0 w)
          rw [show fitsB (G 0) 63 = false by simpa using hfk] at CF
          clear hfk
          go_wp2_with fail
          clear c_p0 c_p1
          refine (CF.out _).mono ?_
          rintro e w35 ⟨rfl, hb⟩
          replace r_m := Lib.hid (r_m.out.keep hb)
          replace r_n := Lib.hid (r_n.out.keep hb)
          replace r_e := Lib.hid (r_e.out.keep hb)
          replace r_g := Lib.hid (r_g.out.keep hb)
          replace r_p := Lib.hid (r_p.out.keep hb)
          replace r_s := Lib.hid (r_s.out.keep hb)
          replace h_e := Lib.hid (h_e.out.below hb)
          replace BB := Lib.hid (below_next BB.out hb)
          clear hb
          go_wp2_with fail
          refine (CV.out _).mono ?_
          rintro e w36 ⟨rfl, hb⟩
          replace r_m := Lib.hid (r_m.out.keep hb)
          replace r_n := Lib.hid (r_n.out.keep hb)
          replace r_e := Lib.hid (r_e.out.keep hb)
          replace r_g := Lib.hid (r_g.out.keep hb)
          replace r_p := Lib.hid (r_p.out.keep hb)
          replace r_s := Lib.hid (r_s.out.keep hb)
          replace h_e := Lib.hid (h_e.out.below hb)
          replace BB := Lib.hid (below_next BB.out hb)
          clear hb
          go_wp2_with fail
          go_ret
          exact ⟨rfl, BB.out⟩
        have CF := Lib.hid (fun w => wfits (G 0) ph0 pl0 pf0 w)
        rw [hfk, show fitX (G 0) = G 0 by unfold fitX; rw [hfk]; rfl] at CF
        have i0 := fits_63.1 hfk
        clear hfk
        go_wp2_with fail
        clear c_p0 c_p1
        refine (CF.out _).mono ?_
        rintro e w35 ⟨rfl, hb⟩
        replace r_m := Lib.hid (r_m.out.keep hb)
        replace r_n := Lib.hid (r_n.out.keep hb)
        replace r_e := Lib.hid (r_e.out.keep hb)
        replace r_g := Lib.hid (r_g.out.keep hb)
        replace r_p := Lib.hid (r_p.out.keep hb)
        replace r_s := Lib.hid (r_s.out.keep hb)
        replace h_e := Lib.hid (h_e.out.below hb)
        replace BB := Lib.hid (below_next BB.out hb)
        clear hb
        clear CF
        obtain ⟨c_s0, c_s1, c_s2, c_s3, c_s4, c_s5, c_s6, c_s7, c_s8, f_s0, f_s1, f_s2, f_s3, f_s4, f_s5, f_s6, f_s7, f_s8⟩ := reads9 r_s.out
        have l_s := r_s.out.lt
        go_wp2_with fail
        replace h_e := Lib.hid (h_e.out.far r_s.out (by decide) 0 (.int .i64 (G 0)))
        clear c_s0 c_s1 c_s2 c_s3 c_s4 c_s5 c_s6 c_s7 c_s8 f_s0 f_s1 f_s2 f_s3 f_s4 f_s5 f_s6 f_s7 f_s8 l_s
        replace r_m := Lib.hid (r_m.out.far (p := g_s) (by have dd_s := d_s.out; omega) 0 (.int .i64 (G 0)))
        replace r_n := Lib.hid (r_n.out.far (p := g_s) (by have dd_s := d_s.out; omega) 0 (.int .i64 (G 0)))
        replace r_e := Lib.hid (r_e.out.far (p := g_s) (by have dd_e := d_e.out; have dd_s := d_s.out; omega) 0 (.int .i64 (G 0)))
        replace r_g := Lib.hid (r_g.out.far (p := g_s) (by have dd_g := d_g.out; have dd_s := d_s.out; omega) 0 (.int .i64 (G 0)))
        replace r_p := Lib.hid (r_p.out.far (p := g_s) (by have dd_p := d_p.out; have dd_s := d_s.out; omega) 0 (.int .i64 (G 0)))
        replace r_s := Lib.hid (show AtB (w35.setCell ⟨g_s, 0, none⟩ (.int .i64 (G 0))) (g_s) #[.int .i64 (G 0), .int .i64 0, .int .i64 0, .int .i64 0, .int .i64 0, .int .i64 0, .int .i64 0, .int .i64 0, .int .i64 0] M9T from by have k := (r_s.out.set_n 0 (.int .i64 (G 0))); simpa using k)
        replace BB := Lib.hid (below_set BB.out (b := g_s) (o := 0) (by have dd := d_s.out; omega) (.int .i64 (G 0)))
        generalize (w35.setCell ⟨g_s, 0, none⟩ (.int .i64 (G 0))) = w36 at *
        rw [rounds_succ]
        have c_p0 := r_p.out.cell 2 rfl
        have c_p1 := r_p.out.cell 3 rfl
        by_cases hfk : fitsB (G 1) 63 = true
        rotate_left
        · have CF := Lib.hid (fun w => wfits (G 1) ph1 pl1 pf1 w)
          rw [show fitsB (G 1) 63 = false by simpa using hfk] at CF
          clear hfk
          go_wp2_with fail
          clear c_p0 c_p1
          refine (CF.out _).mono ?_
          rintro e w37 ⟨rfl, hb⟩
          replace r_m := Lib.hid (r_m.out.keep hb)
          replace r_n := Lib.hid (r_n.out.keep hb)
          replace r_e := Lib.hid (r_e.out.keep hb)
          replace r_g := Lib.hid (r_g.out.keep hb)
          replace r_p := Lib.hid (r_p.out.keep hb)
          replace r_s := Lib.hid (r_s.out.keep hb)
          replace h_e := Lib.hid (h_e.out.below hb)
          replace BB := Lib.hid (below_next BB.out hb)
          clear hb
          go_wp2_with fail
          refine (CV.out _).mono ?_
          rintro e w38 ⟨rfl, hb⟩
          replace r_m := Lib.hid (r_m.out.keep hb)
          replace r_n := Lib.hid (r_n.out.keep hb)
          replace r_e := Lib.hid (r_e.out.keep hb)
          replace r_g := Lib.hid (r_g.out.keep hb)
          replace r_p := Lib.hid (r_p.out.keep hb)
          replace r_s := Lib.hid (r_s.out.keep hb)
          replace h_e := Lib.hid (h_e.out.below hb)
          replace BB := Lib.hid (below_next BB.out hb)
          clear hb
          go_wp2_with fail
          go_ret
          exact ⟨rfl, BB.out⟩
        have CF := Lib.hid (fun w => wfits (G 1) ph1 pl1 pf1 w)
        rw [hfk, show fitX (G 1) = G 1 by unfold fitX; rw [hfk]; rfl] at CF
        have i1 := fits_63.1 hfk
        clear hfk
        go_wp2_with fail
        clear c_p0 c_p1
        refine (CF.out _).mono ?_
        rintro e w37 ⟨rfl, hb⟩
        replace r_m := Lib.hid (r_m.out.keep hb)
        replace r_n := Lib.hid (r_n.out.keep hb)
        replace r_e := Lib.hid (r_e.out.keep hb)
        replace r_g := Lib.hid (r_g.out.keep hb)
        replace r_p := Lib.hid (r_p.out.keep hb)
        replace r_s := Lib.hid (r_s.out.keep hb)
        replace h_e := Lib.hid (h_e.out.below hb)
        replace BB := Lib.hid (below_next BB.out hb)
        clear hb
        clear CF
        obtain ⟨c_s0, c_s1, c_s2, c_s3, c_s4, c_s5, c_s6, c_s7, c_s8, f_s0, f_s1, f_s2, f_s3, f_s4, f_s5, f_s6, f_s7, f_s8⟩ := reads9 r_s.out
        have l_s := r_s.out.lt
        go_wp2_with fail
        replace h_e := Lib.hid (h_e.out.far r_s.out (by decide) 1 (.int .i64 (G 1)))
        clear c_s0 c_s1 c_s2 c_s3 c_s4 c_s5 c_s6 c_s7 c_s8 f_s0 f_s1 f_s2 f_s3 f_s4 f_s5 f_s6 f_s7 f_s8 l_s
        replace r_m := Lib.hid (r_m.out.far (p := g_s) (by have dd_s := d_s.out; omega) 1 (.int .i64 (G 1)))
        replace r_n := Lib.hid (r_n.out.far (p := g_s) (by have dd_s := d_s.out; omega) 1 (.int .i64 (G 1)))
        replace r_e := Lib.hid (r_e.out.far (p := g_s) (by have dd_e := d_e.out; have dd_s := d_s.out; omega) 1 (.int .i64 (G 1)))
        replace r_g := Lib.hid (r_g.out.far (p := g_s) (by have dd_g := d_g.out; have dd_s := d_s.out; omega) 1 (.int .i64 (G 1)))
        replace r_p := Lib.hid (r_p.out.far (p := g_s) (by have dd_p := d_p.out; have dd_s := d_s.out; omega) 1 (.int .i64 (G 1)))
        replace r_s := Lib.hid (show AtB (w37.setCell ⟨g_s, 1, none⟩ (.int .i64 (G 1))) (g_s) #[.int .i64 (G 0), .int .i64 (G 1), .int .i64 0, .int .i64 0, .int .i64 0, .int .i64 0, .int .i64 0, .int .i64 0, .int .i64 0] M9T from by have k := (r_s.out.set_n 1 (.int .i64 (G 1))); simpa using k)
        replace BB := Lib.hid (below_set BB.out (b := g_s) (o := 1) (by have dd := d_s.out; omega) (.int .i64 (G 1)))
        generalize (w37.setCell ⟨g_s, 1, none⟩ (.int .i64 (G 1))) = w38 at *
        rw [rounds_succ]
        have c_p0 := r_p.out.cell 4 rfl
        have c_p1 := r_p.out.cell 5 rfl
        by_cases hfk : fitsB (G 2) 63 = true
        rotate_left
        · have CF := Lib.hid (fun w => wfits (G 2) ph2 pl2 pf2 w)
          rw [show fitsB (G 2) 63 = false by simpa using hfk] at CF
          clear hfk
          go_wp2_with fail
          clear c_p0 c_p1
          refine (CF.out _).mono ?_
          rintro e w39 ⟨rfl, hb⟩
          replace r_m := Lib.hid (r_m.out.keep hb)
          replace r_n := Lib.hid (r_n.out.keep hb)
          replace r_e := Lib.hid (r_e.out.keep hb)
          replace r_g := Lib.hid (r_g.out.keep hb)
          replace r_p := Lib.hid (r_p.out.keep hb)
          replace r_s := Lib.hid (r_s.out.keep hb)
          replace h_e := Lib.hid (h_e.out.below hb)
          replace BB := Lib.hid (below_next BB.out hb)
          clear hb
          go_wp2_with fail
          refine (CV.out _).mono ?_
          rintro e w40 ⟨rfl, hb⟩
          replace r_m := Lib.hid (r_m.out.keep hb)
          replace r_n := Lib.hid (r_n.out.keep hb)
          replace r_e := Lib.hid (r_e.out.keep hb)
          replace r_g := Lib.hid (r_g.out.keep hb)
          replace r_p := Lib.hid (r_p.out.keep hb)
          replace r_s := Lib.hid (r_s.out.keep hb)
          replace h_e := Lib.hid (h_e.out.below hb)
          replace BB := Lib.hid (below_next BB.out hb)
          clear hb
          go_wp2_with fail
          go_ret
          exact ⟨rfl, BB.out⟩
        have CF := Lib.hid (fun w => wfits (G 2) ph2 pl2 pf2 w)
        rw [hfk, show fitX (G 2) = G 2 by unfold fitX; rw [hfk]; rfl] at CF
        have i2 := fits_63.1 hfk
        clear hfk
        go_wp2_with fail
        clear c_p0 c_p1
        refine (CF.out _).mono ?_
        rintro e w39 ⟨rfl, hb⟩
        replace r_m := Lib.hid (r_m.out.keep hb)
        replace r_n := Lib.hid (r_n.out.keep hb)
        replace r_e := Lib.hid (r_e.out.keep hb)
        replace r_g := Lib.hid (r_g.out.keep hb)
        replace r_p := Lib.hid (r_p.out.keep hb)
        replace r_s := Lib.hid (r_s.out.keep hb)
        replace h_e := Lib.hid (h_e.out.below hb)
        replace BB := Lib.hid (below_next BB.out hb)
        clear hb
        clear CF
        obtain ⟨c_s0, c_s1, c_s2, c_s3, c_s4, c_s5, c_s6, c_s7, c_s8, f_s0, f_s1, f_s2, f_s3, f_s4, f_s5, f_s6, f_s7, f_s8⟩ := reads9 r_s.out
        have l_s := r_s.out.lt
        go_wp2_with fail
        replace h_e := Lib.hid (h_e.out.far r_s.out (by decide) 2 (.int .i64 (G 2)))
        clear c_s0 c_s1 c_s2 c_s3 c_s4 c_s5 c_s6 c_s7 c_s8 f_s0 f_s1 f_s2 f_s3 f_s4 f_s5 f_s6 f_s7 f_s8 l_s
        replace r_m := Lib.hid (r_m.out.far (p := g_s) (by have dd_s := d_s.out; omega) 2 (.int .i64 (G 2)))
        replace r_n := Lib.hid (r_n.out.far (p := g_s) (by have dd_s := d_s.out; omega) 2 (.int .i64 (G 2)))
        replace r_e := Lib.hid (r_e.out.far (p := g_s) (by have dd_e := d_e.out; have dd_s := d_s.out; omega) 2 (.int .i64 (G 2)))
        replace r_g := Lib.hid (r_g.out.far (p := g_s) (by have dd_g := d_g.out; have dd_s := d_s.out; omega) 2 (.int .i64 (G 2)))
        replace r_p := Lib.hid (r_p.out.far (p := g_s) (by have dd_p := d_p.out; have dd_s := d_s.out; omega) 2 (.int .i64 (G 2)))
        replace r_s := Lib.hid (show AtB (w39.setCell ⟨g_s, 2, none⟩ (.int .i64 (G 2))) (g_s) #[.int .i64 (G 0), .int .i64 (G 1), .int .i64 (G 2), .int .i64 0, .int .i64 0, .int .i64 0, .int .i64 0, .int .i64 0, .int .i64 0] M9T from by have k := (r_s.out.set_n 2 (.int .i64 (G 2))); simpa using k)
        replace BB := Lib.hid (below_set BB.out (b := g_s) (o := 2) (by have dd := d_s.out; omega) (.int .i64 (G 2)))
        generalize (w39.setCell ⟨g_s, 2, none⟩ (.int .i64 (G 2))) = w40 at *
        rw [rounds_succ]
        have c_p0 := r_p.out.cell 6 rfl
        have c_p1 := r_p.out.cell 7 rfl
        by_cases hfk : fitsB (G 3) 63 = true
        rotate_left
        · have CF := Lib.hid (fun w => wfits (G 3) ph3 pl3 pf3 w)
          rw [show fitsB (G 3) 63 = false by simpa using hfk] at CF
          clear hfk
          go_wp2_with fail
          clear c_p0 c_p1
          refine (CF.out _).mono ?_
          rintro e w41 ⟨rfl, hb⟩
          replace r_m := Lib.hid (r_m.out.keep hb)
          replace r_n := Lib.hid (r_n.out.keep hb)
          replace r_e := Lib.hid (r_e.out.keep hb)
          replace r_g := Lib.hid (r_g.out.keep hb)
          replace r_p := Lib.hid (r_p.out.keep hb)
          replace r_s := Lib.hid (r_s.out.keep hb)
          replace h_e := Lib.hid (h_e.out.below hb)
          replace BB := Lib.hid (below_next BB.out hb)
          clear hb
          go_wp2_with fail
          refine (CV.out _).mono ?_
          rintro e w42 ⟨rfl, hb⟩
          replace r_m := Lib.hid (r_m.out.keep hb)
          replace r_n := Lib.hid (r_n.out.keep hb)
          replace r_e := Lib.hid (r_e.out.keep hb)
          replace r_g := Lib.hid (r_g.out.keep hb)
          replace r_p := Lib.hid (r_p.out.keep hb)
          replace r_s := Lib.hid (r_s.out.keep hb)
          replace h_e := Lib.hid (h_e.out.below hb)
          replace BB := Lib.hid (below_next BB.out hb)
          clear hb
          go_wp2_with fail
          go_ret
          exact ⟨rfl, BB.out⟩
        have CF := Lib.hid (fun w => wfits (G 3) ph3 pl3 pf3 w)
        rw [hfk, show fitX (G 3) = G 3 by unfold fitX; rw [hfk]; rfl] at CF
        have i3 := fits_63.1 hfk
        clear hfk
        go_wp2_with fail
        clear c_p0 c_p1
        refine (CF.out _).mono ?_
        rintro e w41 ⟨rfl, hb⟩
        replace r_m := Lib.hid (r_m.out.keep hb)
        replace r_n := Lib.hid (r_n.out.keep hb)
        replace r_e := Lib.hid (r_e.out.keep hb)
        replace r_g := Lib.hid (r_g.out.keep hb)
        replace r_p := Lib.hid (r_p.out.keep hb)
        replace r_s := Lib.hid (r_s.out.keep hb)
        replace h_e := Lib.hid (h_e.out.below hb)
        replace BB := Lib.hid (below_next BB.out hb)
        clear hb
        clear CF
        obtain ⟨c_s0, c_s1, c_s2, c_s3, c_s4, c_s5, c_s6, c_s7, c_s8, f_s0, f_s1, f_s2, f_s3, f_s4, f_s5, f_s6, f_s7, f_s8⟩ := reads9 r_s.out
        have l_s := r_s.out.lt
        go_wp2_with fail
        replace h_e := Lib.hid (h_e.out.far r_s.out (by decide) 3 (.int .i64 (G 3)))
        clear c_s0 c_s1 c_s2 c_s3 c_s4 c_s5 c_s6 c_s7 c_s8 f_s0 f_s1 f_s2 f_s3 f_s4 f_s5 f_s6 f_s7 f_s8 l_s
        replace r_m := Lib.hid (r_m.out.far (p := g_s) (by have dd_s := d_s.out; omega) 3 (.int .i64 (G 3)))
        replace r_n := Lib.hid (r_n.out.far (p := g_s) (by have dd_s := d_s.out; omega) 3 (.int .i64 (G 3)))
        replace r_e := Lib.hid (r_e.out.far (p := g_s) (by have dd_e := d_e.out; have dd_s := d_s.out; omega) 3 (.int .i64 (G 3)))
        replace r_g := Lib.hid (r_g.out.far (p := g_s) (by have dd_g := d_g.out; have dd_s := d_s.out; omega) 3 (.int .i64 (G 3)))
        replace r_p := Lib.hid (r_p.out.far (p := g_s) (by have dd_p := d_p.out; have dd_s := d_s.out; omega) 3 (.int .i64 (G 3)))
        replace r_s := Lib.hid (show AtB (w41.setCell ⟨g_s, 3, none⟩ (.int .i64 (G 3))) (g_s) #[.int .i64 (G 0), .int .i64 (G 1), .int .i64 (G 2), .int .i64 (G 3), .int .i64 0, .int .i64 0, .int .i64 0, .int .i64 0, .int .i64 0] M9T from by have k := (r_s.out.set_n 3 (.int .i64 (G 3))); simpa using k)
        replace BB := Lib.hid (below_set BB.out (b := g_s) (o := 3) (by have dd := d_s.out; omega) (.int .i64 (G 3)))
        generalize (w41.setCell ⟨g_s, 3, none⟩ (.int .i64 (G 3))) = w42 at *
        rw [rounds_succ]
        have c_p0 := r_p.out.cell 8 rfl
        have c_p1 := r_p.out.cell 9 rfl
        by_cases hfk : fitsB (G 4) 63 = true
        rotate_left
        · have CF := Lib.hid (fun w => wfits (G 4) ph4 pl4 pf4 w)
          rw [show fitsB (G 4) 63 = false by simpa using hfk] at CF
          clear hfk
          go_wp2_with fail
          clear c_p0 c_p1
          refine (CF.out _).mono ?_
          rintro e w43 ⟨rfl, hb⟩
          replace r_m := Lib.hid (r_m.out.keep hb)
          replace r_n := Lib.hid (r_n.out.keep hb)
          replace r_e := Lib.hid (r_e.out.keep hb)
          replace r_g := Lib.hid (r_g.out.keep hb)
          replace r_p := Lib.hid (r_p.out.keep hb)
          replace r_s := Lib.hid (r_s.out.keep hb)
          replace h_e := Lib.hid (h_e.out.below hb)
          replace BB := Lib.hid (below_next BB.out hb)
          clear hb
          go_wp2_with fail
          refine (CV.out _).mono ?_
          rintro e w44 ⟨rfl, hb⟩
          replace r_m := Lib.hid (r_m.out.keep hb)
          replace r_n := Lib.hid (r_n.out.keep hb)
          replace r_e := Lib.hid (r_e.out.keep hb)
          replace r_g := Lib.hid (r_g.out.keep hb)
          replace r_p := Lib.hid (r_p.out.keep hb)
          replace r_s := Lib.hid (r_s.out.keep hb)
          replace h_e := Lib.hid (h_e.out.below hb)
          replace BB := Lib.hid (below_next BB.out hb)
          clear hb
          go_wp2_with fail
          go_ret
          exact ⟨rfl, BB.out⟩
        have CF := Lib.hid (fun w => wfits (G 4) ph4 pl4 pf4 w)
        rw [hfk, show fitX (G 4) = G 4 by unfold fitX; rw [hfk]; rfl] at CF
        have i4 := fits_63.1 hfk
        clear hfk
        go_wp2_with fail
        clear c_p0 c_p1
        refine (CF.out _).mono ?_
        rintro e w43 ⟨rfl, hb⟩
        replace r_m := Lib.hid (r_m.out.keep hb)
        replace r_n := Lib.hid (r_n.out.keep hb)
        replace r_e := Lib.hid (r_e.out.keep hb)
        replace r_g := Lib.hid (r_g.out.keep hb)
        replace r_p := Lib.hid (r_p.out.keep hb)
        replace r_s := Lib.hid (r_s.out.keep hb)
        replace h_e := Lib.hid (h_e.out.below hb)
        replace BB := Lib.hid (below_next BB.out hb)
        clear hb
        clear CF
        obtain ⟨c_s0, c_s1, c_s2, c_s3, c_s4, c_s5, c_s6, c_s7, c_s8, f_s0, f_s1, f_s2, f_s3, f_s4, f_s5, f_s6, f_s7, f_s8⟩ := reads9 r_s.out
        have l_s := r_s.out.lt
        go_wp2_with fail
        replace h_e := Lib.hid (h_e.out.far r_s.out (by decide) 4 (.int .i64 (G 4)))
        clear c_s0 c_s1 c_s2 c_s3 c_s4 c_s5 c_s6 c_s7 c_s8 f_s0 f_s1 f_s2 f_s3 f_s4 f_s5 f_s6 f_s7 f_s8 l_s
        replace r_m := Lib.hid (r_m.out.far (p := g_s) (by have dd_s := d_s.out; omega) 4 (.int .i64 (G 4)))
        replace r_n := Lib.hid (r_n.out.far (p := g_s) (by have dd_s := d_s.out; omega) 4 (.int .i64 (G 4)))
        replace r_e := Lib.hid (r_e.out.far (p := g_s) (by have dd_e := d_e.out; have dd_s := d_s.out; omega) 4 (.int .i64 (G 4)))
        replace r_g := Lib.hid (r_g.out.far (p := g_s) (by have dd_g := d_g.out; have dd_s := d_s.out; omega) 4 (.int .i64 (G 4)))
        replace r_p := Lib.hid (r_p.out.far (p := g_s) (by have dd_p := d_p.out; have dd_s := d_s.out; omega) 4 (.int .i64 (G 4)))
        replace r_s := Lib.hid (show AtB (w43.setCell ⟨g_s, 4, none⟩ (.int .i64 (G 4))) (g_s) #[.int .i64 (G 0), .int .i64 (G 1), .int .i64 (G 2), .int .i64 (G 3), .int .i64 (G 4), .int .i64 0, .int .i64 0, .int .i64 0, .int .i64 0] M9T from by have k := (r_s.out.set_n 4 (.int .i64 (G 4))); simpa using k)
        replace BB := Lib.hid (below_set BB.out (b := g_s) (o := 4) (by have dd := d_s.out; omega) (.int .i64 (G 4)))
        generalize (w43.setCell ⟨g_s, 4, none⟩ (.int .i64 (G 4))) = w44 at *
        rw [rounds_succ]
        have c_p0 := r_p.out.cell 10 rfl
        have c_p1 := r_p.out.cell 11 rfl
        by_cases hfk : fitsB (G 5) 63 = true
        rotate_left
        · have CF := Lib.hid (fun w => wfits (G 5) ph5 pl5 pf5 w)
          rw [show fitsB (G 5) 63 = false by simpa using hfk] at CF
          clear hfk
          go_wp2_with fail
          clear c_p0 c_p1
          refine (CF.out _).mono ?_
          rintro e w45 ⟨rfl, hb⟩
          replace r_m := Lib.hid (r_m.out.keep hb)
          replace r_n := Lib.hid (r_n.out.keep hb)
          replace r_e := Lib.hid (r_e.out.keep hb)
          replace r_g := Lib.hid (r_g.out.keep hb)
          replace r_p := Lib.hid (r_p.out.keep hb)
          replace r_s := Lib.hid (r_s.out.keep hb)
          replace h_e := Lib.hid (h_e.out.below hb)
          replace BB := Lib.hid (below_next BB.out hb)
          clear hb
          go_wp2_with fail
          refine (CV.out _).mono ?_
          rintro e w46 ⟨rfl, hb⟩
          replace r_m := Lib.hid (r_m.out.keep hb)
          replace r_n := Lib.hid (r_n.out.keep hb)
          replace r_e := Lib.hid (r_e.out.keep hb)
          replace r_g := Lib.hid (r_g.out.keep hb)
          replace r_p := Lib.hid (r_p.out.keep hb)
          replace r_s := Lib.hid (r_s.out.keep hb)
          replace h_e := Lib.hid (h_e.out.below hb)
          replace BB := Lib.hid (below_next BB.out hb)
          clear hb
          go_wp2_with fail
          go_ret
          exact ⟨rfl, BB.out⟩
        have CF := Lib.hid (fun w => wfits (G 5) ph5 pl5 pf5 w)
        rw [hfk, show fitX (G 5) = G 5 by unfold fitX; rw [hfk]; rfl] at CF
        have i5 := fits_63.1 hfk
        clear hfk
        go_wp2_with fail
        clear c_p0 c_p1
        refine (CF.out _).mono ?_
        rintro e w45 ⟨rfl, hb⟩
        replace r_m := Lib.hid (r_m.out.keep hb)
        replace r_n := Lib.hid (r_n.out.keep hb)
        replace r_e := Lib.hid (r_e.out.keep hb)
        replace r_g := Lib.hid (r_g.out.keep hb)
        replace r_p := Lib.hid (r_p.out.keep hb)
        replace r_s := Lib.hid (r_s.out.keep hb)
        replace h_e := Lib.hid (h_e.out.below hb)
        replace BB := Lib.hid (below_next BB.out hb)
        clear hb
        clear CF
        obtain ⟨c_s0, c_s1, c_s2, c_s3, c_s4, c_s5, c_s6, c_s7, c_s8, f_s0, f_s1, f_s2, f_s3, f_s4, f_s5, f_s6, f_s7, f_s8⟩ := reads9 r_s.out
        have l_s := r_s.out.lt
        go_wp2_with fail
        replace h_e := Lib.hid (h_e.out.far r_s.out (by decide) 5 (.int .i64 (G 5)))
        clear c_s0 c_s1 c_s2 c_s3 c_s4 c_s5 c_s6 c_s7 c_s8 f_s0 f_s1 f_s2 f_s3 f_s4 f_s5 f_s6 f_s7 f_s8 l_s
        replace r_m := Lib.hid (r_m.out.far (p := g_s) (by have dd_s := d_s.out; omega) 5 (.int .i64 (G 5)))
        replace r_n := Lib.hid (r_n.out.far (p := g_s) (by have dd_s := d_s.out; omega) 5 (.int .i64 (G 5)))
        replace r_e := Lib.hid (r_e.out.far (p := g_s) (by have dd_e := d_e.out; have dd_s := d_s.out; omega) 5 (.int .i64 (G 5)))
        replace r_g := Lib.hid (r_g.out.far (p := g_s) (by have dd_g := d_g.out; have dd_s := d_s.out; omega) 5 (.int .i64 (G 5)))
        replace r_p := Lib.hid (r_p.out.far (p := g_s) (by have dd_p := d_p.out; have dd_s := d_s.out; omega) 5 (.int .i64 (G 5)))
        replace r_s := Lib.hid (show AtB (w45.setCell ⟨g_s, 5, none⟩ (.int .i64 (G 5))) (g_s) #[.int .i64 (G 0), .int .i64 (G 1), .int .i64 (G 2), .int .i64 (G 3), .int .i64 (G 4), .int .i64 (G 5), .int .i64 0, .int .i64 0, .int .i64 0] M9T from by have k := (r_s.out.set_n 5 (.int .i64 (G 5))); simpa using k)
        replace BB := Lib.hid (below_set BB.out (b := g_s) (o := 5) (by have dd := d_s.out; omega) (.int .i64 (G 5)))
        generalize (w45.setCell ⟨g_s, 5, none⟩ (.int .i64 (G 5))) = w46 at *
        rw [rounds_succ]
        have c_p0 := r_p.out.cell 12 rfl
        have c_p1 := r_p.out.cell 13 rfl
        by_cases hfk : fitsB (G 6) 63 = true
        rotate_left
        · have CF := Lib.hid (fun w => wfits (G 6) ph6 pl6 pf6 w)
          rw [show fitsB (G 6) 63 = false by simpa using hfk] at CF
          clear hfk
          go_wp2_with fail
          clear c_p0 c_p1
          refine (CF.out _).mono ?_
          rintro e w47 ⟨rfl, hb⟩
          replace r_m := Lib.hid (r_m.out.keep hb)
          replace r_n := Lib.hid (r_n.out.keep hb)
          replace r_e := Lib.hid (r_e.out.keep hb)
          replace r_g := Lib.hid (r_g.out.keep hb)
          replace r_p := Lib.hid (r_p.out.keep hb)
          replace r_s := Lib.hid (r_s.out.keep hb)
          replace h_e := Lib.hid (h_e.out.below hb)
          replace BB := Lib.hid (below_next BB.out hb)
          clear hb
          go_wp2_with fail
          refine (CV.out _).mono ?_
          rintro e w48 ⟨rfl, hb⟩
          replace r_m := Lib.hid (r_m.out.keep hb)
          replace r_n := Lib.hid (r_n.out.keep hb)
          replace r_e := Lib.hid (r_e.out.keep hb)
          replace r_g := Lib.hid (r_g.out.keep hb)
          replace r_p := Lib.hid (r_p.out.keep hb)
          replace r_s := Lib.hid (r_s.out.keep hb)
          replace h_e := Lib.hid (h_e.out.below hb)
          replace BB := Lib.hid (below_next BB.out hb)
          clear hb
          go_wp2_with fail
          go_ret
          exact ⟨rfl, BB.out⟩
        have CF := Lib.hid (fun w => wfits (G 6) ph6 pl6 pf6 w)
        rw [hfk, show fitX (G 6) = G 6 by unfold fitX; rw [hfk]; rfl] at CF
        have i6 := fits_63.1 hfk
        clear hfk
        go_wp2_with fail
        clear c_p0 c_p1
        refine (CF.out _).mono ?_
        rintro e w47 ⟨rfl, hb⟩
        replace r_m := Lib.hid (r_m.out.keep hb)
        replace r_n := Lib.hid (r_n.out.keep hb)
        replace r_e := Lib.hid (r_e.out.keep hb)
        replace r_g := Lib.hid (r_g.out.keep hb)
        replace r_p := Lib.hid (r_p.out.keep hb)
        replace r_s := Lib.hid (r_s.out.keep hb)
        replace h_e := Lib.hid (h_e.out.below hb)
        replace BB := Lib.hid (below_next BB.out hb)
        clear hb
        clear CF
        obtain ⟨c_s0, c_s1, c_s2, c_s3, c_s4, c_s5, c_s6, c_s7, c_s8, f_s0, f_s1, f_s2, f_s3, f_s4, f_s5, f_s6, f_s7, f_s8⟩ := reads9 r_s.out
        have l_s := r_s.out.lt
        go_wp2_with fail
        replace h_e := Lib.hid (h_e.out.far r_s.out (by decide) 6 (.int .i64 (G 6)))
        clear c_s0 c_s1 c_s2 c_s3 c_s4 c_s5 c_s6 c_s7 c_s8 f_s0 f_s1 f_s2 f_s3 f_s4 f_s5 f_s6 f_s7 f_s8 l_s
        replace r_m := Lib.hid (r_m.out.far (p := g_s) (by have dd_s := d_s.out; omega) 6 (.int .i64 (G 6)))
        replace r_n := Lib.hid (r_n.out.far (p := g_s) (by have dd_s := d_s.out; omega) 6 (.int .i64 (G 6)))
        replace r_e := Lib.hid (r_e.out.far (p := g_s) (by have dd_e := d_e.out; have dd_s := d_s.out; omega) 6 (.int .i64 (G 6)))
        replace r_g := Lib.hid (r_g.out.far (p := g_s) (by have dd_g := d_g.out; have dd_s := d_s.out; omega) 6 (.int .i64 (G 6)))
        replace r_p := Lib.hid (r_p.out.far (p := g_s) (by have dd_p := d_p.out; have dd_s := d_s.out; omega) 6 (.int .i64 (G 6)))
        replace r_s := Lib.hid (show AtB (w47.setCell ⟨g_s, 6, none⟩ (.int .i64 (G 6))) (g_s) #[.int .i64 (G 0), .int .i64 (G 1), .int .i64 (G 2), .int .i64 (G 3), .int .i64 (G 4), .int .i64 (G 5), .int .i64 (G 6), .int .i64 0, .int .i64 0] M9T from by have k := (r_s.out.set_n 6 (.int .i64 (G 6))); simpa using k)
        replace BB := Lib.hid (below_set BB.out (b := g_s) (o := 6) (by have dd := d_s.out; omega) (.int .i64 (G 6)))
        generalize (w47.setCell ⟨g_s, 6, none⟩ (.int .i64 (G 6))) = w48 at *
        rw [rounds_succ]
        have c_p0 := r_p.out.cell 14 rfl
        have c_p1 := r_p.out.cell 15 rfl
        by_cases hfk : fitsB (G 7) 63 = true
        rotate_left
        · have CF := Lib.hid (fun w => wfits (G 7) ph7 pl7 pf7 w)
          rw [show fitsB (G 7) 63 = false by simpa using hfk] at CF
          clear hfk
          go_wp2_with fail
          clear c_p0 c_p1
          refine (CF.out _).mono ?_
          rintro e w49 ⟨rfl, hb⟩
          replace r_m := Lib.hid (r_m.out.keep hb)
          replace r_n := Lib.hid (r_n.out.keep hb)
          replace r_e := Lib.hid (r_e.out.keep hb)
          replace r_g := Lib.hid (r_g.out.keep hb)
          replace r_p := Lib.hid (r_p.out.keep hb)
          replace r_s := Lib.hid (r_s.out.keep hb)
          replace h_e := Lib.hid (h_e.out.below hb)
          replace BB := Lib.hid (below_next BB.out hb)
          clear hb
          go_wp2_with fail
          refine (CV.out _).mono ?_
          rintro e w50 ⟨rfl, hb⟩
          replace r_m := Lib.hid (r_m.out.keep hb)
          replace r_n := Lib.hid (r_n.out.keep hb)
          replace r_e := Lib.hid (r_e.out.keep hb)
          replace r_g := Lib.hid (r_g.out.keep hb)
          replace r_p := Lib.hid (r_p.out.keep hb)
          replace r_s := Lib.hid (r_s.out.keep hb)
          replace h_e := Lib.hid (h_e.out.below hb)
          replace BB := Lib.hid (below_next BB.out hb)
          clear hb
          go_wp2_with fail
          go_ret
          exact ⟨rfl, BB.out⟩
        have CF := Lib.hid (fun w => wfits (G 7) ph7 pl7 pf7 w)
        rw [hfk, show fitX (G 7) = G 7 by unfold fitX; rw [hfk]; rfl] at CF
        have i7 := fits_63.1 hfk
        clear hfk
        go_wp2_with fail
        clear c_p0 c_p1
        refine (CF.out _).mono ?_
        rintro e w49 ⟨rfl, hb⟩
        replace r_m := Lib.hid (r_m.out.keep hb)
        replace r_n := Lib.hid (r_n.out.keep hb)
        replace r_e := Lib.hid (r_e.out.keep hb)
        replace r_g := Lib.hid (r_g.out.keep hb)
        replace r_p := Lib.hid (r_p.out.keep hb)
        replace r_s := Lib.hid (r_s.out.keep hb)
        replace h_e := Lib.hid (h_e.out.below hb)
        replace BB := Lib.hid (below_next BB.out hb)
        clear hb
        clear CF
        obtain ⟨c_s0, c_s1, c_s2, c_s3, c_s4, c_s5, c_s6, c_s7, c_s8, f_s0, f_s1, f_s2, f_s3, f_s4, f_s5, f_s6, f_s7, f_s8⟩ := reads9 r_s.out
        have l_s := r_s.out.lt
        go_wp2_with fail
        replace h_e := Lib.hid (h_e.out.far r_s.out (by decide) 7 (.int .i64 (G 7)))
        clear c_s0 c_s1 c_s2 c_s3 c_s4 c_s5 c_s6 c_s7 c_s8 f_s0 f_s1 f_s2 f_s3 f_s4 f_s5 f_s6 f_s7 f_s8 l_s
        replace r_m := Lib.hid (r_m.out.far (p := g_s) (by have dd_s := d_s.out; omega) 7 (.int .i64 (G 7)))
        replace r_n := Lib.hid (r_n.out.far (p := g_s) (by have dd_s := d_s.out; omega) 7 (.int .i64 (G 7)))
        replace r_e := Lib.hid (r_e.out.far (p := g_s) (by have dd_e := d_e.out; have dd_s := d_s.out; omega) 7 (.int .i64 (G 7)))
        replace r_g := Lib.hid (r_g.out.far (p := g_s) (by have dd_g := d_g.out; have dd_s := d_s.out; omega) 7 (.int .i64 (G 7)))
        replace r_p := Lib.hid (r_p.out.far (p := g_s) (by have dd_p := d_p.out; have dd_s := d_s.out; omega) 7 (.int .i64 (G 7)))
        replace r_s := Lib.hid (show AtB (w49.setCell ⟨g_s, 7, none⟩ (.int .i64 (G 7))) (g_s) #[.int .i64 (G 0), .int .i64 (G 1), .int .i64 (G 2), .int .i64 (G 3), .int .i64 (G 4), .int .i64 (G 5), .int .i64 (G 6), .int .i64 (G 7), .int .i64 0] M9T from by have k := (r_s.out.set_n 7 (.int .i64 (G 7))); simpa using k)
        replace BB := Lib.hid (below_set BB.out (b := g_s) (o := 7) (by have dd := d_s.out; omega) (.int .i64 (G 7)))
        generalize (w49.setCell ⟨g_s, 7, none⟩ (.int .i64 (G 7))) = w50 at *
        rw [rounds_succ]
        have c_p0 := r_p.out.cell 16 rfl
        have c_p1 := r_p.out.cell 17 rfl
        by_cases hfk : fitsB (G 8) 63 = true
        rotate_left
        · have CF := Lib.hid (fun w => wfits (G 8) ph8 pl8 pf8 w)
          rw [show fitsB (G 8) 63 = false by simpa using hfk] at CF
          clear hfk
          go_wp2_with fail
          clear c_p0 c_p1
          refine (CF.out _).mono ?_
          rintro e w51 ⟨rfl, hb⟩
          replace r_m := Lib.hid (r_m.out.keep hb)
          replace r_n := Lib.hid (r_n.out.keep hb)
          replace r_e := Lib.hid (r_e.out.keep hb)
          replace r_g := Lib.hid (r_g.out.keep hb)
          replace r_p := Lib.hid (r_p.out.keep hb)
          replace r_s := Lib.hid (r_s.out.keep hb)
          replace h_e := Lib.hid (h_e.out.below hb)
          replace BB := Lib.hid (below_next BB.out hb)
          clear hb
          go_wp2_with fail
          refine (CV.out _).mono ?_
          rintro e w52 ⟨rfl, hb⟩
          replace r_m := Lib.hid (r_m.out.keep hb)
          replace r_n := Lib.hid (r_n.out.keep hb)
          replace r_e := Lib.hid (r_e.out.keep hb)
          replace r_g := Lib.hid (r_g.out.keep hb)
          replace r_p := Lib.hid (r_p.out.keep hb)
          replace r_s := Lib.hid (r_s.out.keep hb)
          replace h_e := Lib.hid (h_e.out.below hb)
          replace BB := Lib.hid (below_next BB.out hb)
          clear hb
          go_wp2_with fail
          go_ret
          exact ⟨rfl, BB.out⟩
        have CF := Lib.hid (fun w => wfits (G 8) ph8 pl8 pf8 w)
        rw [hfk, show fitX (G 8) = G 8 by unfold fitX; rw [hfk]; rfl] at CF
        have i8 := fits_63.1 hfk
        clear hfk
        go_wp2_with fail
        clear c_p0 c_p1
        refine (CF.out _).mono ?_
        rintro e w51 ⟨rfl, hb⟩
        replace r_m := Lib.hid (r_m.out.keep hb)
        replace r_n := Lib.hid (r_n.out.keep hb)
        replace r_e := Lib.hid (r_e.out.keep hb)
        replace r_g := Lib.hid (r_g.out.keep hb)
        replace r_p := Lib.hid (r_p.out.keep hb)
        replace r_s := Lib.hid (r_s.out.keep hb)
        replace h_e := Lib.hid (h_e.out.below hb)
        replace BB := Lib.hid (below_next BB.out hb)
        clear hb
        clear CF
        obtain ⟨c_s0, c_s1, c_s2, c_s3, c_s4, c_s5, c_s6, c_s7, c_s8, f_s0, f_s1, f_s2, f_s3, f_s4, f_s5, f_s6, f_s7, f_s8⟩ := reads9 r_s.out
        have l_s := r_s.out.lt
        go_wp2_with fail
        replace h_e := Lib.hid (h_e.out.far r_s.out (by decide) 8 (.int .i64 (G 8)))
        clear c_s0 c_s1 c_s2 c_s3 c_s4 c_s5 c_s6 c_s7 c_s8 f_s0 f_s1 f_s2 f_s3 f_s4 f_s5 f_s6 f_s7 f_s8 l_s
        replace r_m := Lib.hid (r_m.out.far (p := g_s) (by have dd_s := d_s.out; omega) 8 (.int .i64 (G 8)))
        replace r_n := Lib.hid (r_n.out.far (p := g_s) (by have dd_s := d_s.out; omega) 8 (.int .i64 (G 8)))
        replace r_e := Lib.hid (r_e.out.far (p := g_s) (by have dd_e := d_e.out; have dd_s := d_s.out; omega) 8 (.int .i64 (G 8)))
        replace r_g := Lib.hid (r_g.out.far (p := g_s) (by have dd_g := d_g.out; have dd_s := d_s.out; omega) 8 (.int .i64 (G 8)))
        replace r_p := Lib.hid (r_p.out.far (p := g_s) (by have dd_p := d_p.out; have dd_s := d_s.out; omega) 8 (.int .i64 (G 8)))
        replace r_s := Lib.hid (show AtB (w51.setCell ⟨g_s, 8, none⟩ (.int .i64 (G 8))) (g_s) #[.int .i64 (G 0), .int .i64 (G 1), .int .i64 (G 2), .int .i64 (G 3), .int .i64 (G 4), .int .i64 (G 5), .int .i64 (G 6), .int .i64 (G 7), .int .i64 (G 8)] M9T from by have k := (r_s.out.set_n 8 (.int .i64 (G 8))); simpa using k)
        replace BB := Lib.hid (below_set BB.out (b := g_s) (o := 8) (by have dd := d_s.out; omega) (.int .i64 (G 8)))
        generalize (w51.setCell ⟨g_s, 8, none⟩ (.int .i64 (G 8))) = w52 at *
        have HG : Hid (∀ z ∈ [G 0, G 1, G 2, G 3, G 4, G 5, G 6, G 7, G 8], I64 z) := nine_all (p := I64) i0 i1 i2 i3 i4 i5 i6 i7 i8
        clear i0 i1 i2 i3 i4 i5 i6 i7 i8
        clear r_p
        rw [rounds_succ]
        obtain ⟨c_s0, c_s1, c_s2, c_s3, c_s4, c_s5, c_s6, c_s7, c_s8, f_s0, f_s1, f_s2, f_s3, f_s4, f_s5, f_s6, f_s7, f_s8⟩ := reads9 r_s.out
        have l_s := r_s.out.lt
        cases hfs : [G 0, G 1, G 2, G 3, G 4, G 5, G 6, G 7, G 8].any farM
        · have DS := Lib.hid (Q6.out hfs)
          clear Q5 Q6 HG hfs
          go_wp2_with fail
          refine (DS.out _).mono ?_
          rintro e w53 ⟨qh, ql, rfl, hb, hq⟩
          clear c_s0 c_s1 c_s2 c_s3 c_s4 c_s5 c_s6 c_s7 c_s8 f_s0 f_s1 f_s2 f_s3 f_s4 f_s5 f_s6 f_s7 f_s8 l_s
          replace r_m := Lib.hid (r_m.out.keep hb)
          replace r_n := Lib.hid (r_n.out.keep hb)
          replace r_e := Lib.hid (r_e.out.keep hb)
          replace r_g := Lib.hid (r_g.out.keep hb)
          replace r_s := Lib.hid (r_s.out.keep hb)
          replace h_e := Lib.hid (h_e.out.below hb)
          replace BB := Lib.hid (below_next BB.out hb)
          clear hb
          have Bq := Lib.hid (fun w => CB.out (D * E) qh ql hq w)
          have Mq := Lib.hid (fun (u v : Value) w (hu : BR w u D) (hv : BR w v E) => mul_any u v D E w hu hv (DW.out.mid (by omega)) (EW.out.mid (by omega)))
          have Cq := Lib.hid (CC.out (D * E) ((DW.out.mul EW.out).up (by omega)))
          clear CC CB
          generalize D * E = R at *
          go_upto_region 36 with fail
          have d_q := Lib.hid (And.intro BB.out.size (And.intro r_m.out.lt (And.intro r_n.out.lt (And.intro r_e.out.lt (And.intro r_g.out.lt (And.intro r_s.out.lt (True.intro)))))))
          obtain ⟨hb, r_q⟩ := laid w53 #[.int .i64 qh, .int .u64 ql] WT5
          replace r_m := Lib.hid (r_m.out.keep hb)
          replace r_n := Lib.hid (r_n.out.keep hb)
          replace r_e := Lib.hid (r_e.out.keep hb)
          replace r_g := Lib.hid (r_g.out.keep hb)
          replace r_s := Lib.hid (r_s.out.keep hb)
          replace h_e := Lib.hid (h_e.out.below hb)
          replace BB := Lib.hid (below_next BB.out hb)
          replace r_q := Lib.hid r_q
          clear hb
          generalize w53.alloc (.cells #[.int .i64 qh, .int .u64 ql] WT5) = w54 at *
          generalize w53.heap.size = g_q at *
          go_wp2_with fail
          have KK := Lib.hid (fun (w9 : World) (h : Below w54.heap.size w54 w9) => (⟨cells2 (r_q.out.keep h), cells2 (r_e.out.keep h), cells2 (r_g.out.keep h)⟩ : (w9.cell? ⟨g_q, 0, none⟩ = some (.int .i64 qh) ∧ w9.cell? ⟨g_q, 1, none⟩ = some (.int .u64 ql)) ∧ (w9.cell? ⟨g_e, 0, none⟩ = some (.bool (sgn D)) ∧ w9.cell? ⟨g_e, 1, none⟩ = some (.slice A_e n_e cap_e)) ∧ (w9.cell? ⟨g_g, 0, none⟩ = some (.int .i64 gh) ∧ w9.cell? ⟨g_g, 1, none⟩ = some (.int .u64 gl))))
          have K0 := KK.out w54 (Below.refl _ _)
          have KD := KK.out w54.drew (below_drew (Below.refl _ _))
          have tok0 : Hid True := trivial
          have tok1 : Hid True := trivial
          go_region_held3 (fun w9 => (w9.cell? ⟨g_q, 0, none⟩ = some (.int .i64 qh) ∧ w9.cell? ⟨g_q, 1, none⟩ = some (.int .u64 ql)) ∧ (w9.cell? ⟨g_e, 0, none⟩ = some (.bool (sgn D)) ∧ w9.cell? ⟨g_e, 1, none⟩ = some (.slice A_e n_e cap_e)) ∧ (w9.cell? ⟨g_g, 0, none⟩ = some (.int .i64 gh) ∧ w9.cell? ⟨g_g, 1, none⟩ = some (.int .u64 gl)))
              (first | with_reducible exact KD | with_reducible exact K0 | with_reducible exact K_w55 | with_reducible exact K_w56 | with_reducible exact K_w57 | with_reducible exact K_w58 | with_reducible exact K_w59)
              (first
                | (go_at_call 44
                   have t_k := tok0
                   refine (Bq.out _).mono ?_
                   rintro e w55 ⟨v_ba, rfl, hb, h_ba⟩
                   obtain ⟨A_ba, n_ba, cap_ba, rfl, -⟩ := id h_ba.form
                   replace h_ba := Lib.hid h_ba
                   have B_w55 := Lib.hid (reg_next (w0 := w54) (by repeat (first | with_reducible exact Below.refl _ _ | with_reducible apply below_drew | with_reducible apply below_new)) hb)
                   have K_w55 := KK.out _ B_w55.out
                   clear hb
                   clear t_k tok0)
                | (go_at_call 44
                   have t_k := tok1
                   refine (Bg.out _).mono ?_
                   rintro e w56 ⟨v_bb, rfl, hb, h_bb⟩
                   obtain ⟨A_bb, n_bb, cap_bb, rfl, -⟩ := id h_bb.form
                   replace h_bb := Lib.hid h_bb
                   replace h_ba := Lib.hid (h_ba.out.below hb)
                   have B_w56 := Lib.hid (below_next B_w55.out hb)
                   have K_w56 := KK.out _ B_w56.out
                   clear hb
                   clear t_k tok1)
                | (go_at_call 47
                   refine (Mq.out _ _ _ (h_e.out.below B_w56.out) h_bb.out).mono ?_
                   rintro e w57 ⟨v_bc, rfl, hb, h_bc⟩
                   obtain ⟨A_bc, n_bc, cap_bc, rfl, -⟩ := id h_bc.form
                   replace h_bc := Lib.hid h_bc
                   replace h_ba := Lib.hid (h_ba.out.below hb)
                   replace h_bb := Lib.hid (h_bb.out.below hb)
                   have B_w57 := Lib.hid (below_next B_w56.out hb)
                   have K_w57 := KK.out _ B_w57.out
                   clear hb)
                | (go_at_call 48
                   refine (Cq.out _ _ _ h_ba.out h_bc.out).mono ?_
                   rintro e w58 ⟨rfl, hb⟩
                   replace h_ba := Lib.hid (h_ba.out.below hb)
                   replace h_bb := Lib.hid (h_bb.out.below hb)
                   replace h_bc := Lib.hid (h_bc.out.below hb)
                   have B_w58 := Lib.hid (below_next B_w57.out hb)
                   have K_w58 := KK.out _ B_w58.out
                   clear hb)
                | (go_at_call 36
                   refine (CV.out _).mono ?_
                   rintro e w59 ⟨rfl, hb⟩
                   replace h_ba := Lib.hid (h_ba.out.below hb)
                   replace h_bb := Lib.hid (h_bb.out.below hb)
                   replace h_bc := Lib.hid (h_bc.out.below hb)
                   have B_w59 := Lib.hid (below_next B_w58.out hb)
                   have K_w59 := KK.out _ B_w59.out
                   clear hb))
          clear KK K0 KD K_w55 K_w56 K_w57 K_w58 K_w59
          replace r_m := Lib.hid (r_m.out.keep B_w59.out)
          replace r_n := Lib.hid (r_n.out.keep B_w59.out)
          replace r_e := Lib.hid (r_e.out.keep B_w59.out)
          replace r_g := Lib.hid (r_g.out.keep B_w59.out)
          replace r_s := Lib.hid (r_s.out.keep B_w59.out)
          replace r_q := Lib.hid (r_q.out.keep B_w59.out)
          replace h_e := Lib.hid (h_e.out.below B_w59.out)
          replace BB := Lib.hid (below_next BB.out B_w59.out)
          clear B_w55 B_w56 B_w57 B_w58 B_w59
          go_wp2_with fail
          go_ret
          exact ⟨rfl, BB.out⟩
        · have DS := Lib.hid (Q5.out HG.out hfs)
          clear Q5 Q6 HG hfs
          go_wp2_with fail
          refine (DS.out _).mono ?_
          rintro e w53 ⟨rfl, hb⟩
          clear c_s0 c_s1 c_s2 c_s3 c_s4 c_s5 c_s6 c_s7 c_s8 f_s0 f_s1 f_s2 f_s3 f_s4 f_s5 f_s6 f_s7 f_s8 l_s
          replace r_m := Lib.hid (r_m.out.keep hb)
          replace r_n := Lib.hid (r_n.out.keep hb)
          replace r_e := Lib.hid (r_e.out.keep hb)
          replace r_g := Lib.hid (r_g.out.keep hb)
          replace r_s := Lib.hid (r_s.out.keep hb)
          replace h_e := Lib.hid (h_e.out.below hb)
          replace BB := Lib.hid (below_next BB.out hb)
          clear hb
          go_upto_region 36 with fail
          have d_q := Lib.hid (And.intro BB.out.size (And.intro r_m.out.lt (And.intro r_n.out.lt (And.intro r_e.out.lt (And.intro r_g.out.lt (And.intro r_s.out.lt (True.intro)))))))
          obtain ⟨hb, r_q⟩ := laid w53 #[.int .i64 0, .int .u64 0] WT5
          replace r_m := Lib.hid (r_m.out.keep hb)
          replace r_n := Lib.hid (r_n.out.keep hb)
          replace r_e := Lib.hid (r_e.out.keep hb)
          replace r_g := Lib.hid (r_g.out.keep hb)
          replace r_s := Lib.hid (r_s.out.keep hb)
          replace h_e := Lib.hid (h_e.out.below hb)
          replace BB := Lib.hid (below_next BB.out hb)
          replace r_q := Lib.hid r_q
          clear hb
          generalize w53.alloc (.cells #[.int .i64 0, .int .u64 0] WT5) = w54 at *
          generalize w53.heap.size = g_q at *
          go_wp2_with fail
          refine (CV.out _).mono ?_
          rintro e w55 ⟨rfl, hb⟩
          replace r_m := Lib.hid (r_m.out.keep hb)
          replace r_n := Lib.hid (r_n.out.keep hb)
          replace r_e := Lib.hid (r_e.out.keep hb)
          replace r_g := Lib.hid (r_g.out.keep hb)
          replace r_s := Lib.hid (r_s.out.keep hb)
          replace r_q := Lib.hid (r_q.out.keep hb)
          replace h_e := Lib.hid (h_e.out.below hb)
          replace BB := Lib.hid (below_next BB.out hb)
          clear hb
          go_wp2_with fail
          go_ret
          exact ⟨rfl, BB.out⟩
      · have DN := Lib.hid (Q0.out rfl)
        have DP := Lib.hid (Q2.out rfl)
        clear Q0 Q1 Q2 Q3 Q4
        obtain ⟨c_n0, c_n1, c_n2, c_n3, c_n4, c_n5, c_n6, c_n7, c_n8, f_n0, f_n1, f_n2, f_n3, f_n4, f_n5, f_n6, f_n7, f_n8⟩ := reads9 r_n.out
        have l_n := r_n.out.lt
        go_wp2_with fail
        refine (DN.out _).mono ?_
        rintro e w30 ⟨rfl, hb⟩
        clear c_n0 c_n1 c_n2 c_n3 c_n4 c_n5 c_n6 c_n7 c_n8 f_n0 f_n1 f_n2 f_n3 f_n4 f_n5 f_n6 f_n7 f_n8 l_n
        replace r_m := Lib.hid (r_m.out.keep hb)
        replace r_n := Lib.hid (r_n.out.keep hb)
        replace r_e := Lib.hid (r_e.out.keep hb)
        replace h_e := Lib.hid (h_e.out.below hb)
        replace BB := Lib.hid (below_next BB.out hb)
        clear hb
        go_upto_region 24 with fail
        have d_g := Lib.hid (And.intro BB.out.size (And.intro r_m.out.lt (And.intro r_n.out.lt (And.intro r_e.out.lt (True.intro)))))
        obtain ⟨hb, r_g⟩ := laid w30 #[.int .i64 0, .int .u64 0] WT5
        replace r_m := Lib.hid (r_m.out.keep hb)
        replace r_n := Lib.hid (r_n.out.keep hb)
        replace r_e := Lib.hid (r_e.out.keep hb)
        replace h_e := Lib.hid (h_e.out.below hb)
        replace BB := Lib.hid (below_next BB.out hb)
        replace r_g := Lib.hid r_g
        clear hb
        generalize w30.alloc (.cells #[.int .i64 0, .int .u64 0] WT5) = w31 at *
        generalize w30.heap.size = g_g at *
        obtain ⟨c_m0, c_m1, c_m2, c_m3, c_m4, c_m5, c_m6, c_m7, c_m8, f_m0, f_m1, f_m2, f_m3, f_m4, f_m5, f_m6, f_m7, f_m8⟩ := reads9 r_m.out
        have l_m := r_m.out.lt
        obtain ⟨c_n0, c_n1, c_n2, c_n3, c_n4, c_n5, c_n6, c_n7, c_n8, f_n0, f_n1, f_n2, f_n3, f_n4, f_n5, f_n6, f_n7, f_n8⟩ := reads9 r_n.out
        have l_n := r_n.out.lt
        go_wp2_with fail
        refine (DP.out _).mono ?_
        rintro e w32 ⟨rfl, hb⟩
        clear c_m0 c_m1 c_m2 c_m3 c_m4 c_m5 c_m6 c_m7 c_m8 f_m0 f_m1 f_m2 f_m3 f_m4 f_m5 f_m6 f_m7 f_m8 l_m c_n0 c_n1 c_n2 c_n3 c_n4 c_n5 c_n6 c_n7 c_n8 f_n0 f_n1 f_n2 f_n3 f_n4 f_n5 f_n6 f_n7 f_n8 l_n
        replace r_m := Lib.hid (r_m.out.keep hb)
        replace r_n := Lib.hid (r_n.out.keep hb)
        replace r_e := Lib.hid (r_e.out.keep hb)
        replace r_g := Lib.hid (r_g.out.keep hb)
        replace h_e := Lib.hid (h_e.out.below hb)
        replace BB := Lib.hid (below_next BB.out hb)
        clear hb
        obtain ⟨cs, hcs⟩ : ∃ cs, (#[.int .i64 0, .int .u64 0, .int .i64 0, .int .u64 0, .int .i64 0, .int .u64 0, .int .i64 0, .int .u64 0, .int .i64 0, .int .u64 0, .int .i64 0, .int .u64 0, .int .i64 0, .int .u64 0, .int .i64 0, .int .u64 0, .int .i64 0, .int .u64 0] : Array Value) = cs := ⟨_, rfl⟩
        have hcz : cs.size = 18 := by rw [← hcs]; rfl
        have hc1 : cs.all (·.oneCell') = true := by rw [← hcs]; kernel_rfl
        rw [hcs]
        replace hcs := Lib.hid hcs
        obtain ⟨ST1, ST2⟩ := wide_new w32 #[.int .i64 0, .int .u64 0, .int .i64 0, .int .u64 0, .int .i64 0, .int .u64 0, .int .i64 0, .int .u64 0, .int .i64 0, .int .u64 0, .int .i64 0, .int .u64 0, .int .i64 0, .int .u64 0, .int .i64 0, .int .u64 0, .int .i64 0, .int .u64 0] cs rfl hcz hc1
        go_upto_region 25 with fail
        clear ST1 ST2
        have d_p := Lib.hid (And.intro BB.out.size (And.intro r_m.out.lt (And.intro r_n.out.lt (And.intro r_e.out.lt (And.intro r_g.out.lt (True.intro))))))
        obtain ⟨hb, r_p⟩ := laid w32 cs W9T
        replace r_m := Lib.hid (r_m.out.keep hb)
        replace r_n := Lib.hid (r_n.out.keep hb)
        replace r_e := Lib.hid (r_e.out.keep hb)
        replace r_g := Lib.hid (r_g.out.keep hb)
        replace h_e := Lib.hid (h_e.out.below hb)
        replace BB := Lib.hid (below_next BB.out hb)
        replace r_p := Lib.hid r_p
        clear hb
        generalize w32.alloc (.cells cs W9T) = w33 at *
        generalize w32.heap.size = g_p at *
        go_wp2_with fail
        refine (CV.out _).mono ?_
        rintro e w34 ⟨rfl, hb⟩
        replace r_m := Lib.hid (r_m.out.keep hb)
        replace r_n := Lib.hid (r_n.out.keep hb)
        replace r_e := Lib.hid (r_e.out.keep hb)
        replace r_g := Lib.hid (r_g.out.keep hb)
        replace r_p := Lib.hid (r_p.out.keep hb)
        replace h_e := Lib.hid (h_e.out.below hb)
        replace BB := Lib.hid (below_next BB.out hb)
        clear hb
        go_wp2_with fail
        go_ret
        exact ⟨rfl, BB.out⟩
end Go.Proofs.Ythoakbjnofhpbaa
