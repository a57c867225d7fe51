/- Parts of the proof: Flo3 Flo4. -/
import Derived.Test.YtikpobembcgbfaaGreatDoorQ05
set_option linter.unusedVariables false
set_option linter.unusedSimpArgs false
set_option maxRecDepth 100000
set_option maxHeartbeats 40000000
namespace Go.Proofs.YtikpobembcgbfaaGreatDoor
open Go.RowKit
theorem digit_same (s : Value) (ds : List Int) (i : Int) (w : World) (h : DR w s ds) (hl : ds.length ≤ 4611686018427387904) :
 Calls Tryz.prog 133 #[s, .int .i64 i] w fun e w' => e = .returned (.int .i64 (dg ds i)) ∧ w' = w := (digit_any s ds i w h hl).mono fun _ _ h => ⟨h.1, h.2.symm⟩
theorem below_on {n : Nat} {a w w' : World} (h : Below (n + 3) a w) (hn : n + 2 < w.heap.size) (h2 : Below w.heap.size w w') : Below (n + 3) a w' := h.trans (h2.mono hn)
theorem flo_of (m : Int) (h0 : 0 ≤ m) (h1 : m ≤ 32767) {wr w2 : World} (hw : Below wr.heap.size wr w2) :
 Calls Tryz.prog 50 #[.int .i64 m] w2 (GiveB m wr) := by
 refine (of_any m ⟨by omega, by omega⟩ w2).mono ?_
 rintro e w' ⟨r, rfl, hb, hr⟩
 exact ⟨r, rfl, below_next hw hb, hr⟩
theorem flo_mul {b : List Int} {B : Option Addr} {capb : Nat} {wr w2 : World} (h : DR wr (.slice B b.length capb) b) (cb : Canon b) (hl : bval b < P2 4999) (m : Int) (h0 : 0 ≤ m) (h1 : m ≤ 32767) {r : Value} (hr : BR w2 r m) (hw : Below wr.heap.size wr w2) :
 Calls Tryz.prog 84 #[r, .agg #[.bool false, .slice B b.length capb]] w2 (GiveB (m * bval b) wr) := by
 have hb0 := bval_nonneg cb.1
 refine (mul_any r _ m (bval b) w2 hr ⟨_, by rw [sgn_f hb0], b, h.below hw, cb, by omega⟩ (small_mid (by omega) (by omega)) (Low.mid ⟨by have := P2_pos 4999; omega, hl⟩)).mono ?_
 rintro e w' ⟨r, rfl, hb, hr⟩
 exact ⟨r, rfl, below_next hw hb, hr⟩
theorem floor_long (u v : Value) (x y : Int) (w : World) (hu : BR w u x) (hv : BR w v y) (hx : Mid x) (hy : Low y) (hy0 : y ≠ 0) (hlong : ∀ n cap A s, u = .agg #[s, .slice A n cap] → ∀ n' cap' A' s', v = .agg #[s', .slice A' n' cap'] → 4 < n ∨ 4 < n') :
 Calls Tryz.prog 87 #[u, v] w (GiveB (x.fdiv y) w) := by
 have HF := Lib.hid (fdiv_eq x y hy0)
 obtain ⟨s, rfl, a, ha, ca, ea⟩ := hu
 obtain ⟨t, rfl, b, hb, cb, eb⟩ := hv
 have la := huge_len ca (by have := hx.1; have := hx.2; omega)
 have hB : 0 < bval b := by omega
 have hBl : bval b < P2 4999 := by have := hy.1; have := hy.2; omega
 have hbn : b ≠ [] := fun h => by subst h; simp [bval] at hB
 have lb := cb.length_le hBl
 have lb0 : 0 < b.length := by cases b with | nil => exact absurd rfl hbn | cons => simp
 obtain ⟨A, capa, rfl⟩ := ha.form
 obtain ⟨B, capb, rfl⟩ := hb.form
 have hlong := hlong _ _ _ _ rfl _ _ _ _ rfl
 have HA := Lib.hid ha
 have HB := Lib.hid hb
 rw [← ea, ← eb] at HF
 generalize sgn x = sx at *
 generalize sgn y = sy at *
 generalize x.fdiv y = z at *
 clear ha hb hx hy ea eb
 have ht0 := Lib.hid (top_pos cb hbn)
 have HD1 := cb.1.dg ((b.length : Int) - 1)
 have HD2 := cb.1.dg ((b.length : Int) - 2)
 have HTop : Hid (hd3 b b.length = dg b ((b.length : Int) - 1) * 32768 + dg b ((b.length : Int) - 2)) := by
  show _ = _; unfold hd3; rw [dg_out b (Int.le_refl _)]; omega
 go_enter Tryz.func87, Tryz.ntmps87
 have hg : ((a.length : Int) ≤ 4) ∧ ¬ ((b.length : Int) ≤ 4) ∨ ¬ ((a.length : Int) ≤ 4) := by omega
 have D1 := Lib.hid (fun i w1 (hw : Below w.heap.size w w1) => digit_same (.slice B b.length capb) b i w1 (HB.out.below hw) (by omega))
 obtain ⟨t10, t11⟩ := HD1
 obtain ⟨t20, t21⟩ := HD2
 clear hlong
 rcases hg with ⟨g1, g2⟩ | g1
 all_goals
  go_wp2_with fail
  go_quiet ((go_at_call 133; refine Calls.quiet_of_same (D1.out _ _ ?_); exact below_drawn (below_new (below_new (below_new (Below.refl _ _) _) _) _) _))
  go_wp2_with fail
  generalize dg b ((b.length : Int) - 1) = t1 at *
  generalize dg b ((b.length : Int) - 2) = t2 at *
  have hT0 : 0 < t1 * 32768 + t2 := by have := ht0.out; have := HTop.out; omega
  have hT1 : t1 * 32768 + t2 < 1073741824 := by omega
  generalize t1 * 32768 + t2 = T at *
  go_loopw [5, 6, 9, 10, 11, 12, 13] (fun qv rv i _ _ _ _ wr => ∃ (j : Nat) (qs : List Int) (R : Int), j ≤ a.length ∧ i = .int .i64 ((j : Int) - 1) ∧ Hid (DR wr qv qs) ∧ Hid (NR wr rv R) ∧ Hid (LI a (bval b) j qs R) ∧
   Below (w.heap.size + 3) (W3 w (.bool sx) (.slice A a.length capa) (.bool sy) (.slice B b.length capb)) wr) (fun _ _ i _ _ _ _ _ => (intOf i + 1).toNat)
  case atStart => exact ⟨a.length, [], 0, Nat.le_refl _, rfl, DR.nil _, ⟨[], DR.nil _, Canon.nil, rfl⟩, LI.start a hB, below_drawn (Below.refl _ _) _⟩
  case round =>
   obtain ⟨j, qs, R, hj, rfl, hq, hr, hinv, hbel⟩ := hrel
   obtain ⟨K0, hsz, HB1, HR⟩ := W3.boxes hbel
   have HB1 := Lib.hid HB1
   have HB2 := Lib.hid hbel
   have HR := Lib.hid HR
   clear hbel
   by_cases hj0 : j = 0
   · subst hj0
     obtain ⟨hQ, hRm⟩ := hinv.out.end_ hB
     have lq : qs.length ≤ 5000 := by have := hinv.out.2.1; omega
     obtain ⟨Aq, capq, rfl⟩ := hq.out.form
     obtain ⟨Ar, nr, capr, rfl, hnr⟩ := hr.out.form
     rw [hRm] at hnr
     have CT : Hid (∀ w1, Below wr.heap.size wr w1 → Calls Tryz.prog 131 #[.slice Aq qs.length capq] w1 (GiveN (bval a / bval b) wr)) :=
      fun w1 hw => trim_give hw (hq.out.below hw) hinv.out.1 (by omega) hQ
     have hq0 : 0 ≤ bval a / bval b := by rw [← hQ]; exact bval_nonneg hinv.out.1
     have hq1 : Hid (bval a / bval b + 1 < HUGE + 1) := by
      show _ < _
      have := bval_lt hinv.out.1
      have := P2_mono lq
      unfold HUGE
      omega
     obtain ⟨r0, r1, r2, r3⟩ := box_reads HR.out
     clear hQ hRm hinv hq hr HA HB D1 ht0 HTop t10 t11 t20 t21 hT0 hT1 hj ca cb hB hBl hbn
     generalize bval a / bval b = Q at *
     generalize bval a % bval b = M at *
     have K := K0
     obtain ⟨c0, c1, c2, c3⟩ := K
     by_cases h1 : sx = sy
     · have HZ : Hid (z = if false then -Q else Q) := by show _ = _; rw [HF.out, if_pos h1, if_neg (by decide)]
       have e1 : (sx == sy) = true := by simp [h1]
       clear h1 hnr HF
       go_wp2_with fail
       go_region_held3 (fun w' => w'.cell? ⟨w.heap.size, 0, none⟩ = some (.bool sx) ∧ w'.cell? ⟨w.heap.size, 1, none⟩ = some (.slice A a.length capa) ∧ w'.cell? ⟨w.heap.size + 1, 0, none⟩ = some (.bool sy) ∧ w'.cell? ⟨w.heap.size + 1, 1, none⟩ = some (.slice B b.length capb))
        (first | exact K0 | exact K1 | exact K2 | exact boxes_set _ _ K2)
        (first
          | (go_at_call 131
             refine (CT.out _ ?_).mono ?_
             · repeat (first | exact Below.refl _ _ | apply below_drew | apply below_new)
             rintro e w1 ⟨r, rfl, hb1, hr⟩
             have K1 := boxes_keep hb1 (Nat.lt_of_succ_lt hsz) K0
             have Z1 : w.heap.size + 2 < w1.heap.size := Nat.lt_of_lt_of_le hsz hb1.size
             have B1 := Lib.hid (below_next HB1.out hb1)
             have H1 := Lib.hid ((hb1.block _ hsz).trans HR.out)
             obtain ⟨hc1, hf1⟩ := below_reads hb1
             have hr := Lib.hid hr
             clear hb1)
          | (go_at_call 127
             refine (made_any _ _ _ _ _ hr.out HZ.out).mono ?_
             rintro e w2 ⟨r2, rfl, hb2, hr2⟩
             obtain ⟨A', n', cap', rfl, hn'⟩ := hr2.form
             have K2 := boxes_keep hb2 (Nat.lt_of_succ_lt Z1) K1
             have B2 := Lib.hid (below_next B1.out hb2)
             have H2 := Lib.hid ((hb2.block _ Z1).trans H1.out)
             have N2 := Lib.hid hn'
             obtain ⟨hc2, hf2⟩ := below_reads hb2
             clear hb2 hr2 hn'))
       clear K0 K1
       go_wp2_with fail
       refine bodyPost_ret (v := .agg #[.bool (sgn z), .slice A' n' cap']) (by unfold results; simp only [Tryz.results87]; go_simp) rfl ?_
       exact give_box B2.out N2.out H2.out (by omega) rfl
     have e1 : (sx == sy) = false := by simp [h1]
     by_cases h2 : M = 0
     · have HZ : Hid (z = if true then -Q else Q) := by show _ = _; rw [HF.out, if_neg h1, if_pos h2, if_pos rfl]
       obtain rfl : nr = 0 := hnr.2 h2
       clear h1 hnr h2 HF
       go_wp2_with fail
       go_region_held3 (fun w' => w'.cell? ⟨w.heap.size, 0, none⟩ = some (.bool sx) ∧ w'.cell? ⟨w.heap.size, 1, none⟩ = some (.slice A a.length capa) ∧ w'.cell? ⟨w.heap.size + 1, 0, none⟩ = some (.bool sy) ∧ w'.cell? ⟨w.heap.size + 1, 1, none⟩ = some (.slice B b.length capb))
        (first | exact K0 | exact K1 | exact K2 | exact boxes_set _ _ K2)
        (first
          | (go_at_call 131
             refine (CT.out _ ?_).mono ?_
             · repeat (first | exact Below.refl _ _ | apply below_drew | apply below_new)
             rintro e w1 ⟨r, rfl, hb1, hr⟩
             have K1 := boxes_keep hb1 (Nat.lt_of_succ_lt hsz) K0
             have Z1 : w.heap.size + 2 < w1.heap.size := Nat.lt_of_lt_of_le hsz hb1.size
             have B1 := Lib.hid (below_next HB1.out hb1)
             have H1 := Lib.hid ((hb1.block _ hsz).trans HR.out)
             obtain ⟨hc1, hf1⟩ := below_reads hb1
             have hr := Lib.hid hr
             clear hb1)
          | (go_at_call 127
             refine (made_any _ _ _ _ _ hr.out HZ.out).mono ?_
             rintro e w2 ⟨r2, rfl, hb2, hr2⟩
             obtain ⟨A', n', cap', rfl, hn'⟩ := hr2.form
             have K2 := boxes_keep hb2 (Nat.lt_of_succ_lt Z1) K1
             have B2 := Lib.hid (below_next B1.out hb2)
             have H2 := Lib.hid ((hb2.block _ Z1).trans H1.out)
             have N2 := Lib.hid hn'
             obtain ⟨hc2, hf2⟩ := below_reads hb2
             clear hb2 hr2 hn'))
       clear K0 K1
       go_wp2_with fail
       refine bodyPost_ret (v := .agg #[.bool (sgn z), .slice A' n' cap']) (by unfold results; simp only [Tryz.results87]; go_simp) rfl ?_
       exact give_box B2.out N2.out H2.out (by omega) rfl
     · have HZ : Hid (z = if true then -(Q + 1) else Q + 1) := by show _ = _; rw [HF.out, if_neg h1, if_neg h2, if_pos rfl]
       have hnr0 : ¬ nr = 0 := fun h => h2 (hnr.1 h)
       clear h1 hnr h2 HF
       go_wp2_with fail
       refine (CT.out wr (Below.refl _ _)).mono ?_; rintro e w3 ⟨r, rfl, hb3, hr3⟩
       have B3 := Lib.hid (below_next HB1.out hb3)
       have H3 := Lib.hid ((hb3.block _ hsz).trans HR.out)
       have Z3 : w.heap.size + 2 < w3.heap.size := Nat.lt_of_lt_of_le hsz hb3.size
       have N3 := Lib.hid hr3
       obtain ⟨A3, n3, cap3, rfl, _⟩ := hr3.form
       have hw3 : Hid (Below w3.heap.size w3 (w3.alloc (.cells #[.int .i64 1] 3))) := below_new (Below.refl _ _) _
       have C1 := Lib.hid (sum_any _ _ _ 1 _ (N3.out.below hw3.out) (NR_one (w := w3)) (by have := hq1.out; omega) (small_mid (by omega) (by omega)).2)
       obtain ⟨q0, q1, q2, q3⟩ := box_reads H3.out
       clear hb3 hr3 K0 c0 c1 c2 c3 r0 r1 r2 r3
       go_wp2_with fail
       refine C1.out.mono ?_; rintro e w5 ⟨r5, rfl, hb5, hr5⟩
       have B5 := Lib.hid (below_next hw3.out hb5)
       have HR5 := Lib.hid hr5
       obtain ⟨A5, n5, cap5, rfl, _⟩ := hr5.form
       clear hr5 hb5
       go_wp2_with fail
       refine (made_any _ _ _ _ _ HR5.out HZ.out).mono ?_; rintro e w4 ⟨r4, rfl, hb4', hr4⟩
       have hb4 := below_next B5.out hb4'
       clear hb4'
       obtain ⟨A4, n4, cap4, rfl, hn4⟩ := hr4.form
       have H4 := Lib.hid ((hb4.block _ Z3).trans H3.out)
       have B4 := Lib.hid (below_next B3.out hb4)
       have N4 := Lib.hid hn4
       obtain ⟨hc, hf⟩ := below_reads hb4
       clear hb4 hr4 hn4
       go_wp2_with fail
       refine bodyPost_ret (v := .agg #[.bool (sgn z), .slice A4 n4 cap4]) (by unfold results; simp only [Tryz.results87]; go_simp) rfl ?_
       exact give_box B4.out N4.out H4.out (by omega) rfl
   · have hj1 : ((1 : Nat) : Int) ≤ j := by omega
     rcases HA.out.below HB1.out with ⟨_, h⟩ | ⟨ba, oa, capa', e, hca, _, hcellA⟩
     · subst h; simp at hj; omega
     injection e with e1 e2 e3
     subst e1 e3
     clear e2
     have cA := hcellA (j - 1) (by omega)
     clear hcellA
     have dA := ca.1.at (j - 1)
     generalize hd : a.getD (j - 1) 0 = d at *
     obtain ⟨Aq, capq, rfl⟩ := hq.out.form
     obtain ⟨rd0, hr1, hr2, hr3⟩ := hr.out
     obtain ⟨Ar, capr, rfl⟩ := hr1.form
     have hR1 := hinv.out.2.2.2.1
     have hR0 := hinv.out.2.2.1
     have lr : rd0.length ≤ 4999 := hr2.length_le (by rw [hr3]; omega)
     have hr1 := Lib.hid hr1
     have K := K0
     obtain ⟨c0, c1, c2, c3⟩ := K
     go_wp2_with (at_builtin; refine wp_front wr rfl (.tmp 55) (.tmp 56) rfl d Ar rd0.length capr rd0 rfl rfl hr1.out (by omega) ?_)
     intro v1 w1 hb1 hd1
     have hbr : bval (d :: rd0) = d + 32768 * R := by rw [bval_cons, hr3]
     have CT := Lib.hid (trim_any v1 (d :: rd0) w1 hd1 (Dig.mk dA hr2.1) (by simp; omega))
     rw [hbr] at CT
     obtain ⟨A1, cap1, rfl⟩ := hd1.form
     have K1 := boxes_keep hb1 (Nat.lt_of_succ_lt hsz) K0
     have Z1 : w.heap.size + 2 < w1.heap.size := Nat.lt_of_lt_of_le hsz hb1.size
     have B1 := Lib.hid (below_next HB1.out hb1)
     have HB1' := Lib.hid hb1
     clear hb1 hd1 c0 c1 c2 c3 K0 cA
     obtain ⟨c0, c1, c2, c3⟩ := id K1
     go_wp2_with fail
     refine CT.out.mono ?_; rintro e w' ⟨r2, rfl, rfl, hr2'⟩
     clear CT
     obtain ⟨rd, hx1, hx2, hx3⟩ := hr2'
     obtain ⟨A2, cap2, rfl⟩ := hx1.form
     have lrd : rd.length ≤ 5000 := hx2.length_le (by rw [hx3]; have := huge_eq; unfold HUGE at this; omega)
     have D2 := Lib.hid (fun i => digit_any (.slice A2 rd.length cap2) rd i w1 hx1 (by omega))
     have HX := Lib.hid hx1
     have E1 := Lib.hid (hd3_spec hx2.1 lb0 (by rw [hx3, P2_succ]; have := bval_lt cb.1; omega))
     have E2 := Lib.hid (hd3_spec cb.1 lb0 (by have := bval_lt cb.1; have := P2_mono (show b.length ≤ b.length + 1 by omega); omega))
     have HD0 := hx2.1.dg (b.length : Int)
     have HD1 := hx2.1.dg ((b.length : Int) - 1)
     have HD2 := hx2.1.dg ((b.length : Int) - 2)
     have HF3 : hd3 rd b.length = (dg rd (b.length : Int) * 32768 + dg rd ((b.length : Int) - 1)) * 32768 + dg rd ((b.length : Int) - 2) := rfl
     have hF0 : 0 ≤ hd3 rd b.length := by omega
     have hF1 : hd3 rd b.length < 35184372088832 := by omega
     have EST := digit_est (scS_pos b.length) (scT_pos b.length) hB (show 0 ≤ d + 32768 * R by omega) (by omega) ht0.out hF0 (hx3 ▸ E1.out.1) (hx3 ▸ E1.out.2) E2.out.1 E2.out.2
     rw [HTop.out] at EST
     clear hx1 hr2 E1 E2
     go_wp2_with fail
     refine (D2.out _).mono ?_; rintro e w' ⟨rfl, rfl⟩
     go_wp2_with fail
     refine (D2.out _).mono ?_; rintro e w' ⟨rfl, rfl⟩
     go_wp2_with fail
     refine (D2.out _).mono ?_; rintro e w' ⟨rfl, rfl⟩
     generalize dg rd (b.length : Int) = f0 at *
     generalize dg rd ((b.length : Int) - 1) = f1 at *
     generalize dg rd ((b.length : Int) - 2) = f2 at *
     go_wp2_with fail
     rw [HF3] at hF0 hF1 EST
     clear HF3
     obtain ⟨f00, f01⟩ := HD0
     obtain ⟨f10, f11⟩ := HD1
     obtain ⟨f20, f21⟩ := HD2
     generalize (f0 * 32768 + f1) * 32768 + f2 = F at *
     have hTn : ¬ T = 0 := by omega
     have hTn1 : ¬ T + 1 = 0 := by omega
     obtain ⟨s0, s1, s2, s3, s4⟩ := EST
     go_quiet (fail)
     have hh : (d + 32768 * R) / bval b ≤ (if (F + 1) / T < 32767 then (F + 1) / T else 32767) ∧ (if (F + 1) / T < 32767 then (F + 1) / T else 32767) ≤ 32767 := by split <;> omega
     generalize (if (F + 1) / T < 32767 then (F + 1) / T else 32767) = h00 at *
     generalize F / (T + 1) = l00 at *
     have HR' := Lib.hid (show d + 32768 * R = a.getD (j - 1) 0 + 32768 * R by rw [hd])
     have hRB : d + 32768 * R < 32768 * bval b := by omega
     have hR'0 : 0 ≤ d + 32768 * R := by omega
     generalize hR'e : d + 32768 * R = R' at *
     have HC := Lib.hid (fun m : Int => (Int.le_ediv_iff_mul_le hB : m ≤ R' / bval b ↔ m * bval b ≤ R'))
     have HQ := Lib.hid (rfl : R' / bval b = R' / bval b)
     generalize hqe : R' / bval b = q at *
     clear dA hd hbr f00 f01 f10 f11 f20 f21 hF0 hF1 hR0 hR1
     have hmB : Hid (∀ m : Int, 0 ≤ m → m ≤ 32767 → 0 ≤ m * bval b ∧ m * bval b < HUGE) := fun m m0 m1 => by
      have h1 : m * bval b ≤ 32767 * bval b := Int.mul_le_mul_of_nonneg_right m1 (by omega)
      have := huge_eq
      exact ⟨Int.mul_nonneg m0 (by omega), by omega⟩
     go_wp2_with fail
     go_loopw [11, 12, 13] (fun lo hi _ wi => ∃ l h : Int, lo = .int .i64 l ∧ hi = .int .i64 h ∧ 0 ≤ l ∧ l ≤ q ∧ q ≤ h ∧ h ≤ 32767 ∧ Below w1.heap.size w1 wi) (fun lo hi _ _ => (intOf hi - intOf lo).toNat)
     case atStart => exact ⟨_, _, rfl, rfl, by omega, by omega, by omega, by omega, below_drawn (Below.refl _ _) _⟩
     case round =>
      obtain ⟨l, h, rfl, rfl, hl0, hlq, hqh, hh7, hbi⟩ := hrel
      have K2 := boxes_keep hbi (Nat.lt_of_succ_lt Z1) K1
      have Z2 : w.heap.size + 2 < wr.heap.size := Nat.lt_of_lt_of_le Z1 hbi.size
      have HBI := Lib.hid hbi
      clear hbi c0 c1 c2 c3
      obtain ⟨c0, c1, c2, c3⟩ := id K2
      by_cases hlh : l < h
      · have hM0 : l + 1 ≤ (l + h + 1) / 2 := by omega
        have hM1 : (l + h + 1) / 2 ≤ h := by omega
        go_wp2_with fail
        generalize hM : (l + h + 1) / 2 = m at *
        have CO := Lib.hid (fun (w2 : World) (hw : Below wr.heap.size wr w2) => flo_of m (by omega) (by omega) hw)
        have CM := Lib.hid (fun (r : Value) (w2 : World) (hw : Below wr.heap.size wr w2) (hr : BR w2 r m) => flo_mul ((HB.out.below B1.out).below HBI.out) cb hBl m (by omega) (by omega) hr hw)
        have CL := Lib.hid (fun (s : Value) (w2 : World) (hw : Below wr.heap.size wr w2) (hr : NR w2 s ((m * bval b).natAbs : Int)) => less_any s (.slice A2 rd.length cap2) (m * bval b) R' w2 (by rwa [show ((m * bval b).natAbs : Int) = m * bval b by have := (hmB.out m (by omega) (by omega)).1; omega] at hr) ⟨rd, (HX.out.below HBI.out).below hw, hx2, hx3⟩ (hmB.out m (by omega) (by omega)).2 (by have := huge_eq; omega))
        have hcm := HC.out m
        by_cases hmq : m ≤ q
        · have hc1 : cmpI (m * bval b) R' ≤ 0 := by unfold cmpI; rw [if_neg (c := R' < m * bval b) (by omega)]; split <;> omega
          go_region_held3 (fun w' => w'.cell? ⟨w.heap.size + 1, 1, none⟩ = some (.slice B b.length capb))
           (first | exact K2.2.2.2 | exact K3.2.2.2 | exact K4.2.2.2)
           (first
             | (go_at_call 50
                refine (CO.out _ ?_).mono ?_
                · repeat (first | exact Below.refl _ _ | apply below_drew | apply below_new)
                rintro e w3 ⟨r3, rfl, hb3, hr3⟩
                have K3 := boxes_keep hb3 (Nat.lt_of_succ_lt Z2) K2
                have hr3 := Lib.hid hr3
                have B3 := Lib.hid hb3
                obtain ⟨A3, n3, cap3, rfl, _⟩ := hr3.out.form
                clear hb3)
             | (go_at_call 84
                refine (CM.out _ _ B3.out hr3.out).mono ?_
                rintro e w4 ⟨r4, rfl, hb4, hr4⟩
                have K4 := boxes_keep hb4 (Nat.lt_of_succ_lt Z2) K2
                obtain ⟨A4, n4, cap4, rfl, hn4⟩ := hr4.form
                have hn4 := Lib.hid hn4
                have B4 := Lib.hid hb4
                clear hb4 hr4)
             | (go_at_call 129
                refine (CL.out _ _ B4.out hn4.out).mono ?_
                rintro e w5 ⟨rfl, rfl⟩))
          go_wp2_with fail
          go_roundw
          case rel => exact ⟨m, h, rfl, rfl, by omega, hmq, hqh, hh7, below_next HBI.out B4.out⟩
          case measure => simp [intOf]; omega
        · have hc1 : 0 < cmpI (m * bval b) R' := by unfold cmpI; rw [if_neg (by omega), if_pos (by omega)]; omega
          go_region_held3 (fun w' => w'.cell? ⟨w.heap.size + 1, 1, none⟩ = some (.slice B b.length capb))
           (first | exact K2.2.2.2 | exact K3.2.2.2 | exact K4.2.2.2)
           (first
             | (go_at_call 50
                refine (CO.out _ ?_).mono ?_
                · repeat (first | exact Below.refl _ _ | apply below_drew | apply below_new)
                rintro e w3 ⟨r3, rfl, hb3, hr3⟩
                have K3 := boxes_keep hb3 (Nat.lt_of_succ_lt Z2) K2
                have hr3 := Lib.hid hr3
                have B3 := Lib.hid hb3
                obtain ⟨A3, n3, cap3, rfl, _⟩ := hr3.out.form
                clear hb3)
             | (go_at_call 84
                refine (CM.out _ _ B3.out hr3.out).mono ?_
                rintro e w4 ⟨r4, rfl, hb4, hr4⟩
                have K4 := boxes_keep hb4 (Nat.lt_of_succ_lt Z2) K2
                obtain ⟨A4, n4, cap4, rfl, hn4⟩ := hr4.form
                have hn4 := Lib.hid hn4
                have B4 := Lib.hid hb4
                clear hb4 hr4)
             | (go_at_call 129
                refine (CL.out _ _ B4.out hn4.out).mono ?_
                rintro e w5 ⟨rfl, rfl⟩))
          go_wp2_with fail
          go_roundw
          case rel => exact ⟨l, m - 1, rfl, rfl, by omega, hlq, by omega, by omega, below_next HBI.out B4.out⟩
          case measure => simp [intOf]; omega
      · obtain rfl : l = h := by omega
        obtain rfl : l = q := by omega
        go_wp2_with fail
        have CO := Lib.hid (fun (w2 : World) (hw : Below wr.heap.size wr w2) => flo_of l (by omega) (by omega) hw)
        have CM := Lib.hid (fun (r : Value) (w2 : World) (hw : Below wr.heap.size wr w2) (hr : BR w2 r l) => flo_mul ((HB.out.below B1.out).below HBI.out) cb hBl l (by omega) (by omega) hr hw)
        have hle := (HC.out l).1 (by omega)
        have CL := Lib.hid (fun (s : Value) (w2 : World) (hw : Below wr.heap.size wr w2) (hr : NR w2 s ((l * bval b).natAbs : Int)) => rest_any (.slice A2 rd.length cap2) s R' (l * bval b) w2 ⟨rd, (HX.out.below HBI.out).below hw, hx2, hx3⟩ (by rwa [show ((l * bval b).natAbs : Int) = l * bval b by have := (hmB.out l (by omega) (by omega)).1; omega] at hr) (by have := huge_eq; omega) hle)
        go_region_held3 (fun w' => w'.cell? ⟨w.heap.size + 1, 1, none⟩ = some (.slice B b.length capb))
         (first | exact K2.2.2.2 | exact K3.2.2.2 | exact K4.2.2.2 | exact K5.2.2.2)
         (first
           | (go_at_call 50
              refine (CO.out _ ?_).mono ?_
              · repeat (first | exact Below.refl _ _ | apply below_drew | apply below_new)
              rintro e w3 ⟨r3, rfl, hb3, hr3⟩
              have K3 := boxes_keep hb3 (Nat.lt_of_succ_lt Z2) K2
              have hr3 := Lib.hid hr3
              have B3 := Lib.hid hb3
              obtain ⟨A3, n3, cap3, rfl, _⟩ := hr3.out.form
              clear hb3)
           | (go_at_call 84
              refine (CM.out _ _ B3.out hr3.out).mono ?_
              rintro e w4 ⟨r4, rfl, hb4, hr4⟩
              have K4 := boxes_keep hb4 (Nat.lt_of_succ_lt Z2) K2
              obtain ⟨A4, n4, cap4, rfl, hn4⟩ := hr4.form
              have hn4 := Lib.hid hn4
              have B4 := Lib.hid hb4
              have Z4 : w.heap.size + 2 < w4.heap.size := Nat.lt_of_lt_of_le Z2 hb4.size
              clear hb4 hr4)
           | (go_at_call 130
              refine (CL.out _ _ B4.out hn4.out).mono ?_
              rintro e w5 ⟨r5, rfl, hb5, hr5⟩
              have K5 := boxes_keep hb5 (Nat.lt_of_succ_lt Z4) K4
              obtain ⟨A5, n5, cap5, rfl, _⟩ := id hr5.form
              have hr5 := Lib.hid hr5
              have B5 := Lib.hid hb5
              have Z5 : w.heap.size + 2 < w5.heap.size := Nat.lt_of_lt_of_le Z4 hb5.size
              clear hb5))
        have hqd := Lib.hid (((((hq.out.below HB1'.out).below HBI.out).below B4.out).below B5.out))
        have lq : qs.length ≤ 5000 := by have := hinv.out.2.1; omega
        go_wp2_with (at_builtin; refine wp_front _ rfl (.tmp 114) (.tmp 115) rfl l Aq qs.length capq qs rfl rfl hqd.out (by omega) ?_)
        intro v6 w6 hb6 hd6
        have hd6 := Lib.hid hd6
        have B6 := Lib.hid hb6
        clear hb6
        go_wp2_with fail
        go_roundw
        case rel =>
         have hst := hinv.out.step hB (show 0 < j by omega) (show R' = a.getD (j - 1) 0 + 32768 * R by have := HR'.out; omega) hqe.symm (by omega) (by omega)
         exact ⟨j - 1, l :: qs, R' - l * bval b, by omega, by go_num, hd6.out, hr5.out.below B6.out, hst, below_on (below_on (below_on (below_on (below_on HB2.out hsz HB1'.out) Z1 HBI.out) Z2 B4.out) Z4 B5.out) Z5 B6.out⟩
        case measure => simp [intOf]; omega
theorem short_bound {ds : List Int} (h : Dig ds) (hl : ds.length ≤ 4) : bval ds ≤ 18446744073709551615 := by
 have h1 := bval_lt h
 have h2 := P2_mono hl
 have h3 : P2 4 = 1152921504606846976 := by unfold P2; decide
 omega
theorem floor_any (u v : Value) (x y : Int) (w : World) (hu : BR w u x) (hv : BR w v y) (hx : Mid x) (hy : Low y) (hy0 : y ≠ 0) :
 Calls Tryz.prog 87 #[u, v] w (GiveB (x.fdiv y) w) := by
 by_cases hs : ∀ n cap A s, u = .agg #[s, .slice A n cap] → ∀ n' cap' A' s', v = .agg #[s', .slice A' n' cap'] → 4 < n ∨ 4 < n'
 · exact floor_long u v x y w hu hv hx hy hy0 hs
 · have hu' := hu
   have hv' := hv
   obtain ⟨s, rfl, a, ha, ca, ea⟩ := hu
   obtain ⟨t, rfl, b, hb, cb, eb⟩ := hv
   obtain ⟨A, capa, rfl⟩ := ha.form
   obtain ⟨B, capb, rfl⟩ := hb.form
   have hl : ¬ (4 < a.length ∨ 4 < b.length) := fun h => hs (fun n cap A s e n' cap' A' s' e' => by
    injection e with e; injection e with e; simp at e
    injection e' with e'; injection e' with e'; simp at e'
    omega)
   have la : (a.length : Int) ≤ 4 := by omega
   have lb : (b.length : Int) ≤ 4 := by omega
   have C1 := Lib.hid (fun w1 (hw : Below w.heap.size w w1) => short_any _ _ x y w1 (hu'.below hw) (hv'.below hw) (by have := short_bound ca.1 (by omega); omega) (by have := short_bound cb.1 (by omega); omega) hy0)
   clear hs hu' hv' ha hb ca cb ea eb hl hx hy hy0
   generalize sgn x = sx at *
   generalize sgn y = sy at *
   generalize x.fdiv y = z at *
   go_enter Tryz.func87, Tryz.ntmps87
   go_wp2_with fail
   refine (C1.out _ (below_new (below_new (below_new (Below.refl _ _) _) _) _)).mono ?_; rintro e w1 ⟨r, rfl, hb1, hr⟩
   obtain ⟨A', n', cap', rfl, hn'⟩ := hr.form
   obtain ⟨K1, Z1, B1, H1⟩ := W3.boxes (wr := w1) (W3.size .. ▸ hb1)
   have B1 := Lib.hid B1
   have H1 := Lib.hid H1
   have N1 := Lib.hid hn'
   obtain ⟨r0, r1, r2, r3⟩ := box_reads H1.out
   clear hb1 hr hn' K1
   go_wp2_with fail
   refine bodyPost_ret (v := .agg #[.bool (sgn z), .slice A' n' cap']) (by unfold results; simp only [Tryz.results87]; go_simp) rfl ?_
   exact give_box B1.out N1.out H1.out (by omega) rfl
end Go.Proofs.YtikpobembcgbfaaGreatDoor
