/- The document's mix of pixels, as it stands (law 29's and 30's): ref29.Mix. -/
import Derived.Test.YtnklbnphiokpiaaNrW
import Derived.Test.YtnklbnphiokpiaaWMixR
import Derived.Test.YtnklbnphiokpiaaJC
set_option linter.unusedVariables false
set_option linter.unusedSimpArgs false
namespace Go.Proofs.Ytnklbnphiokpiaa
open Go.RowKit
/-- What pixels weigh together in a channel, the first i of them. -/
def mixS (W : Nat → Int) (Lf : Nat → List Int) (k : Nat) : Nat → Int
  | 0 => 0
  | i + 1 => mixS W Lf k i + W i * (Lf i).getD k 0
theorem own_far {w : World} {base : Nat} {e : TypeId} {v : Value} {n p : Nat} {xs : List Value} {cs : Array Value} {T : TypeId} (h : w.ownsRow base e 1 v n xs) (r : AtB w p cs T) (hT : T ≠ e) (o : Nat) (u : Value) : (w.setCell ⟨p, o, none⟩ u).ownsRow base e 1 v n xs := by
  obtain ⟨h1, h2⟩ := h
  rcases h2 with h0 | ⟨g, cap, cur, hv, hg, hh, hn, hcap, hsz, htake⟩
  · exact ⟨h1, .inl h0⟩
  · refine ⟨h1, .inr ⟨g, cap, cur, hv, hg, (Below.heap_setCell w ⟨p, o, none⟩ u g ?_).trans hh, hn, hcap, hsz, htake⟩⟩
    intro e'
    subst e'
    have := hh.symm.trans r.heap
    simp only [Option.some.injEq, Obj.cells.injEq] at this
    exact hT this.2.1.symm
theorem own_far2 {w : World} {base : Nat} {e : TypeId} {v : Value} {n p : Nat} {xs : List Value} {cs : Array Value} {T : TypeId} (h : w.ownsRow base e 1 v n xs) (r : AtB w p cs T) (hT : T ≠ e) (u u' : Value) : ((w.setCell ⟨p, 0, none⟩ u).setCell ⟨p, 1, none⟩ u').ownsRow base e 1 v n xs := own_far (own_far h r hT 0 u) (heap_set r.heap u (o := 0)) hT 1 u'
theorem tdiv_nat (k c : Nat) : ((k : Int).tdiv (c : Int)) = ((k / c : Nat) : Int) := by rw [Int.tdiv_eq_ediv_of_nonneg (by omega)]; omega
theorem run_rem (i p : Nat) (hp : 1 ≤ p) (w : World) : (Go.binOp BinOp.rem 3 (.int .i64 (i : Int)) (.int .i64 (p : Int))).run Try.prog w = .ok (.int .i64 ((i % p : Nat) : Int)) w := by
  have h0 : ¬ p = 0 := by omega
  have er := rem_nat i p
  go_simp
theorem run_quo (i p : Nat) (hp : 1 ≤ p) (hi : i ≤ 100) (w : World) : (Go.binOp BinOp.quo 3 (.int .i64 (i : Int)) (.int .i64 (p : Int))).run Try.prog w = .ok (.int .i64 ((i / p : Nat) : Int)) w := by
  have h0 : ¬ p = 0 := by omega
  have ey : IntKind.i64.wrap ((i : Int) / (p : Int)) = (i : Int) / (p : Int) := by
    have e : (i : Int) / (p : Int) = ((i / p : Nat) : Int) := by simp
    have hle : i / p ≤ i := Nat.div_le_self _ _
    rw [e]
    generalize i / p = y at *
    exact iw (by omega)
  have er : (i : Int).tdiv (p : Int) = (i : Int) / (p : Int) := Int.tdiv_eq_ediv_of_nonneg (by omega)
  go_simp
set_option maxRecDepth 100000 in
set_option maxHeartbeats 16000000 in
theorem r29mix (rb ro rcap m n wb wo wcap p hb ho hcap q : Nat) (S : Nat → Value) (Lf : Nat → List Int) (a b : Nat → Int) (v : Value) (one : Int) (w : World)
    (hn : n ≤ 1000) (hm : m ≤ 100) (hp : 1 ≤ p) (hp2 : p ≤ 100) (hq2 : q ≤ 100) (hpq : m ≤ p * q) (ha : ∀ i, I64 (a i)) (hbb : ∀ i, I64 (b i)) (hW : ∀ k i, i ≤ m → Wd 400 (mixS (fun i => a (i % p) * b (i / p)) Lf k i)) (h1 : 1 ≤ one) (hone : Wd 400 one) (hv : BR w v one)
    (hR : rb < w.heap.size) (cR : ∀ i, i < m → w.cell? ⟨rb, ro + i, none⟩ = some (S i)) (hS : ∀ i, i < m → BS w (S i) (Lf i))
    (hA : wb < w.heap.size) (cA : ∀ i, i < p → w.cell? ⟨wb, wo + i, none⟩ = some (.int .i64 (a i))) (hB : hb < w.heap.size) (cB : ∀ i, i < q → w.cell? ⟨hb, ho + i, none⟩ = some (.int .i64 (b i))) :
    Calls Try.prog 45 #[.slice (some ⟨rb, ro, none⟩) m rcap, .int .i64 (n : Int), .slice (some ⟨wb, wo, none⟩) p wcap, .slice (some ⟨hb, ho, none⟩) q hcap, v] w fun e w' => ∃ r, e = .returned r ∧ Below w.heap.size w w' ∧
      BS w' r ((List.range n).map fun k => byteI (mixS (fun i => a (i % p) * b (i / p)) Lf k m) one) := by
  obtain ⟨A, no, capo, rfl, -⟩ := id hv.form
  obtain ⟨i0, hi0, hz0, hz1, hz2⟩ := info_parts info_u8s
  have KR := Lib.hid (fun i (h : i < m) (w9 : World) (hb9 : Below w.heap.size w w9) => (hb9.cell (p := ⟨rb, ro + i, none⟩) hR).trans (cR i h))
  have KS := Lib.hid (fun i (h : i < m) (w9 : World) (hb9 : Below w.heap.size w w9) => (hS i h).below hb9)
  have KA := Lib.hid (fun i (h : i < p) (w9 : World) (hb9 : Below w.heap.size w w9) => (hb9.cell (p := ⟨wb, wo + i, none⟩) hA).trans (cA i h))
  have KB := Lib.hid (fun i (h : i < q) (w9 : World) (hb9 : Below w.heap.size w w9) => (hb9.cell (p := ⟨hb, ho + i, none⟩) hB).trans (cB i h))
  have OZ := Lib.hid (fun w => of_any 0 ⟨by omega, by omega⟩ w)
  have HA := Lib.hid ha; have HBb := Lib.hid hbb
  have HW := Lib.hid hW; have H1 := Lib.hid h1; have HO1 := Lib.hid hone
  have hv := Lib.hid hv
  have MS : Hid (∀ k i, mixS (fun i => a (i % p) * b (i / p)) Lf k (i + 1) = mixS (fun i => a (i % p) * b (i / p)) Lf k i + a (i % p) * b (i / p) * (Lf i).getD k 0) := fun _ _ => rfl
  have MZ : Hid (∀ k, mixS (fun i => a (i % p) * b (i / p)) Lf k 0 = 0) := fun _ => rfl
  clear cR hS hA cA hB cB ha hbb hW h1 hone
  generalize mixS (fun i => a (i % p) * b (i / p)) Lf = M at *
  go_enter Try.func45, Try.ntmps45
  go_wp2_with fail
  have BB := start1 w #[.bool (sgn one), .slice A no capo] BT
  obtain ⟨BB, hsz, r_one⟩ := BB
  generalize (w.alloc (.cells #[.bool (sgn one), .slice A no capo] BT)) = w0 at *
  replace BB := Lib.hid BB
  replace r_one := Lib.hid r_one
  clear hsz
  have h_one := Lib.hid (hv.out.below BB.out)
  go_wp2_with fail
  go_loopw [11, 12, 13, 14, 15] (fun v i _ _ _ wr => ∃ (k : Nat) (os : List Int), k ≤ n ∧ i = .int .i64 k ∧ Hid (os = (List.range k).map (fun k => byteI (M k m) one) ∧ wr.ownsRow (w.heap.size + 1) 5 1 v os.length (os.map (Value.int .u8)) ∧ AtB wr w.heap.size #[.bool (sgn one), .slice A no capo] BT ∧ BR wr (.agg #[.bool (sgn one), .slice A no capo]) one ∧ Below w.heap.size w wr)) (fun _ i _ _ _ _ => n - (intOf i).toNat)
  case atStart => exact ⟨0, [], by omega, rfl, ⟨rfl, World.ownsRow_nil _ _ _ _, r_one.out, h_one.out, BB.out⟩⟩
  case round =>
    clear r_one h_one BB
    obtain ⟨k, os, hk, rfl, hinv⟩ := hrel
    obtain ⟨hos, hown, r_one, h_one, BB⟩ := hinv.out
    replace hos := Lib.hid hos; replace r_one := Lib.hid r_one; replace h_one := Lib.hid h_one; replace BB := Lib.hid BB
    have h_own := Lib.hid hown
    clear hinv hown
    have hol : os.length = k := by rw [hos.out]; simp
    by_cases hlt : k < n
    · have k0 : (0 : Int) ≤ (k : Int) := by omega
      have k1 : (k : Int) < (n : Int) := by omega
      go_wp2_with fail
      refine (OZ.out _).mono ?_
      rintro e w1 ⟨v_sum, rfl, hb, h_sum⟩
      obtain ⟨A_sum, n_sum, cap_sum, rfl, -⟩ := id h_sum.form
      replace h_sum := Lib.hid h_sum
      replace r_one := Lib.hid (r_one.out.keep hb)
      replace h_one := Lib.hid (h_one.out.below hb)
      replace h_own := Lib.hid (own_keep h_own.out hb)
      replace BB := Lib.hid (below_next BB.out hb)
      clear hb
      go_wp2_with fail
      have d_sum := Lib.hid (And.intro BB.out.size (And.intro r_one.out.lt (True.intro)))
      obtain ⟨hb, r_sum⟩ := laid w1 #[.bool (sgn (0)), .slice A_sum n_sum cap_sum] 38
      replace r_one := Lib.hid (r_one.out.keep hb)
      replace h_one := Lib.hid (h_one.out.below hb)
      replace h_sum := Lib.hid (h_sum.out.below hb)
      replace h_own := Lib.hid (own_keep h_own.out hb)
      replace BB := Lib.hid (below_next BB.out hb)
      replace r_sum := Lib.hid r_sum
      clear hb
      generalize w1.alloc (.cells #[.bool (sgn (0)), .slice A_sum n_sum cap_sum] 38) = w2 at *
      generalize w1.heap.size = g_sum at *
      go_wp2_with fail
      have hsg : w.heap.size + 1 ≤ g_sum := by have := d_sum.out; have := r_one.out.lt; omega
      go_loopw [14, 15] (fun i _ wr => ∃ j : Nat, j ≤ m ∧ i = .int .i64 j ∧ Hid (PowAt wr g_sum (M k j) ∧ wr.ownsRow (w.heap.size + 1) 5 1 u11 os.length (os.map (Value.int .u8)) ∧ AtB wr w.heap.size #[.bool (sgn one), .slice A no capo] BT ∧ BR wr (.agg #[.bool (sgn one), .slice A no capo]) one ∧ Below w.heap.size w wr)) (fun i _ _ => m - (intOf i).toNat)
      case atStart => exact ⟨0, by omega, rfl, ⟨by rw [MZ.out k]; exact ⟨_, _, _, r_sum.out, h_sum.out⟩, h_own.out, r_one.out, h_one.out, BB.out⟩⟩
      case round =>
        clear r_sum h_sum h_own r_one h_one BB
        obtain ⟨j, hj, rfl, hinv⟩ := hrel
        obtain ⟨⟨A1, m1, cap1, r_sum, h_sum⟩, h_own, r_one, h_one, BB⟩ := hinv.out
        replace BB := Lib.hid BB
        replace r_sum := Lib.hid r_sum; replace r_one := Lib.hid r_one; replace h_sum := Lib.hid h_sum; replace h_one := Lib.hid h_one; replace h_own := Lib.hid h_own
        clear hinv
        by_cases hjm : j < m
        · have j0 : (0 : Int) ≤ (j : Int) := by omega
          have j1 : (j : Int) < (m : Int) := by omega
          have es := MS.out k j
          have wd0 := HW.out k j (by omega)
          have wd1 := HW.out k (j + 1) (by omega)
          have hSj := KS.out j hjm w (Below.refl _ _)
          have bz := hSj.bytes k
          have KRj := Lib.hid (KR.out j hjm)
          have hx : j % p < p := Nat.mod_lt _ (by omega)
          have hy : j / p < q := Nat.div_lt_of_lt_mul (by omega)
          have KAj := Lib.hid (KA.out (j % p) hx)
          have KBj := Lib.hid (KB.out (j / p) hy)
          have er := rem_nat j p
          have eq := tdiv_nat j p
          have hp0n : ¬ p = 0 := by omega
          have ix := HA.out (j % p)
          have iy := HBb.out (j / p)
          have hp0 : ¬ (p : Int) = 0 := by omega
          generalize j % p = x at *
          generalize j / p = y at *
          have ey : IntKind.i64.wrap (y : Int) = (y : Int) := iw (by omega)
          have x0 : (0 : Int) ≤ (x : Int) := by omega
          have x1 : (x : Int) < (p : Int) := by omega
          have y0 : (0 : Int) ≤ (y : Int) := by omega
          have y1 : (y : Int) < (q : Int) := by omega
          generalize S j = sj at *
          by_cases hkl : k < (Lf j).length
          · obtain ⟨sb, so, scap, rfl, s1, s2, s3, s4⟩ := hSj.some (fun e => by rw [e] at hkl; simp at hkl)
            have KZ := Lib.hid (fun (w9 : World) (hb9 : Below w.heap.size w w9) => (hb9.cell (p := ⟨sb, so + k, none⟩) s3).trans (s4 k hkl))
            generalize (Lf j).length = ls at *
            have kl : (k : Int) < (ls : Int) := by omega
            clear s1 s2 s4 hSj
            generalize (Lf j).getD k 0 = z at *
            generalize a x = xa at *
            generalize b y = yb at *
            generalize hE : M k (j + 1) = E at *
            replace hE := Lib.hid hE
            generalize M k j = D at *
            have wz : Wd 63 z := i64_wd ⟨by omega, by omega⟩
            have m1' := (i64_wd ix).mul (i64_wd iy)
            have m2' := m1'.mul wz
            have O1 := Lib.hid (fun w => of_any xa ix w)
            have O2 := Lib.hid (fun w => of_any yb iy w)
            have O3 := Lib.hid (fun w => of_any z ⟨by omega, by omega⟩ w)
            have M1 := Lib.hid (fun (u v : Value) w (hu : BR w u xa) (hv : BR w v yb) => mul_any u v xa yb w hu hv ((i64_wd ix).mid (by omega)) ((i64_wd iy).mid (by omega)))
            have M3 := Lib.hid (fun (u v : Value) w (hu : BR w u (xa * yb)) (hv : BR w v z) => mul_any u v (xa * yb) z w hu hv (m1'.mid (by omega)) (wz.mid (by omega)))
            have A3 := Lib.hid (fun (u v : Value) w (hu : BR w u D) (hv : BR w v (xa * yb * z)) => add_any u v D (xa * yb * z) w hu hv (wd0.mid (by omega)) (m2'.mid (by omega)))
            clear ix iy wd0 wd1 m1' m2' wz
            rw [← es] at A3
            generalize xa * yb * z = Pz at *
            generalize xa * yb = Wt at *
            clear es
            have iz : IntKind.i64.wrap z = z := iw (by omega)
            clear KR KS KA KB OZ HA HBb HW HO1 MS MZ
            have cr := KRj.out _ BB.out
            have hrb := Nat.lt_of_lt_of_le hR BB.out.size
            go_wp2_with fail
            go_cut [15] (fun s5 wc1 => ∃ gp A3 n3 c3, s5 = .pointer (some ⟨gp, 0, none⟩) ∧ Hid (AtB wc1 gp #[.bool (sgn (Wt)), .slice A3 n3 c3] 38 ∧ BR wc1 (.agg #[.bool (sgn (Wt)), .slice A3 n3 c3]) (Wt) ∧ Below wr.heap.size wr wc1 ∧ wr.heap.size ≤ gp))
            case first =>
              clear O3 M3 A3
              have KK := Lib.hid (fun (w9 : World) (h : Below wr.heap.size wr w9) => (⟨KAj.out _ (below_next BB.out h), KBj.out _ (below_next BB.out h)⟩ : (w9.cell? ⟨wb, wo + x, none⟩ = some (.int .i64 xa)) ∧ (w9.cell? ⟨hb, ho + y, none⟩ = some (.int .i64 yb))))
              have K0 := KK.out wr (Below.refl _ _)
              have KD := KK.out wr.drew (below_drew (Below.refl _ _))
              have tok0 : Hid True := trivial
              have tok1 : Hid True := trivial
              go_region_held3 (fun w9 => (w9.cell? ⟨wb, wo + x, none⟩ = some (.int .i64 xa)) ∧ (w9.cell? ⟨hb, ho + y, none⟩ = some (.int .i64 yb)))
                  (first | with_reducible exact KD | with_reducible exact K0 | with_reducible exact K_w3 | with_reducible exact K_w4 | with_reducible exact K_w5 | (refine KK.out _ ?_; repeat' (first | with_reducible exact Below.refl _ _ | with_reducible exact B_w3.out | with_reducible exact B_w4.out | with_reducible exact B_w5.out | with_reducible apply below_new | with_reducible apply below_drew | with_reducible apply below_set | omega)))
                  (first
                    | (go_at_call 19
                       have t_k := tok0
                       refine (O1.out _).mono ?_
                       rintro e w3 ⟨v_e, rfl, hb, h_e⟩
                       obtain ⟨A_e, n_e, cap_e, rfl, -⟩ := id h_e.form
                       replace h_e := Lib.hid h_e
                       have B_w3 := Lib.hid (reg_next (w0 := wr) (by repeat (first | with_reducible exact Below.refl _ _ | with_reducible apply below_drew | with_reducible apply below_new)) hb)
                       have K_w3 := KK.out _ B_w3.out
                       obtain ⟨hc_w3, hf_w3⟩ := below_reads hb
                       have hz_w3 := hb.size
                       try simp at hz_w3
                       try (have z1_w3 := Nat.lt_of_succ_le hz_w3)
                       try (have z2_w3 := Nat.lt_of_succ_lt z1_w3)
                       have HB_w3 := Lib.hid hb
                       clear hb
                       clear t_k tok0)
                    | (go_at_call 19
                       have t_k := tok1
                       refine (O2.out _).mono ?_
                       rintro e w4 ⟨v_f, rfl, hb, h_f⟩
                       obtain ⟨A_f, n_f, cap_f, rfl, -⟩ := id h_f.form
                       replace h_f := Lib.hid h_f
                       replace h_e := Lib.hid (h_e.out.below (below_next (by repeat (first | with_reducible exact Below.refl _ _ | with_reducible apply below_new | with_reducible apply below_drew)) hb))
                       have B_w4 := Lib.hid (below_next (by repeat (first | with_reducible exact B_w3.out | with_reducible apply below_new | with_reducible apply below_drew)) hb)
                       have K_w4 := KK.out _ B_w4.out
                       obtain ⟨hc_w4, hf_w4⟩ := below_reads hb
                       have hz_w4 := hb.size
                       try simp at hz_w4
                       try (have z1_w4 := Nat.lt_of_succ_le hz_w4)
                       try (have z2_w4 := Nat.lt_of_succ_lt z1_w4)
                       have HB_w4 := Lib.hid hb
                       have y_w4_w3 := Nat.le_trans HB_w3.out.size (Nat.le_trans (by (try simp only [World.size_alloc]); omega) hb.size)
                       try simp at y_w4_w3
                       try (have z3_w4_w3 := Nat.lt_of_succ_le y_w4_w3)
                       try (have z4_w4_w3 := Nat.lt_of_succ_lt z3_w4_w3)
                       clear hb
                       clear t_k tok1)
                    | (go_at_call 21
                       refine (M1.out _ _ _ (h_e.out.below ?_) (h_f.out.below ?_)).mono ?_
                       · repeat (first | with_reducible exact Below.refl _ _ | with_reducible exact B_w4.out | with_reducible apply below_drew | with_reducible apply below_new)
                       · repeat (first | with_reducible exact Below.refl _ _ | with_reducible exact B_w4.out | with_reducible apply below_drew | with_reducible apply below_new)
                       rintro e w5 ⟨v_t, rfl, hb, h_t⟩
                       obtain ⟨A_t, n_t, cap_t, rfl, -⟩ := id h_t.form
                       replace h_t := Lib.hid h_t
                       replace h_e := Lib.hid (h_e.out.below (below_next (by repeat (first | with_reducible exact Below.refl _ _ | with_reducible apply below_new | with_reducible apply below_drew)) hb))
                       replace h_f := Lib.hid (h_f.out.below (below_next (by repeat (first | with_reducible exact Below.refl _ _ | with_reducible apply below_new | with_reducible apply below_drew)) hb))
                       have B_w5 := Lib.hid (below_next (by repeat (first | with_reducible exact B_w4.out | with_reducible apply below_new | with_reducible apply below_drew)) hb)
                       have K_w5 := KK.out _ B_w5.out
                       obtain ⟨hc_w5, hf_w5⟩ := below_reads hb
                       have hz_w5 := hb.size
                       try simp at hz_w5
                       try (have z1_w5 := Nat.lt_of_succ_le hz_w5)
                       try (have z2_w5 := Nat.lt_of_succ_lt z1_w5)
                       have HB_w5 := Lib.hid hb
                       have y_w5_w3 := Nat.le_trans HB_w3.out.size (Nat.le_trans (by (try simp only [World.size_alloc]); omega) hb.size)
                       try simp at y_w5_w3
                       try (have z3_w5_w3 := Nat.lt_of_succ_le y_w5_w3)
                       try (have z4_w5_w3 := Nat.lt_of_succ_lt z3_w5_w3)
                       have y_w5_w4 := Nat.le_trans HB_w4.out.size (Nat.le_trans (by (try simp only [World.size_alloc]); omega) hb.size)
                       try simp at y_w5_w4
                       try (have z3_w5_w4 := Nat.lt_of_succ_le y_w5_w4)
                       try (have z4_w5_w4 := Nat.lt_of_succ_lt z3_w5_w4)
                       clear hb))
              all_goals clear KK K0 KD K_w3 K_w4 K_w5
              all_goals go_wp2_with fail
              all_goals go_meet
              all_goals refine ⟨_, A_t, n_t, cap_t, rfl, ⟨?_, ?_, ?_, ?_⟩⟩
              all_goals repeat' (first | with_reducible exact h_t.out | with_reducible exact B_w3.out | with_reducible exact B_w4.out | with_reducible exact B_w5.out | with_reducible exact Below.refl _ _ | with_reducible apply below_new | with_reducible apply below_drew | (with_reducible refine below_set ?_ ?_ _) | (with_reducible refine AtB.set2 (a := .bool false) (b := .slice none 0 0) (T := 38) ?_ _ _) | (with_reducible refine AtB.set2 (a := .int .i64 0) (b := .int .u64 0) (T := 125) ?_ _ _) | (with_reducible refine AtB.far2 ?_ ?_ _ _) | (with_reducible refine BR.alloc ?_ _) | (with_reducible refine BR.far2 (a := .bool false) (b := .slice none 0 0) (T := 38) ?_ ?_ (by decide) _ _) | (with_reducible refine new_at_eq ?_ _ _; first | rfl | (simp; done)) | (with_reducible refine AtB.alloc ?_ _) | with_reducible apply AtB.drew | (with_reducible refine AtB.keep ?_ HB_w5.out) | (with_reducible refine AtB.keep ?_ HB_w4.out) | (with_reducible refine AtB.keep ?_ HB_w3.out) | omega)
            clear O1 O2 M1
            obtain ⟨wc1, rfl⟩ : ∃ wo : World, wo = wc := ⟨_, rfl⟩
            obtain ⟨g_t, A_t, n_t, cap_t, rfl, hcut⟩ := hcut
            obtain ⟨r_t, h_t, hb, hge⟩ := hcut.out
            clear hcut
            replace r_t := Lib.hid r_t; replace h_t := Lib.hid h_t
            have d_t := Lib.hid (And.intro (Nat.le_trans BB.out.size hge) (And.intro (Nat.lt_of_lt_of_le r_sum.out.lt hge) (And.intro (Nat.lt_of_lt_of_le r_one.out.lt hge) (True.intro))))
            replace r_sum := Lib.hid (r_sum.out.keep hb)
            replace r_one := Lib.hid (r_one.out.keep hb)
            replace h_sum := Lib.hid (h_sum.out.below hb)
            replace h_one := Lib.hid (h_one.out.below hb)
            replace h_own := Lib.hid (own_keep h_own.out hb)
            replace BB := Lib.hid (below_next BB.out hb)
            clear hb hge
            go_wp2_with fail
            have KK := Lib.hid (fun (w9 : World) (h : Below wc1.heap.size wc1 w9) => (⟨cells2 (r_sum.out.keep h), cells2 (r_t.out.keep h), KRj.out _ (below_next BB.out h), KZ.out _ (below_next BB.out h)⟩ : (w9.cell? ⟨g_sum, 0, none⟩ = some (.bool (sgn D)) ∧ w9.cell? ⟨g_sum, 1, none⟩ = some (.slice A1 m1 cap1)) ∧ (w9.cell? ⟨g_t, 0, none⟩ = some (.bool (sgn (Wt))) ∧ w9.cell? ⟨g_t, 1, none⟩ = some (.slice A_t n_t cap_t)) ∧ (w9.cell? ⟨rb, ro + j, none⟩ = some (.slice (some ⟨sb, so, none⟩) ls scap)) ∧ (w9.cell? ⟨sb, so + k, none⟩ = some (.int .u8 z))))
            have K0 := KK.out wc1 (Below.refl _ _)
            have KD := KK.out wc1.drew (below_drew (Below.refl _ _))
            refine AnyG.begin_ (fun w9 => (w9.cell? ⟨g_sum, 0, none⟩ = some (.bool (sgn D)) ∧ w9.cell? ⟨g_sum, 1, none⟩ = some (.slice A1 m1 cap1)) ∧ (w9.cell? ⟨g_t, 0, none⟩ = some (.bool (sgn (Wt))) ∧ w9.cell? ⟨g_t, 1, none⟩ = some (.slice A_t n_t cap_t)) ∧ (w9.cell? ⟨rb, ro + j, none⟩ = some (.slice (some ⟨sb, so, none⟩) ls scap)) ∧ (w9.cell? ⟨sb, so + k, none⟩ = some (.int .u8 z))) 13 (by kernel_rfl) ?_
            refine AnyG.take (i := 0) (v := ?_) rfl (by kernel_rfl) (by kernel_rfl) (by kernel_rfl) (fun _ _ _ h => h) (by kernel_rfl) (by kernel_rfl) (Or.inl ⟨by rfl, ?_⟩) (by assumption) ?_
            rotate_left
            · intro w9 hSw; (try dsimp only at hSw); go_simp <;> with_reducible rfl
            try simp only [Act.put, List.getElem_toArray, List.getElem_cons_zero, List.getElem_cons_succ, List.setIfInBounds_toArray, List.set_cons_zero, List.set_cons_succ]
            refine AnyG.take (i := 1) (v := ?_) rfl (by kernel_rfl) (by kernel_rfl) (by kernel_rfl) (fun _ _ _ h => h) (by kernel_rfl) (by kernel_rfl) (Or.inl ⟨by rfl, ?_⟩) (by assumption) ?_
            rotate_left
            · intro w9 hSw; (try dsimp only at hSw); go_simp <;> with_reducible rfl
            try simp only [Act.put, List.getElem_toArray, List.getElem_cons_zero, List.getElem_cons_succ, List.setIfInBounds_toArray, List.set_cons_zero, List.set_cons_succ]
            refine AnyG.take (i := 2) (v := ?_) rfl (by kernel_rfl) (by kernel_rfl) (by kernel_rfl) (fun _ _ _ h => h) (by kernel_rfl) (by kernel_rfl) (Or.inl ⟨by rfl, ?_⟩) (by assumption) ?_
            rotate_left
            · intro w9 hSw; (try dsimp only at hSw); go_simp <;> with_reducible rfl
            try simp only [Act.put, List.getElem_toArray, List.getElem_cons_zero, List.getElem_cons_succ, List.setIfInBounds_toArray, List.set_cons_zero, List.set_cons_succ]
            refine AnyG.take (i := 3) (v := ?_) rfl (by kernel_rfl) (by kernel_rfl) (by kernel_rfl) (fun _ _ _ h => h) (by kernel_rfl) (by kernel_rfl) (Or.inl ⟨by rfl, ?_⟩) (by assumption) ?_
            rotate_left
            · intro w9 hSw; (try dsimp only at hSw); go_simp <;> with_reducible rfl
            try simp only [Act.put, List.getElem_toArray, List.getElem_cons_zero, List.getElem_cons_succ, List.setIfInBounds_toArray, List.set_cons_zero, List.set_cons_succ]
            refine AnyG.take (i := 4) (v := ?_) rfl (by kernel_rfl) (by kernel_rfl) (by kernel_rfl) (fun _ _ _ h => h) (by kernel_rfl) (by kernel_rfl) (Or.inl ⟨by rfl, ?_⟩) (by assumption) ?_
            rotate_left
            · intro w9 hSw; (try dsimp only at hSw); go_simp <;> with_reducible rfl
            try simp only [Act.put, List.getElem_toArray, List.getElem_cons_zero, List.getElem_cons_succ, List.setIfInBounds_toArray, List.set_cons_zero, List.set_cons_succ]
            refine AnyG.take (i := 5) (v := ?_) rfl (by kernel_rfl) (by kernel_rfl) (by kernel_rfl) (fun _ _ _ h => h) (by kernel_rfl) (by kernel_rfl) (Or.inl ⟨by rfl, ?_⟩) (by assumption) ?_
            rotate_left
            · intro w9 hSw; (try dsimp only at hSw); go_simp <;> with_reducible rfl
            try simp only [Act.put, List.getElem_toArray, List.getElem_cons_zero, List.getElem_cons_succ, List.setIfInBounds_toArray, List.set_cons_zero, List.set_cons_succ]
            refine AnyG.take (i := 6) (v := ?_) rfl (by kernel_rfl) (by kernel_rfl) (by kernel_rfl) (fun _ _ _ h => h) (by kernel_rfl) (by kernel_rfl) (Or.inl ⟨by rfl, ?_⟩) (by assumption) ?_
            rotate_left
            · intro w9 hSw; (try dsimp only at hSw); go_simp <;> with_reducible rfl
            try simp only [Act.put, List.getElem_toArray, List.getElem_cons_zero, List.getElem_cons_succ, List.setIfInBounds_toArray, List.set_cons_zero, List.set_cons_succ]
            refine AnyG.take (i := 7) (v := ?_) rfl (by kernel_rfl) (by kernel_rfl) (by kernel_rfl) (fun _ _ _ h => h) (by kernel_rfl) (by kernel_rfl) (Or.inl ⟨by rfl, ?_⟩) (by assumption) ?_
            rotate_left
            · intro w9 hSw; (try dsimp only at hSw); go_simp <;> with_reducible rfl
            try simp only [Act.put, List.getElem_toArray, List.getElem_cons_zero, List.getElem_cons_succ, List.setIfInBounds_toArray, List.set_cons_zero, List.set_cons_succ]
            refine AnyG.take (i := 8) (v := ?_) rfl (by kernel_rfl) (by kernel_rfl) (by kernel_rfl) (fun _ _ _ h => h) (by kernel_rfl) (by kernel_rfl) (Or.inl ⟨by rfl, ?_⟩) (by assumption) ?_
            rotate_left
            · intro w9 hSw; (try dsimp only at hSw); go_simp <;> with_reducible rfl
            try simp only [Act.put, List.getElem_toArray, List.getElem_cons_zero, List.getElem_cons_succ, List.setIfInBounds_toArray, List.set_cons_zero, List.set_cons_succ]
            refine AnyG.take (i := 9) (v := ?_) rfl (by kernel_rfl) (by kernel_rfl) (by kernel_rfl) (fun _ _ _ h => h) (by kernel_rfl) (by kernel_rfl) (Or.inl ⟨by rfl, ?_⟩) (by assumption) ?_
            rotate_left
            · intro w9 hSw; (try dsimp only at hSw); go_simp <;> with_reducible rfl
            try simp only [Act.put, List.getElem_toArray, List.getElem_cons_zero, List.getElem_cons_succ, List.setIfInBounds_toArray, List.set_cons_zero, List.set_cons_succ]
            refine AnyG.step (i := 10) (by kernel_rfl) rfl (fun K hK => ?_)
            go_simp
            go_at_call 19
            refine (O3.out _).mono ?_
            rintro e w6 ⟨v_p, rfl, hb, h_p⟩
            obtain ⟨A_p, n_p, cap_p, rfl, -⟩ := id h_p.form
            replace h_p := Lib.hid h_p
            have B_w6 := Lib.hid (reg_next (w0 := wc1) (by repeat (first | with_reducible exact Below.refl _ _ | with_reducible apply below_drew | with_reducible apply below_new)) hb)
            have K_w6 := KK.out _ B_w6.out
            clear hb
            refine hK.out _ _ (fun _ => K_w6) (fun hHeld => ?_)
            replace hHeld := hHeld (by decide)
            clear hK
            try simp only [Act.put, List.getElem_toArray, List.getElem_cons_zero, List.getElem_cons_succ, List.setIfInBounds_toArray, List.set_cons_zero, List.set_cons_succ]
            refine AnyG.step (i := 11) (by kernel_rfl) rfl (fun K hK => ?_)
            go_simp
            go_at_call 21
            refine (M3.out _ _ _ (h_t.out.below B_w6.out) h_p.out).mono ?_
            rintro e w7 ⟨v_q, rfl, hb, h_q⟩
            obtain ⟨A_q, n_q, cap_q, rfl, -⟩ := id h_q.form
            replace h_q := Lib.hid h_q
            replace h_p := Lib.hid (h_p.out.below hb)
            have B_w7 := Lib.hid (below_next B_w6.out hb)
            have K_w7 := KK.out _ B_w7.out
            clear hb
            refine hK.out _ _ (fun _ => K_w7) (fun hHeld => ?_)
            replace hHeld := hHeld (by decide)
            clear hK
            try simp only [Act.put, List.getElem_toArray, List.getElem_cons_zero, List.getElem_cons_succ, List.setIfInBounds_toArray, List.set_cons_zero, List.set_cons_succ]
            refine AnyG.step (i := 12) (by kernel_rfl) rfl (fun K hK => ?_)
            go_simp
            go_at_call 20
            refine (A3.out _ _ _ (h_sum.out.below B_w7.out) h_q.out).mono ?_
            rintro e w8 ⟨v_s, rfl, hb, h_s⟩
            obtain ⟨A_s, n_s, cap_s, rfl, -⟩ := id h_s.form
            replace h_s := Lib.hid h_s
            replace h_p := Lib.hid (h_p.out.below hb)
            replace h_q := Lib.hid (h_q.out.below hb)
            have B_w8 := Lib.hid (below_next B_w7.out hb)
            have K_w8 := KK.out _ B_w8.out
            obtain ⟨rc_sum0, rc_sum1, rf_sum0, rf_sum1⟩ := reads2 (r_sum.out.keep B_w8.out)
            have rl_sum := (r_sum.out.keep B_w8.out).lt
            clear hb
            refine hK.out _ _ (fun _ => K_w8) (fun hHeld => ?_)
            replace hHeld := hHeld (by decide)
            clear hK
            try simp only [Act.put, List.getElem_toArray, List.getElem_cons_zero, List.getElem_cons_succ, List.setIfInBounds_toArray, List.set_cons_zero, List.set_cons_succ]
            refine AnyG.step (i := 13) (by kernel_rfl) rfl (fun K hK => ?_)
            go_simp
            refine hK.out _ _ (fun h => absurd h (by decide)) (fun _ => ?_)
            clear hK
            try simp only [Act.put, List.getElem_toArray, List.getElem_cons_zero, List.getElem_cons_succ, List.setIfInBounds_toArray, List.set_cons_zero, List.set_cons_succ]
            refine AnyG.done (by kernel_rfl) ?_ _
            clear KK K0 KD K_w6 K_w7 K_w8
            replace r_sum := Lib.hid (r_sum.out.keep B_w8.out)
            replace r_one := Lib.hid (r_one.out.keep B_w8.out)
            replace r_t := Lib.hid (r_t.out.keep B_w8.out)
            replace h_sum := Lib.hid (h_sum.out.below B_w8.out)
            replace h_one := Lib.hid (h_one.out.below B_w8.out)
            replace h_t := Lib.hid (h_t.out.below B_w8.out)
            replace h_own := Lib.hid (own_keep h_own.out B_w8.out)
            replace BB := Lib.hid (below_next BB.out B_w8.out)
            clear B_w6 B_w7 B_w8
            go_wp2_with fail
            go_roundw
            case rel => exact ⟨j + 1, by omega, by go_num, ⟨by rw [hE.out]; exact ⟨_, _, _, r_sum.out.set2 _ _, h_s.out.far2 r_sum.out (by decide) _ _⟩, own_far2 h_own.out r_sum.out (by decide) _ _, r_one.out.far2 (by omega) _ _, h_one.out.far2 r_sum.out (by decide) _ _, below_far2 BB.out (by omega) _ _⟩⟩
            case measure => simp [intOf]; omega
          · obtain ⟨sA, scap, rfl⟩ := hSj.form
            have kl : ¬ (k : Int) < ((Lf j).length : Int) := by omega
            have zz : (Lf j).getD k 0 = 0 := by rw [List.getD_eq_getElem?_getD, List.getElem?_eq_none (by omega)]; rfl
            rw [zz, Int.mul_zero, Int.add_zero] at es
            clear hSj bz
            have cr := KRj.out _ BB.out
            have hrb := Nat.lt_of_lt_of_le hR BB.out.size
            go_wp2_with fail
            go_roundw
            case rel => exact ⟨j + 1, by omega, by go_num, ⟨by rw [es]; exact ⟨_, _, _, r_sum.out, h_sum.out⟩, h_own.out, r_one.out, h_one.out, BB.out⟩⟩
            case measure => simp [intOf]; omega
        · obtain rfl : j = m := by omega
          have wdm := HW.out k j (Nat.le_refl _)
          have h1 := H1.out
          have hone := HO1.out
          have CB := Lib.hid (fun (u v : Value) w (hu : BR w u (M k j)) (hv : BR w v one) => r27byte u v (M k j) one w hu hv (wdm.up (by omega)) (hone.up (by omega)) h1)
          have HF : Hid ((os ++ [byteI (M k j) one]) = (List.range (k + 1)).map (fun k => byteI (M k j) one)) := by
            show _ = _
            rw [List.range_succ, List.map_append, hos.out]; rfl
          generalize hz : byteI (M k j) one = z at *
          clear KR KS KA KB OZ HA HBb HW HO1 MS MZ wdm h1 hone hz
          generalize M k j = D at *
          obtain ⟨c_sum0, c_sum1, f_sum0, f_sum1⟩ := reads2 r_sum.out
          have l_sum := r_sum.out.lt
          obtain ⟨c_one0, c_one1, f_one0, f_one1⟩ := reads2 r_one.out
          have l_one := r_one.out.lt
          go_wp2_with fail
          refine (CB.out _ _ _ h_sum.out h_one.out).mono ?_
          rintro e w10 ⟨rfl, hb⟩
          clear c_sum0 c_sum1 f_sum0 f_sum1 l_sum c_one0 c_one1 f_one0 f_one1 l_one
          replace r_sum := Lib.hid (r_sum.out.keep hb)
          replace r_one := Lib.hid (r_one.out.keep hb)
          replace h_sum := Lib.hid (h_sum.out.below hb)
          replace h_one := Lib.hid (h_one.out.below hb)
          replace h_own := Lib.hid (own_keep h_own.out hb)
          replace BB := Lib.hid (below_next BB.out hb)
          clear hb
          have hns : w.heap.size + 1 ≤ w10.heap.size := r_one.out.lt
          go_wp2_with (first | (at_builtin; refine wpList_append_own _ rfl (.tmp 65) (.tmp 69) 33 rfl (w.heap.size + 1) 5 i0 (.int .u8 0) 1 1 Try.underlying33 hi0 hz0 hz1 hz2 rfl (by decide) _ _ _ rfl (h_own.out.alloc _) ⟨w10.heap.size, 0, none⟩ 1 1 [.int .u8 z] rfl rfl (one_new _ _ _) (one_cell _ _) (by unfold maxLen; omega) (by omega) (by simp; omega) ?_))
          intro v' w8 hown' hgrow _
          have HB1 := Lib.hid (below_app BB.out (own_mono h_own.out (by omega)) hgrow)
          have HO2 := Lib.hid (own_one_u8 (os := os) (by rw [hol]; exact hown'))
          have hrow := fun k hk => own_block_ge h_own.out k hk
          have r_one' := Lib.hid (at_app r_one.out hgrow (fun e => by have := hrow _ e.symm; omega))
          clear hown' hgrow hrow
          have h_one' := Lib.hid (hv.out.below HB1.out)
          go_wp2_with fail
          go_roundw
          case rel => exact ⟨k + 1, os ++ [z], by omega, by go_num, ⟨HF.out, HO2.out, r_one'.out, h_one'.out, HB1.out⟩⟩
          case measure => simp [intOf]; omega
    · obtain rfl : k = n := by omega
      go_wp2_with fail
      go_ret
      refine ⟨_, rfl, BB.out, ?_⟩
      rw [← hos.out]
      exact BS.of_own h_own.out (fun z hz => by
        rw [hos.out, List.mem_map] at hz
        obtain ⟨j, -, rfl⟩ := hz
        unfold byteI; split <;> omega)
end Go.Proofs.Ytnklbnphiokpiaa
