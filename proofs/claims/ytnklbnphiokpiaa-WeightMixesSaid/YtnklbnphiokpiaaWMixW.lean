/- The walk of WeightMixes. -/
import Derived.Test.YtnklbnphiokpiaaWeight
import Derived.Test.YtnklbnphiokpiaaWMixR
import Derived.Test.YtnklbnphiokpiaaBoxN
set_option linter.unusedVariables false
set_option linter.unusedSimpArgs false
namespace Go.Proofs.Ytnklbnphiokpiaa
open Go.RowKit
abbrev A3T : TypeId := 35

theorem dotN_in (f g : Nat → Int) (l : Nat) (hf : ∀ i, i < l → -281474976710656 ≤ f i ∧ f i ≤ 281474976710656) (hg : ∀ i, 0 ≤ g i ∧ g i ≤ 255) : ∀ k, k ≤ l → -(71776119061217280 * (k : Int)) ≤ dotN f g k ∧ dotN f g k ≤ 71776119061217280 * (k : Int)
  | 0, _ => by simp [dotN]
  | k + 1, h => by
    have ih := dotN_in f g l hf hg k (by omega)
    have m := mul_in (hf k (by omega)) (show -255 ≤ g k ∧ g k ≤ 255 by have := hg k; omega)
    have e : dotN f g (k + 1) = dotN f g k + f k * g k := rfl
    rw [e]
    generalize f k * g k = p at *
    omega


theorem mix_below {u v : Value} {z : Value} {w : World} (h : Calls Try.prog 18 #[u, v] w fun e w' => e = .returned z ∧ ∃ k, w' = w.drewN k) : Calls Try.prog 18 #[u, v] w fun e w' => e = .returned z ∧ Below w.heap.size w w' := by
  refine h.mono ?_
  rintro e w' ⟨rfl, k, rfl⟩
  exact ⟨rfl, below_drawn (Below.refl _ _) k⟩
set_option maxRecDepth 100000 in
set_option maxHeartbeats 16000000 in
theorem weightMixes_walk (A B : Option Addr) (n m uc vc : Nat) (f g : Nat → Int) (x0 x1 x2 : Int) (h0 : I64 x0) (h1 : I64 x1) (h2 : I64 x2) (hn : n ≤ 60) (hm : m ≤ 60) (hf' : ∀ i, I64 (f i)) (hg : ∀ i, 0 ≤ g i ∧ g i ≤ 255) (w : World)
    (hu : 0 < n → ∃ b off, A = some ⟨b, off, none⟩ ∧ b < w.heap.size ∧ ∀ i, i < n → w.cell? ⟨b, off + i, none⟩ = some (.int .i64 (f i)))
    (hv : 0 < m → ∃ b off, B = some ⟨b, off, none⟩ ∧ b < w.heap.size ∧ ∀ i, i < m → w.cell? ⟨b, off + i, none⟩ = some (.int .u8 (g i)))
    (hM : ∀ w1, Below w.heap.size w w1 → Calls Try.prog 18 #[.slice A n uc, .slice B m vc] w1 fun e w' => e = .returned (.int .i64 (wrap64 (dotN f g (min n m)))) ∧ ∃ k, w' = w1.drewN k) :
    Calls Try.prog 4 #[.slice A n uc, .slice B m vc, .agg #[.int .i64 x0, .int .i64 x1, .int .i64 x2]] w fun e w' => e = .returned (.bool true) ∧ Below w.heap.size w w' := by
  have HU := Lib.hid hu
  have HV := Lib.hid hv
  have HM := Lib.hid hM
  have HG := Lib.hid hg
  have HF := Lib.hid hf'
  have CA := Lib.hid (fun w => weight_alive w)
  have CB := Lib.hid (fun w => wbyte x0 x1 h0 h1 w)
  have S1 := Lib.hid (fun w => wsplit x2 w)
  have S2 := Lib.hid (fun w => rsplit x2 h2 w)
  have OZ := Lib.hid (fun w => of_any 0 ⟨by omega, by omega⟩ w)
  have CR := Lib.hid (fun (h : 1 ≤ x1) (u v : Value) w hu hv => r27byte u v x0 x1 w hu hv ((i64_wd h0).up (by omega)) ((i64_wd h1).up (by omega)) h)
  have OX0 := Lib.hid (fun w => of_any x0 h0 w)
  have OX1 := Lib.hid (fun w => of_any x1 h1 w)
  clear hu hv hM hg hf' h0 h1 h2
  generalize hx20 : x2 / 65536 = y0 at *
  generalize hx21 : x2 % 65536 = y1 at *
  clear hx20 hx21
  go_enter Try.func4, Try.ntmps4
  go_wp2_with fail
  have BB := start1 w #[.int .i64 x0, .int .i64 x1, .int .i64 x2] A3T
  obtain ⟨BB, hsz, r_x⟩ := BB
  generalize (w.alloc (.cells #[.int .i64 x0, .int .i64 x1, .int .i64 x2] A3T)) = w0 at *
  replace BB := Lib.hid BB
  replace r_x := Lib.hid r_x
  clear hsz
  have HI := Lib.hid (And.intro BB.out r_x.out)
  obtain ⟨l, hl⟩ : ∃ l, l = min n m := ⟨_, rfl⟩
  rw [← hl] at HM
  have l1 : l ≤ n := by omega
  have l2 : l ≤ m := by omega
  have HL : Hid (∀ k, k ≤ l → ¬ k < l → k = n ∨ k = m) := fun k h h' => by omega
  clear hl
  go_loop [8, 26] (fun _ i => ∃ k : Nat, k ≤ n ∧ i = .int .i64 k ∧ Hid (∀ j, j < k → -281474976710656 ≤ f j ∧ f j ≤ 281474976710656)) (fun _ i => n - (intOf i).toNat)
  case atStart => exact ⟨0, by omega, rfl, fun j h => absurd h (by omega)⟩
  case round =>
    obtain ⟨k, hk, rfl, hin⟩ := hrel
    by_cases hlt : k < n
    · obtain ⟨b, off, rfl, hb0, hc⟩ := HU.out (by omega)
      have c1 := (BB.out.cell (p := ⟨b, off + k, none⟩) hb0).trans (hc k hlt)
      have i1 : (k : Int) < (n : Int) := by omega
      have i0 : (0 : Int) ≤ (k : Int) := by omega
      have hfk := HF.out k
      have HK : Hid (∀ a, a = f k → -281474976710656 ≤ a ∧ a ≤ 281474976710656 → ∀ j, j < k + 1 → -281474976710656 ≤ f j ∧ f j ≤ 281474976710656) := fun a e ha j hj => by
        by_cases h : j < k
        · exact hin.out j h
        · obtain rfl : j = k := by omega
          rw [← e]; exact ha
      clear hc HU HV HM hin
      generalize hfe : f k = a at *
      replace hfe := Lib.hid hfe
      rcases dec_both (a < -281474976710656) with ⟨h1, d1⟩ | ⟨h1, d1⟩
      · go_wp2_with fail
        go_ret
        exact ⟨rfl, BB.out⟩
      · rcases dec_both (a > 281474976710656) with ⟨h2, d2⟩ | ⟨h2, d2⟩
        · go_wp2_with fail
          go_ret
          exact ⟨rfl, BB.out⟩
        · have HK2 := Lib.hid (HK.out a rfl (by omega))
          clear HK
          go_wp2_with fail
          go_round
          case rel => exact ⟨k + 1, by omega, by go_num, HK2.out⟩
          case measure => simp [intOf]; omega
    · obtain rfl : k = n := by omega
      have HB := Lib.hid (fun j h => dotN_in f g k hin.out HG.out j h)
      clear hin HI
      go_wp2_with fail
      refine (OZ.out _).mono ?_
      rintro e w1 ⟨v_sum, rfl, hb, h_sum⟩
      obtain ⟨A_sum, n_sum, cap_sum, rfl, -⟩ := id h_sum.form
      replace h_sum := Lib.hid h_sum
      replace r_x := Lib.hid (r_x.out.keep hb)
      replace BB := Lib.hid (below_next BB.out hb)
      clear hb
      go_wp2_with fail
      have d_sum := Lib.hid (And.intro BB.out.size (And.intro r_x.out.lt (True.intro)))
      obtain ⟨hb, r_sum⟩ := laid w1 #[.bool (sgn (0)), .slice A_sum n_sum cap_sum] 38
      replace r_x := Lib.hid (r_x.out.keep hb)
      replace h_sum := Lib.hid (h_sum.out.below hb)
      replace BB := Lib.hid (below_next BB.out hb)
      replace r_sum := Lib.hid r_sum
      clear hb
      generalize w1.alloc (.cells #[.bool (sgn (0)), .slice A_sum n_sum cap_sum] 38) = w2 at *
      generalize w1.heap.size = g_sum at *
      go_wp2_with fail
      go_loopw [10] (fun i wr => ∃ j : Nat, j ≤ l ∧ i = .int .i64 j ∧ Hid (PowAt wr g_sum (dotN f g j) ∧ AtB wr w.heap.size #[.int .i64 x0, .int .i64 x1, .int .i64 x2] A3T ∧ Below w.heap.size w wr)) (fun i _ => l - (intOf i).toNat)
      case atStart => exact ⟨0, by omega, rfl, ⟨⟨_, _, _, r_sum.out, h_sum.out⟩, r_x.out, BB.out⟩⟩
      case round =>
        obtain ⟨j, hj, rfl, hinv⟩ := hrel
        obtain ⟨⟨A1, m1, cap1, r_sum, h_sum⟩, r_x, BB⟩ := hinv.out
        replace BB := Lib.hid BB
        replace r_sum := Lib.hid r_sum; replace r_x := Lib.hid r_x; replace h_sum := Lib.hid h_sum
        clear hinv
        have hD := HB.out j (by omega)
        by_cases hjl : j < l
        · have hD1 := HB.out (j + 1) (by omega)
          have hs : dotN f g (j + 1) = dotN f g j + f j * g j := rfl
          rw [hs] at hD1
          replace hs := Lib.hid hs
          obtain ⟨b, off, rfl, hb0, hc⟩ := HU.out (by omega)
          obtain ⟨b', off', rfl, hb0', hc'⟩ := HV.out (by omega)
          have KU := Lib.hid (fun (w9 : World) (h : Below w.heap.size w w9) => (h.cell (p := ⟨b, off + j, none⟩) hb0).trans (hc j (by omega)))
          have KV := Lib.hid (fun (w9 : World) (h : Below w.heap.size w w9) => (h.cell (p := ⟨b', off' + j, none⟩) hb0').trans (hc' j (by omega)))
          have i0 : (0 : Int) ≤ (j : Int) := by omega
          have i1 : (j : Int) < (k : Int) := by omega
          have i2 : (j : Int) < (m : Int) := by omega
          have ia := HF.out j
          obtain ⟨g0, g1⟩ := HG.out j
          clear hc hc' HU HV HM HB HL
          generalize f j = a at *
          generalize g j = c at *
          generalize dotN f g j = D at *
          have m1' := (i64_wd ia).mul (i64_wd (show I64 c from ⟨by omega, by omega⟩))
          have wD : Wd 63 D := i64_wd ⟨by omega, by omega⟩
          have O1 := Lib.hid (fun w => of_any a ia w)
          have O2 := Lib.hid (fun w => of_any c ⟨by omega, by omega⟩ w)
          have M1 := Lib.hid (fun (u v : Value) w (hu : BR w u a) (hv : BR w v c) => mul_any u v a c w hu hv ((i64_wd ia).mid (by omega)) ((i64_wd (show I64 c from ⟨by omega, by omega⟩)).mid (by omega)))
          have M2 := Lib.hid (fun (u v : Value) w (hu : BR w u D) (hv : BR w v (a * c)) => add_any u v D (a * c) w hu hv (wD.mid (by omega)) (m1'.mid (by omega)))
          clear ia hD hD1 m1' wD
          generalize hE : D + a * c = E at *
          generalize a * c = P at *
          clear hE
          have ic : IntKind.i64.wrap c = c := iw (by omega)
          go_wp2_with fail
          have KK := Lib.hid (fun (w9 : World) (h : Below wr.heap.size wr w9) => (⟨cells2 (r_sum.out.keep h), KU.out _ (below_next BB.out h), KV.out _ (below_next BB.out h)⟩ : (w9.cell? ⟨g_sum, 0, none⟩ = some (.bool (sgn D)) ∧ w9.cell? ⟨g_sum, 1, none⟩ = some (.slice A1 m1 cap1)) ∧ (w9.cell? ⟨b, off + j, none⟩ = some (.int .i64 a)) ∧ (w9.cell? ⟨b', off' + j, none⟩ = some (.int .u8 c))))
          have K0 := KK.out wr (Below.refl _ _)
          have KD := KK.out wr.drew (below_drew (Below.refl _ _))
          have tok0 : Hid True := trivial
          have tok1 : Hid True := trivial
          refine AnyG.begin_ (fun w9 => (w9.cell? ⟨g_sum, 0, none⟩ = some (.bool (sgn D)) ∧ w9.cell? ⟨g_sum, 1, none⟩ = some (.slice A1 m1 cap1)) ∧ (w9.cell? ⟨b, off + j, none⟩ = some (.int .i64 a)) ∧ (w9.cell? ⟨b', off' + j, none⟩ = some (.int .u8 c))) 14 (by kernel_rfl) ?_
          refine AnyG.take (i := 0) (v := ?_) rfl (by kernel_rfl) (by kernel_rfl) (by kernel_rfl) (fun _ _ _ h => h) (by kernel_rfl) (by kernel_rfl) (Or.inl ⟨by rfl, ?_⟩) (by assumption) ?_
          rotate_left
          · intro w9 hSw; (try dsimp only at hSw); go_simp <;> with_reducible rfl
          try simp only [Act.put, List.getElem_toArray, List.getElem_cons_zero, List.getElem_cons_succ, List.setIfInBounds_toArray, List.set_cons_zero, List.set_cons_succ]
          refine AnyG.take (i := 1) (v := ?_) rfl (by kernel_rfl) (by kernel_rfl) (by kernel_rfl) (fun _ _ _ h => h) (by kernel_rfl) (by kernel_rfl) (Or.inl ⟨by rfl, ?_⟩) (by assumption) ?_
          rotate_left
          · intro w9 hSw; (try dsimp only at hSw); go_simp <;> with_reducible rfl
          try simp only [Act.put, List.getElem_toArray, List.getElem_cons_zero, List.getElem_cons_succ, List.setIfInBounds_toArray, List.set_cons_zero, List.set_cons_succ]
          refine AnyG.take (i := 2) (v := ?_) rfl (by kernel_rfl) (by kernel_rfl) (by kernel_rfl) (fun _ _ _ h => h) (by kernel_rfl) (by kernel_rfl) (Or.inl ⟨by rfl, ?_⟩) (by assumption) ?_
          rotate_left
          · intro w9 hSw; (try dsimp only at hSw); go_simp <;> with_reducible rfl
          try simp only [Act.put, List.getElem_toArray, List.getElem_cons_zero, List.getElem_cons_succ, List.setIfInBounds_toArray, List.set_cons_zero, List.set_cons_succ]
          refine AnyG.take (i := 3) (v := ?_) rfl (by kernel_rfl) (by kernel_rfl) (by kernel_rfl) (fun _ _ _ h => h) (by kernel_rfl) (by kernel_rfl) (Or.inl ⟨by rfl, ?_⟩) (by assumption) ?_
          rotate_left
          · intro w9 hSw; (try dsimp only at hSw); go_simp <;> with_reducible rfl
          try simp only [Act.put, List.getElem_toArray, List.getElem_cons_zero, List.getElem_cons_succ, List.setIfInBounds_toArray, List.set_cons_zero, List.set_cons_succ]
          refine AnyG.take (i := 4) (v := ?_) rfl (by kernel_rfl) (by kernel_rfl) (by kernel_rfl) (fun _ _ _ h => h) (by kernel_rfl) (by kernel_rfl) (Or.inl ⟨by rfl, ?_⟩) (by assumption) ?_
          rotate_left
          · intro w9 hSw; (try dsimp only at hSw); go_simp <;> with_reducible rfl
          try simp only [Act.put, List.getElem_toArray, List.getElem_cons_zero, List.getElem_cons_succ, List.setIfInBounds_toArray, List.set_cons_zero, List.set_cons_succ]
          refine AnyG.take (i := 6) (v := ?_) rfl (by kernel_rfl) (by kernel_rfl) (by kernel_rfl) (fun _ _ _ h => h) (by kernel_rfl) (by kernel_rfl) (Or.inl ⟨by rfl, ?_⟩) (by assumption) ?_
          rotate_left
          · intro w9 hSw; (try dsimp only at hSw); go_simp <;> with_reducible rfl
          try simp only [Act.put, List.getElem_toArray, List.getElem_cons_zero, List.getElem_cons_succ, List.setIfInBounds_toArray, List.set_cons_zero, List.set_cons_succ]
          refine AnyG.take (i := 7) (v := ?_) rfl (by kernel_rfl) (by kernel_rfl) (by kernel_rfl) (fun _ _ _ h => h) (by kernel_rfl) (by kernel_rfl) (Or.inl ⟨by rfl, ?_⟩) (by assumption) ?_
          rotate_left
          · intro w9 hSw; (try dsimp only at hSw); go_simp <;> with_reducible rfl
          try simp only [Act.put, List.getElem_toArray, List.getElem_cons_zero, List.getElem_cons_succ, List.setIfInBounds_toArray, List.set_cons_zero, List.set_cons_succ]
          refine AnyG.take (i := 8) (v := ?_) rfl (by kernel_rfl) (by kernel_rfl) (by kernel_rfl) (fun _ _ _ h => h) (by kernel_rfl) (by kernel_rfl) (Or.inl ⟨by rfl, ?_⟩) (by assumption) ?_
          rotate_left
          · intro w9 hSw; (try dsimp only at hSw); go_simp <;> with_reducible rfl
          try simp only [Act.put, List.getElem_toArray, List.getElem_cons_zero, List.getElem_cons_succ, List.setIfInBounds_toArray, List.set_cons_zero, List.set_cons_succ]
          refine AnyG.take (i := 9) (v := ?_) rfl (by kernel_rfl) (by kernel_rfl) (by kernel_rfl) (fun _ _ _ h => h) (by kernel_rfl) (by kernel_rfl) (Or.inl ⟨by rfl, ?_⟩) (by assumption) ?_
          rotate_left
          · intro w9 hSw; (try dsimp only at hSw); go_simp <;> with_reducible rfl
          try simp only [Act.put, List.getElem_toArray, List.getElem_cons_zero, List.getElem_cons_succ, List.setIfInBounds_toArray, List.set_cons_zero, List.set_cons_succ]
          refine AnyG.take (i := 10) (v := ?_) rfl (by kernel_rfl) (by kernel_rfl) (by kernel_rfl) (fun _ _ _ h => h) (by kernel_rfl) (by kernel_rfl) (Or.inl ⟨by rfl, ?_⟩) (by assumption) ?_
          rotate_left
          · intro w9 hSw; (try dsimp only at hSw); go_simp <;> with_reducible rfl
          try simp only [Act.put, List.getElem_toArray, List.getElem_cons_zero, List.getElem_cons_succ, List.setIfInBounds_toArray, List.set_cons_zero, List.set_cons_succ]
          refine AnyG.step (i := 5) (by kernel_rfl) rfl (fun K hK => ?_)
          go_simp
          go_at_call 19
          have t_k := tok0
          refine (O1.out _).mono ?_
          rintro e w3 ⟨v_p, rfl, hb, h_p⟩
          obtain ⟨A_p, n_p, cap_p, rfl, -⟩ := id h_p.form
          replace h_p := Lib.hid h_p
          have B_w3 := Lib.hid (reg_next (w0 := wr) (by repeat (first | with_reducible exact Below.refl _ _ | with_reducible apply below_drew | with_reducible apply below_new)) hb)
          have K_w3 := KK.out _ B_w3.out
          clear hb
          clear t_k tok0
          refine hK.out _ _ (fun _ => K_w3) (fun hHeld => ?_)
          replace hHeld := hHeld (by decide)
          clear hK
          try simp only [Act.put, List.getElem_toArray, List.getElem_cons_zero, List.getElem_cons_succ, List.setIfInBounds_toArray, List.set_cons_zero, List.set_cons_succ]
          refine AnyG.step (i := 11) (by kernel_rfl) rfl (fun K hK => ?_)
          go_simp
          go_at_call 19
          have t_k := tok1
          refine (O2.out _).mono ?_
          rintro e w4 ⟨v_q, rfl, hb, h_q⟩
          obtain ⟨A_q, n_q, cap_q, rfl, -⟩ := id h_q.form
          replace h_q := Lib.hid h_q
          replace h_p := Lib.hid (h_p.out.below hb)
          have B_w4 := Lib.hid (below_next B_w3.out hb)
          have K_w4 := KK.out _ B_w4.out
          clear hb
          clear t_k tok1
          refine hK.out _ _ (fun _ => K_w4) (fun hHeld => ?_)
          replace hHeld := hHeld (by decide)
          clear hK
          try simp only [Act.put, List.getElem_toArray, List.getElem_cons_zero, List.getElem_cons_succ, List.setIfInBounds_toArray, List.set_cons_zero, List.set_cons_succ]
          refine AnyG.step (i := 12) (by kernel_rfl) rfl (fun K hK => ?_)
          go_simp
          go_at_call 21
          refine (M1.out _ _ _ h_p.out h_q.out).mono ?_
          rintro e w5 ⟨v_r, rfl, hb, h_r⟩
          obtain ⟨A_r, n_r, cap_r, rfl, -⟩ := id h_r.form
          replace h_r := Lib.hid h_r
          replace h_p := Lib.hid (h_p.out.below hb)
          replace h_q := Lib.hid (h_q.out.below hb)
          have B_w5 := Lib.hid (below_next B_w4.out hb)
          have K_w5 := KK.out _ B_w5.out
          clear hb
          refine hK.out _ _ (fun _ => K_w5) (fun hHeld => ?_)
          replace hHeld := hHeld (by decide)
          clear hK
          try simp only [Act.put, List.getElem_toArray, List.getElem_cons_zero, List.getElem_cons_succ, List.setIfInBounds_toArray, List.set_cons_zero, List.set_cons_succ]
          refine AnyG.step (i := 13) (by kernel_rfl) rfl (fun K hK => ?_)
          go_simp
          go_at_call 20
          refine (M2.out _ _ _ (h_sum.out.below B_w5.out) h_r.out).mono ?_
          rintro e w6 ⟨v_s, rfl, hb, h_s⟩
          obtain ⟨A_s, n_s, cap_s, rfl, -⟩ := id h_s.form
          replace h_s := Lib.hid h_s
          replace h_p := Lib.hid (h_p.out.below hb)
          replace h_q := Lib.hid (h_q.out.below hb)
          replace h_r := Lib.hid (h_r.out.below hb)
          have B_w6 := Lib.hid (below_next B_w5.out hb)
          have K_w6 := KK.out _ B_w6.out
          obtain ⟨rc_sum0, rc_sum1, rf_sum0, rf_sum1⟩ := reads2 (r_sum.out.keep B_w6.out)
          have rl_sum := (r_sum.out.keep B_w6.out).lt
          clear hb
          refine hK.out _ _ (fun _ => K_w6) (fun hHeld => ?_)
          replace hHeld := hHeld (by decide)
          clear hK
          try simp only [Act.put, List.getElem_toArray, List.getElem_cons_zero, List.getElem_cons_succ, List.setIfInBounds_toArray, List.set_cons_zero, List.set_cons_succ]
          refine AnyG.step (i := 14) (by kernel_rfl) rfl (fun K hK => ?_)
          go_simp
          refine hK.out _ _ (fun h => absurd h (by decide)) (fun _ => ?_)
          clear hK
          try simp only [Act.put, List.getElem_toArray, List.getElem_cons_zero, List.getElem_cons_succ, List.setIfInBounds_toArray, List.set_cons_zero, List.set_cons_succ]
          refine AnyG.done (by kernel_rfl) ?_ _
          clear KK K0 KD K_w3 K_w4 K_w5 K_w6
          replace r_sum := Lib.hid (r_sum.out.keep B_w6.out)
          replace r_x := Lib.hid (r_x.out.keep B_w6.out)
          replace h_sum := Lib.hid (h_sum.out.below B_w6.out)
          replace BB := Lib.hid (below_next BB.out B_w6.out)
          clear B_w3 B_w4 B_w5 B_w6
          go_wp2_with fail
          go_roundw
          case rel =>
            have := d_sum.out
            exact ⟨j + 1, by omega, by go_num, ⟨⟨_, _, _, by rw [hs.out]; exact r_sum.out.set2 _ _, by rw [hs.out]; exact h_s.out.far2 r_sum.out (by decide) _ _⟩, r_x.out.far2 (by omega) _ _, below_far2 BB.out (by omega) _ _⟩⟩
          case measure => simp [intOf]; omega
        · obtain rfl : j = l := by omega
          have hjn := HL.out j hj hjl
          clear HU HV HB HF HG HL
          generalize dotN f g j = D at *
          have iD : I64 D := ⟨by omega, by omega⟩
          rw [wr_in iD.1 iD.2] at HM
          have OD := Lib.hid (fun w => of_any D iD w)
          have CC := Lib.hid (fun (u v : Value) w (hu : BR w u D) (hv : BR w v D) => cmp_any u v D D w hu hv ((i64_wd iD).mid (by omega)) ((i64_wd iD).mid (by omega)))
          rw [cmpI_eq] at CC
          have CM := Lib.hid (fun w9 (h : Below wr.heap.size wr w9) => mix_below (HM.out w9 (below_next BB.out h)))
          clear iD hD HM
          have hB : x1 ≤ 0 → byteI x0 x1 = 0 := fun h => if_pos (by omega)
          generalize byteI x0 x1 = R at *
          by_cases hjk : j < k
          · have hjm : ¬ j < m := by omega
            clear hjn
            rcases dec_both (x1 > 0) with ⟨h1, d1⟩ | ⟨h1, d1⟩
            · replace CR := Lib.hid (CR.out (by omega))
              clear h1 hB
              go_wp2_with fail
              have KK := Lib.hid (fun (w9 : World) (h : Below wr.heap.size wr w9) => (cells2 (r_sum.out.keep h) : (w9.cell? ⟨g_sum, 0, none⟩ = some (.bool (sgn D)) ∧ w9.cell? ⟨g_sum, 1, none⟩ = some (.slice A1 m1 cap1))))
              have K0 := KK.out wr (Below.refl _ _)
              have KD := KK.out wr.drew (below_drew (Below.refl _ _))
              go_region_held3 (fun w9 => (w9.cell? ⟨g_sum, 0, none⟩ = some (.bool (sgn D)) ∧ w9.cell? ⟨g_sum, 1, none⟩ = some (.slice A1 m1 cap1)))
                  (first | with_reducible exact KD | with_reducible exact K0 | with_reducible exact K_w7 | with_reducible exact K_w8 | with_reducible exact K_w10)
                  (first
                    | (go_at_call 18
                       refine (CM.out _ ?_).mono ?_
                       · repeat (first | with_reducible exact Below.refl _ _ | with_reducible apply below_drew | with_reducible apply below_new)
                       rintro e w7 ⟨rfl, hb⟩
                       have B_w7 := Lib.hid (reg_next (w0 := wr) (by repeat (first | with_reducible exact Below.refl _ _ | with_reducible apply below_drew | with_reducible apply below_new)) hb)
                       have K_w7 := KK.out _ B_w7.out
                       clear hb)
                    | (go_at_call 19
                       refine (OD.out _).mono ?_
                       rintro e w8 ⟨v_o, rfl, hb, h_o⟩
                       obtain ⟨A_o, n_o, cap_o, rfl, -⟩ := id h_o.form
                       replace h_o := Lib.hid h_o
                       have B_w8 := Lib.hid (below_next B_w7.out hb)
                       have K_w8 := KK.out _ B_w8.out
                       clear hb)
                    | (go_at_call 22
                       refine (CC.out _ _ _ h_o.out (h_sum.out.below B_w8.out)).mono ?_
                       rintro e w10 ⟨rfl, hb⟩
                       replace h_o := Lib.hid (h_o.out.below hb)
                       have B_w10 := Lib.hid (below_next B_w8.out hb)
                       have K_w10 := KK.out _ B_w10.out
                       clear hb))
              clear KK K0 KD K_w7 K_w8 K_w10
              replace r_sum := Lib.hid (r_sum.out.keep B_w10.out)
              replace r_x := Lib.hid (r_x.out.keep B_w10.out)
              replace h_sum := Lib.hid (h_sum.out.below B_w10.out)
              replace BB := Lib.hid (below_next BB.out B_w10.out)
              clear B_w7 B_w8 B_w10
              obtain ⟨c_x0, c_x1, c_x2, f_x0, f_x1, f_x2⟩ := reads3 r_x.out
              have l_x := r_x.out.lt
              go_wp2_with fail
              clear c_x0 c_x1 c_x2 f_x0 f_x1 f_x2 l_x
              have KK := Lib.hid (fun (w9 : World) (h : Below w10.heap.size w10 w9) => (cells3 (r_x.out.keep h) : (w9.cell? ⟨w.heap.size, 0, none⟩ = some (.int .i64 x0) ∧ w9.cell? ⟨w.heap.size, 1, none⟩ = some (.int .i64 x1) ∧ w9.cell? ⟨w.heap.size, 2, none⟩ = some (.int .i64 x2))))
              have K0 := KK.out w10 (Below.refl _ _)
              have KD := KK.out w10.drew (below_drew (Below.refl _ _))
              have tok0 : Hid True := trivial
              have tok1 : Hid True := trivial
              go_region_held3 (fun w9 => (w9.cell? ⟨w.heap.size, 0, none⟩ = some (.int .i64 x0) ∧ w9.cell? ⟨w.heap.size, 1, none⟩ = some (.int .i64 x1) ∧ w9.cell? ⟨w.heap.size, 2, none⟩ = some (.int .i64 x2)))
                  (first | with_reducible exact KD | with_reducible exact K0 | with_reducible exact K_w11 | with_reducible exact K_w12 | with_reducible exact K_w13)
                  (first
                    | (go_at_call 19
                       have t_k := tok0
                       refine (OX0.out _).mono ?_
                       rintro e w11 ⟨v_p0, rfl, hb, h_p0⟩
                       obtain ⟨A_p0, n_p0, cap_p0, rfl, -⟩ := id h_p0.form
                       replace h_p0 := Lib.hid h_p0
                       have B_w11 := Lib.hid (reg_next (w0 := w10) (by repeat (first | with_reducible exact Below.refl _ _ | with_reducible apply below_drew | with_reducible apply below_new)) hb)
                       have K_w11 := KK.out _ B_w11.out
                       clear hb
                       clear t_k tok0)
                    | (go_at_call 19
                       have t_k := tok1
                       refine (OX1.out _).mono ?_
                       rintro e w12 ⟨v_p1, rfl, hb, h_p1⟩
                       obtain ⟨A_p1, n_p1, cap_p1, rfl, -⟩ := id h_p1.form
                       replace h_p1 := Lib.hid h_p1
                       replace h_p0 := Lib.hid (h_p0.out.below hb)
                       have B_w12 := Lib.hid (below_next B_w11.out hb)
                       have K_w12 := KK.out _ B_w12.out
                       clear hb
                       clear t_k tok1)
                    | (go_at_call 23
                       refine (CR.out _ _ _ h_p0.out h_p1.out).mono ?_
                       rintro e w13 ⟨rfl, hb⟩
                       replace h_p0 := Lib.hid (h_p0.out.below hb)
                       replace h_p1 := Lib.hid (h_p1.out.below hb)
                       have B_w13 := Lib.hid (below_next B_w12.out hb)
                       have K_w13 := KK.out _ B_w13.out
                       clear hb))
              clear KK K0 KD K_w11 K_w12 K_w13
              replace r_sum := Lib.hid (r_sum.out.keep B_w13.out)
              replace r_x := Lib.hid (r_x.out.keep B_w13.out)
              replace h_sum := Lib.hid (h_sum.out.below B_w13.out)
              replace h_o := Lib.hid (h_o.out.below B_w13.out)
              replace BB := Lib.hid (below_next BB.out B_w13.out)
              clear B_w11 B_w12 B_w13
              obtain ⟨c_x0, c_x1, c_x2, f_x0, f_x1, f_x2⟩ := reads3 r_x.out
              have l_x := r_x.out.lt
              go_wp2_with fail

              refine (S1.out _).mono ?_
              rintro e w9 ⟨rfl, rfl⟩
              go_wp2_with fail
              refine (S2.out _).mono ?_
              rintro e w9 ⟨rfl, rfl⟩
              go_wp2_with fail
              refine (CB.out _).mono ?_
              rintro e w14 ⟨rfl, hb⟩
              clear c_x0 c_x1 c_x2 f_x0 f_x1 f_x2 l_x
              replace r_sum := Lib.hid (r_sum.out.keep hb)
              replace r_x := Lib.hid (r_x.out.keep hb)
              replace h_sum := Lib.hid (h_sum.out.below hb)
              replace h_o := Lib.hid (h_o.out.below hb)
              replace h_p0 := Lib.hid (h_p0.out.below hb)
              replace h_p1 := Lib.hid (h_p1.out.below hb)
              replace BB := Lib.hid (below_next BB.out hb)
              clear hb
              go_wp2_with fail
              refine (CA.out _).mono ?_
              rintro e w15 ⟨rfl, hb⟩
              replace r_sum := Lib.hid (r_sum.out.keep hb)
              replace r_x := Lib.hid (r_x.out.keep hb)
              replace h_sum := Lib.hid (h_sum.out.below hb)
              replace h_o := Lib.hid (h_o.out.below hb)
              replace h_p0 := Lib.hid (h_p0.out.below hb)
              replace h_p1 := Lib.hid (h_p1.out.below hb)
              replace BB := Lib.hid (below_next BB.out hb)
              clear hb
              go_wp2_with fail
              go_ret
              exact ⟨rfl, BB.out⟩
            · have e1 := hB (by omega)
              clear hB h1 CR
              subst e1
              go_wp2_with fail
              have KK := Lib.hid (fun (w9 : World) (h : Below wr.heap.size wr w9) => (cells2 (r_sum.out.keep h) : (w9.cell? ⟨g_sum, 0, none⟩ = some (.bool (sgn D)) ∧ w9.cell? ⟨g_sum, 1, none⟩ = some (.slice A1 m1 cap1))))
              have K0 := KK.out wr (Below.refl _ _)
              have KD := KK.out wr.drew (below_drew (Below.refl _ _))
              go_region_held3 (fun w9 => (w9.cell? ⟨g_sum, 0, none⟩ = some (.bool (sgn D)) ∧ w9.cell? ⟨g_sum, 1, none⟩ = some (.slice A1 m1 cap1)))
                  (first | with_reducible exact KD | with_reducible exact K0 | with_reducible exact K_w7 | with_reducible exact K_w8 | with_reducible exact K_w10)
                  (first
                    | (go_at_call 18
                       refine (CM.out _ ?_).mono ?_
                       · repeat (first | with_reducible exact Below.refl _ _ | with_reducible apply below_drew | with_reducible apply below_new)
                       rintro e w7 ⟨rfl, hb⟩
                       have B_w7 := Lib.hid (reg_next (w0 := wr) (by repeat (first | with_reducible exact Below.refl _ _ | with_reducible apply below_drew | with_reducible apply below_new)) hb)
                       have K_w7 := KK.out _ B_w7.out
                       clear hb)
                    | (go_at_call 19
                       refine (OD.out _).mono ?_
                       rintro e w8 ⟨v_o, rfl, hb, h_o⟩
                       obtain ⟨A_o, n_o, cap_o, rfl, -⟩ := id h_o.form
                       replace h_o := Lib.hid h_o
                       have B_w8 := Lib.hid (below_next B_w7.out hb)
                       have K_w8 := KK.out _ B_w8.out
                       clear hb)
                    | (go_at_call 22
                       refine (CC.out _ _ _ h_o.out (h_sum.out.below B_w8.out)).mono ?_
                       rintro e w10 ⟨rfl, hb⟩
                       replace h_o := Lib.hid (h_o.out.below hb)
                       have B_w10 := Lib.hid (below_next B_w8.out hb)
                       have K_w10 := KK.out _ B_w10.out
                       clear hb))
              clear KK K0 KD K_w7 K_w8 K_w10
              replace r_sum := Lib.hid (r_sum.out.keep B_w10.out)
              replace r_x := Lib.hid (r_x.out.keep B_w10.out)
              replace h_sum := Lib.hid (h_sum.out.below B_w10.out)
              replace BB := Lib.hid (below_next BB.out B_w10.out)
              clear B_w7 B_w8 B_w10
              obtain ⟨c_x0, c_x1, c_x2, f_x0, f_x1, f_x2⟩ := reads3 r_x.out
              have l_x := r_x.out.lt
              go_wp2_with fail
              go_wp2_with fail

              refine (S1.out _).mono ?_
              rintro e w9 ⟨rfl, rfl⟩
              go_wp2_with fail
              refine (S2.out _).mono ?_
              rintro e w9 ⟨rfl, rfl⟩
              go_wp2_with fail
              refine (CB.out _).mono ?_
              rintro e w11 ⟨rfl, hb⟩
              clear c_x0 c_x1 c_x2 f_x0 f_x1 f_x2 l_x
              replace r_sum := Lib.hid (r_sum.out.keep hb)
              replace r_x := Lib.hid (r_x.out.keep hb)
              replace h_sum := Lib.hid (h_sum.out.below hb)
              replace h_o := Lib.hid (h_o.out.below hb)
              replace BB := Lib.hid (below_next BB.out hb)
              clear hb
              go_wp2_with fail
              refine (CA.out _).mono ?_
              rintro e w12 ⟨rfl, hb⟩
              replace r_sum := Lib.hid (r_sum.out.keep hb)
              replace r_x := Lib.hid (r_x.out.keep hb)
              replace h_sum := Lib.hid (h_sum.out.below hb)
              replace h_o := Lib.hid (h_o.out.below hb)
              replace BB := Lib.hid (below_next BB.out hb)
              clear hb
              go_wp2_with fail
              go_ret
              exact ⟨rfl, BB.out⟩
          · clear hjn
            rcases dec_both (x1 > 0) with ⟨h1, d1⟩ | ⟨h1, d1⟩
            · replace CR := Lib.hid (CR.out (by omega))
              clear h1 hB
              go_wp2_with fail
              have KK := Lib.hid (fun (w9 : World) (h : Below wr.heap.size wr w9) => (cells2 (r_sum.out.keep h) : (w9.cell? ⟨g_sum, 0, none⟩ = some (.bool (sgn D)) ∧ w9.cell? ⟨g_sum, 1, none⟩ = some (.slice A1 m1 cap1))))
              have K0 := KK.out wr (Below.refl _ _)
              have KD := KK.out wr.drew (below_drew (Below.refl _ _))
              go_region_held3 (fun w9 => (w9.cell? ⟨g_sum, 0, none⟩ = some (.bool (sgn D)) ∧ w9.cell? ⟨g_sum, 1, none⟩ = some (.slice A1 m1 cap1)))
                  (first | with_reducible exact KD | with_reducible exact K0 | with_reducible exact K_w7 | with_reducible exact K_w8 | with_reducible exact K_w10)
                  (first
                    | (go_at_call 18
                       refine (CM.out _ ?_).mono ?_
                       · repeat (first | with_reducible exact Below.refl _ _ | with_reducible apply below_drew | with_reducible apply below_new)
                       rintro e w7 ⟨rfl, hb⟩
                       have B_w7 := Lib.hid (reg_next (w0 := wr) (by repeat (first | with_reducible exact Below.refl _ _ | with_reducible apply below_drew | with_reducible apply below_new)) hb)
                       have K_w7 := KK.out _ B_w7.out
                       clear hb)
                    | (go_at_call 19
                       refine (OD.out _).mono ?_
                       rintro e w8 ⟨v_o, rfl, hb, h_o⟩
                       obtain ⟨A_o, n_o, cap_o, rfl, -⟩ := id h_o.form
                       replace h_o := Lib.hid h_o
                       have B_w8 := Lib.hid (below_next B_w7.out hb)
                       have K_w8 := KK.out _ B_w8.out
                       clear hb)
                    | (go_at_call 22
                       refine (CC.out _ _ _ h_o.out (h_sum.out.below B_w8.out)).mono ?_
                       rintro e w10 ⟨rfl, hb⟩
                       replace h_o := Lib.hid (h_o.out.below hb)
                       have B_w10 := Lib.hid (below_next B_w8.out hb)
                       have K_w10 := KK.out _ B_w10.out
                       clear hb))
              clear KK K0 KD K_w7 K_w8 K_w10
              replace r_sum := Lib.hid (r_sum.out.keep B_w10.out)
              replace r_x := Lib.hid (r_x.out.keep B_w10.out)
              replace h_sum := Lib.hid (h_sum.out.below B_w10.out)
              replace BB := Lib.hid (below_next BB.out B_w10.out)
              clear B_w7 B_w8 B_w10
              obtain ⟨c_x0, c_x1, c_x2, f_x0, f_x1, f_x2⟩ := reads3 r_x.out
              have l_x := r_x.out.lt
              go_wp2_with fail
              clear c_x0 c_x1 c_x2 f_x0 f_x1 f_x2 l_x
              have KK := Lib.hid (fun (w9 : World) (h : Below w10.heap.size w10 w9) => (cells3 (r_x.out.keep h) : (w9.cell? ⟨w.heap.size, 0, none⟩ = some (.int .i64 x0) ∧ w9.cell? ⟨w.heap.size, 1, none⟩ = some (.int .i64 x1) ∧ w9.cell? ⟨w.heap.size, 2, none⟩ = some (.int .i64 x2))))
              have K0 := KK.out w10 (Below.refl _ _)
              have KD := KK.out w10.drew (below_drew (Below.refl _ _))
              have tok0 : Hid True := trivial
              have tok1 : Hid True := trivial
              go_region_held3 (fun w9 => (w9.cell? ⟨w.heap.size, 0, none⟩ = some (.int .i64 x0) ∧ w9.cell? ⟨w.heap.size, 1, none⟩ = some (.int .i64 x1) ∧ w9.cell? ⟨w.heap.size, 2, none⟩ = some (.int .i64 x2)))
                  (first | with_reducible exact KD | with_reducible exact K0 | with_reducible exact K_w11 | with_reducible exact K_w12 | with_reducible exact K_w13)
                  (first
                    | (go_at_call 19
                       have t_k := tok0
                       refine (OX0.out _).mono ?_
                       rintro e w11 ⟨v_p0, rfl, hb, h_p0⟩
                       obtain ⟨A_p0, n_p0, cap_p0, rfl, -⟩ := id h_p0.form
                       replace h_p0 := Lib.hid h_p0
                       have B_w11 := Lib.hid (reg_next (w0 := w10) (by repeat (first | with_reducible exact Below.refl _ _ | with_reducible apply below_drew | with_reducible apply below_new)) hb)
                       have K_w11 := KK.out _ B_w11.out
                       clear hb
                       clear t_k tok0)
                    | (go_at_call 19
                       have t_k := tok1
                       refine (OX1.out _).mono ?_
                       rintro e w12 ⟨v_p1, rfl, hb, h_p1⟩
                       obtain ⟨A_p1, n_p1, cap_p1, rfl, -⟩ := id h_p1.form
                       replace h_p1 := Lib.hid h_p1
                       replace h_p0 := Lib.hid (h_p0.out.below hb)
                       have B_w12 := Lib.hid (below_next B_w11.out hb)
                       have K_w12 := KK.out _ B_w12.out
                       clear hb
                       clear t_k tok1)
                    | (go_at_call 23
                       refine (CR.out _ _ _ h_p0.out h_p1.out).mono ?_
                       rintro e w13 ⟨rfl, hb⟩
                       replace h_p0 := Lib.hid (h_p0.out.below hb)
                       replace h_p1 := Lib.hid (h_p1.out.below hb)
                       have B_w13 := Lib.hid (below_next B_w12.out hb)
                       have K_w13 := KK.out _ B_w13.out
                       clear hb))
              clear KK K0 KD K_w11 K_w12 K_w13
              replace r_sum := Lib.hid (r_sum.out.keep B_w13.out)
              replace r_x := Lib.hid (r_x.out.keep B_w13.out)
              replace h_sum := Lib.hid (h_sum.out.below B_w13.out)
              replace h_o := Lib.hid (h_o.out.below B_w13.out)
              replace BB := Lib.hid (below_next BB.out B_w13.out)
              clear B_w11 B_w12 B_w13
              obtain ⟨c_x0, c_x1, c_x2, f_x0, f_x1, f_x2⟩ := reads3 r_x.out
              have l_x := r_x.out.lt
              go_wp2_with fail

              refine (S1.out _).mono ?_
              rintro e w9 ⟨rfl, rfl⟩
              go_wp2_with fail
              refine (S2.out _).mono ?_
              rintro e w9 ⟨rfl, rfl⟩
              go_wp2_with fail
              refine (CB.out _).mono ?_
              rintro e w14 ⟨rfl, hb⟩
              clear c_x0 c_x1 c_x2 f_x0 f_x1 f_x2 l_x
              replace r_sum := Lib.hid (r_sum.out.keep hb)
              replace r_x := Lib.hid (r_x.out.keep hb)
              replace h_sum := Lib.hid (h_sum.out.below hb)
              replace h_o := Lib.hid (h_o.out.below hb)
              replace h_p0 := Lib.hid (h_p0.out.below hb)
              replace h_p1 := Lib.hid (h_p1.out.below hb)
              replace BB := Lib.hid (below_next BB.out hb)
              clear hb
              go_wp2_with fail
              refine (CA.out _).mono ?_
              rintro e w15 ⟨rfl, hb⟩
              replace r_sum := Lib.hid (r_sum.out.keep hb)
              replace r_x := Lib.hid (r_x.out.keep hb)
              replace h_sum := Lib.hid (h_sum.out.below hb)
              replace h_o := Lib.hid (h_o.out.below hb)
              replace h_p0 := Lib.hid (h_p0.out.below hb)
              replace h_p1 := Lib.hid (h_p1.out.below hb)
              replace BB := Lib.hid (below_next BB.out hb)
              clear hb
              go_wp2_with fail
              go_ret
              exact ⟨rfl, BB.out⟩
            · have e1 := hB (by omega)
              clear hB h1 CR
              subst e1
              go_wp2_with fail
              have KK := Lib.hid (fun (w9 : World) (h : Below wr.heap.size wr w9) => (cells2 (r_sum.out.keep h) : (w9.cell? ⟨g_sum, 0, none⟩ = some (.bool (sgn D)) ∧ w9.cell? ⟨g_sum, 1, none⟩ = some (.slice A1 m1 cap1))))
              have K0 := KK.out wr (Below.refl _ _)
              have KD := KK.out wr.drew (below_drew (Below.refl _ _))
              go_region_held3 (fun w9 => (w9.cell? ⟨g_sum, 0, none⟩ = some (.bool (sgn D)) ∧ w9.cell? ⟨g_sum, 1, none⟩ = some (.slice A1 m1 cap1)))
                  (first | with_reducible exact KD | with_reducible exact K0 | with_reducible exact K_w7 | with_reducible exact K_w8 | with_reducible exact K_w10)
                  (first
                    | (go_at_call 18
                       refine (CM.out _ ?_).mono ?_
                       · repeat (first | with_reducible exact Below.refl _ _ | with_reducible apply below_drew | with_reducible apply below_new)
                       rintro e w7 ⟨rfl, hb⟩
                       have B_w7 := Lib.hid (reg_next (w0 := wr) (by repeat (first | with_reducible exact Below.refl _ _ | with_reducible apply below_drew | with_reducible apply below_new)) hb)
                       have K_w7 := KK.out _ B_w7.out
                       clear hb)
                    | (go_at_call 19
                       refine (OD.out _).mono ?_
                       rintro e w8 ⟨v_o, rfl, hb, h_o⟩
                       obtain ⟨A_o, n_o, cap_o, rfl, -⟩ := id h_o.form
                       replace h_o := Lib.hid h_o
                       have B_w8 := Lib.hid (below_next B_w7.out hb)
                       have K_w8 := KK.out _ B_w8.out
                       clear hb)
                    | (go_at_call 22
                       refine (CC.out _ _ _ h_o.out (h_sum.out.below B_w8.out)).mono ?_
                       rintro e w10 ⟨rfl, hb⟩
                       replace h_o := Lib.hid (h_o.out.below hb)
                       have B_w10 := Lib.hid (below_next B_w8.out hb)
                       have K_w10 := KK.out _ B_w10.out
                       clear hb))
              clear KK K0 KD K_w7 K_w8 K_w10
              replace r_sum := Lib.hid (r_sum.out.keep B_w10.out)
              replace r_x := Lib.hid (r_x.out.keep B_w10.out)
              replace h_sum := Lib.hid (h_sum.out.below B_w10.out)
              replace BB := Lib.hid (below_next BB.out B_w10.out)
              clear B_w7 B_w8 B_w10
              obtain ⟨c_x0, c_x1, c_x2, f_x0, f_x1, f_x2⟩ := reads3 r_x.out
              have l_x := r_x.out.lt
              go_wp2_with fail
              go_wp2_with fail

              refine (S1.out _).mono ?_
              rintro e w9 ⟨rfl, rfl⟩
              go_wp2_with fail
              refine (S2.out _).mono ?_
              rintro e w9 ⟨rfl, rfl⟩
              go_wp2_with fail
              refine (CB.out _).mono ?_
              rintro e w11 ⟨rfl, hb⟩
              clear c_x0 c_x1 c_x2 f_x0 f_x1 f_x2 l_x
              replace r_sum := Lib.hid (r_sum.out.keep hb)
              replace r_x := Lib.hid (r_x.out.keep hb)
              replace h_sum := Lib.hid (h_sum.out.below hb)
              replace h_o := Lib.hid (h_o.out.below hb)
              replace BB := Lib.hid (below_next BB.out hb)
              clear hb
              go_wp2_with fail
              refine (CA.out _).mono ?_
              rintro e w12 ⟨rfl, hb⟩
              replace r_sum := Lib.hid (r_sum.out.keep hb)
              replace r_x := Lib.hid (r_x.out.keep hb)
              replace h_sum := Lib.hid (h_sum.out.below hb)
              replace h_o := Lib.hid (h_o.out.below hb)
              replace BB := Lib.hid (below_next BB.out hb)
              clear hb
              go_wp2_with fail
              go_ret
              exact ⟨rfl, BB.out⟩

end Go.Proofs.Ytnklbnphiokpiaa
