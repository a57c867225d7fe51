/- Contract of ref05.Mul. -/
import Derived.Test.YthoakbjnofhpbaaMr3
set_option linter.unusedVariables false
set_option linter.unusedSimpArgs false
namespace Go.Proofs.Ythoakbjnofhpbaa
open Go.RowKit
def muT (ms ns : List Int) (W i k : Nat) : Nat → Int
  | 0 => 0
  | j + 1 => muT ms ns W i k j + ms.getD (3 * i + j) 0 * ns.getD (W * j + k) 0
def muI (ms ns : List Int) (W : Nat) : List Int := (List.range (W * 3)).map (fun n => muT ms ns W (n / W) (n % W) 3)
theorem muT_wd {ms ns : List Int} (h : ∀ z ∈ ms, Wd 200 z) (h2 : ∀ z ∈ ns, Wd 200 z) (W i k : Nat) : ∀ j, Wd (400 + j) (muT ms ns W i k j)
  | 0 => by show Wd _ 0; unfold Wd; have := two_pos (400 + 0); omega
  | j + 1 => (muT_wd h h2 W i k j).add (((getD_wd h _).mul (getD_wd h2 _)).up (by omega))
set_option maxRecDepth 100000 in
set_option maxHeartbeats 8000000 in
theorem r5mul (v u : Value) (ms ns : List Int) (W base : Nat) (w : World) (hv : BL w base v ms) (hu : BL w base u ns) (hl : ms.length = 9) (hW : W = 1 ∨ W = 3) (hn : ns.length = 3 * W) (hz : ∀ z ∈ ms, Wd 200 z) (hz' : ∀ z ∈ ns, Wd 200 z) : Calls Try.prog 43 #[v, u] w (GiveBL (muI ms ns W) w) := by
  obtain ⟨i0, hi0, hz0, hz1, hz2⟩ := info_parts info_big
  obtain ⟨A, cap, rfl⟩ := hv.len
  obtain ⟨A2, cap2, rfl⟩ := hu.len
  rw [hl] at hv ⊢
  rw [hn] at hu ⊢
  have HA := Lib.hid (fun k (hk : k < 9) => hv.two (i := k) (by rw [hl]; exact hk))
  have HB := Lib.hid (fun k (hk : k < 3 * W) => hu.two (i := k) (by rw [hn]; exact hk))
  rw [hl] at HA
  rw [hn] at HB
  have CO := Lib.hid (fun w => of_any 0 (by unfold I64; omega) w)
  have C1 := Lib.hid (fun (p q : Nat) (u v : Value) w (hu : BR w u (ms.getD p 0)) (hv : BR w v (ns.getD q 0)) => mul_any u v _ _ w hu hv ((getD_wd hz p).mid (by omega)) ((getD_wd hz' q).mid (by omega)))
  have CA := Lib.hid (fun (i k j : Nat) (hj : j < 3) (u v : Value) w (hu : BR w u (muT ms ns W i k j)) (hv : BR w v (ms.getD (3 * i + j) 0 * ns.getD (W * j + k) 0)) => add_any u v _ _ w hu hv ((muT_wd hz hz' W i k j).mid (by omega)) (((getD_wd hz _).mul (getD_wd hz' _)).mid (by omega)))
  have HS0 := Lib.hid (fun (i k : Nat) => show muT ms ns W i k 0 = 0 from rfl)
  have HS := Lib.hid (fun (i k j : Nat) => show muT ms ns W i k (j + 1) = muT ms ns W i k j + ms.getD (3 * i + j) 0 * ns.getD (W * j + k) 0 from rfl)
  have HF : Hid (∀ i k, k < W → (fun n => muT ms ns W (n / W) (n % W) 3) (W * i + k) = muT ms ns W i k 3) := fun i k hk => by
    show muT ms ns W ((W * i + k) / W) ((W * i + k) % W) 3 = _
    have e1 : (W * i + k) / W = i := by rcases hW with rfl | rfl <;> omega
    have e2 : (W * i + k) % W = k := by rcases hW with rfl | rfl <;> omega
    rw [e1, e2]
  unfold muI
  generalize (fun n => muT ms ns W (n / W) (n % W) 3) = F at *
  generalize muT ms ns W = T at *
  clear hl hz hz' hv hu hn
  have HW3 : W ≤ 3 := by omega
  have HW1 : 1 ≤ W := by omega
  have et : ((3 * W : Nat) : Int).tdiv 3 = (W : Int) := by rw [Int.tdiv_eq_ediv_of_nonneg (by omega)]; omega
  have ew : IntKind.i64.wrap (W : Int) = (W : Int) := iw ⟨by omega, by omega⟩
  generalize h3W : 3 * W = W3 at *
  go_enter Try.func43, Try.ntmps43
  go_wp2_with fail
  have BB : Hid (Below w.heap.size w w) := Below.refl _ _
  go_loopw [6, 7] (fun v i wr => ∃ (L : List (Int × Value)) (k : Nat), k ≤ 3 ∧ i = .int .i64 k ∧ Hid (L.map Prod.fst = (List.range (W * k)).map F ∧ BLp wr w.heap.size v L ∧ Below w.heap.size w wr)) (fun _ i _ => 3 - (intOf i).toNat)
  case atStart => exact ⟨[], 0, by omega, rfl, ⟨rfl, ⟨World.ownsRow_nil _ _ _ _, fun p hp => by cases hp⟩, BB.out⟩⟩
  case round =>
    clear BB
    obtain ⟨L, i, hi, rfl, hinv⟩ := hrel
    obtain ⟨hm, HO, BB⟩ := hinv.out
    replace hm := Lib.hid hm; replace HO := Lib.hid HO; replace BB := Lib.hid BB
    clear hinv
    by_cases hlt : i < 3
    · have i0' : (0 : Int) ≤ (i : Int) := by omega
      have i1' : (i : Int) < 3 := by omega
      go_wp2_with fail
      go_loopw [6, 8] (fun v j wr => ∃ (L : List (Int × Value)) (k : Nat), k ≤ W ∧ j = .int .i64 k ∧ Hid (L.map Prod.fst = (List.range (W * i + k)).map F ∧ BLp wr w.heap.size v L ∧ Below w.heap.size w wr)) (fun _ j _ => W - (intOf j).toNat)
      case atStart => exact ⟨L, 0, by omega, rfl, ⟨hm.out, HO.out, BB.out⟩⟩
      case round =>
        clear BB HO hm L
        obtain ⟨L, k, hk, rfl, hinv⟩ := hrel
        obtain ⟨hm, HO, BB⟩ := hinv.out
        replace hm := Lib.hid hm; replace HO := Lib.hid HO; replace BB := Lib.hid BB
        clear hinv
        by_cases hlk : k < W
        · have k0' : (0 : Int) ≤ (k : Int) := by omega
          have k1' : (k : Int) < (W : Int) := by omega
          have HFJ := Lib.hid (HF.out i k hlk)
          have hll : Hid (L.length ≤ 100) := by
            have := congrArg List.length hm.out
            have h9 : W * i ≤ 3 * 3 := Nat.mul_le_mul HW3 hi
            simp at this; show _ ≤ _; omega
          have HT : Hid ((List.range (W * i + k)).map F ++ [F (W * i + k)] = (List.range (W * i + (k + 1))).map F) := by
            show _ = _
            rw [← Nat.add_assoc, List.range_succ, List.map_append]; rfl
          have D2 := Lib.hid (CA.out i k)
          have HS0' := Lib.hid (HS0.out i k)
          have HS' := Lib.hid (HS.out i k)
          clear CA HS HS0 HF
          generalize T i k = S at *
          generalize F (W * i + k) = f at *
          go_wp2_with fail
          refine (CO.out _).mono ?_
          rintro e w1 ⟨v_s, rfl, hb, h_s⟩
          obtain ⟨A_s, n_s, cap_s, rfl, -⟩ := id h_s.form
          replace h_s := Lib.hid h_s
          replace HO := Lib.hid (BLp.below HO.out hb)
          replace BB := Lib.hid (below_next BB.out hb)
          clear hb
          go_upto_region 10 with fail
          have hlo := Lib.hid (BLp.lt HO.out)
          have d_s := Lib.hid (And.intro BB.out.size (True.intro))
          obtain ⟨hb, r_s⟩ := laid w1 #[.bool (sgn 0), .slice A_s n_s cap_s] BT
          replace h_s := Lib.hid (h_s.out.below hb)
          replace HO := Lib.hid (BLp.below HO.out hb)
          replace BB := Lib.hid (below_next BB.out hb)
          replace r_s := Lib.hid r_s
          clear hb
          generalize w1.alloc (.cells #[.bool (sgn 0), .slice A_s n_s cap_s] BT) = w2 at *
          generalize w1.heap.size = g_s at *
          go_wp2_with fail
          go_loopw [10] (fun j wr => ∃ (k : Nat) (A : Option Addr) (n c : Nat), k ≤ 3 ∧ j = .int .i64 k ∧ Hid (AtB wr g_s #[.bool (sgn (S k)), .slice A n c] BT ∧ BR wr (.agg #[.bool (sgn (S k)), .slice A n c]) (S k) ∧ BLp wr w.heap.size u6 L ∧ Below w.heap.size w wr)) (fun j _ => 3 - (intOf j).toNat)
          case atStart => exact ⟨0, A_s, n_s, cap_s, by omega, rfl, by rw [HS0'.out]; exact ⟨r_s.out, h_s.out, HO.out, BB.out⟩⟩
          case round =>
            clear BB HO r_s h_s
            obtain ⟨j, A_s, n_s, cap_s, hj, rfl, hinv⟩ := hrel
            obtain ⟨r_s, h_s, HO, BB⟩ := hinv.out
            replace r_s := Lib.hid r_s; replace h_s := Lib.hid h_s; replace HO := Lib.hid HO; replace BB := Lib.hid BB
            clear hinv
            by_cases hlj : j < 3
            · have j0' : (0 : Int) ≤ (j : Int) := by omega
              have j1' : (j : Int) < 3 := by omega
              have hq : W * j + k < W3 := by rcases hW with rfl | rfl <;> omega
              obtain ⟨g, cap', A_e, n_e, cap_e, e, hg1, hg2, CT, hb0⟩ := HA.out (3 * i + j) (by omega)
              simp only [Value.slice.injEq] at e
              obtain ⟨rfl, -, rfl⟩ := e
              obtain ⟨g2, cap2', A_d, n_d, cap_d, e, hg3, hg4, CU, hb1⟩ := HB.out (W * j + k) hq
              simp only [Value.slice.injEq] at e
              obtain ⟨rfl, -, rfl⟩ := e
              have h_e := Lib.hid (hb0.below BB.out)
              have h_d := Lib.hid (hb1.below BB.out)
              have CT := Lib.hid (fun w9 (h9 : Below wr.heap.size wr w9) => CT w9 (below_next BB.out h9))
              have CU := Lib.hid (fun w9 (h9 : Below wr.heap.size wr w9) => CU w9 (below_next BB.out h9))
              have D1 := Lib.hid (C1.out (3 * i + j) (W * j + k))
              have D3 := Lib.hid (D2.out j hlj)
              have HSk := Lib.hid (HS'.out j)
              have e1 : (3 : Int) * (i : Int) = ((3 * i : Nat) : Int) := by omega
              have e2 : ((3 * i : Nat) : Int) + (j : Int) = ((3 * i + j : Nat) : Int) := by omega
              have e3 : (W : Int) * (j : Int) = ((W * j : Nat) : Int) := by rw [Int.natCast_mul]
              have e4 : ((W * j : Nat) : Int) + (k : Int) = ((W * j + k : Nat) : Int) := by omega
              have e5 : IntKind.i64.wrap ((3 * i : Nat) : Int) = ((3 * i : Nat) : Int) := iw ⟨by omega, by omega⟩
              have e6 : IntKind.i64.wrap ((3 * i + j : Nat) : Int) = ((3 * i + j : Nat) : Int) := iw ⟨by omega, by omega⟩
              have hWj : W * j ≤ 100 := by rcases hW with rfl | rfl <;> omega
              have e7 : IntKind.i64.wrap ((W * j : Nat) : Int) = ((W * j : Nat) : Int) := iw ⟨by omega, by omega⟩
              have e8 : IntKind.i64.wrap ((W * j + k : Nat) : Int) = ((W * j + k : Nat) : Int) := iw ⟨by omega, by omega⟩
              have p0 : (0 : Int) ≤ ((3 * i + j : Nat) : Int) := by omega
              have p1 : ((3 * i + j : Nat) : Int) < 9 := by omega
              have q0 : (0 : Int) ≤ ((W * j + k : Nat) : Int) := by omega
              have q1 : ((W * j + k : Nat) : Int) < (W3 : Int) := by omega
              generalize 3 * i + j = p at *
              generalize 3 * i = i3 at *
              generalize W * j + k = q at *
              generalize W * j = wj at *
              clear HA HB C1 HS' D2 hb0 hb1 hq
              generalize S j + ms.getD p 0 * ns.getD q 0 = b at *
              generalize S j = a at *
              generalize ms.getD p 0 * ns.getD q 0 = pr at *
              generalize ms.getD p 0 = e at *
              generalize ns.getD q 0 = d at *
              have KF := Lib.hid (fun (w9 : World) (h9 : Below wr.heap.size wr w9) => And.intro ((r_s.out.keep h9).fr 0) ((r_s.out.keep h9).fr 1))
              have hlo' := Lib.hid (fun (w9 : World) => hlo.out)
              go_wp2_with fail
              have KK := Lib.hid (fun (w9 : World) (h : Below wr.heap.size wr w9) => (⟨cells2 (r_s.out.keep h), CT.out _ h, CU.out _ h, KF.out _ h⟩ : (w9.cell? ⟨g_s, 0, none⟩ = some (.bool (sgn a)) ∧ w9.cell? ⟨g_s, 1, none⟩ = some (.slice A_s n_s cap_s)) ∧ (w9.cell? ⟨g, p * 2, none⟩ = some (.bool (sgn e)) ∧ w9.cell? ⟨g, p * 2 + 1, none⟩ = some (.slice A_e n_e cap_e)) ∧ (w9.cell? ⟨g2, q * 2, none⟩ = some (.bool (sgn d)) ∧ w9.cell? ⟨g2, q * 2 + 1, none⟩ = some (.slice A_d n_d cap_d)) ∧ (w9.frozen? ⟨g_s, 0, none⟩ = false ∧ w9.frozen? ⟨g_s, 1, none⟩ = false)))
              have K0 := KK.out wr (Below.refl _ _)
              have KD := KK.out wr.drew (below_drew (Below.refl _ _))
              refine AnyG.begin_ (fun w9 => (w9.cell? ⟨g_s, 0, none⟩ = some (.bool (sgn a)) ∧ w9.cell? ⟨g_s, 1, none⟩ = some (.slice A_s n_s cap_s)) ∧ (w9.cell? ⟨g, p * 2, none⟩ = some (.bool (sgn e)) ∧ w9.cell? ⟨g, p * 2 + 1, none⟩ = some (.slice A_e n_e cap_e)) ∧ (w9.cell? ⟨g2, q * 2, none⟩ = some (.bool (sgn d)) ∧ w9.cell? ⟨g2, q * 2 + 1, none⟩ = some (.slice A_d n_d cap_d)) ∧ (w9.frozen? ⟨g_s, 0, none⟩ = false ∧ w9.frozen? ⟨g_s, 1, none⟩ = false)) 18 (by kernel_rfl) ?_
              refine AnyG.take (i := 0) (v := ?_) rfl (by kernel_rfl) (by kernel_rfl) (by kernel_rfl) (fun _ _ _ h => h) (by kernel_rfl) (by kernel_rfl) (Or.inl ⟨by rfl, ?_⟩) (by assumption) ?_
              rotate_left
              · intro w9 hSw; (try dsimp only at hSw); go_simp <;> with_reducible rfl
              try simp only [Act.put, List.getElem_toArray, List.getElem_cons_zero, List.getElem_cons_succ, List.setIfInBounds_toArray, List.set_cons_zero, List.set_cons_succ]
              refine AnyG.take (i := 1) (v := ?_) rfl (by kernel_rfl) (by kernel_rfl) (by kernel_rfl) (fun _ _ _ h => h) (by kernel_rfl) (by kernel_rfl) (Or.inl ⟨by rfl, ?_⟩) (by assumption) ?_
              rotate_left
              · intro w9 hSw; (try dsimp only at hSw); go_simp <;> with_reducible rfl
              try simp only [Act.put, List.getElem_toArray, List.getElem_cons_zero, List.getElem_cons_succ, List.setIfInBounds_toArray, List.set_cons_zero, List.set_cons_succ]
              refine AnyG.take (i := 2) (v := ?_) rfl (by kernel_rfl) (by kernel_rfl) (by kernel_rfl) (fun _ _ _ h => h) (by kernel_rfl) (by kernel_rfl) (Or.inl ⟨by rfl, ?_⟩) (by assumption) ?_
              rotate_left
              · intro w9 hSw; (try dsimp only at hSw); go_simp <;> with_reducible rfl
              try simp only [Act.put, List.getElem_toArray, List.getElem_cons_zero, List.getElem_cons_succ, List.setIfInBounds_toArray, List.set_cons_zero, List.set_cons_succ]
              refine AnyG.take (i := 3) (v := ?_) rfl (by kernel_rfl) (by kernel_rfl) (by kernel_rfl) (fun _ _ _ h => h) (by kernel_rfl) (by kernel_rfl) (Or.inl ⟨by rfl, ?_⟩) (by assumption) ?_
              rotate_left
              · intro w9 hSw; (try dsimp only at hSw); go_simp <;> with_reducible rfl
              try simp only [Act.put, List.getElem_toArray, List.getElem_cons_zero, List.getElem_cons_succ, List.setIfInBounds_toArray, List.set_cons_zero, List.set_cons_succ]
              refine AnyG.take (i := 4) (v := ?_) rfl (by kernel_rfl) (by kernel_rfl) (by kernel_rfl) (fun _ _ _ h => h) (by kernel_rfl) (by kernel_rfl) (Or.inl ⟨by rfl, ?_⟩) (by assumption) ?_
              rotate_left
              · intro w9 hSw; (try dsimp only at hSw); go_simp <;> with_reducible rfl
              try simp only [Act.put, List.getElem_toArray, List.getElem_cons_zero, List.getElem_cons_succ, List.setIfInBounds_toArray, List.set_cons_zero, List.set_cons_succ]
              refine AnyG.take (i := 5) (v := ?_) rfl (by kernel_rfl) (by kernel_rfl) (by kernel_rfl) (fun _ _ _ h => h) (by kernel_rfl) (by kernel_rfl) (Or.inl ⟨by rfl, ?_⟩) (by assumption) ?_
              rotate_left
              · intro w9 hSw; (try dsimp only at hSw); go_simp <;> with_reducible rfl
              try simp only [Act.put, List.getElem_toArray, List.getElem_cons_zero, List.getElem_cons_succ, List.setIfInBounds_toArray, List.set_cons_zero, List.set_cons_succ]
              refine AnyG.take (i := 6) (v := ?_) rfl (by kernel_rfl) (by kernel_rfl) (by kernel_rfl) (fun _ _ _ h => h) (by kernel_rfl) (by kernel_rfl) (Or.inl ⟨by rfl, ?_⟩) (by assumption) ?_
              rotate_left
              · intro w9 hSw; (try dsimp only at hSw); go_simp <;> with_reducible rfl
              try simp only [Act.put, List.getElem_toArray, List.getElem_cons_zero, List.getElem_cons_succ, List.setIfInBounds_toArray, List.set_cons_zero, List.set_cons_succ]
              refine AnyG.take (i := 7) (v := ?_) rfl (by kernel_rfl) (by kernel_rfl) (by kernel_rfl) (fun _ _ _ h => h) (by kernel_rfl) (by kernel_rfl) (Or.inl ⟨by rfl, ?_⟩) (by assumption) ?_
              rotate_left
              · intro w9 hSw; (try dsimp only at hSw); go_simp <;> with_reducible rfl
              try simp only [Act.put, List.getElem_toArray, List.getElem_cons_zero, List.getElem_cons_succ, List.setIfInBounds_toArray, List.set_cons_zero, List.set_cons_succ]
              refine AnyG.take (i := 8) (v := ?_) rfl (by kernel_rfl) (by kernel_rfl) (by kernel_rfl) (fun _ _ _ h => h) (by kernel_rfl) (by kernel_rfl) (Or.inl ⟨by rfl, ?_⟩) (by assumption) ?_
              rotate_left
              · intro w9 hSw; (try dsimp only at hSw); go_simp <;> with_reducible rfl
              try simp only [Act.put, List.getElem_toArray, List.getElem_cons_zero, List.getElem_cons_succ, List.setIfInBounds_toArray, List.set_cons_zero, List.set_cons_succ]
              refine AnyG.take (i := 9) (v := ?_) rfl (by kernel_rfl) (by kernel_rfl) (by kernel_rfl) (fun _ _ _ h => h) (by kernel_rfl) (by kernel_rfl) (Or.inl ⟨by rfl, ?_⟩) (by assumption) ?_
              rotate_left
              · intro w9 hSw; (try dsimp only at hSw); go_simp <;> with_reducible rfl
              try simp only [Act.put, List.getElem_toArray, List.getElem_cons_zero, List.getElem_cons_succ, List.setIfInBounds_toArray, List.set_cons_zero, List.set_cons_succ]
              refine AnyG.take (i := 10) (v := ?_) rfl (by kernel_rfl) (by kernel_rfl) (by kernel_rfl) (fun _ _ _ h => h) (by kernel_rfl) (by kernel_rfl) (Or.inl ⟨by rfl, ?_⟩) (by assumption) ?_
              rotate_left
              · intro w9 hSw; (try dsimp only at hSw); go_simp <;> with_reducible rfl
              try simp only [Act.put, List.getElem_toArray, List.getElem_cons_zero, List.getElem_cons_succ, List.setIfInBounds_toArray, List.set_cons_zero, List.set_cons_succ]
              refine AnyG.take (i := 11) (v := ?_) rfl (by kernel_rfl) (by kernel_rfl) (by kernel_rfl) (fun _ _ _ h => h) (by kernel_rfl) (by kernel_rfl) (Or.inl ⟨by rfl, ?_⟩) (by assumption) ?_
              rotate_left
              · intro w9 hSw; (try dsimp only at hSw); go_simp <;> with_reducible rfl
              try simp only [Act.put, List.getElem_toArray, List.getElem_cons_zero, List.getElem_cons_succ, List.setIfInBounds_toArray, List.set_cons_zero, List.set_cons_succ]
              refine AnyG.take (i := 12) (v := ?_) rfl (by kernel_rfl) (by kernel_rfl) (by kernel_rfl) (fun _ _ _ h => h) (by kernel_rfl) (by kernel_rfl) (Or.inl ⟨by rfl, ?_⟩) (by assumption) ?_
              rotate_left
              · intro w9 hSw; (try dsimp only at hSw); go_simp <;> with_reducible rfl
              try simp only [Act.put, List.getElem_toArray, List.getElem_cons_zero, List.getElem_cons_succ, List.setIfInBounds_toArray, List.set_cons_zero, List.set_cons_succ]
              refine AnyG.take (i := 13) (v := ?_) rfl (by kernel_rfl) (by kernel_rfl) (by kernel_rfl) (fun _ _ _ h => h) (by kernel_rfl) (by kernel_rfl) (Or.inl ⟨by rfl, ?_⟩) (by assumption) ?_
              rotate_left
              · intro w9 hSw; (try dsimp only at hSw); go_simp <;> with_reducible rfl
              try simp only [Act.put, List.getElem_toArray, List.getElem_cons_zero, List.getElem_cons_succ, List.setIfInBounds_toArray, List.set_cons_zero, List.set_cons_succ]
              refine AnyG.take (i := 14) (v := ?_) rfl (by kernel_rfl) (by kernel_rfl) (by kernel_rfl) (fun _ _ _ h => h) (by kernel_rfl) (by kernel_rfl) (Or.inl ⟨by rfl, ?_⟩) (by assumption) ?_
              rotate_left
              · intro w9 hSw; (try dsimp only at hSw); go_simp <;> with_reducible rfl
              try simp only [Act.put, List.getElem_toArray, List.getElem_cons_zero, List.getElem_cons_succ, List.setIfInBounds_toArray, List.set_cons_zero, List.set_cons_succ]
              refine AnyG.take (i := 15) (v := ?_) rfl (by kernel_rfl) (by kernel_rfl) (by kernel_rfl) (fun _ _ _ h => h) (by kernel_rfl) (by kernel_rfl) (Or.inl ⟨by rfl, ?_⟩) (by assumption) ?_
              rotate_left
              · intro w9 hSw; (try dsimp only at hSw); go_simp <;> with_reducible rfl
              try simp only [Act.put, List.getElem_toArray, List.getElem_cons_zero, List.getElem_cons_succ, List.setIfInBounds_toArray, List.set_cons_zero, List.set_cons_succ]
              refine AnyG.step (i := 16) (by kernel_rfl) rfl (fun K hK => ?_)
              go_simp
              go_at_call 47
              refine (D1.out _ _ _ (h_e.out.below ?_) (h_d.out.below ?_)).mono ?_
              · repeat (first | with_reducible exact Below.refl _ _ | with_reducible apply below_drew | with_reducible apply below_new)
              · repeat (first | with_reducible exact Below.refl _ _ | with_reducible apply below_drew | with_reducible apply below_new)
              rintro e w3 ⟨v_m, rfl, hb, h_m⟩
              obtain ⟨A_m, n_m, cap_m, rfl, -⟩ := id h_m.form
              replace h_m := Lib.hid h_m
              have B_w3 := Lib.hid (reg_next (w0 := wr) (by repeat (first | with_reducible exact Below.refl _ _ | with_reducible apply below_drew | with_reducible apply below_new)) hb)
              have K_w3 := KK.out _ B_w3.out
              clear hb
              refine hK.out _ _ (fun _ => K_w3) (fun hHeld => ?_)
              replace hHeld := hHeld (by decide)
              clear hK
              try simp only [Act.put, List.getElem_toArray, List.getElem_cons_zero, List.getElem_cons_succ, List.setIfInBounds_toArray, List.set_cons_zero, List.set_cons_succ]
              refine AnyG.step (i := 17) (by kernel_rfl) rfl (fun K hK => ?_)
              go_simp
              go_at_call 46
              refine (D3.out _ _ _ (h_s.out.below B_w3.out) h_m.out).mono ?_
              rintro e w4 ⟨v_t, rfl, hb, h_t⟩
              obtain ⟨A_t, n_t, cap_t, rfl, -⟩ := id h_t.form
              replace h_t := Lib.hid h_t
              replace h_m := Lib.hid (h_m.out.below hb)
              have B_w4 := Lib.hid (below_next B_w3.out hb)
              have K_w4 := KK.out _ B_w4.out
              clear hb
              refine hK.out _ _ (fun _ => K_w4) (fun hHeld => ?_)
              replace hHeld := hHeld (by decide)
              clear hK
              try simp only [Act.put, List.getElem_toArray, List.getElem_cons_zero, List.getElem_cons_succ, List.setIfInBounds_toArray, List.set_cons_zero, List.set_cons_succ]
              refine AnyG.step (i := 18) (by kernel_rfl) rfl (fun K hK => ?_)
              go_simp
              refine hK.out _ _ (fun h => absurd h (by decide)) (fun _ => ?_)
              clear hK
              try simp only [Act.put, List.getElem_toArray, List.getElem_cons_zero, List.getElem_cons_succ, List.setIfInBounds_toArray, List.set_cons_zero, List.set_cons_succ]
              refine AnyG.done (by kernel_rfl) ?_ _
              clear KK K0 KD K_w3 K_w4
              replace r_s := Lib.hid (r_s.out.keep B_w4.out)
              replace h_s := Lib.hid (h_s.out.below B_w4.out)
              replace h_e := Lib.hid (h_e.out.below B_w4.out)
              replace h_d := Lib.hid (h_d.out.below B_w4.out)
              replace HO := Lib.hid (BLp.below HO.out B_w4.out)
              replace BB := Lib.hid (below_next BB.out B_w4.out)
              clear B_w3 B_w4
              replace h_t := Lib.hid (h_t.out.far2 r_s.out (by decide) (.bool (sgn b)) (.slice A_t n_t cap_t))
              replace HO := Lib.hid (HO.out.far2 r_s.out (by decide) (fun e => absurd (hlo.out _ e) (by omega)) (.bool (sgn b)) (.slice A_t n_t cap_t))
              clear hlo'
              replace r_s := Lib.hid (r_s.out.set2 (.bool (sgn b)) (.slice A_t n_t cap_t))
              replace BB := Lib.hid (below_far2 BB.out (p := g_s) (by have dd := d_s.out; omega) (.bool (sgn b)) (.slice A_t n_t cap_t))
              generalize ((w4.setCell ⟨g_s, 0, none⟩ (.bool (sgn b))).setCell ⟨g_s, 1, none⟩ (.slice A_t n_t cap_t)) = w5 at *
              go_wp2_with fail
              go_roundw
              case rel => exact ⟨j + 1, A_t, n_t, cap_t, by omega, by go_num, by rw [HSk.out]; exact ⟨r_s.out, h_t.out, HO.out, BB.out⟩⟩
              case measure => simp [intOf]; omega
            · obtain rfl : j = 3 := by omega
              rw [← HFJ.out] at r_s h_s
              clear HFJ D2 HS0' HS' HA HB C1
              obtain ⟨c_s0, c_s1, f_s0, f_s1⟩ := reads2 r_s.out
              have l_s := r_s.out.lt
              have hws : w.heap.size ≤ wr.heap.size := BB.out.size
              go_wp2_with (first | (at_builtin; refine wpList_append_own _ rfl (.tmp 46) (.tmp 48) LBT rfl w.heap.size BT i0 (.agg #[.bool false, .slice none 0 0]) 2 32 Try.underlying70 hi0 hz0 hz1 hz2 rfl (by decide) _ _ _ rfl (HO.out.1.alloc _) ⟨wr.heap.size, 0, none⟩ 1 1 [.bool (sgn f), .slice A_s n_s cap_s] rfl rfl (two_new _ _ _ _) (two_cell _ _ _ _) (by have := hll.out; unfold maxLen; omega) (by have := hll.out; omega) (by simp; omega) ?_))
              intro v' w8 hown' hgrow _
              have HB1 := Lib.hid (below_app BB.out HO.out.1 hgrow)
              have HO1 := Lib.hid (HO.out.app h_s.out hown' hgrow)
              clear hown' hgrow
              have HM1 : Hid ((L ++ [(f, Value.slice A_s n_s cap_s)]).map Prod.fst = (List.range (W * i + (k + 1))).map F) := by
                show _ = _
                rw [List.map_append, hm.out, ← HT.out]; rfl
              go_wp2_with fail
              go_roundw
              case rel => exact ⟨L ++ [(f, .slice A_s n_s cap_s)], k + 1, by omega, by go_num, ⟨HM1.out, HO1.out, HB1.out⟩⟩
              case measure => simp [intOf]; omega
        · obtain rfl : k = W := by omega
          go_wp2_with fail
          go_roundw
          case rel => exact ⟨L, i + 1, by omega, by go_num, ⟨by rw [Nat.mul_succ]; exact hm.out, HO.out, BB.out⟩⟩
          case measure => simp [intOf]; omega
    · obtain rfl : i = 3 := by omega
      go_wp2_with fail
      go_ret
      exact ⟨_, rfl, BB.out, L, hm.out, HO.out⟩
end Go.Proofs.Ythoakbjnofhpbaa
