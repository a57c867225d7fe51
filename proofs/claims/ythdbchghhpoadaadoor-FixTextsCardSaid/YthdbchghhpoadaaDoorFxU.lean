/- ref04's digits at any text. -/
import Derived.Test.YthdbchghhpoadaaDoorFxS
import Derived.Test.YthdbchghhpoadaaDoorFxO
set_option linter.unusedVariables false
set_option linter.unusedSimpArgs false
namespace Go.Proofs.YthdbchghhpoadaaDoor
open Go.RowKit
theorem str_index (l : List UInt8) (k : Nat) (h : k < l.length) (w : World) : (Instr.index 9 (.string ⟨l.toArray⟩) (.int .i64 (k : Int))).run Tryd.prog w = .ok (.int .u8 ((l[k].toNat : Nat) : Int)) w := by
  rw [run_index_string _ _ _ _ _ Tryd.underlying9, dif_pos ⟨by omega, by rw [str_len]; omega⟩, str_at]
  simp
def GiveD (l : List UInt8) (w : World) (e : Ending) (w' : World) : Prop := ∃ r, ∃ z : Nat, e = .returned (.tuple #[r, .bool (decide (0 < l.length ∧ isD l))]) ∧ Below w.heap.size w w' ∧ BR w' r (z : Int) ∧ z < 10 ^ 60 ∧ (isD l → z = decL l)
def GiveDO (b : Bool) (v : Nat) (w : World) (e : Ending) (w' : World) : Prop := ∃ r, ∃ z : Nat, e = .returned (.tuple #[r, .bool b]) ∧ Below w.heap.size w w' ∧ BR w' r (z : Int) ∧ z < 10 ^ 60 ∧ z = v
def GiveDB (w : World) (e : Ending) (w' : World) : Prop := ∃ r, ∃ z : Nat, e = .returned (.tuple #[r, .bool false]) ∧ Below w.heap.size w w' ∧ BR w' r (z : Int) ∧ z < 10 ^ 60
theorem wd60 {z : Nat} (h : z < 10 ^ 60) : Wd 200 (z : Int) := by
  have e : (10 : Nat) ^ 60 ≤ 2 ^ 200 := by decide
  have e2 : (2 : Int) ^ 200 = ((2 ^ 200 : Nat) : Int) := by rw [Int.natCast_pow]; rfl
  unfold Wd
  rw [e2]
  omega
theorem take_isD {l : List UInt8} {m : Nat} (h : ∀ k (hk : k < m) (hl : k < l.length), 48 ≤ l[k].toNat ∧ l[k].toNat ≤ 57) : ∀ k, k ≤ m → isD (l.take k) := by
  intro k hk c hc
  obtain ⟨i, hi, rfl⟩ := List.mem_iff_getElem.1 hc
  rw [List.length_take] at hi
  rw [List.getElem_take]
  exact h i (by omega) (by omega)
set_option maxRecDepth 100000 in
set_option maxHeartbeats 8000000 in
theorem dg_ok (l : List UInt8) (hl : l.length ≤ 60) (hd : isD l) (w : World) : Calls Tryd.prog 51 #[.string ⟨l.toArray⟩] w (GiveDO (decide (0 < l.length)) (decL l) w) := by
  obtain ⟨m, hm⟩ : ∃ m, m = l.length := ⟨_, rfl⟩
  have hg : ∀ k (hk : k < m) (hl : k < l.length), 48 ≤ l[k].toNat ∧ l[k].toNat ≤ 57 := fun k hk hl => hd _ (List.getElem_mem hl)
  have HI : Hid (∀ k, k < m → ∃ c : Nat, (∀ w, (Instr.index 9 (.string ⟨l.toArray⟩) (.int .i64 (k : Int))).run Tryd.prog w = .ok (.int .u8 (c : Int)) w) ∧ 48 ≤ c ∧ c ≤ 57 ∧ decL (l.take (k + 1)) = 10 * decL (l.take k) + (c - 48)) := by
    intro k hk
    have hkl : k < l.length := by omega
    have e : l.take (k + 1) = l.take k ++ [l[k]] := by rw [List.take_add_one, List.getElem?_eq_getElem hkl]; rfl
    exact ⟨l[k].toNat, fun w => str_index l k hkl w, (hg k hk hkl).1, (hg k hk hkl).2, by rw [e, decL_app]⟩
  have HB : Hid (∀ k, k ≤ m → decL (l.take k) < 10 ^ 60) := by
    intro k hk
    have h1 := decL_lt (take_isD hg k hk)
    exact Nat.lt_of_lt_of_le h1 (Nat.pow_le_pow_right (by omega) (by simp; omega))
  obtain ⟨D, hD⟩ : ∃ D : Nat → Nat, D = fun k => decL (l.take k) := ⟨_, rfl⟩
  have D0 : Hid (D 0 = 0) := by rw [hD]; rfl
  have HI : Hid (∀ k, k < m → ∃ c : Nat, (∀ w, (Instr.index 9 (.string ⟨l.toArray⟩) (.int .i64 (k : Int))).run Tryd.prog w = .ok (.int .u8 (c : Int)) w) ∧ 48 ≤ c ∧ c ≤ 57 ∧ D (k + 1) = 10 * D k + (c - 48)) := by rw [hD]; exact HI.out
  have HB : Hid (∀ k, k ≤ m → D k < 10 ^ 60) := by rw [hD]; exact HB.out
  have CO := Lib.hid (fun w => of_any 0 (by unfold I64; omega) w)
  have CT := Lib.hid (fun w => of_any 10 (by unfold I64; omega) w)
  have CN := Lib.hid (fun (c : Nat) (hc : c < 10) w => of_any (c : Int) (by unfold I64; omega) w)
  have CM : Hid (∀ (z : Nat), z < 10 ^ 60 → ∀ u v w, BR w u (z : Int) → BR w v 10 → Calls Tryd.prog 34 #[u, v] w (GiveB ((10 * z : Nat) : Int) w)) := by
    intro z hz u v w hu hv
    rw [show ((10 * z : Nat) : Int) = (z : Int) * 10 by omega]
    exact mul_any u v _ 10 w hu hv ((wd60 hz).mid (by omega)) ((show Wd 4 10 by unfold Wd; decide).mid (by omega))
  have CA : Hid (∀ (z c : Nat), z < 10 ^ 60 → c < 10 → ∀ u v w, BR w u ((10 * z : Nat) : Int) → BR w v (c : Int) → Calls Tryd.prog 13 #[u, v] w (GiveB ((10 * z + c : Nat) : Int) w)) := by
    intro z c hz hc u v w hu hv
    rw [show ((10 * z + c : Nat) : Int) = ((10 * z : Nat) : Int) + (c : Int) by omega]
    have h1 : Wd 204 ((10 * z : Nat) : Int) := by
      rw [show ((10 * z : Nat) : Int) = (z : Int) * 10 by omega]
      exact (wd60 hz).mul (show Wd 4 10 by unfold Wd; decide)
    exact add_any u v _ _ w hu hv (h1.mid (by omega)) ((wd_nat (show c ≤ 9223372036854775808 by omega)).mid (by omega))
  have hE : Hid (D m = decL l) := by rw [hD, hm]; show decL _ = _; rw [List.take_length]
  have hsz := str_len l
  rw [← hm] at hsz hl ⊢
  have g1 : Hid (decide ((0 : Int) < (m : Int)) = decide (0 < m)) := by show _ = _; rw [decide_eq_decide]; omega
  obtain ⟨b, hb0⟩ : ∃ b, b = decide (0 < m) := ⟨_, rfl⟩
  rw [← hb0] at g1 ⊢
  generalize (⟨l.toArray⟩ : ByteArray) = s at *
  clear hD hg hm
  obtain ⟨n, hn⟩ : ∃ n, n = m := ⟨_, rfl⟩
  replace hb0 := Lib.hid hb0
  go_enter Tryd.func51, Tryd.ntmps51
  go_wp2_with fail
  have BB := start1 w #[.bool false, .slice none 0 0] BT4
  obtain ⟨BB, hsz, r_res⟩ := BB
  generalize (w.alloc (.cells #[.bool false, .slice none 0 0] BT4)) = w0 at *
  replace BB := Lib.hid BB
  replace r_res := Lib.hid r_res
  clear hsz
  refine (CO.out _).mono ?_
  rintro e w1 ⟨v_s, rfl, hb, h_s⟩
  obtain ⟨A_s, n_s, cap_s, rfl, -⟩ := id h_s.form
  replace h_s := Lib.hid h_s
  replace r_res := Lib.hid (r_res.out.keep hb)
  replace BB := Lib.hid (below_next BB.out hb)
  clear hb
  go_upto_region 2 with fail
  have d_s := Lib.hid (And.intro BB.out.size (And.intro r_res.out.lt (True.intro)))
  obtain ⟨hb, r_s⟩ := laid w1 #[.bool (sgn 0), .slice A_s n_s cap_s] BT4
  replace r_res := Lib.hid (r_res.out.keep hb)
  replace h_s := Lib.hid (h_s.out.below hb)
  replace BB := Lib.hid (below_next BB.out hb)
  replace r_s := Lib.hid r_s
  clear hb
  generalize w1.alloc (.cells #[.bool (sgn 0), .slice A_s n_s cap_s] BT4) = w2 at *
  generalize w1.heap.size = g_s at *
  go_wp2_with fail
  go_loopw [5] (fun i wr => ∃ k A n' c, k ≤ m ∧ i = .int .i64 ((k : Nat) : Int) ∧ Hid (AtB wr g_s #[.bool (sgn (D k : Int)), .slice A n' c] BT4 ∧ BR wr (.agg #[.bool (sgn (D k : Int)), .slice A n' c]) (D k : Int) ∧ AtB wr w.heap.size #[.bool false, .slice none 0 0] BT4 ∧ Below w.heap.size w wr)) (fun i _ => n - (intOf i).toNat)
  case atStart => exact ⟨0, A_s, n_s, cap_s, by omega, rfl, by rw [D0.out]; exact ⟨r_s.out, h_s.out, r_res.out, BB.out⟩⟩
  case round =>
    clear BB h_s r_s r_res CO D0
    obtain ⟨k, A_s, n_s, cap_s, hk, rfl, hinv⟩ := hrel
    obtain ⟨r_s, h_s, r_res, BB⟩ := hinv.out
    replace r_s := Lib.hid r_s; replace h_s := Lib.hid h_s; replace BB := Lib.hid BB; replace r_res := Lib.hid r_res
    clear hinv
    have d_s' := d_s
    by_cases hlt : k < m
    · skip
      obtain ⟨c, hx, hc0, hc1, hDs⟩ := HI.out k hlt
      have k0 : (0 : Int) ≤ (k : Int) := by omega
      have k1 : (k : Int) < (n : Int) := by omega
      obtain ⟨d, hd⟩ : ∃ d, d = c - 48 := ⟨_, rfl⟩
      have q1 : ¬ (c : Int) < 48 := by omega
      have q2 : ¬ (57 : Int) < (c : Int) := by omega
      have hd10 : d < 10 := by omega
      have bd : -9223372036854775808 ≤ (d : Int) ∧ (d : Int) ≤ 9223372036854775807 := by omega
      have bk : -9223372036854775808 ≤ ((k + 1 : Nat) : Int) ∧ ((k + 1 : Nat) : Int) ≤ 9223372036854775807 := by omega
      have kk : (k : Int) + 1 = ((k + 1 : Nat) : Int) := by omega
      have km : k ≤ m := by omega
      have e1 : IntKind.u8.wrap ((c : Int) - 48) = (d : Int) := by rw [show (c : Int) - 48 = (d : Int) by omega]; simp [IntKind.wrap, IntKind.bits, IntKind.signed]; omega
      have e2 : wrap64 (d : Int) = (d : Int) := ww bd
      have e3 : IntKind.i64.wrap (d : Int) = (d : Int) := iw bd
      have ew : IntKind.i64.wrap ((k : Int) + 1) = ((k + 1 : Nat) : Int) := by rw [kk]; exact iw bk
      have E1 := Lib.hid (CM.out (D k) (HB.out k km))
      have E2 := Lib.hid (CA.out (D k) d (HB.out k km) hd10)
      have E3 := Lib.hid (CN.out d hd10)
      have hDn : Hid (D (k + 1) = 10 * D k + d) := by show _ = _; rw [hDs, hd]
      generalize 10 * D k + d = t at *
      generalize 10 * D k = p at *
      generalize D k = a at *
      clear hDs hd hc0 hc1 HI HB CM CA CN hd10 bd bk kk km
      obtain ⟨c_s0, c_s1, f_s0, f_s1⟩ := reads2 r_s.out
      have l_s := r_s.out.lt
      go_wp2_with fail
      clear c_s0 c_s1 f_s0 f_s1 l_s
      have KK := Lib.hid (fun (w9 : World) (h : Below wr.heap.size wr w9) => (cells2 (r_s.out.keep h) : (w9.cell? ⟨g_s, 0, none⟩ = some (.bool (sgn (↑a))) ∧ w9.cell? ⟨g_s, 1, none⟩ = some (.slice A_s n_s cap_s))))
      have K0 := KK.out wr (Below.refl _ _)
      have KD := KK.out wr.drew (below_drew (Below.refl _ _))
      have tok0 : Hid True := trivial
      have tok2 : Hid True := trivial
      refine AnyG.begin_ (fun w9 => (w9.cell? ⟨g_s, 0, none⟩ = some (.bool (sgn (↑a))) ∧ w9.cell? ⟨g_s, 1, none⟩ = some (.slice A_s n_s cap_s))) 10 (by kernel_rfl) ?_
      refine AnyG.take (i := 0) (v := ?_) rfl (by kernel_rfl) (by kernel_rfl) (by kernel_rfl) (fun _ _ _ h => h) (by kernel_rfl) (by kernel_rfl) (Or.inl ⟨by rfl, ?_⟩) (by assumption) ?_
      rotate_left
      · intro w9 hSw; (try dsimp only at hSw); go_simp <;> with_reducible rfl
      try simp only [Act.put, List.getElem_toArray, List.getElem_cons_zero, List.getElem_cons_succ, List.setIfInBounds_toArray, List.set_cons_zero, List.set_cons_succ]
      refine AnyG.take (i := 3) (v := ?_) rfl (by kernel_rfl) (by kernel_rfl) (by kernel_rfl) (fun _ _ _ h => h) (by kernel_rfl) (by kernel_rfl) (Or.inl ⟨by rfl, ?_⟩) (by assumption) ?_
      rotate_left
      · intro w9 hSw; (try dsimp only at hSw); go_simp <;> with_reducible rfl
      try simp only [Act.put, List.getElem_toArray, List.getElem_cons_zero, List.getElem_cons_succ, List.setIfInBounds_toArray, List.set_cons_zero, List.set_cons_succ]
      refine AnyG.take (i := 4) (v := ?_) rfl (by kernel_rfl) (by kernel_rfl) (by kernel_rfl) (fun _ _ _ h => h) (by kernel_rfl) (by kernel_rfl) (Or.inl ⟨by rfl, ?_⟩) (by assumption) ?_
      rotate_left
      · intro w9 hSw; (try dsimp only at hSw); go_simp <;> with_reducible rfl
      try simp only [Act.put, List.getElem_toArray, List.getElem_cons_zero, List.getElem_cons_succ, List.setIfInBounds_toArray, List.set_cons_zero, List.set_cons_succ]
      refine AnyG.take (i := 5) (v := ?_) rfl (by kernel_rfl) (by kernel_rfl) (by kernel_rfl) (fun _ _ _ h => h) (by kernel_rfl) (by kernel_rfl) (Or.inl ⟨by rfl, ?_⟩) (by assumption) ?_
      rotate_left
      · intro w9 hSw; (try dsimp only at hSw); go_simp <;> with_reducible rfl
      try simp only [Act.put, List.getElem_toArray, List.getElem_cons_zero, List.getElem_cons_succ, List.setIfInBounds_toArray, List.set_cons_zero, List.set_cons_succ]
      refine AnyG.take (i := 6) (v := ?_) rfl (by kernel_rfl) (by kernel_rfl) (by kernel_rfl) (fun _ _ _ h => h) (by kernel_rfl) (by kernel_rfl) (Or.inl ⟨by rfl, ?_⟩) (by assumption) ?_
      rotate_left
      · intro w9 hSw; (try dsimp only at hSw); go_simp <;> with_reducible rfl
      try simp only [Act.put, List.getElem_toArray, List.getElem_cons_zero, List.getElem_cons_succ, List.setIfInBounds_toArray, List.set_cons_zero, List.set_cons_succ]
      refine AnyG.take (i := 7) (v := ?_) rfl (by kernel_rfl) (by kernel_rfl) (by kernel_rfl) (fun _ _ _ h => h) (by kernel_rfl) (by kernel_rfl) (Or.inl ⟨by rfl, ?_⟩) (by assumption) ?_
      rotate_left
      · intro w9 hSw; (try dsimp only at hSw); go_simp <;> with_reducible rfl
      try simp only [Act.put, List.getElem_toArray, List.getElem_cons_zero, List.getElem_cons_succ, List.setIfInBounds_toArray, List.set_cons_zero, List.set_cons_succ]
      refine AnyG.step (i := 1) (by kernel_rfl) rfl (fun K hK => ?_)
      go_simp
      go_at_call 6
      have t_k := tok0
      refine (CT.out _).mono ?_
      rintro e w3 ⟨v_ten, rfl, hb, h_ten⟩
      obtain ⟨A_ten, n_ten, cap_ten, rfl, -⟩ := id h_ten.form
      replace h_ten := Lib.hid h_ten
      have B_w3 := Lib.hid (reg_next (w0 := wr) (by repeat (first | with_reducible exact Below.refl _ _ | with_reducible apply below_drew | with_reducible apply below_new)) hb)
      have K_w3 := KK.out _ B_w3.out
      clear hb
      clear t_k tok0
      refine hK.out _ _ (fun _ => K_w3) (fun hHeld => ?_)
      replace hHeld := hHeld (by decide)
      clear hK
      try simp only [Act.put, List.getElem_toArray, List.getElem_cons_zero, List.getElem_cons_succ, List.setIfInBounds_toArray, List.set_cons_zero, List.set_cons_succ]
      refine AnyG.step (i := 2) (by kernel_rfl) rfl (fun K hK => ?_)
      go_simp
      go_at_call 34
      refine (E1.out _ _ _ (h_s.out.below B_w3.out) h_ten.out).mono ?_
      rintro e w4 ⟨v_m, rfl, hb, h_m⟩
      obtain ⟨A_m, n_m, cap_m, rfl, -⟩ := id h_m.form
      replace h_m := Lib.hid h_m
      replace h_ten := Lib.hid (h_ten.out.below hb)
      have B_w4 := Lib.hid (below_next B_w3.out hb)
      have K_w4 := KK.out _ B_w4.out
      clear hb
      refine hK.out _ _ (fun _ => K_w4) (fun hHeld => ?_)
      replace hHeld := hHeld (by decide)
      clear hK
      try simp only [Act.put, List.getElem_toArray, List.getElem_cons_zero, List.getElem_cons_succ, List.setIfInBounds_toArray, List.set_cons_zero, List.set_cons_succ]
      refine AnyG.step (i := 8) (by kernel_rfl) rfl (fun K hK => ?_)
      go_simp
      go_at_call 6
      have t_k := tok2
      refine (E3.out _).mono ?_
      rintro e w5 ⟨v_q, rfl, hb, h_q⟩
      obtain ⟨A_q, n_q, cap_q, rfl, -⟩ := id h_q.form
      replace h_q := Lib.hid h_q
      replace h_ten := Lib.hid (h_ten.out.below hb)
      replace h_m := Lib.hid (h_m.out.below hb)
      have B_w5 := Lib.hid (below_next B_w4.out hb)
      have K_w5 := KK.out _ B_w5.out
      clear hb
      clear t_k tok2
      refine hK.out _ _ (fun _ => K_w5) (fun hHeld => ?_)
      replace hHeld := hHeld (by decide)
      clear hK
      try simp only [Act.put, List.getElem_toArray, List.getElem_cons_zero, List.getElem_cons_succ, List.setIfInBounds_toArray, List.set_cons_zero, List.set_cons_succ]
      refine AnyG.step (i := 9) (by kernel_rfl) rfl (fun K hK => ?_)
      go_simp
      go_at_call 13
      refine (E2.out _ _ _ h_m.out h_q.out).mono ?_
      rintro e w6 ⟨v_t, rfl, hb, h_t⟩
      obtain ⟨A_t, n_t, cap_t, rfl, -⟩ := id h_t.form
      replace h_t := Lib.hid h_t
      replace h_ten := Lib.hid (h_ten.out.below hb)
      replace h_m := Lib.hid (h_m.out.below hb)
      replace h_q := Lib.hid (h_q.out.below hb)
      have B_w6 := Lib.hid (below_next B_w5.out hb)
      have K_w6 := KK.out _ B_w6.out
      obtain ⟨rc_s0, rc_s1, rf_s0, rf_s1⟩ := reads2 (r_s.out.keep B_w6.out)
      have rl_s := (r_s.out.keep B_w6.out).lt
      clear hb
      refine hK.out _ _ (fun _ => K_w6) (fun hHeld => ?_)
      replace hHeld := hHeld (by decide)
      clear hK
      try simp only [Act.put, List.getElem_toArray, List.getElem_cons_zero, List.getElem_cons_succ, List.setIfInBounds_toArray, List.set_cons_zero, List.set_cons_succ]
      refine AnyG.step (i := 10) (by kernel_rfl) rfl (fun K hK => ?_)
      go_simp
      refine hK.out _ _ (fun h => absurd h (by decide)) (fun _ => ?_)
      clear hK
      try simp only [Act.put, List.getElem_toArray, List.getElem_cons_zero, List.getElem_cons_succ, List.setIfInBounds_toArray, List.set_cons_zero, List.set_cons_succ]
      refine AnyG.done (by kernel_rfl) ?_ _
      clear KK K0 KD K_w3 K_w4 K_w5 K_w6
      replace r_res := Lib.hid (r_res.out.keep B_w6.out)
      replace r_s := Lib.hid (r_s.out.keep B_w6.out)
      replace h_s := Lib.hid (h_s.out.below B_w6.out)
      replace BB := Lib.hid (below_next BB.out B_w6.out)
      clear B_w3 B_w4 B_w5 B_w6
      replace h_t := Lib.hid (h_t.out.far2 r_s.out (by decide) (.bool (sgn (t : Int))) (.slice A_t n_t cap_t))
      replace r_res := Lib.hid (r_res.out.far2 (p := g_s) (by have dd_s := d_s.out; omega) (.bool (sgn (t : Int))) (.slice A_t n_t cap_t))
      replace r_s := Lib.hid (r_s.out.set2 (.bool (sgn (t : Int))) (.slice A_t n_t cap_t))
      replace BB := Lib.hid (below_far2 BB.out (p := g_s) (by have dd := d_s.out; omega) (.bool (sgn (t : Int))) (.slice A_t n_t cap_t))
      generalize ((w6.setCell ⟨g_s, 0, none⟩ (.bool (sgn (t : Int)))).setCell ⟨g_s, 1, none⟩ (.slice A_t n_t cap_t)) = w7 at *
      go_wp2_with fail
      go_roundw
      case rel => exact ⟨k + 1, A_t, n_t, cap_t, by omega, by go_num, by rw [hDn.out]; exact ⟨r_s.out, h_t.out, r_res.out, BB.out⟩⟩
      case measure => simp [intOf, ew]; omega
    · obtain rfl : k = m := by omega
      have g2 := g1.out
      have hz := Lib.hid (HB.out k (Nat.le_refl _))
      have e0 : (decide (0 < k)) = b := hb0.out.symm
      have hE2 : Hid (∃ z, z = D k) := ⟨_, rfl⟩
      obtain ⟨z, hzz⟩ := hE2.out
      rw [← hzz] at r_s h_s hz hE
      clear hzz hE2 HI HB CM CA CN CT
      obtain ⟨c_s0, c_s1, f_s0, f_s1⟩ := reads2 r_s.out
      have l_s := r_s.out.lt
      obtain ⟨c_res0, c_res1, f_res0, f_res1⟩ := reads2 r_res.out
      have l_res := r_res.out.lt
      go_wp2_with fail
      replace h_s := Lib.hid (h_s.out.far2 r_res.out (by decide) (.bool (sgn (z : Int))) (.slice A_s n_s cap_s))
      clear c_s0 c_s1 f_s0 f_s1 l_s c_res0 c_res1 f_res0 f_res1 l_res
      replace r_res := Lib.hid (r_res.out.set2 (.bool (sgn (z : Int))) (.slice A_s n_s cap_s))
      replace r_s := Lib.hid (r_s.out.far2 (p := w.heap.size) (by have dd_s := d_s.out; omega) (.bool (sgn (z : Int))) (.slice A_s n_s cap_s))
      replace BB := Lib.hid (below_far2 BB.out (p := w.heap.size) (by omega) (.bool (sgn (z : Int))) (.slice A_s n_s cap_s))
      generalize ((wr.setCell ⟨w.heap.size, 0, none⟩ (.bool (sgn (z : Int)))).setCell ⟨w.heap.size, 1, none⟩ (.slice A_s n_s cap_s)) = w8 at *
      obtain ⟨c_res0, c_res1, f_res0, f_res1⟩ := reads2 r_res.out
      have l_res := r_res.out.lt
      refine bodyPost_ret (v := .tuple #[.agg #[.bool (sgn (z : Int)), .slice A_s n_s cap_s], .bool b]) (by unfold results; simp only [Tryd.results51]; go_simp) rfl ?_
      exact ⟨_, z, rfl, BB.out, h_s.out, hz.out, hE.out⟩
set_option maxRecDepth 100000 in
set_option maxHeartbeats 8000000 in
theorem dg_bad (l : List UInt8) (hl : l.length ≤ 60) (hd : ¬ isD l) (w : World) : Calls Tryd.prog 51 #[.string ⟨l.toArray⟩] w (GiveDB w) := by
  obtain ⟨m, hm, hgood, hbad⟩ := first_bad hd
  have hg : ∀ k (hk : k < m) (hl : k < l.length), 48 ≤ l[k].toNat ∧ l[k].toNat ≤ 57 := fun k hk hl => hgood k hk
  have HI : Hid (∀ k, k < m → ∃ c : Nat, (∀ w, (Instr.index 9 (.string ⟨l.toArray⟩) (.int .i64 (k : Int))).run Tryd.prog w = .ok (.int .u8 (c : Int)) w) ∧ 48 ≤ c ∧ c ≤ 57 ∧ decL (l.take (k + 1)) = 10 * decL (l.take k) + (c - 48)) := by
    intro k hk
    have hkl : k < l.length := by omega
    have e : l.take (k + 1) = l.take k ++ [l[k]] := by rw [List.take_add_one, List.getElem?_eq_getElem hkl]; rfl
    exact ⟨l[k].toNat, fun w => str_index l k hkl w, (hg k hk hkl).1, (hg k hk hkl).2, by rw [e, decL_app]⟩
  have HB : Hid (∀ k, k ≤ m → decL (l.take k) < 10 ^ 60) := by
    intro k hk
    have h1 := decL_lt (take_isD hg k hk)
    exact Nat.lt_of_lt_of_le h1 (Nat.pow_le_pow_right (by omega) (by simp; omega))
  obtain ⟨D, hD⟩ : ∃ D : Nat → Nat, D = fun k => decL (l.take k) := ⟨_, rfl⟩
  have D0 : Hid (D 0 = 0) := by rw [hD]; rfl
  have HI : Hid (∀ k, k < m → ∃ c : Nat, (∀ w, (Instr.index 9 (.string ⟨l.toArray⟩) (.int .i64 (k : Int))).run Tryd.prog w = .ok (.int .u8 (c : Int)) w) ∧ 48 ≤ c ∧ c ≤ 57 ∧ D (k + 1) = 10 * D k + (c - 48)) := by rw [hD]; exact HI.out
  have HB : Hid (∀ k, k ≤ m → D k < 10 ^ 60) := by rw [hD]; exact HB.out
  have CO := Lib.hid (fun w => of_any 0 (by unfold I64; omega) w)
  have CT := Lib.hid (fun w => of_any 10 (by unfold I64; omega) w)
  have CN := Lib.hid (fun (c : Nat) (hc : c < 10) w => of_any (c : Int) (by unfold I64; omega) w)
  have CM : Hid (∀ (z : Nat), z < 10 ^ 60 → ∀ u v w, BR w u (z : Int) → BR w v 10 → Calls Tryd.prog 34 #[u, v] w (GiveB ((10 * z : Nat) : Int) w)) := by
    intro z hz u v w hu hv
    rw [show ((10 * z : Nat) : Int) = (z : Int) * 10 by omega]
    exact mul_any u v _ 10 w hu hv ((wd60 hz).mid (by omega)) ((show Wd 4 10 by unfold Wd; decide).mid (by omega))
  have CA : Hid (∀ (z c : Nat), z < 10 ^ 60 → c < 10 → ∀ u v w, BR w u ((10 * z : Nat) : Int) → BR w v (c : Int) → Calls Tryd.prog 13 #[u, v] w (GiveB ((10 * z + c : Nat) : Int) w)) := by
    intro z c hz hc u v w hu hv
    rw [show ((10 * z + c : Nat) : Int) = ((10 * z : Nat) : Int) + (c : Int) by omega]
    have h1 : Wd 204 ((10 * z : Nat) : Int) := by
      rw [show ((10 * z : Nat) : Int) = (z : Int) * 10 by omega]
      exact (wd60 hz).mul (show Wd 4 10 by unfold Wd; decide)
    exact add_any u v _ _ w hu hv (h1.mid (by omega)) ((wd_nat (show c ≤ 9223372036854775808 by omega)).mid (by omega))
  have hX := fun w => str_index l m hm w
  have hsz := str_len l
  obtain ⟨cb, hcb⟩ : ∃ c, c = l[m].toNat := ⟨_, rfl⟩
  rw [← hcb] at hX hbad
  replace hX := Lib.hid hX
  obtain ⟨n, hn⟩ : ∃ n, n = l.length := ⟨_, rfl⟩
  rw [← hn] at hsz hl hm
  clear hcb hgood hg hD hd
  generalize (⟨l.toArray⟩ : ByteArray) = s at *
  clear hn
  go_enter Tryd.func51, Tryd.ntmps51
  go_wp2_with fail
  have BB := start1 w #[.bool false, .slice none 0 0] BT4
  obtain ⟨BB, hsz, r_res⟩ := BB
  generalize (w.alloc (.cells #[.bool false, .slice none 0 0] BT4)) = w0 at *
  replace BB := Lib.hid BB
  replace r_res := Lib.hid r_res
  clear hsz
  refine (CO.out _).mono ?_
  rintro e w1 ⟨v_s, rfl, hb, h_s⟩
  obtain ⟨A_s, n_s, cap_s, rfl, -⟩ := id h_s.form
  replace h_s := Lib.hid h_s
  replace r_res := Lib.hid (r_res.out.keep hb)
  replace BB := Lib.hid (below_next BB.out hb)
  clear hb
  go_upto_region 2 with fail
  have d_s := Lib.hid (And.intro BB.out.size (And.intro r_res.out.lt (True.intro)))
  obtain ⟨hb, r_s⟩ := laid w1 #[.bool (sgn 0), .slice A_s n_s cap_s] BT4
  replace r_res := Lib.hid (r_res.out.keep hb)
  replace h_s := Lib.hid (h_s.out.below hb)
  replace BB := Lib.hid (below_next BB.out hb)
  replace r_s := Lib.hid r_s
  clear hb
  generalize w1.alloc (.cells #[.bool (sgn 0), .slice A_s n_s cap_s] BT4) = w2 at *
  generalize w1.heap.size = g_s at *
  go_wp2_with fail
  go_loopw [5] (fun i wr => ∃ k A n' c, k ≤ m ∧ i = .int .i64 ((k : Nat) : Int) ∧ Hid (AtB wr g_s #[.bool (sgn (D k : Int)), .slice A n' c] BT4 ∧ BR wr (.agg #[.bool (sgn (D k : Int)), .slice A n' c]) (D k : Int) ∧ AtB wr w.heap.size #[.bool false, .slice none 0 0] BT4 ∧ Below w.heap.size w wr)) (fun i _ => n - (intOf i).toNat)
  case atStart => exact ⟨0, A_s, n_s, cap_s, by omega, rfl, by rw [D0.out]; exact ⟨r_s.out, h_s.out, r_res.out, BB.out⟩⟩
  case round =>
    clear BB h_s r_s r_res CO D0
    obtain ⟨k, A_s, n_s, cap_s, hk, rfl, hinv⟩ := hrel
    obtain ⟨r_s, h_s, r_res, BB⟩ := hinv.out
    replace r_s := Lib.hid r_s; replace h_s := Lib.hid h_s; replace BB := Lib.hid BB; replace r_res := Lib.hid r_res
    clear hinv
    have d_s' := d_s
    by_cases hlt : k < m
    · skip
      obtain ⟨c, hx, hc0, hc1, hDs⟩ := HI.out k hlt
      have k0 : (0 : Int) ≤ (k : Int) := by omega
      have k1 : (k : Int) < (n : Int) := by omega
      obtain ⟨d, hd⟩ : ∃ d, d = c - 48 := ⟨_, rfl⟩
      have q1 : ¬ (c : Int) < 48 := by omega
      have q2 : ¬ (57 : Int) < (c : Int) := by omega
      have hd10 : d < 10 := by omega
      have bd : -9223372036854775808 ≤ (d : Int) ∧ (d : Int) ≤ 9223372036854775807 := by omega
      have bk : -9223372036854775808 ≤ ((k + 1 : Nat) : Int) ∧ ((k + 1 : Nat) : Int) ≤ 9223372036854775807 := by omega
      have kk : (k : Int) + 1 = ((k + 1 : Nat) : Int) := by omega
      have km : k ≤ m := by omega
      have e1 : IntKind.u8.wrap ((c : Int) - 48) = (d : Int) := by rw [show (c : Int) - 48 = (d : Int) by omega]; simp [IntKind.wrap, IntKind.bits, IntKind.signed]; omega
      have e2 : wrap64 (d : Int) = (d : Int) := ww bd
      have e3 : IntKind.i64.wrap (d : Int) = (d : Int) := iw bd
      have ew : IntKind.i64.wrap ((k : Int) + 1) = ((k + 1 : Nat) : Int) := by rw [kk]; exact iw bk
      have E1 := Lib.hid (CM.out (D k) (HB.out k km))
      have E2 := Lib.hid (CA.out (D k) d (HB.out k km) hd10)
      have E3 := Lib.hid (CN.out d hd10)
      have hDn : Hid (D (k + 1) = 10 * D k + d) := by show _ = _; rw [hDs, hd]
      generalize 10 * D k + d = t at *
      generalize 10 * D k = p at *
      generalize D k = a at *
      clear hDs hd hc0 hc1 HI HB CM CA CN hd10 bd bk kk km
      obtain ⟨c_s0, c_s1, f_s0, f_s1⟩ := reads2 r_s.out
      have l_s := r_s.out.lt
      go_wp2_with fail
      clear c_s0 c_s1 f_s0 f_s1 l_s
      have KK := Lib.hid (fun (w9 : World) (h : Below wr.heap.size wr w9) => (cells2 (r_s.out.keep h) : (w9.cell? ⟨g_s, 0, none⟩ = some (.bool (sgn (↑a))) ∧ w9.cell? ⟨g_s, 1, none⟩ = some (.slice A_s n_s cap_s))))
      have K0 := KK.out wr (Below.refl _ _)
      have KD := KK.out wr.drew (below_drew (Below.refl _ _))
      have tok0 : Hid True := trivial
      have tok2 : Hid True := trivial
      refine AnyG.begin_ (fun w9 => (w9.cell? ⟨g_s, 0, none⟩ = some (.bool (sgn (↑a))) ∧ w9.cell? ⟨g_s, 1, none⟩ = some (.slice A_s n_s cap_s))) 10 (by kernel_rfl) ?_
      refine AnyG.take (i := 0) (v := ?_) rfl (by kernel_rfl) (by kernel_rfl) (by kernel_rfl) (fun _ _ _ h => h) (by kernel_rfl) (by kernel_rfl) (Or.inl ⟨by rfl, ?_⟩) (by assumption) ?_
      rotate_left
      · intro w9 hSw; (try dsimp only at hSw); go_simp <;> with_reducible rfl
      try simp only [Act.put, List.getElem_toArray, List.getElem_cons_zero, List.getElem_cons_succ, List.setIfInBounds_toArray, List.set_cons_zero, List.set_cons_succ]
      refine AnyG.take (i := 3) (v := ?_) rfl (by kernel_rfl) (by kernel_rfl) (by kernel_rfl) (fun _ _ _ h => h) (by kernel_rfl) (by kernel_rfl) (Or.inl ⟨by rfl, ?_⟩) (by assumption) ?_
      rotate_left
      · intro w9 hSw; (try dsimp only at hSw); go_simp <;> with_reducible rfl
      try simp only [Act.put, List.getElem_toArray, List.getElem_cons_zero, List.getElem_cons_succ, List.setIfInBounds_toArray, List.set_cons_zero, List.set_cons_succ]
      refine AnyG.take (i := 4) (v := ?_) rfl (by kernel_rfl) (by kernel_rfl) (by kernel_rfl) (fun _ _ _ h => h) (by kernel_rfl) (by kernel_rfl) (Or.inl ⟨by rfl, ?_⟩) (by assumption) ?_
      rotate_left
      · intro w9 hSw; (try dsimp only at hSw); go_simp <;> with_reducible rfl
      try simp only [Act.put, List.getElem_toArray, List.getElem_cons_zero, List.getElem_cons_succ, List.setIfInBounds_toArray, List.set_cons_zero, List.set_cons_succ]
      refine AnyG.take (i := 5) (v := ?_) rfl (by kernel_rfl) (by kernel_rfl) (by kernel_rfl) (fun _ _ _ h => h) (by kernel_rfl) (by kernel_rfl) (Or.inl ⟨by rfl, ?_⟩) (by assumption) ?_
      rotate_left
      · intro w9 hSw; (try dsimp only at hSw); go_simp <;> with_reducible rfl
      try simp only [Act.put, List.getElem_toArray, List.getElem_cons_zero, List.getElem_cons_succ, List.setIfInBounds_toArray, List.set_cons_zero, List.set_cons_succ]
      refine AnyG.take (i := 6) (v := ?_) rfl (by kernel_rfl) (by kernel_rfl) (by kernel_rfl) (fun _ _ _ h => h) (by kernel_rfl) (by kernel_rfl) (Or.inl ⟨by rfl, ?_⟩) (by assumption) ?_
      rotate_left
      · intro w9 hSw; (try dsimp only at hSw); go_simp <;> with_reducible rfl
      try simp only [Act.put, List.getElem_toArray, List.getElem_cons_zero, List.getElem_cons_succ, List.setIfInBounds_toArray, List.set_cons_zero, List.set_cons_succ]
      refine AnyG.take (i := 7) (v := ?_) rfl (by kernel_rfl) (by kernel_rfl) (by kernel_rfl) (fun _ _ _ h => h) (by kernel_rfl) (by kernel_rfl) (Or.inl ⟨by rfl, ?_⟩) (by assumption) ?_
      rotate_left
      · intro w9 hSw; (try dsimp only at hSw); go_simp <;> with_reducible rfl
      try simp only [Act.put, List.getElem_toArray, List.getElem_cons_zero, List.getElem_cons_succ, List.setIfInBounds_toArray, List.set_cons_zero, List.set_cons_succ]
      refine AnyG.step (i := 1) (by kernel_rfl) rfl (fun K hK => ?_)
      go_simp
      go_at_call 6
      have t_k := tok0
      refine (CT.out _).mono ?_
      rintro e w3 ⟨v_ten, rfl, hb, h_ten⟩
      obtain ⟨A_ten, n_ten, cap_ten, rfl, -⟩ := id h_ten.form
      replace h_ten := Lib.hid h_ten
      have B_w3 := Lib.hid (reg_next (w0 := wr) (by repeat (first | with_reducible exact Below.refl _ _ | with_reducible apply below_drew | with_reducible apply below_new)) hb)
      have K_w3 := KK.out _ B_w3.out
      clear hb
      clear t_k tok0
      refine hK.out _ _ (fun _ => K_w3) (fun hHeld => ?_)
      replace hHeld := hHeld (by decide)
      clear hK
      try simp only [Act.put, List.getElem_toArray, List.getElem_cons_zero, List.getElem_cons_succ, List.setIfInBounds_toArray, List.set_cons_zero, List.set_cons_succ]
      refine AnyG.step (i := 2) (by kernel_rfl) rfl (fun K hK => ?_)
      go_simp
      go_at_call 34
      refine (E1.out _ _ _ (h_s.out.below B_w3.out) h_ten.out).mono ?_
      rintro e w4 ⟨v_m, rfl, hb, h_m⟩
      obtain ⟨A_m, n_m, cap_m, rfl, -⟩ := id h_m.form
      replace h_m := Lib.hid h_m
      replace h_ten := Lib.hid (h_ten.out.below hb)
      have B_w4 := Lib.hid (below_next B_w3.out hb)
      have K_w4 := KK.out _ B_w4.out
      clear hb
      refine hK.out _ _ (fun _ => K_w4) (fun hHeld => ?_)
      replace hHeld := hHeld (by decide)
      clear hK
      try simp only [Act.put, List.getElem_toArray, List.getElem_cons_zero, List.getElem_cons_succ, List.setIfInBounds_toArray, List.set_cons_zero, List.set_cons_succ]
      refine AnyG.step (i := 8) (by kernel_rfl) rfl (fun K hK => ?_)
      go_simp
      go_at_call 6
      have t_k := tok2
      refine (E3.out _).mono ?_
      rintro e w5 ⟨v_q, rfl, hb, h_q⟩
      obtain ⟨A_q, n_q, cap_q, rfl, -⟩ := id h_q.form
      replace h_q := Lib.hid h_q
      replace h_ten := Lib.hid (h_ten.out.below hb)
      replace h_m := Lib.hid (h_m.out.below hb)
      have B_w5 := Lib.hid (below_next B_w4.out hb)
      have K_w5 := KK.out _ B_w5.out
      clear hb
      clear t_k tok2
      refine hK.out _ _ (fun _ => K_w5) (fun hHeld => ?_)
      replace hHeld := hHeld (by decide)
      clear hK
      try simp only [Act.put, List.getElem_toArray, List.getElem_cons_zero, List.getElem_cons_succ, List.setIfInBounds_toArray, List.set_cons_zero, List.set_cons_succ]
      refine AnyG.step (i := 9) (by kernel_rfl) rfl (fun K hK => ?_)
      go_simp
      go_at_call 13
      refine (E2.out _ _ _ h_m.out h_q.out).mono ?_
      rintro e w6 ⟨v_t, rfl, hb, h_t⟩
      obtain ⟨A_t, n_t, cap_t, rfl, -⟩ := id h_t.form
      replace h_t := Lib.hid h_t
      replace h_ten := Lib.hid (h_ten.out.below hb)
      replace h_m := Lib.hid (h_m.out.below hb)
      replace h_q := Lib.hid (h_q.out.below hb)
      have B_w6 := Lib.hid (below_next B_w5.out hb)
      have K_w6 := KK.out _ B_w6.out
      obtain ⟨rc_s0, rc_s1, rf_s0, rf_s1⟩ := reads2 (r_s.out.keep B_w6.out)
      have rl_s := (r_s.out.keep B_w6.out).lt
      clear hb
      refine hK.out _ _ (fun _ => K_w6) (fun hHeld => ?_)
      replace hHeld := hHeld (by decide)
      clear hK
      try simp only [Act.put, List.getElem_toArray, List.getElem_cons_zero, List.getElem_cons_succ, List.setIfInBounds_toArray, List.set_cons_zero, List.set_cons_succ]
      refine AnyG.step (i := 10) (by kernel_rfl) rfl (fun K hK => ?_)
      go_simp
      refine hK.out _ _ (fun h => absurd h (by decide)) (fun _ => ?_)
      clear hK
      try simp only [Act.put, List.getElem_toArray, List.getElem_cons_zero, List.getElem_cons_succ, List.setIfInBounds_toArray, List.set_cons_zero, List.set_cons_succ]
      refine AnyG.done (by kernel_rfl) ?_ _
      clear KK K0 KD K_w3 K_w4 K_w5 K_w6
      replace r_res := Lib.hid (r_res.out.keep B_w6.out)
      replace r_s := Lib.hid (r_s.out.keep B_w6.out)
      replace h_s := Lib.hid (h_s.out.below B_w6.out)
      replace BB := Lib.hid (below_next BB.out B_w6.out)
      clear B_w3 B_w4 B_w5 B_w6
      replace h_t := Lib.hid (h_t.out.far2 r_s.out (by decide) (.bool (sgn (t : Int))) (.slice A_t n_t cap_t))
      replace r_res := Lib.hid (r_res.out.far2 (p := g_s) (by have dd_s := d_s.out; omega) (.bool (sgn (t : Int))) (.slice A_t n_t cap_t))
      replace r_s := Lib.hid (r_s.out.set2 (.bool (sgn (t : Int))) (.slice A_t n_t cap_t))
      replace BB := Lib.hid (below_far2 BB.out (p := g_s) (by have dd := d_s.out; omega) (.bool (sgn (t : Int))) (.slice A_t n_t cap_t))
      generalize ((w6.setCell ⟨g_s, 0, none⟩ (.bool (sgn (t : Int)))).setCell ⟨g_s, 1, none⟩ (.slice A_t n_t cap_t)) = w7 at *
      go_wp2_with fail
      go_roundw
      case rel => exact ⟨k + 1, A_t, n_t, cap_t, by omega, by go_num, by rw [hDn.out]; exact ⟨r_s.out, h_t.out, r_res.out, BB.out⟩⟩
      case measure => simp [intOf, ew]; omega
    · obtain rfl : k = m := by omega
      have hz := Lib.hid (HB.out k (Nat.le_refl _))
      have k0 : (0 : Int) ≤ (k : Int) := by omega
      have k1 : (k : Int) < (n : Int) := by omega
      have hx := hX.out
      have hE2 : Hid (∃ z, z = D k) := ⟨_, rfl⟩
      obtain ⟨z, hzz⟩ := hE2.out
      rw [← hzz] at r_s h_s hz
      clear hzz hE2 HI HB CM CA CN CT
      by_cases hlo : (cb : Int) < 48
      · clear hbad
        obtain ⟨c_s0, c_s1, f_s0, f_s1⟩ := reads2 r_s.out
        have l_s := r_s.out.lt
        obtain ⟨c_res0, c_res1, f_res0, f_res1⟩ := reads2 r_res.out
        have l_res := r_res.out.lt
        go_wp2_with fail
        replace h_s := Lib.hid (h_s.out.far2 r_res.out (by decide) (.bool (sgn (z : Int))) (.slice A_s n_s cap_s))
        clear c_s0 c_s1 f_s0 f_s1 l_s c_res0 c_res1 f_res0 f_res1 l_res
        replace r_res := Lib.hid (r_res.out.set2 (.bool (sgn (z : Int))) (.slice A_s n_s cap_s))
        replace r_s := Lib.hid (r_s.out.far2 (p := w.heap.size) (by have dd_s := d_s.out; omega) (.bool (sgn (z : Int))) (.slice A_s n_s cap_s))
        replace BB := Lib.hid (below_far2 BB.out (p := w.heap.size) (by omega) (.bool (sgn (z : Int))) (.slice A_s n_s cap_s))
        generalize ((wr.setCell ⟨w.heap.size, 0, none⟩ (.bool (sgn (z : Int)))).setCell ⟨w.heap.size, 1, none⟩ (.slice A_s n_s cap_s)) = w8 at *
        obtain ⟨c_res0, c_res1, f_res0, f_res1⟩ := reads2 r_res.out
        have l_res := r_res.out.lt
        refine bodyPost_ret (v := .tuple #[.agg #[.bool (sgn (z : Int)), .slice A_s n_s cap_s], .bool false]) (by unfold results; simp only [Tryd.results51]; go_simp) rfl ?_
        exact ⟨_, z, rfl, BB.out, h_s.out, hz.out⟩
      · have hhi : (57 : Int) < (cb : Int) := by omega
        clear hbad
        obtain ⟨c_s0, c_s1, f_s0, f_s1⟩ := reads2 r_s.out
        have l_s := r_s.out.lt
        obtain ⟨c_res0, c_res1, f_res0, f_res1⟩ := reads2 r_res.out
        have l_res := r_res.out.lt
        go_wp2_with fail
        replace h_s := Lib.hid (h_s.out.far2 r_res.out (by decide) (.bool (sgn (z : Int))) (.slice A_s n_s cap_s))
        clear c_s0 c_s1 f_s0 f_s1 l_s c_res0 c_res1 f_res0 f_res1 l_res
        replace r_res := Lib.hid (r_res.out.set2 (.bool (sgn (z : Int))) (.slice A_s n_s cap_s))
        replace r_s := Lib.hid (r_s.out.far2 (p := w.heap.size) (by have dd_s := d_s.out; omega) (.bool (sgn (z : Int))) (.slice A_s n_s cap_s))
        replace BB := Lib.hid (below_far2 BB.out (p := w.heap.size) (by omega) (.bool (sgn (z : Int))) (.slice A_s n_s cap_s))
        generalize ((wr.setCell ⟨w.heap.size, 0, none⟩ (.bool (sgn (z : Int)))).setCell ⟨w.heap.size, 1, none⟩ (.slice A_s n_s cap_s)) = w8 at *
        obtain ⟨c_res0, c_res1, f_res0, f_res1⟩ := reads2 r_res.out
        have l_res := r_res.out.lt
        refine bodyPost_ret (v := .tuple #[.agg #[.bool (sgn (z : Int)), .slice A_s n_s cap_s], .bool false]) (by unfold results; simp only [Tryd.results51]; go_simp) rfl ?_
        exact ⟨_, z, rfl, BB.out, h_s.out, hz.out⟩
theorem dg_any (l : List UInt8) (hl : l.length ≤ 60) (w : World) : Calls Tryd.prog 51 #[.string ⟨l.toArray⟩] w (GiveD l w) := by
  by_cases hd : isD l
  · refine (dg_ok l hl hd w).mono ?_
    rintro e w' ⟨r, z, rfl, hb, hr, hz, hl⟩
    exact ⟨r, z, by rw [show (decide (0 < l.length ∧ isD l)) = decide (0 < l.length) by rw [decide_eq_decide]; exact ⟨fun h => h.1, fun h => ⟨h, hd⟩⟩], hb, hr, hz, fun _ => hl⟩
  · refine (dg_bad l hl hd w).mono ?_
    rintro e w' ⟨r, z, rfl, hb, hr, hz⟩
    exact ⟨r, z, by rw [show (decide (0 < l.length ∧ isD l)) = false by rw [decide_eq_false_iff_not]; exact fun h => hd h.2], hb, hr, hz, fun h => absurd h hd⟩
end Go.Proofs.YthdbchghhpoadaaDoor
