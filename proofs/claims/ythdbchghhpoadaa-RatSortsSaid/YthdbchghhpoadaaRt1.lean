/- Contracts of rat.gcd, over, least, Least, Add, Mul, Cmp. -/
import Derived.Test.YthdbchghhpoadaaRt0
set_option linter.unusedVariables false
set_option linter.unusedSimpArgs false
namespace Go.Proofs.Ythdbchghhpoadaa
open Go.RowKit
theorem gcd_step {a b : Int} (ha : 0 ≤ a) (hb : 0 ≤ b) : (Int.gcd b (a % b) : Int) = Int.gcd a b := by
  obtain ⟨m, rfl⟩ := Int.eq_ofNat_of_zero_le ha
  obtain ⟨n, rfl⟩ := Int.eq_ofNat_of_zero_le hb
  rw [show ((m : Int) % (n : Int)) = ((m % n : Nat) : Int) from by omega]
  show ((Nat.gcd n (m % n) : Nat) : Int) = (Nat.gcd m n : Nat)
  rw [Nat.gcd_comm n, ← Nat.gcd_rec, Nat.gcd_comm]
theorem gcd_abs (a b : Int) : Int.gcd (a.natAbs : Int) (b.natAbs : Int) = Int.gcd a b := by simp [Int.gcd]
set_option maxRecDepth 100000 in
set_option maxHeartbeats 8000000 in
theorem rgcdW (x y ah al bh bl : Int) (ha : W128 x ah al) (hb : W128 y bh bl) (hx : IM x) (hy : IM y) (w : World) : Calls Try.prog 111 #[wv ah al, wv bh bl] w (GiveW (Int.gcd x y : Int) w) := by
  have CP := Lib.hid (fun x xh xl w hx hm => rplainW x xh xl hx hm w)
  have CG := Lib.hid (fun x xh xl w hx => wsign x xh xl hx w)
  have CL := Lib.hid (fun x xh xl y yh yl w hx hy hmx hmy => rleftW x y xh xl yh yl hx hy hmx hmy w)
  have HA := Lib.hid ha; have HB := Lib.hid hb
  clear ha hb
  go_enter Try.func111, Try.ntmps111
  go_wp2_with fail
  have BB := start3 w #[.int .i64 ah, .int .u64 al] WT #[.int .i64 bh, .int .u64 bl] WT #[.int .i64 0, .int .u64 0] WT
  obtain ⟨BB, hsz, r_a, r_b, r_res⟩ := BB
  generalize (((w.alloc (.cells #[.int .i64 ah, .int .u64 al] WT)).alloc (.cells #[.int .i64 bh, .int .u64 bl] WT)).alloc (.cells #[.int .i64 0, .int .u64 0] WT)) = w0 at *
  replace BB := Lib.hid BB
  replace r_a := Lib.hid r_a
  replace r_b := Lib.hid r_b
  replace r_res := Lib.hid r_res
  clear hsz
  have KK := Lib.hid (fun (w9 : World) (h : Below w0.heap.size w0 w9) => (⟨cells2 (r_a.out.keep h), cells2 (r_b.out.keep h)⟩ : (w9.cell? ⟨w.heap.size, 0, none⟩ = some (.int .i64 ah) ∧ w9.cell? ⟨w.heap.size, 1, none⟩ = some (.int .u64 al)) ∧ (w9.cell? ⟨w.heap.size + 1, 0, none⟩ = some (.int .i64 bh) ∧ w9.cell? ⟨w.heap.size + 1, 1, none⟩ = some (.int .u64 bl))))
  have K0 := KK.out w0 (Below.refl _ _)
  have KD := KK.out w0.drew (below_drew (Below.refl _ _))
  have tok0 : Hid True := trivial
  have tok1 : Hid True := trivial
  refine AnyG.begin_ (fun w9 => (w9.cell? ⟨w.heap.size, 0, none⟩ = some (.int .i64 ah) ∧ w9.cell? ⟨w.heap.size, 1, none⟩ = some (.int .u64 al)) ∧ (w9.cell? ⟨w.heap.size + 1, 0, none⟩ = some (.int .i64 bh) ∧ w9.cell? ⟨w.heap.size + 1, 1, none⟩ = some (.int .u64 bl))) 4 (by kernel_rfl) ?_
  refine AnyG.take (i := 0) (v := ?_) rfl (by kernel_rfl) (by kernel_rfl) (by kernel_rfl) (fun _ _ _ h => h) (by kernel_rfl) (by kernel_rfl) (Or.inl ⟨by rfl, ?_⟩) (by assumption) ?_
  rotate_left
  · intro w9 hSw; (try dsimp only at hSw); go_simp <;> with_reducible rfl
  try simp only [Act.put, List.getElem_toArray, List.getElem_cons_zero, List.getElem_cons_succ, List.setIfInBounds_toArray, List.set_cons_zero, List.set_cons_succ]
  refine AnyG.take (i := 2) (v := ?_) rfl (by kernel_rfl) (by kernel_rfl) (by kernel_rfl) (fun _ _ _ h => h) (by kernel_rfl) (by kernel_rfl) (Or.inl ⟨by rfl, ?_⟩) (by assumption) ?_
  rotate_left
  · intro w9 hSw; (try dsimp only at hSw); go_simp <;> with_reducible rfl
  try simp only [Act.put, List.getElem_toArray, List.getElem_cons_zero, List.getElem_cons_succ, List.setIfInBounds_toArray, List.set_cons_zero, List.set_cons_succ]
  refine AnyG.step (i := 1) (by kernel_rfl) rfl (fun K hK => ?_)
  go_simp
  go_at_call 126
  have t_k := tok0
  refine (CP.out _ _ _ _ HA.out hx).mono ?_
  rintro e w1 ⟨ph, pl, rfl, hb, hp⟩
  have B_w1 := Lib.hid (reg_next (w0 := w0) (by repeat (first | with_reducible exact Below.refl _ _ | with_reducible apply below_drew | with_reducible apply below_new)) hb)
  have K_w1 := KK.out _ B_w1.out
  clear hb
  clear t_k tok0
  refine hK.out _ _ (fun _ => K_w1) (fun hHeld => ?_)
  replace hHeld := hHeld (by decide)
  clear hK
  try simp only [Act.put, List.getElem_toArray, List.getElem_cons_zero, List.getElem_cons_succ, List.setIfInBounds_toArray, List.set_cons_zero, List.set_cons_succ]
  refine AnyG.step (i := 3) (by kernel_rfl) rfl (fun K hK => ?_)
  go_simp
  go_at_call 126
  have t_k := tok1
  refine (CP.out _ _ _ _ HB.out hy).mono ?_
  rintro e w2 ⟨qh, ql, rfl, hb, hq⟩
  have B_w2 := Lib.hid (below_next B_w1.out hb)
  have K_w2 := KK.out _ B_w2.out
  obtain ⟨rc_a0, rc_a1, rf_a0, rf_a1⟩ := reads2 (r_a.out.keep B_w2.out)
  have rl_a := (r_a.out.keep B_w2.out).lt
  obtain ⟨rc_b0, rc_b1, rf_b0, rf_b1⟩ := reads2 (r_b.out.keep B_w2.out)
  have rl_b := (r_b.out.keep B_w2.out).lt
  clear hb
  clear t_k tok1
  refine hK.out _ _ (fun _ => K_w2) (fun hHeld => ?_)
  replace hHeld := hHeld (by decide)
  clear hK
  try simp only [Act.put, List.getElem_toArray, List.getElem_cons_zero, List.getElem_cons_succ, List.setIfInBounds_toArray, List.set_cons_zero, List.set_cons_succ]
  refine AnyG.step (i := 4) (by kernel_rfl) rfl (fun K hK => ?_)
  go_simp
  refine hK.out _ _ (fun h => absurd h (by decide)) (fun _ => ?_)
  clear hK
  try simp only [Act.put, List.getElem_toArray, List.getElem_cons_zero, List.getElem_cons_succ, List.setIfInBounds_toArray, List.set_cons_zero, List.set_cons_succ]
  refine AnyG.step (i := 5) (by kernel_rfl) rfl (fun K hK => ?_)
  go_simp
  refine hK.out _ _ (fun h => absurd h (by decide)) (fun _ => ?_)
  clear hK
  try simp only [Act.put, List.getElem_toArray, List.getElem_cons_zero, List.getElem_cons_succ, List.setIfInBounds_toArray, List.set_cons_zero, List.set_cons_succ]
  refine AnyG.done (by kernel_rfl) ?_ _
  clear KK K0 KD K_w1 K_w2
  replace r_a := Lib.hid (r_a.out.keep B_w2.out)
  replace r_b := Lib.hid (r_b.out.keep B_w2.out)
  replace r_res := Lib.hid (r_res.out.keep B_w2.out)
  replace BB := Lib.hid (below_next BB.out B_w2.out)
  clear B_w1 B_w2
  replace r_a := Lib.hid (r_a.out.set2 (.int .i64 ph) (.int .u64 pl))
  replace r_b := Lib.hid (r_b.out.far2 (p := w.heap.size) (by omega) (.int .i64 ph) (.int .u64 pl))
  replace r_res := Lib.hid (r_res.out.far2 (p := w.heap.size) (by omega) (.int .i64 ph) (.int .u64 pl))
  replace BB := Lib.hid (below_far2 BB.out (p := w.heap.size) (by omega) (.int .i64 ph) (.int .u64 pl))
  generalize ((w2.setCell ⟨w.heap.size, 0, none⟩ (.int .i64 ph)).setCell ⟨w.heap.size, 1, none⟩ (.int .u64 pl)) = w3 at *
  replace r_a := Lib.hid (r_a.out.far2 (p := w.heap.size + 1) (by omega) (.int .i64 qh) (.int .u64 ql))
  replace r_b := Lib.hid (r_b.out.set2 (.int .i64 qh) (.int .u64 ql))
  replace r_res := Lib.hid (r_res.out.far2 (p := w.heap.size + 1) (by omega) (.int .i64 qh) (.int .u64 ql))
  replace BB := Lib.hid (below_far2 BB.out (p := w.heap.size + 1) (by omega) (.int .i64 qh) (.int .u64 ql))
  generalize ((w3.setCell ⟨w.heap.size + 1, 0, none⟩ (.int .i64 qh)).setCell ⟨w.heap.size + 1, 1, none⟩ (.int .u64 ql)) = w4 at *
  go_wp2_with fail
  have HX : Hid (IM (x.natAbs : Int)) := by show IM _; unfold IM at *; omega
  have HY : Hid (IM (y.natAbs : Int)) := by show IM _; unfold IM at *; omega
  go_loopw [] (fun wr => ∃ u v, Hid (WAt wr w.heap.size u ∧ WAt wr (w.heap.size + 1) v ∧ (Int.gcd u v : Int) = Int.gcd x y ∧ (0 ≤ u ∧ IM u) ∧ (0 ≤ v ∧ IM v) ∧ AtB wr (w.heap.size + 2) #[.int .i64 0, .int .u64 0] WT ∧ Below w.heap.size w wr)) (fun wr => (wVal wr (w.heap.size + 1)).toNat)
  case atStart => exact ⟨(x.natAbs : Int), (y.natAbs : Int), ⟨⟨_, _, r_a.out, hp⟩, ⟨_, _, r_b.out, hq⟩, by rw [gcd_abs], ⟨by omega, HX.out⟩, ⟨by omega, HY.out⟩, r_res.out, BB.out⟩⟩
  case round =>
    clear r_a r_b r_res BB hp hq
    obtain ⟨u, v, hinv⟩ := hrel
    obtain ⟨⟨uh, ul, r_a, hu⟩, ⟨vh, vl, r_b, hv⟩, HG, hmu, hmv, r_res, BB⟩ := hinv.out
    clear hinv
    have hw := Lib.hid (wVal_at r_b hv)
    replace r_a := Lib.hid r_a; replace r_b := Lib.hid r_b; replace r_res := Lib.hid r_res; replace BB := Lib.hid BB; replace hu := Lib.hid hu; replace hv := Lib.hid hv; replace HG := Lib.hid HG
    obtain ⟨c_b0, c_b1, f_b0, f_b1⟩ := reads2 r_b.out
    have l_b := r_b.out.lt
    go_wp2_with fail
    refine (CG.out _ _ _ _ hv.out).mono ?_
    rintro e w5 ⟨rfl, hb⟩
    clear c_b0 c_b1 f_b0 f_b1 l_b
    replace r_a := Lib.hid (r_a.out.keep hb)
    replace r_b := Lib.hid (r_b.out.keep hb)
    replace r_res := Lib.hid (r_res.out.keep hb)
    replace BB := Lib.hid (below_next BB.out hb)
    clear hb
    by_cases h0 : v = 0
    · have d1 : (cmpI v 0 != 0) = false := by rw [cmpI_ne0]; exact decide_eq_false (by omega)
      generalize cmpI v 0 = s at *
      have hE : u = (Int.gcd x y : Int) := by rw [← HG.out, h0]; simp; omega
      rw [hE] at hu
      obtain ⟨c_a0, c_a1, f_a0, f_a1⟩ := reads2 r_a.out
      have l_a := r_a.out.lt
      obtain ⟨c_res0, c_res1, f_res0, f_res1⟩ := reads2 r_res.out
      have l_res := r_res.out.lt
      go_wp2_with fail
      exact bodyPost_ret (v := wv uh ul) (by unfold results; simp only [Try.results111]; go_simp) rfl (give_w_res rfl (below_set2 BB.out (by omega) _ _) hu.out)
    · have d1 : (cmpI v 0 != 0) = true := by rw [cmpI_ne0]; exact decide_eq_true h0
      generalize cmpI v 0 = s at *
      have hv0 : 0 < v := by omega
      have hm0 := Int.emod_nonneg u h0
      have hm1 := Int.emod_lt_of_pos u hv0
      have CL2 := Lib.hid (fun w => CL.out u uh ul v vh vl w hu.out hv.out hmu ⟨hv0, hmv.2⟩)
      go_wp2_with fail
      have KK := Lib.hid (fun (w9 : World) (h : Below w5.heap.size w5 w9) => (⟨cells2 (r_a.out.keep h), cells2 (r_b.out.keep h)⟩ : (w9.cell? ⟨w.heap.size, 0, none⟩ = some (.int .i64 uh) ∧ w9.cell? ⟨w.heap.size, 1, none⟩ = some (.int .u64 ul)) ∧ (w9.cell? ⟨w.heap.size + 1, 0, none⟩ = some (.int .i64 vh) ∧ w9.cell? ⟨w.heap.size + 1, 1, none⟩ = some (.int .u64 vl))))
      have K0 := KK.out w5 (Below.refl _ _)
      have KD := KK.out w5.drew (below_drew (Below.refl _ _))
      refine AnyG.begin_ (fun w9 => (w9.cell? ⟨w.heap.size, 0, none⟩ = some (.int .i64 uh) ∧ w9.cell? ⟨w.heap.size, 1, none⟩ = some (.int .u64 ul)) ∧ (w9.cell? ⟨w.heap.size + 1, 0, none⟩ = some (.int .i64 vh) ∧ w9.cell? ⟨w.heap.size + 1, 1, none⟩ = some (.int .u64 vl))) 4 (by kernel_rfl) ?_
      refine AnyG.take (i := 0) (v := ?_) rfl (by kernel_rfl) (by kernel_rfl) (by kernel_rfl) (fun _ _ _ h => h) (by kernel_rfl) (by kernel_rfl) (Or.inl ⟨by rfl, ?_⟩) (by assumption) ?_
      rotate_left
      · intro w9 hSw; (try dsimp only at hSw); go_simp <;> with_reducible rfl
      try simp only [Act.put, List.getElem_toArray, List.getElem_cons_zero, List.getElem_cons_succ, List.setIfInBounds_toArray, List.set_cons_zero, List.set_cons_succ]
      refine AnyG.take (i := 1) (v := ?_) rfl (by kernel_rfl) (by kernel_rfl) (by kernel_rfl) (fun _ _ _ h => h) (by kernel_rfl) (by kernel_rfl) (Or.inl ⟨by rfl, ?_⟩) (by assumption) ?_
      rotate_left
      · intro w9 hSw; (try dsimp only at hSw); go_simp <;> with_reducible rfl
      try simp only [Act.put, List.getElem_toArray, List.getElem_cons_zero, List.getElem_cons_succ, List.setIfInBounds_toArray, List.set_cons_zero, List.set_cons_succ]
      refine AnyG.take (i := 2) (v := ?_) rfl (by kernel_rfl) (by kernel_rfl) (by kernel_rfl) (fun _ _ _ h => h) (by kernel_rfl) (by kernel_rfl) (Or.inl ⟨by rfl, ?_⟩) (by assumption) ?_
      rotate_left
      · intro w9 hSw; (try dsimp only at hSw); go_simp <;> with_reducible rfl
      try simp only [Act.put, List.getElem_toArray, List.getElem_cons_zero, List.getElem_cons_succ, List.setIfInBounds_toArray, List.set_cons_zero, List.set_cons_succ]
      refine AnyG.step (i := 3) (by kernel_rfl) rfl (fun K hK => ?_)
      go_simp
      go_at_call 127
      refine (CL2.out _).mono ?_
      rintro e w6 ⟨mh, ml, rfl, hb, hm⟩
      have B_w6 := Lib.hid (reg_next (w0 := w5) (by repeat (first | with_reducible exact Below.refl _ _ | with_reducible apply below_drew | with_reducible apply below_new)) hb)
      have K_w6 := KK.out _ B_w6.out
      obtain ⟨rc_a0, rc_a1, rf_a0, rf_a1⟩ := reads2 (r_a.out.keep B_w6.out)
      have rl_a := (r_a.out.keep B_w6.out).lt
      obtain ⟨rc_b0, rc_b1, rf_b0, rf_b1⟩ := reads2 (r_b.out.keep B_w6.out)
      have rl_b := (r_b.out.keep B_w6.out).lt
      clear hb
      refine hK.out _ _ (fun _ => K_w6) (fun hHeld => ?_)
      replace hHeld := hHeld (by decide)
      clear hK
      try simp only [Act.put, List.getElem_toArray, List.getElem_cons_zero, List.getElem_cons_succ, List.setIfInBounds_toArray, List.set_cons_zero, List.set_cons_succ]
      refine AnyG.step (i := 4) (by kernel_rfl) rfl (fun K hK => ?_)
      go_simp
      refine hK.out _ _ (fun h => absurd h (by decide)) (fun _ => ?_)
      clear hK
      try simp only [Act.put, List.getElem_toArray, List.getElem_cons_zero, List.getElem_cons_succ, List.setIfInBounds_toArray, List.set_cons_zero, List.set_cons_succ]
      refine AnyG.step (i := 5) (by kernel_rfl) rfl (fun K hK => ?_)
      go_simp
      refine hK.out _ _ (fun h => absurd h (by decide)) (fun _ => ?_)
      clear hK
      try simp only [Act.put, List.getElem_toArray, List.getElem_cons_zero, List.getElem_cons_succ, List.setIfInBounds_toArray, List.set_cons_zero, List.set_cons_succ]
      refine AnyG.done (by kernel_rfl) ?_ _
      clear KK K0 KD K_w6
      replace r_a := Lib.hid (r_a.out.keep B_w6.out)
      replace r_b := Lib.hid (r_b.out.keep B_w6.out)
      replace r_res := Lib.hid (r_res.out.keep B_w6.out)
      replace BB := Lib.hid (below_next BB.out B_w6.out)
      clear B_w6
      replace r_a := Lib.hid (r_a.out.set2 (.int .i64 vh) (.int .u64 vl))
      replace r_b := Lib.hid (r_b.out.far2 (p := w.heap.size) (by omega) (.int .i64 vh) (.int .u64 vl))
      replace r_res := Lib.hid (r_res.out.far2 (p := w.heap.size) (by omega) (.int .i64 vh) (.int .u64 vl))
      replace BB := Lib.hid (below_far2 BB.out (p := w.heap.size) (by omega) (.int .i64 vh) (.int .u64 vl))
      generalize ((w6.setCell ⟨w.heap.size, 0, none⟩ (.int .i64 vh)).setCell ⟨w.heap.size, 1, none⟩ (.int .u64 vl)) = w7 at *
      replace r_a := Lib.hid (r_a.out.far2 (p := w.heap.size + 1) (by omega) (.int .i64 mh) (.int .u64 ml))
      replace r_b := Lib.hid (r_b.out.set2 (.int .i64 mh) (.int .u64 ml))
      replace r_res := Lib.hid (r_res.out.far2 (p := w.heap.size + 1) (by omega) (.int .i64 mh) (.int .u64 ml))
      replace BB := Lib.hid (below_far2 BB.out (p := w.heap.size + 1) (by omega) (.int .i64 mh) (.int .u64 ml))
      generalize ((w7.setCell ⟨w.heap.size + 1, 0, none⟩ (.int .i64 mh)).setCell ⟨w.heap.size + 1, 1, none⟩ (.int .u64 ml)) = w8 at *
      go_wp2_with fail
      go_roundw
      case rel => exact ⟨v, u % v, ⟨⟨_, _, r_a.out, hv.out⟩, ⟨_, _, r_b.out, hm⟩, by rw [gcd_step hmu.1 hmv.1]; exact HG.out, hmv, ⟨hm0, by have := hmv.2; unfold IM at *; omega⟩, r_res.out, BB.out⟩⟩
      case measure => rw [hw.out, wVal_at r_b.out hm]; omega
/-- What has been taken away, by parts of powers of two. -/
def Ovr (b y p o a A : Int) : Prop := 0 ≤ a ∧ 0 ≤ o ∧ o * b + a = A ∧ ((∃ k : Nat, k ≤ 127 ∧ y = b * 2 ^ k ∧ p = 2 ^ k ∧ a < 2 * y) ∨ (p = 0 ∧ a < b ∧ 0 ≤ y ∧ y ≤ b))
def Dbp (b y p a : Int) : Prop := ∃ k : Nat, k ≤ 126 ∧ y = b * 2 ^ k ∧ p = 2 ^ k ∧ (k = 0 ∨ y ≤ a)
theorem pow2_lt {k : Nat} (h : (2 : Int) ^ k ≤ 170141183460469231731687303715884105727) : k ≤ 126 := by
  by_cases hk : k ≤ 126
  · exact hk
  · exfalso
    obtain ⟨j, rfl⟩ : ∃ j, k = 64 + (63 + j) := ⟨k - 127, by omega⟩
    have e64 : (2 : Int) ^ 64 = 18446744073709551616 := by decide
    have e63 : (2 : Int) ^ 63 = 9223372036854775808 := by decide
    rw [Int.pow_add, Int.pow_add, e64, e63] at h
    have := two_pow_pos j
    omega
theorem Dbp.next {b y p a : Int} (hb : 0 < b) (ha : IM a) (h : Dbp b y p a) (h2 : y + y ≤ a) : Dbp b (y + y) (p + p) a := by
  obtain ⟨k, hk, hy, hp, -⟩ := h
  have e1 : y + y = b * 2 ^ (k + 1) := by rw [pow2_succ]; omega
  have e2 : p + p = 2 ^ (k + 1) := by have := pow2_succ 1 k; rw [Int.one_mul, Int.one_mul] at this; omega
  refine ⟨k + 1, ?_, e1, e2, .inr h2⟩
  refine pow2_lt ?_
  have h3 : 1 * 2 ^ (k + 1) ≤ b * 2 ^ (k + 1) := Int.mul_le_mul_of_nonneg_right (by omega) (Int.le_of_lt (two_pow_pos _))
  unfold IM at ha
  omega
theorem Dbp.start {b y p a : Int} (ha : 0 ≤ a) (h : Dbp b y p a) (h2 : a < y + y) : Ovr b y p 0 a a := by
  obtain ⟨k, hk, hy, hp, -⟩ := h
  exact ⟨ha, by omega, by omega, .inl ⟨k, by omega, hy, hp, by omega⟩⟩
theorem half_pow (k : Nat) : (2 : Int) ^ (k + 1) / 2 = 2 ^ k := by have := pow2_succ 1 k; rw [Int.one_mul, Int.one_mul] at this; omega
theorem Ovr.less {b y p o a A : Int} (hb : 0 < b) (h : Ovr b y p o a A) (hp : p ≠ 0) (h2 : y ≤ a) : Ovr b (y / 2) (p / 2) (o + p) (a - y) A := by
  obtain ⟨h0, ho, hm, ⟨k, hk1, rfl, rfl, hk⟩ | h3⟩ := h
  · have hpp := two_pow_pos k
    have e : (o + 2 ^ k) * b + (a - b * 2 ^ k) = A := by rw [Int.add_mul, Int.mul_comm (2 ^ k) b]; omega
    refine ⟨by omega, by omega, e, ?_⟩
    cases k with
    | zero => right; simp at *; omega
    | succ k =>
      left
      rw [half_pow]
      rw [pow2_succ] at *
      exact ⟨k, by omega, by omega, rfl, by omega⟩
  · exact absurd h3.1 hp
theorem Ovr.keep {b y p o a A : Int} (hb : 0 < b) (h : Ovr b y p o a A) (hp : p ≠ 0) (h2 : a < y) : Ovr b (y / 2) (p / 2) o a A := by
  obtain ⟨h0, ho, hm, ⟨k, hk1, rfl, rfl, hk⟩ | h3⟩ := h
  · refine ⟨h0, ho, hm, ?_⟩
    cases k with
    | zero => right; simp at *; omega
    | succ k =>
      left
      rw [half_pow]
      rw [pow2_succ] at *
      exact ⟨k, by omega, by omega, rfl, by omega⟩
  · exact absurd h3.1 hp
theorem Ovr.done {b y o a A : Int} (hb : 0 < b) (h : Ovr b y 0 o a A) : o = A / b := by
  obtain ⟨h0, ho, hm, ⟨k, hk1, rfl, hp, hk⟩ | h3⟩ := h
  · have := two_pow_pos k; omega
  · rw [← hm, Int.add_comm, Int.add_mul_ediv_right _ _ (by omega), Int.ediv_eq_zero_of_lt h0 h3.2.1]; omega
theorem or_low (m y : Nat) (hm : m < 4611686018427387904) (hy : y < 2) : bits BinOp.or IntKind.i64 (2 * (m : Int)) (y : Int) = 2 * (m : Int) + y := by
  show IntKind.i64.wrap ((BitVec.ofInt 64 (2 * (m : Int)) ||| BitVec.ofInt 64 (y : Int)).toNat : Int) = _
  have e64 : ((2 : Nat) ^ 64 : Int) = 18446744073709551616 := by decide
  have e1 : ((2 * (m : Int)) % ((2 ^ 64 : Nat) : Int)).toNat = m <<< 1 := by rw [Nat.shiftLeft_eq]; omega
  have e2 : ((y : Int) % ((2 ^ 64 : Nat) : Int)).toNat = y := by omega
  rw [BitVec.toNat_or, BitVec.toNat_ofInt, BitVec.toNat_ofInt, e1, e2, ← Nat.shiftLeft_add_eq_or_of_lt (by simpa using hy), Nat.shiftLeft_eq]
  rw [iw (by omega)]
  omega
theorem shl_law {p qh ql : Int} (h : W128 p qh ql) (h0 : 0 ≤ p) (h1 : p ≤ 42535295865117307932921825928971026432) : W128 (p + p) (bits BinOp.or IntKind.i64 (IntKind.i64.wrap (qh * 2)) (IntKind.i64.wrap (ql / 9223372036854775808))) (IntKind.u64.wrap (ql * 2)) := by
  obtain ⟨a1, ⟨l0, l1⟩, e⟩ := h
  have q0 : 0 ≤ qh := by omega
  have q1 : qh ≤ 2305843009213693952 := by omega
  have y0 : 0 ≤ ql / 9223372036854775808 := by omega
  have y1 : ql / 9223372036854775808 < 2 := by omega
  have w1 : IntKind.i64.wrap (qh * 2) = 2 * qh := by rw [Int.mul_comm]; exact iw (by omega)
  have w2 : IntKind.i64.wrap (ql / 9223372036854775808) = ql / 9223372036854775808 := iw (by omega)
  have w3 : IntKind.u64.wrap (ql * 2) = 2 * ql - 18446744073709551616 * (ql / 9223372036854775808) := by rw [IntKind.wrap_u64]; omega
  obtain ⟨m, hm⟩ := Int.eq_ofNat_of_zero_le q0
  obtain ⟨y, hy⟩ := Int.eq_ofNat_of_zero_le y0
  have ho : bits BinOp.or IntKind.i64 (2 * qh) (ql / 9223372036854775808) = 2 * qh + ql / 9223372036854775808 := by
    rw [hm, hy]; exact or_low m y (by omega) (by omega)
  rw [w1, w2, w3, ho]
  exact ⟨⟨by omega, by omega⟩, ⟨by omega, by omega⟩, by omega⟩
theorem Dbp.room {b y p a : Int} (hb : 0 < b) (ha : IM a) (h : Dbp b y p a) (h2 : y + y ≤ a) : 0 ≤ p ∧ p ≤ 42535295865117307932921825928971026432 := by
  obtain ⟨k, hk, -, hp, -⟩ := h.next hb ha h2
  cases k with
  | zero => simp at hp; omega
  | succ k =>
    have e2 : p = 2 ^ k := by have := pow2_succ 1 k; rw [Int.one_mul, Int.one_mul] at this; omega
    have h125 : (2 : Int) ^ k ≤ 2 ^ 125 := two_le (by omega)
    have e125 : (2 : Int) ^ 125 = 42535295865117307932921825928971026432 := by rw [show (125 : Nat) = 64 + 61 from rfl, Int.pow_add]; decide
    have := two_pow_pos k
    omega
set_option maxRecDepth 100000 in
set_option maxHeartbeats 8000000 in
theorem roverW (z b ah al bh bl : Int) (ha : W128 z ah al) (hb : W128 b bh bl) (hz : IM z) (hm : 0 < b ∧ IM b) (w : World) : Calls Try.prog 112 #[wv ah al, wv bh bl] w fun e w' => e = .returned (.tuple #[.int .i64 (fitX (if z < 0 then -((z.natAbs : Int) / b) else (z.natAbs : Int) / b)), .bool (fitsB (if z < 0 then -((z.natAbs : Int) / b) else (z.natAbs : Int) / b) 63)]) ∧ Below w.heap.size w w' := by
  have CP := Lib.hid (fun x xh xl w hx hm => rplainW x xh xl hx hm w)
  have CG := Lib.hid (fun x xh xl w hx => wsign x xh xl hx w)
  have CA := Lib.hid (fun x xh xl y yh yl w hx hy => wadd x y xh xl yh yl hx hy w)
  have CC := Lib.hid (fun x xh xl y yh yl w hx hy => wcmp x y xh xl yh yl hx hy w)
  have CS := Lib.hid (fun x xh xl y yh yl w hx hy => wsub x y xh xl yh yl hx hy w)
  have CN := Lib.hid (fun x xh xl w hx => wneg x xh xl hx w)
  have CF := Lib.hid (fun z ah al w hz => wfits z ah al hz w)
  have CO := Lib.hid (fun w => wof_any 1 ⟨by omega, by omega⟩ w)
  have CR := Lib.hid (fun x xh xl w hx => wshr_mid x xh xl 1 (by omega) (by omega) hx w)
  rw [show ofHi 1 = 0 from rfl, show ofLo 1 = 1 from rfl] at CO
  simp only [one_64] at CR
  have HA := Lib.hid ha; have HB := Lib.hid hb
  clear ha hb
  obtain ⟨R, hR⟩ : ∃ R, R = if z < 0 then -((z.natAbs : Int) / b) else (z.natAbs : Int) / b := ⟨_, rfl⟩
  rw [← hR]
  replace hR := Lib.hid hR
  go_enter Try.func112, Try.ntmps112
  go_wp2_with fail
  have BB := start2 w #[.int .i64 ah, .int .u64 al] WT #[.int .i64 bh, .int .u64 bl] WT
  obtain ⟨BB, hsz, r_a, r_b⟩ := BB
  generalize ((w.alloc (.cells #[.int .i64 ah, .int .u64 al] WT)).alloc (.cells #[.int .i64 bh, .int .u64 bl] WT)) = w0 at *
  replace BB := Lib.hid BB
  replace r_a := Lib.hid r_a
  replace r_b := Lib.hid r_b
  clear hsz
  obtain ⟨c_a0, c_a1, f_a0, f_a1⟩ := reads2 r_a.out
  have l_a := r_a.out.lt
  go_wp2_with fail
  refine (CG.out _ _ _ _ HA.out).mono ?_
  rintro e w1 ⟨rfl, hb⟩
  clear c_a0 c_a1 f_a0 f_a1 l_a
  replace r_a := Lib.hid (r_a.out.keep hb)
  replace r_b := Lib.hid (r_b.out.keep hb)
  replace BB := Lib.hid (below_next BB.out hb)
  clear hb
  have dz := Lib.hid (show decide (cmpI z 0 < 0) = decide (z < 0) from cmp0_lt)
  obtain ⟨c_a0, c_a1, f_a0, f_a1⟩ := reads2 r_a.out
  have l_a := r_a.out.lt
  go_wp2_with fail
  generalize decide (cmpI z 0 < 0) = nb at *
  generalize cmpI z 0 = zs at *
  refine (CP.out _ _ _ _ HA.out hz).mono ?_
  rintro e w2 ⟨ph, pl, rfl, hb, hp⟩
  clear c_a0 c_a1 f_a0 f_a1 l_a
  replace r_a := Lib.hid (r_a.out.keep hb)
  replace r_b := Lib.hid (r_b.out.keep hb)
  replace BB := Lib.hid (below_next BB.out hb)
  clear hb
  obtain ⟨c_a0, c_a1, f_a0, f_a1⟩ := reads2 r_a.out
  have l_a := r_a.out.lt
  go_upto_region 3 with fail
  clear c_a0 c_a1 f_a0 f_a1 l_a
  replace r_a := Lib.hid (r_a.out.set2 (.int .i64 ph) (.int .u64 pl))
  replace r_b := Lib.hid (r_b.out.far2 (p := w.heap.size) (by omega) (.int .i64 ph) (.int .u64 pl))
  replace BB := Lib.hid (below_far2 BB.out (p := w.heap.size) (by omega) (.int .i64 ph) (.int .u64 pl))
  generalize ((w2.setCell ⟨w.heap.size, 0, none⟩ (.int .i64 ph)).setCell ⟨w.heap.size, 1, none⟩ (.int .u64 pl)) = w3 at *
  go_wp2_with fail
  refine (CO.out _).mono ?_
  rintro e w4 ⟨rfl, hb⟩
  replace r_a := Lib.hid (r_a.out.keep hb)
  replace r_b := Lib.hid (r_b.out.keep hb)
  replace BB := Lib.hid (below_next BB.out hb)
  clear hb
  go_upto_region 4 with fail
  have d_out := Lib.hid (And.intro BB.out.size (And.intro r_a.out.lt (And.intro r_b.out.lt (True.intro))))
  obtain ⟨hb, -, r_out, r_one⟩ := start2 w4 #[.int .i64 0, .int .u64 0] WT #[.int .i64 0, .int .u64 1] WT
  replace r_a := Lib.hid (r_a.out.keep hb)
  replace r_b := Lib.hid (r_b.out.keep hb)
  replace BB := Lib.hid (below_next BB.out hb)
  clear hb
  replace r_out := Lib.hid r_out; replace r_one := Lib.hid r_one
  generalize (w4.alloc (.cells #[.int .i64 0, .int .u64 0] WT)).alloc (.cells #[.int .i64 0, .int .u64 1] WT) = w5 at *
  generalize w4.heap.size = g_out at *
  have d_one := d_out
  obtain ⟨c_one0, c_one1, f_one0, f_one1⟩ := reads2 r_one.out
  have l_one := r_one.out.lt
  go_upto_region 5 with fail
  clear c_one0 c_one1 f_one0 f_one1 l_one
  have d_part := Lib.hid (And.intro BB.out.size (And.intro r_a.out.lt (And.intro r_b.out.lt (And.intro r_out.out.lt (And.intro r_one.out.lt (True.intro))))))
  obtain ⟨hb, r_part⟩ := laid w5 #[.int .i64 0, .int .u64 1] WT
  replace r_a := Lib.hid (r_a.out.keep hb)
  replace r_b := Lib.hid (r_b.out.keep hb)
  replace r_out := Lib.hid (r_out.out.keep hb)
  replace r_one := Lib.hid (r_one.out.keep hb)
  replace BB := Lib.hid (below_next BB.out hb)
  replace r_part := Lib.hid r_part
  clear hb
  generalize w5.alloc (.cells #[.int .i64 0, .int .u64 1] WT) = w6 at *
  generalize w5.heap.size = g_part at *
  generalize hA : (z.natAbs : Int) = A at *
  have hA0 : 0 ≤ A := by omega
  have hAm : IM A := by unfold IM at *; omega
  have hp := Lib.hid hp
  clear r_one
  go_loopw [10, 11] (fun _ _ wr => ∃ y p, Hid (WAt wr (w.heap.size + 1) y ∧ WAt wr g_part p ∧ Dbp b y p A ∧ AtB wr w.heap.size #[.int .i64 ph, .int .u64 pl] WT ∧ AtB wr g_out #[.int .i64 0, .int .u64 0] WT ∧ Below w.heap.size w wr)) (fun _ _ wr => (170141183460469231731687303715884105728 - wVal wr (w.heap.size + 1)).toNat)
  case atStart => exact ⟨b, 1, ⟨⟨_, _, r_b.out, HB.out⟩, ⟨_, _, r_part.out, ⟨by omega, by omega⟩, ⟨by omega, by omega⟩, by omega⟩, ⟨0, by omega, by simp, by simp, .inl rfl⟩, r_a.out, r_out.out, BB.out⟩⟩
  case round =>
    clear r_a r_b r_out r_part BB
    obtain ⟨y, p, hinv⟩ := hrel
    obtain ⟨⟨yh, yl, r_b, hy⟩, ⟨qh, ql, r_part, hq⟩, HD, r_a, r_out, BB⟩ := hinv.out
    clear hinv
    have hv := Lib.hid (wVal_at r_b hy)
    replace r_b := Lib.hid r_b; replace r_a := Lib.hid r_a; replace r_out := Lib.hid r_out; replace r_part := Lib.hid r_part; replace BB := Lib.hid BB; replace hy := Lib.hid hy; replace hq := Lib.hid hq; replace HD := Lib.hid HD
    have hy0 : 0 < y := by
      obtain ⟨k, -, hk, -, -⟩ := HD.out
      rw [hk]; exact Int.mul_pos hm.1 (two_pow_pos k)
    obtain ⟨c_b0, c_b1, f_b0, f_b1⟩ := reads2 r_b.out
    have l_b := r_b.out.lt
    go_wp2_with fail
    refine (CA.out _ _ _ _ _ _ _ hy.out hy.out).mono ?_
    rintro e w7 ⟨nh, nl, ok, rfl, hb, hn⟩
    clear c_b0 c_b1 f_b0 f_b1 l_b
    replace r_a := Lib.hid (r_a.out.keep hb)
    replace r_b := Lib.hid (r_b.out.keep hb)
    replace r_out := Lib.hid (r_out.out.keep hb)
    replace r_part := Lib.hid (r_part.out.keep hb)
    replace BB := Lib.hid (below_next BB.out hb)
    clear hb
    go_upto_region 6 with fail
    have d_nx := Lib.hid (And.intro BB.out.size (And.intro r_a.out.lt (And.intro r_b.out.lt (And.intro r_out.out.lt (And.intro r_part.out.lt (True.intro))))))
    obtain ⟨hb, r_nx⟩ := laid w7 #[.int .i64 nh, .int .u64 nl] WT
    replace r_a := Lib.hid (r_a.out.keep hb)
    replace r_b := Lib.hid (r_b.out.keep hb)
    replace r_out := Lib.hid (r_out.out.keep hb)
    replace r_part := Lib.hid (r_part.out.keep hb)
    replace BB := Lib.hid (below_next BB.out hb)
    replace r_nx := Lib.hid r_nx
    clear hb
    generalize w7.alloc (.cells #[.int .i64 nh, .int .u64 nl] WT) = w8 at *
    generalize w7.heap.size = g_nx at *
    rcases hn with ⟨hr, rfl, hn⟩ | ⟨hr, rfl, rfl, rfl⟩
    · have hn := Lib.hid hn
      obtain ⟨c_nx0, c_nx1, f_nx0, f_nx1⟩ := reads2 r_nx.out
      have l_nx := r_nx.out.lt
      obtain ⟨c_a0, c_a1, f_a0, f_a1⟩ := reads2 r_a.out
      have l_a := r_a.out.lt
      go_wp2_with fail
      refine (CC.out _ _ _ _ _ _ _ hn.out hp.out).mono ?_
      rintro e w10 ⟨rfl, hb⟩
      clear c_nx0 c_nx1 f_nx0 f_nx1 l_nx c_a0 c_a1 f_a0 f_a1 l_a
      replace r_a := Lib.hid (r_a.out.keep hb)
      replace r_b := Lib.hid (r_b.out.keep hb)
      replace r_out := Lib.hid (r_out.out.keep hb)
      replace r_part := Lib.hid (r_part.out.keep hb)
      replace r_nx := Lib.hid (r_nx.out.keep hb)
      replace BB := Lib.hid (below_next BB.out hb)
      clear hb
      by_cases hx : A < y + y
      · have d1 : decide (cmpI (y + y) A > 0) = true := by rw [cmpI_gt0]; exact decide_eq_true hx
        generalize cmpI (y + y) A = s1 at *
        have HH := Lib.hid (HD.out.start hA0 hx)
        clear HD hv hn
        go_wp2_with fail
        clear r_nx
        go_loopw [] (fun wr => ∃ y p o a, Hid (WAt wr (w.heap.size + 1) y ∧ WAt wr g_part p ∧ WAt wr g_out o ∧ WAt wr w.heap.size a ∧ Ovr b y p o a A ∧ Below w.heap.size w wr)) (fun wr => (wVal wr g_part).toNat)
        case atStart => exact ⟨y, p, 0, A, ⟨⟨_, _, r_b.out, hy.out⟩, ⟨_, _, r_part.out, hq.out⟩, ⟨_, _, r_out.out, W128.zero⟩, ⟨_, _, r_a.out, hp.out⟩, HH.out, BB.out⟩⟩
        case round =>
          clear r_a r_b r_out r_part BB HH hy hq hp hy0
          obtain ⟨y, p, o, a, hinv⟩ := hrel
          obtain ⟨⟨yh, yl, r_b, hy⟩, ⟨qh, ql, r_part, hq⟩, ⟨oh, ol, r_out, ho⟩, ⟨xh, xl, r_a, hx⟩, HH, BB⟩ := hinv.out
          clear hinv
          have hv := Lib.hid (wVal_at r_part hq)
          replace r_b := Lib.hid r_b; replace r_a := Lib.hid r_a; replace r_out := Lib.hid r_out; replace r_part := Lib.hid r_part; replace BB := Lib.hid BB; replace hy := Lib.hid hy; replace hq := Lib.hid hq; replace hx := Lib.hid hx; replace ho := Lib.hid ho; replace HH := Lib.hid HH
          have hpo : 0 ≤ p ∧ 0 ≤ o ∧ o ≤ A ∧ 0 ≤ a ∧ 0 ≤ y := by
            obtain ⟨k0, k1, k2, k3⟩ := HH.out
            have h1 : o * 1 ≤ o * b := Int.mul_le_mul_of_nonneg_left (by omega) k1
            rcases k3 with ⟨k, -, k6, k5, -⟩ | k4
            · have := two_pow_pos k
              have h2 := Int.mul_nonneg (Int.le_of_lt hm.1) (Int.le_of_lt (two_pow_pos k))
              exact ⟨by omega, k1, by omega, k0, by omega⟩
            · exact ⟨by omega, k1, by omega, k0, by omega⟩
          obtain ⟨c_part0, c_part1, f_part0, f_part1⟩ := reads2 r_part.out
          have l_part := r_part.out.lt
          go_wp2_with fail
          refine (CG.out _ _ _ _ hq.out).mono ?_
          rintro e w11 ⟨rfl, hb⟩
          clear c_part0 c_part1 f_part0 f_part1 l_part
          replace r_a := Lib.hid (r_a.out.keep hb)
          replace r_b := Lib.hid (r_b.out.keep hb)
          replace r_out := Lib.hid (r_out.out.keep hb)
          replace r_part := Lib.hid (r_part.out.keep hb)
          replace BB := Lib.hid (below_next BB.out hb)
          clear hb
          by_cases hp0 : p = 0
          · have d3 : (cmpI p 0 != 0) = false := by rw [cmpI_ne0]; exact decide_eq_false (by omega)
            generalize cmpI p 0 = s3 at *
            subst hp0
            have hE := HH.out.done hm.1
            cases nb with
            | false =>
              have hz0 : ¬ z < 0 := by have := dz.out; simpa using this
              have hRo : R = o := by rw [hR.out, if_neg hz0, ← hE]
              obtain ⟨c_out0, c_out1, f_out0, f_out1⟩ := reads2 r_out.out
              have l_out := r_out.out.lt
              go_wp2_with fail
              refine (CF.out _ _ _ _ ho.out).mono ?_
              rintro e w12 ⟨rfl, hb⟩
              clear c_out0 c_out1 f_out0 f_out1 l_out
              replace r_a := Lib.hid (r_a.out.keep hb)
              replace r_b := Lib.hid (r_b.out.keep hb)
              replace r_out := Lib.hid (r_out.out.keep hb)
              replace r_part := Lib.hid (r_part.out.keep hb)
              replace BB := Lib.hid (below_next BB.out hb)
              clear hb
              go_wp2_with fail
              refine bodyPost_ret (v := .tuple #[.int .i64 (fitX o), .bool (fitsB o 63)]) (by unfold results; simp only [Try.results112]; go_simp) rfl ?_
              exact ⟨by rw [hRo], BB.out⟩
            | true =>
              have hz0 : z < 0 := by have := dz.out; simpa using this
              have hRo : R = -o := by rw [hR.out, if_pos hz0, ← hE]
              obtain ⟨c_out0, c_out1, f_out0, f_out1⟩ := reads2 r_out.out
              have l_out := r_out.out.lt
              go_wp2_with fail
              refine (CN.out _ _ _ _ ho.out).mono ?_
              rintro e w13 ⟨mh, ml, ok, rfl, hb, hn2⟩
              clear c_out0 c_out1 f_out0 f_out1 l_out
              replace r_a := Lib.hid (r_a.out.keep hb)
              replace r_b := Lib.hid (r_b.out.keep hb)
              replace r_out := Lib.hid (r_out.out.keep hb)
              replace r_part := Lib.hid (r_part.out.keep hb)
              replace BB := Lib.hid (below_next BB.out hb)
              clear hb
              have hn2 := Lib.hid (hn2.of_room (by unfold IM at hAm; unfold I128; omega))
              obtain ⟨c_out0, c_out1, f_out0, f_out1⟩ := reads2 r_out.out
              have l_out := r_out.out.lt
              go_upto_region 15 with fail
              clear c_out0 c_out1 f_out0 f_out1 l_out
              replace r_a := Lib.hid (r_a.out.far2 (p := g_out) (by have dd_out := d_out.out; omega) (.int .i64 mh) (.int .u64 ml))
              replace r_b := Lib.hid (r_b.out.far2 (p := g_out) (by have dd_out := d_out.out; omega) (.int .i64 mh) (.int .u64 ml))
              replace r_out := Lib.hid (r_out.out.set2 (.int .i64 mh) (.int .u64 ml))
              replace r_part := Lib.hid (r_part.out.far2 (p := g_out) (by have dd_part := d_part.out; have dd_out := d_out.out; omega) (.int .i64 mh) (.int .u64 ml))
              replace BB := Lib.hid (below_far2 BB.out (p := g_out) (by have dd := d_out.out; omega) (.int .i64 mh) (.int .u64 ml))
              generalize ((w13.setCell ⟨g_out, 0, none⟩ (.int .i64 mh)).setCell ⟨g_out, 1, none⟩ (.int .u64 ml)) = w14 at *
              obtain ⟨c_out0, c_out1, f_out0, f_out1⟩ := reads2 r_out.out
              have l_out := r_out.out.lt
              go_wp2_with fail
              refine (CF.out _ _ _ _ hn2.out).mono ?_
              rintro e w15 ⟨rfl, hb⟩
              clear c_out0 c_out1 f_out0 f_out1 l_out
              replace r_a := Lib.hid (r_a.out.keep hb)
              replace r_b := Lib.hid (r_b.out.keep hb)
              replace r_out := Lib.hid (r_out.out.keep hb)
              replace r_part := Lib.hid (r_part.out.keep hb)
              replace BB := Lib.hid (below_next BB.out hb)
              clear hb
              go_wp2_with fail
              refine bodyPost_ret (v := .tuple #[.int .i64 (fitX (-o)), .bool (fitsB (-o) 63)]) (by unfold results; simp only [Try.results112]; go_simp) rfl ?_
              exact ⟨by rw [hRo], BB.out⟩
          · have d3 : (cmpI p 0 != 0) = true := by rw [cmpI_ne0]; exact decide_eq_true hp0
            generalize cmpI p 0 = s3 at *
            obtain ⟨c_a0, c_a1, f_a0, f_a1⟩ := reads2 r_a.out
            have l_a := r_a.out.lt
            obtain ⟨c_b0, c_b1, f_b0, f_b1⟩ := reads2 r_b.out
            have l_b := r_b.out.lt
            go_wp2_with fail
            refine (CC.out _ _ _ _ _ _ _ hx.out hy.out).mono ?_
            rintro e w12 ⟨rfl, hb⟩
            clear c_a0 c_a1 f_a0 f_a1 l_a c_b0 c_b1 f_b0 f_b1 l_b
            replace r_a := Lib.hid (r_a.out.keep hb)
            replace r_b := Lib.hid (r_b.out.keep hb)
            replace r_out := Lib.hid (r_out.out.keep hb)
            replace r_part := Lib.hid (r_part.out.keep hb)
            replace BB := Lib.hid (below_next BB.out hb)
            clear hb
            by_cases hya : y ≤ a
            · have d2 : decide (cmpI a y ≥ 0) = true := by rw [cmpI_ge0]; exact decide_eq_true hya
              generalize cmpI a y = s2 at *
              have HL := Lib.hid (HH.out.less hm.1 hp0 hya)
              have hop : 0 ≤ o + p ∧ o + p ≤ A := by
                obtain ⟨k0, k1, k2, -⟩ := HL.out
                have h1 : (o + p) * 1 ≤ (o + p) * b := Int.mul_le_mul_of_nonneg_left (by omega) k1
                omega
              have hay : 0 ≤ a - y := HL.out.1
              obtain ⟨c_a0, c_a1, f_a0, f_a1⟩ := reads2 r_a.out
              have l_a := r_a.out.lt
              obtain ⟨c_b0, c_b1, f_b0, f_b1⟩ := reads2 r_b.out
              have l_b := r_b.out.lt
              go_wp2_with fail
              refine (CS.out _ _ _ _ _ _ _ hx.out hy.out).mono ?_
              rintro e w13 ⟨dh, dl, ok, rfl, hb, hd⟩
              clear c_a0 c_a1 f_a0 f_a1 l_a c_b0 c_b1 f_b0 f_b1 l_b
              replace r_a := Lib.hid (r_a.out.keep hb)
              replace r_b := Lib.hid (r_b.out.keep hb)
              replace r_out := Lib.hid (r_out.out.keep hb)
              replace r_part := Lib.hid (r_part.out.keep hb)
              replace BB := Lib.hid (below_next BB.out hb)
              clear hb
              have hd := Lib.hid (hd.of_room (by have h1 := hx.out.room; have h2 := hy.out.room; unfold I128 at *; omega))
              obtain ⟨c_a0, c_a1, f_a0, f_a1⟩ := reads2 r_a.out
              have l_a := r_a.out.lt
              go_upto_region 11 with fail
              clear c_a0 c_a1 f_a0 f_a1 l_a
              replace r_a := Lib.hid (r_a.out.set2 (.int .i64 dh) (.int .u64 dl))
              replace r_b := Lib.hid (r_b.out.far2 (p := w.heap.size) (by omega) (.int .i64 dh) (.int .u64 dl))
              replace r_out := Lib.hid (r_out.out.far2 (p := w.heap.size) (by have dd_out := d_out.out; omega) (.int .i64 dh) (.int .u64 dl))
              replace r_part := Lib.hid (r_part.out.far2 (p := w.heap.size) (by have dd_part := d_part.out; omega) (.int .i64 dh) (.int .u64 dl))
              replace BB := Lib.hid (below_far2 BB.out (p := w.heap.size) (by omega) (.int .i64 dh) (.int .u64 dl))
              generalize ((w13.setCell ⟨w.heap.size, 0, none⟩ (.int .i64 dh)).setCell ⟨w.heap.size, 1, none⟩ (.int .u64 dl)) = w14 at *
              obtain ⟨c_out0, c_out1, f_out0, f_out1⟩ := reads2 r_out.out
              have l_out := r_out.out.lt
              obtain ⟨c_part0, c_part1, f_part0, f_part1⟩ := reads2 r_part.out
              have l_part := r_part.out.lt
              go_wp2_with fail
              refine (CA.out _ _ _ _ _ _ _ ho.out hq.out).mono ?_
              rintro e w15 ⟨eh, el, ok2, rfl, hb, he⟩
              clear c_out0 c_out1 f_out0 f_out1 l_out c_part0 c_part1 f_part0 f_part1 l_part
              replace r_a := Lib.hid (r_a.out.keep hb)
              replace r_b := Lib.hid (r_b.out.keep hb)
              replace r_out := Lib.hid (r_out.out.keep hb)
              replace r_part := Lib.hid (r_part.out.keep hb)
              replace BB := Lib.hid (below_next BB.out hb)
              clear hb
              have he := Lib.hid (he.of_room (by unfold IM at hAm; unfold I128; omega))
              obtain ⟨c_out0, c_out1, f_out0, f_out1⟩ := reads2 r_out.out
              have l_out := r_out.out.lt
              go_upto_region 12 with fail
              clear c_out0 c_out1 f_out0 f_out1 l_out
              replace r_a := Lib.hid (r_a.out.far2 (p := g_out) (by have dd_out := d_out.out; omega) (.int .i64 eh) (.int .u64 el))
              replace r_b := Lib.hid (r_b.out.far2 (p := g_out) (by have dd_out := d_out.out; omega) (.int .i64 eh) (.int .u64 el))
              replace r_out := Lib.hid (r_out.out.set2 (.int .i64 eh) (.int .u64 el))
              replace r_part := Lib.hid (r_part.out.far2 (p := g_out) (by have dd_part := d_part.out; have dd_out := d_out.out; omega) (.int .i64 eh) (.int .u64 el))
              replace BB := Lib.hid (below_far2 BB.out (p := g_out) (by have dd := d_out.out; omega) (.int .i64 eh) (.int .u64 el))
              generalize ((w15.setCell ⟨g_out, 0, none⟩ (.int .i64 eh)).setCell ⟨g_out, 1, none⟩ (.int .u64 el)) = w16 at *
              have CR1 := Lib.hid (fun w => CR.out _ _ _ w hy.out)
              have CR2 := Lib.hid (fun w => CR.out _ _ _ w hq.out)
              have ne1 : ¬ g_part = w.heap.size + 1 := by have := d_part.out; omega
              have ne2 : ¬ w.heap.size + 1 = g_part := fun e => ne1 e.symm
              have KK := Lib.hid (fun (w9 : World) (h : Below w16.heap.size w16 w9) => (⟨cells2 (r_b.out.keep h), cells2 (r_part.out.keep h)⟩ : (w9.cell? ⟨w.heap.size + 1, 0, none⟩ = some (.int .i64 yh) ∧ w9.cell? ⟨w.heap.size + 1, 1, none⟩ = some (.int .u64 yl)) ∧ (w9.cell? ⟨g_part, 0, none⟩ = some (.int .i64 qh) ∧ w9.cell? ⟨g_part, 1, none⟩ = some (.int .u64 ql))))
              have K0 := KK.out w16 (Below.refl _ _)
              have KD := KK.out w16.drew (below_drew (Below.refl _ _))
              have tok0 : Hid True := trivial
              have tok1 : Hid True := trivial
              refine AnyG.begin_ (fun w9 => (w9.cell? ⟨w.heap.size + 1, 0, none⟩ = some (.int .i64 yh) ∧ w9.cell? ⟨w.heap.size + 1, 1, none⟩ = some (.int .u64 yl)) ∧ (w9.cell? ⟨g_part, 0, none⟩ = some (.int .i64 qh) ∧ w9.cell? ⟨g_part, 1, none⟩ = some (.int .u64 ql))) 4 (by kernel_rfl) ?_
              refine AnyG.take (i := 0) (v := ?_) rfl (by kernel_rfl) (by kernel_rfl) (by kernel_rfl) (fun _ _ _ h => h) (by kernel_rfl) (by kernel_rfl) (Or.inl ⟨by rfl, ?_⟩) (by assumption) ?_
              rotate_left
              · intro w9 hSw; (try dsimp only at hSw); go_simp <;> with_reducible rfl
              try simp only [Act.put, List.getElem_toArray, List.getElem_cons_zero, List.getElem_cons_succ, List.setIfInBounds_toArray, List.set_cons_zero, List.set_cons_succ]
              refine AnyG.take (i := 2) (v := ?_) rfl (by kernel_rfl) (by kernel_rfl) (by kernel_rfl) (fun _ _ _ h => h) (by kernel_rfl) (by kernel_rfl) (Or.inl ⟨by rfl, ?_⟩) (by assumption) ?_
              rotate_left
              · intro w9 hSw; (try dsimp only at hSw); go_simp <;> with_reducible rfl
              try simp only [Act.put, List.getElem_toArray, List.getElem_cons_zero, List.getElem_cons_succ, List.setIfInBounds_toArray, List.set_cons_zero, List.set_cons_succ]
              refine AnyG.step (i := 1) (by kernel_rfl) rfl (fun K hK => ?_)
              go_simp
              go_at_call 118
              have t_k := tok0
              refine (CR1.out _).mono ?_
              rintro e w17 ⟨mh, ml, rfl, hb, hm1⟩
              have B_w17 := Lib.hid (reg_next (w0 := w16) (by repeat (first | with_reducible exact Below.refl _ _ | with_reducible apply below_drew | with_reducible apply below_new)) hb)
              have K_w17 := KK.out _ B_w17.out
              clear hb
              clear t_k tok0
              refine hK.out _ _ (fun _ => K_w17) (fun hHeld => ?_)
              replace hHeld := hHeld (by decide)
              clear hK
              try simp only [Act.put, List.getElem_toArray, List.getElem_cons_zero, List.getElem_cons_succ, List.setIfInBounds_toArray, List.set_cons_zero, List.set_cons_succ]
              refine AnyG.step (i := 3) (by kernel_rfl) rfl (fun K hK => ?_)
              go_simp
              go_at_call 118
              have t_k := tok1
              refine (CR2.out _).mono ?_
              rintro e w18 ⟨kh, kl, rfl, hb, hm2⟩
              have B_w18 := Lib.hid (below_next B_w17.out hb)
              have K_w18 := KK.out _ B_w18.out
              obtain ⟨rc_b0, rc_b1, rf_b0, rf_b1⟩ := reads2 (r_b.out.keep B_w18.out)
              have rl_b := (r_b.out.keep B_w18.out).lt
              obtain ⟨rc_part0, rc_part1, rf_part0, rf_part1⟩ := reads2 (r_part.out.keep B_w18.out)
              have rl_part := (r_part.out.keep B_w18.out).lt
              clear hb
              clear t_k tok1
              refine hK.out _ _ (fun _ => K_w18) (fun hHeld => ?_)
              replace hHeld := hHeld (by decide)
              clear hK
              try simp only [Act.put, List.getElem_toArray, List.getElem_cons_zero, List.getElem_cons_succ, List.setIfInBounds_toArray, List.set_cons_zero, List.set_cons_succ]
              refine AnyG.step (i := 4) (by kernel_rfl) rfl (fun K hK => ?_)
              go_simp
              refine hK.out _ _ (fun h => absurd h (by decide)) (fun _ => ?_)
              clear hK
              try simp only [Act.put, List.getElem_toArray, List.getElem_cons_zero, List.getElem_cons_succ, List.setIfInBounds_toArray, List.set_cons_zero, List.set_cons_succ]
              refine AnyG.step (i := 5) (by kernel_rfl) rfl (fun K hK => ?_)
              go_simp
              refine hK.out _ _ (fun h => absurd h (by decide)) (fun _ => ?_)
              clear hK
              try simp only [Act.put, List.getElem_toArray, List.getElem_cons_zero, List.getElem_cons_succ, List.setIfInBounds_toArray, List.set_cons_zero, List.set_cons_succ]
              refine AnyG.done (by kernel_rfl) ?_ _
              clear KK K0 KD K_w17 K_w18
              replace r_a := Lib.hid (r_a.out.keep B_w18.out)
              replace r_b := Lib.hid (r_b.out.keep B_w18.out)
              replace r_out := Lib.hid (r_out.out.keep B_w18.out)
              replace r_part := Lib.hid (r_part.out.keep B_w18.out)
              replace BB := Lib.hid (below_next BB.out B_w18.out)
              clear B_w17 B_w18
              replace r_a := Lib.hid (r_a.out.far2 (p := w.heap.size + 1) (by omega) (.int .i64 mh) (.int .u64 ml))
              replace r_b := Lib.hid (r_b.out.set2 (.int .i64 mh) (.int .u64 ml))
              replace r_out := Lib.hid (r_out.out.far2 (p := w.heap.size + 1) (by have dd_out := d_out.out; omega) (.int .i64 mh) (.int .u64 ml))
              replace r_part := Lib.hid (r_part.out.far2 (p := w.heap.size + 1) (by have dd_part := d_part.out; omega) (.int .i64 mh) (.int .u64 ml))
              replace BB := Lib.hid (below_far2 BB.out (p := w.heap.size + 1) (by omega) (.int .i64 mh) (.int .u64 ml))
              generalize ((w18.setCell ⟨w.heap.size + 1, 0, none⟩ (.int .i64 mh)).setCell ⟨w.heap.size + 1, 1, none⟩ (.int .u64 ml)) = w19 at *
              replace r_a := Lib.hid (r_a.out.far2 (p := g_part) (by have dd_part := d_part.out; omega) (.int .i64 kh) (.int .u64 kl))
              replace r_b := Lib.hid (r_b.out.far2 (p := g_part) (by have dd_part := d_part.out; omega) (.int .i64 kh) (.int .u64 kl))
              replace r_out := Lib.hid (r_out.out.far2 (p := g_part) (by have dd_out := d_out.out; have dd_part := d_part.out; omega) (.int .i64 kh) (.int .u64 kl))
              replace r_part := Lib.hid (r_part.out.set2 (.int .i64 kh) (.int .u64 kl))
              replace BB := Lib.hid (below_far2 BB.out (p := g_part) (by have dd := d_part.out; omega) (.int .i64 kh) (.int .u64 kl))
              generalize ((w19.setCell ⟨g_part, 0, none⟩ (.int .i64 kh)).setCell ⟨g_part, 1, none⟩ (.int .u64 kl)) = w20 at *
              go_wp2_with fail
              go_roundw
              case rel => exact ⟨y / 2, p / 2, o + p, a - y, ⟨⟨_, _, r_b.out, hm1⟩, ⟨_, _, r_part.out, hm2⟩, ⟨_, _, r_out.out, he.out⟩, ⟨_, _, r_a.out, hd.out⟩, HL.out, BB.out⟩⟩
              case measure => rw [hv.out, wVal_at r_part.out hm2]; simp only [Int.reducePow]; omega
            · have d2 : decide (cmpI a y ≥ 0) = false := by rw [cmpI_ge0]; exact decide_eq_false hya
              generalize cmpI a y = s2 at *
              have HL := Lib.hid (HH.out.keep hm.1 hp0 (by omega))
              go_wp2_with fail
              have CR1 := Lib.hid (fun w => CR.out _ _ _ w hy.out)
              have CR2 := Lib.hid (fun w => CR.out _ _ _ w hq.out)
              have ne1 : ¬ g_part = w.heap.size + 1 := by have := d_part.out; omega
              have ne2 : ¬ w.heap.size + 1 = g_part := fun e => ne1 e.symm
              have KK := Lib.hid (fun (w9 : World) (h : Below w12.heap.size w12 w9) => (⟨cells2 (r_b.out.keep h), cells2 (r_part.out.keep h)⟩ : (w9.cell? ⟨w.heap.size + 1, 0, none⟩ = some (.int .i64 yh) ∧ w9.cell? ⟨w.heap.size + 1, 1, none⟩ = some (.int .u64 yl)) ∧ (w9.cell? ⟨g_part, 0, none⟩ = some (.int .i64 qh) ∧ w9.cell? ⟨g_part, 1, none⟩ = some (.int .u64 ql))))
              have K0 := KK.out w12 (Below.refl _ _)
              have KD := KK.out w12.drew (below_drew (Below.refl _ _))
              have tok0 : Hid True := trivial
              have tok1 : Hid True := trivial
              refine AnyG.begin_ (fun w9 => (w9.cell? ⟨w.heap.size + 1, 0, none⟩ = some (.int .i64 yh) ∧ w9.cell? ⟨w.heap.size + 1, 1, none⟩ = some (.int .u64 yl)) ∧ (w9.cell? ⟨g_part, 0, none⟩ = some (.int .i64 qh) ∧ w9.cell? ⟨g_part, 1, none⟩ = some (.int .u64 ql))) 4 (by kernel_rfl) ?_
              refine AnyG.take (i := 0) (v := ?_) rfl (by kernel_rfl) (by kernel_rfl) (by kernel_rfl) (fun _ _ _ h => h) (by kernel_rfl) (by kernel_rfl) (Or.inl ⟨by rfl, ?_⟩) (by assumption) ?_
              rotate_left
              · intro w9 hSw; (try dsimp only at hSw); go_simp <;> with_reducible rfl
              try simp only [Act.put, List.getElem_toArray, List.getElem_cons_zero, List.getElem_cons_succ, List.setIfInBounds_toArray, List.set_cons_zero, List.set_cons_succ]
              refine AnyG.take (i := 2) (v := ?_) rfl (by kernel_rfl) (by kernel_rfl) (by kernel_rfl) (fun _ _ _ h => h) (by kernel_rfl) (by kernel_rfl) (Or.inl ⟨by rfl, ?_⟩) (by assumption) ?_
              rotate_left
              · intro w9 hSw; (try dsimp only at hSw); go_simp <;> with_reducible rfl
              try simp only [Act.put, List.getElem_toArray, List.getElem_cons_zero, List.getElem_cons_succ, List.setIfInBounds_toArray, List.set_cons_zero, List.set_cons_succ]
              refine AnyG.step (i := 1) (by kernel_rfl) rfl (fun K hK => ?_)
              go_simp
              go_at_call 118
              have t_k := tok0
              refine (CR1.out _).mono ?_
              rintro e w13 ⟨mh, ml, rfl, hb, hm1⟩
              have B_w13 := Lib.hid (reg_next (w0 := w12) (by repeat (first | with_reducible exact Below.refl _ _ | with_reducible apply below_drew | with_reducible apply below_new)) hb)
              have K_w13 := KK.out _ B_w13.out
              clear hb
              clear t_k tok0
              refine hK.out _ _ (fun _ => K_w13) (fun hHeld => ?_)
              replace hHeld := hHeld (by decide)
              clear hK
              try simp only [Act.put, List.getElem_toArray, List.getElem_cons_zero, List.getElem_cons_succ, List.setIfInBounds_toArray, List.set_cons_zero, List.set_cons_succ]
              refine AnyG.step (i := 3) (by kernel_rfl) rfl (fun K hK => ?_)
              go_simp
              go_at_call 118
              have t_k := tok1
              refine (CR2.out _).mono ?_
              rintro e w14 ⟨kh, kl, rfl, hb, hm2⟩
              have B_w14 := Lib.hid (below_next B_w13.out hb)
              have K_w14 := KK.out _ B_w14.out
              obtain ⟨rc_b0, rc_b1, rf_b0, rf_b1⟩ := reads2 (r_b.out.keep B_w14.out)
              have rl_b := (r_b.out.keep B_w14.out).lt
              obtain ⟨rc_part0, rc_part1, rf_part0, rf_part1⟩ := reads2 (r_part.out.keep B_w14.out)
              have rl_part := (r_part.out.keep B_w14.out).lt
              clear hb
              clear t_k tok1
              refine hK.out _ _ (fun _ => K_w14) (fun hHeld => ?_)
              replace hHeld := hHeld (by decide)
              clear hK
              try simp only [Act.put, List.getElem_toArray, List.getElem_cons_zero, List.getElem_cons_succ, List.setIfInBounds_toArray, List.set_cons_zero, List.set_cons_succ]
              refine AnyG.step (i := 4) (by kernel_rfl) rfl (fun K hK => ?_)
              go_simp
              refine hK.out _ _ (fun h => absurd h (by decide)) (fun _ => ?_)
              clear hK
              try simp only [Act.put, List.getElem_toArray, List.getElem_cons_zero, List.getElem_cons_succ, List.setIfInBounds_toArray, List.set_cons_zero, List.set_cons_succ]
              refine AnyG.step (i := 5) (by kernel_rfl) rfl (fun K hK => ?_)
              go_simp
              refine hK.out _ _ (fun h => absurd h (by decide)) (fun _ => ?_)
              clear hK
              try simp only [Act.put, List.getElem_toArray, List.getElem_cons_zero, List.getElem_cons_succ, List.setIfInBounds_toArray, List.set_cons_zero, List.set_cons_succ]
              refine AnyG.done (by kernel_rfl) ?_ _
              clear KK K0 KD K_w13 K_w14
              replace r_a := Lib.hid (r_a.out.keep B_w14.out)
              replace r_b := Lib.hid (r_b.out.keep B_w14.out)
              replace r_out := Lib.hid (r_out.out.keep B_w14.out)
              replace r_part := Lib.hid (r_part.out.keep B_w14.out)
              replace BB := Lib.hid (below_next BB.out B_w14.out)
              clear B_w13 B_w14
              replace r_a := Lib.hid (r_a.out.far2 (p := w.heap.size + 1) (by omega) (.int .i64 mh) (.int .u64 ml))
              replace r_b := Lib.hid (r_b.out.set2 (.int .i64 mh) (.int .u64 ml))
              replace r_out := Lib.hid (r_out.out.far2 (p := w.heap.size + 1) (by have dd_out := d_out.out; omega) (.int .i64 mh) (.int .u64 ml))
              replace r_part := Lib.hid (r_part.out.far2 (p := w.heap.size + 1) (by have dd_part := d_part.out; omega) (.int .i64 mh) (.int .u64 ml))
              replace BB := Lib.hid (below_far2 BB.out (p := w.heap.size + 1) (by omega) (.int .i64 mh) (.int .u64 ml))
              generalize ((w14.setCell ⟨w.heap.size + 1, 0, none⟩ (.int .i64 mh)).setCell ⟨w.heap.size + 1, 1, none⟩ (.int .u64 ml)) = w15 at *
              replace r_a := Lib.hid (r_a.out.far2 (p := g_part) (by have dd_part := d_part.out; omega) (.int .i64 kh) (.int .u64 kl))
              replace r_b := Lib.hid (r_b.out.far2 (p := g_part) (by have dd_part := d_part.out; omega) (.int .i64 kh) (.int .u64 kl))
              replace r_out := Lib.hid (r_out.out.far2 (p := g_part) (by have dd_out := d_out.out; have dd_part := d_part.out; omega) (.int .i64 kh) (.int .u64 kl))
              replace r_part := Lib.hid (r_part.out.set2 (.int .i64 kh) (.int .u64 kl))
              replace BB := Lib.hid (below_far2 BB.out (p := g_part) (by have dd := d_part.out; omega) (.int .i64 kh) (.int .u64 kl))
              generalize ((w15.setCell ⟨g_part, 0, none⟩ (.int .i64 kh)).setCell ⟨g_part, 1, none⟩ (.int .u64 kl)) = w16 at *
              go_wp2_with fail
              go_roundw
              case rel => exact ⟨y / 2, p / 2, o, a, ⟨⟨_, _, r_b.out, hm1⟩, ⟨_, _, r_part.out, hm2⟩, ⟨_, _, r_out.out, ho.out⟩, ⟨_, _, r_a.out, hx.out⟩, HL.out, BB.out⟩⟩
              case measure => rw [hv.out, wVal_at r_part.out hm2]; simp only [Int.reducePow]; omega
      · have d1 : decide (cmpI (y + y) A > 0) = false := by rw [cmpI_gt0]; exact decide_eq_false hx
        generalize cmpI (y + y) A = s1 at *
        go_wp2_with fail
        have ne1 : ¬ g_part = w.heap.size + 1 := by have := d_part.out; omega
        have ne2 : ¬ w.heap.size + 1 = g_part := fun e => ne1 e.symm
        have KK := Lib.hid (fun (w9 : World) (h : Below w10.heap.size w10 w9) => (⟨cells2 (r_nx.out.keep h), cells2 (r_part.out.keep h)⟩ : (w9.cell? ⟨g_nx, 0, none⟩ = some (.int .i64 nh) ∧ w9.cell? ⟨g_nx, 1, none⟩ = some (.int .u64 nl)) ∧ (w9.cell? ⟨g_part, 0, none⟩ = some (.int .i64 qh) ∧ w9.cell? ⟨g_part, 1, none⟩ = some (.int .u64 ql))))
        have K0 := KK.out w10 (Below.refl _ _)
        have KD := KK.out w10.drew (below_drew (Below.refl _ _))
        obtain ⟨rc_b0, rc_b1, rf_b0, rf_b1⟩ := reads2 r_b.out
        have rl_b := r_b.out.lt
        obtain ⟨rc_part0, rc_part1, rf_part0, rf_part1⟩ := reads2 r_part.out
        have rl_part := r_part.out.lt
        refine AnyG.begin_ (fun w9 => (w9.cell? ⟨g_nx, 0, none⟩ = some (.int .i64 nh) ∧ w9.cell? ⟨g_nx, 1, none⟩ = some (.int .u64 nl)) ∧ (w9.cell? ⟨g_part, 0, none⟩ = some (.int .i64 qh) ∧ w9.cell? ⟨g_part, 1, none⟩ = some (.int .u64 ql))) 14 (by kernel_rfl) ?_
        refine AnyG.take (i := 0) (v := ?_) rfl (by kernel_rfl) (by kernel_rfl) (by kernel_rfl) (fun _ _ _ h => h) (by kernel_rfl) (by kernel_rfl) (Or.inl ⟨by rfl, ?_⟩) (by assumption) ?_
        rotate_left
        · intro w9 hSw; (try dsimp only at hSw); go_simp <;> with_reducible rfl
        try simp only [Act.put, List.getElem_toArray, List.getElem_cons_zero, List.getElem_cons_succ, List.setIfInBounds_toArray, List.set_cons_zero, List.set_cons_succ]
        refine AnyG.take (i := 1) (v := ?_) rfl (by kernel_rfl) (by kernel_rfl) (by kernel_rfl) (fun _ _ _ h => h) (by kernel_rfl) (by kernel_rfl) (Or.inl ⟨by rfl, ?_⟩) (by assumption) ?_
        rotate_left
        · intro w9 hSw; (try dsimp only at hSw); go_simp <;> with_reducible rfl
        try simp only [Act.put, List.getElem_toArray, List.getElem_cons_zero, List.getElem_cons_succ, List.setIfInBounds_toArray, List.set_cons_zero, List.set_cons_succ]
        refine AnyG.take (i := 2) (v := ?_) rfl (by kernel_rfl) (by kernel_rfl) (by kernel_rfl) (fun _ _ _ h => h) (by kernel_rfl) (by kernel_rfl) (Or.inl ⟨by rfl, ?_⟩) (by assumption) ?_
        rotate_left
        · intro w9 hSw; (try dsimp only at hSw); go_simp <;> with_reducible rfl
        try simp only [Act.put, List.getElem_toArray, List.getElem_cons_zero, List.getElem_cons_succ, List.setIfInBounds_toArray, List.set_cons_zero, List.set_cons_succ]
        refine AnyG.take (i := 3) (v := ?_) rfl (by kernel_rfl) (by kernel_rfl) (by kernel_rfl) (fun _ _ _ h => h) (by kernel_rfl) (by kernel_rfl) (Or.inl ⟨by rfl, ?_⟩) (by assumption) ?_
        rotate_left
        · intro w9 hSw; (try dsimp only at hSw); go_simp <;> with_reducible rfl
        try simp only [Act.put, List.getElem_toArray, List.getElem_cons_zero, List.getElem_cons_succ, List.setIfInBounds_toArray, List.set_cons_zero, List.set_cons_succ]
        refine AnyG.take (i := 4) (v := ?_) rfl (by kernel_rfl) (by kernel_rfl) (by kernel_rfl) (fun _ _ _ h => h) (by kernel_rfl) (by kernel_rfl) (Or.inl ⟨by rfl, ?_⟩) (by assumption) ?_
        rotate_left
        · intro w9 hSw; (try dsimp only at hSw); go_simp <;> with_reducible rfl
        try simp only [Act.put, List.getElem_toArray, List.getElem_cons_zero, List.getElem_cons_succ, List.setIfInBounds_toArray, List.set_cons_zero, List.set_cons_succ]
        refine AnyG.take (i := 5) (v := ?_) rfl (by kernel_rfl) (by kernel_rfl) (by kernel_rfl) (fun _ _ _ h => h) (by kernel_rfl) (by kernel_rfl) (Or.inl ⟨by rfl, ?_⟩) (by assumption) ?_
        rotate_left
        · intro w9 hSw; (try dsimp only at hSw); go_simp <;> with_reducible rfl
        try simp only [Act.put, List.getElem_toArray, List.getElem_cons_zero, List.getElem_cons_succ, List.setIfInBounds_toArray, List.set_cons_zero, List.set_cons_succ]
        refine AnyG.take (i := 6) (v := ?_) rfl (by kernel_rfl) (by kernel_rfl) (by kernel_rfl) (fun _ _ _ h => h) (by kernel_rfl) (by kernel_rfl) (Or.inl ⟨by rfl, ?_⟩) (by assumption) ?_
        rotate_left
        · intro w9 hSw; (try dsimp only at hSw); go_simp <;> with_reducible rfl
        try simp only [Act.put, List.getElem_toArray, List.getElem_cons_zero, List.getElem_cons_succ, List.setIfInBounds_toArray, List.set_cons_zero, List.set_cons_succ]
        refine AnyG.take (i := 7) (v := ?_) rfl (by kernel_rfl) (by kernel_rfl) (by kernel_rfl) (fun _ _ _ h => h) (by kernel_rfl) (by kernel_rfl) (Or.inl ⟨by rfl, ?_⟩) (by assumption) ?_
        rotate_left
        · intro w9 hSw; (try dsimp only at hSw); go_simp <;> with_reducible rfl
        try simp only [Act.put, List.getElem_toArray, List.getElem_cons_zero, List.getElem_cons_succ, List.setIfInBounds_toArray, List.set_cons_zero, List.set_cons_succ]
        refine AnyG.take (i := 8) (v := ?_) rfl (by kernel_rfl) (by kernel_rfl) (by kernel_rfl) (fun _ _ _ h => h) (by kernel_rfl) (by kernel_rfl) (Or.inl ⟨by rfl, ?_⟩) (by assumption) ?_
        rotate_left
        · intro w9 hSw; (try dsimp only at hSw); go_simp <;> with_reducible rfl
        try simp only [Act.put, List.getElem_toArray, List.getElem_cons_zero, List.getElem_cons_succ, List.setIfInBounds_toArray, List.set_cons_zero, List.set_cons_succ]
        refine AnyG.take (i := 9) (v := ?_) rfl (by kernel_rfl) (by kernel_rfl) (by kernel_rfl) (fun _ _ _ h => h) (by kernel_rfl) (by kernel_rfl) (Or.inl ⟨by rfl, ?_⟩) (by assumption) ?_
        rotate_left
        · intro w9 hSw; (try dsimp only at hSw); go_simp <;> with_reducible rfl
        try simp only [Act.put, List.getElem_toArray, List.getElem_cons_zero, List.getElem_cons_succ, List.setIfInBounds_toArray, List.set_cons_zero, List.set_cons_succ]
        refine AnyG.take (i := 10) (v := ?_) rfl (by kernel_rfl) (by kernel_rfl) (by kernel_rfl) (fun _ _ _ h => h) (by kernel_rfl) (by kernel_rfl) (Or.inl ⟨by rfl, ?_⟩) (by assumption) ?_
        rotate_left
        · intro w9 hSw; (try dsimp only at hSw); go_simp <;> with_reducible rfl
        try simp only [Act.put, List.getElem_toArray, List.getElem_cons_zero, List.getElem_cons_succ, List.setIfInBounds_toArray, List.set_cons_zero, List.set_cons_succ]
        refine AnyG.take (i := 11) (v := ?_) rfl (by kernel_rfl) (by kernel_rfl) (by kernel_rfl) (fun _ _ _ h => h) (by kernel_rfl) (by kernel_rfl) (Or.inl ⟨by rfl, ?_⟩) (by assumption) ?_
        rotate_left
        · intro w9 hSw; (try dsimp only at hSw); go_simp <;> with_reducible rfl
        try simp only [Act.put, List.getElem_toArray, List.getElem_cons_zero, List.getElem_cons_succ, List.setIfInBounds_toArray, List.set_cons_zero, List.set_cons_succ]
        refine AnyG.take (i := 12) (v := ?_) rfl (by kernel_rfl) (by kernel_rfl) (by kernel_rfl) (fun _ _ _ h => h) (by kernel_rfl) (by kernel_rfl) (Or.inl ⟨by rfl, ?_⟩) (by assumption) ?_
        rotate_left
        · intro w9 hSw; (try dsimp only at hSw); go_simp <;> with_reducible rfl
        try simp only [Act.put, List.getElem_toArray, List.getElem_cons_zero, List.getElem_cons_succ, List.setIfInBounds_toArray, List.set_cons_zero, List.set_cons_succ]
        refine AnyG.step (i := 13) (by kernel_rfl) rfl (fun K hK => ?_)
        go_simp
        skip
        skip
        refine hK.out _ _ (fun _ => by first | exact ⟨cells2 (r_nx.out.far2 (by have dd_nx := d_nx.out; omega) _ _), cells2 (r_part.out.far2 (by have dd_part := d_part.out; omega) _ _)⟩ | exact ⟨cells2 ((AtB.drew r_nx.out).far2 (by have dd_nx := d_nx.out; omega) _ _), cells2 ((AtB.drew r_part.out).far2 (by have dd_part := d_part.out; omega) _ _)⟩) (fun hHeld => ?_)
        replace hHeld := hHeld (by decide)
        clear hK
        try simp only [Act.put, List.getElem_toArray, List.getElem_cons_zero, List.getElem_cons_succ, List.setIfInBounds_toArray, List.set_cons_zero, List.set_cons_succ]
        refine AnyG.step (i := 14) (by kernel_rfl) rfl (fun K hK => ?_)
        go_simp
        refine hK.out _ _ (fun h => absurd h (by decide)) (fun _ => ?_)
        clear hK
        try simp only [Act.put, List.getElem_toArray, List.getElem_cons_zero, List.getElem_cons_succ, List.setIfInBounds_toArray, List.set_cons_zero, List.set_cons_succ]
        refine AnyG.done (by kernel_rfl) ?_ _
        clear KK K0 KD
        clear rc_b0 rc_b1 rf_b0 rf_b1 rl_b rc_part0 rc_part1 rf_part0 rf_part1 rl_part
        replace r_a := Lib.hid (r_a.out.far2 (p := w.heap.size + 1) (by omega) (.int .i64 nh) (.int .u64 nl))
        replace r_b := Lib.hid (r_b.out.set2 (.int .i64 nh) (.int .u64 nl))
        replace r_out := Lib.hid (r_out.out.far2 (p := w.heap.size + 1) (by have dd_out := d_out.out; omega) (.int .i64 nh) (.int .u64 nl))
        replace r_part := Lib.hid (r_part.out.far2 (p := w.heap.size + 1) (by have dd_part := d_part.out; omega) (.int .i64 nh) (.int .u64 nl))
        replace r_nx := Lib.hid (r_nx.out.far2 (p := w.heap.size + 1) (by have dd_nx := d_nx.out; omega) (.int .i64 nh) (.int .u64 nl))
        replace BB := Lib.hid (below_far2 BB.out (p := w.heap.size + 1) (by omega) (.int .i64 nh) (.int .u64 nl))
        generalize ((w10.setCell ⟨w.heap.size + 1, 0, none⟩ (.int .i64 nh)).setCell ⟨w.heap.size + 1, 1, none⟩ (.int .u64 nl)) = w11 at *
        replace r_a := Lib.hid (r_a.out.far2 (p := g_part) (by have dd_part := d_part.out; omega) (.int .i64 (bits BinOp.or IntKind.i64 (IntKind.i64.wrap (qh * 2)) (IntKind.i64.wrap (ql / 9223372036854775808)))) (.int .u64 (IntKind.u64.wrap (ql * 2))))
        replace r_b := Lib.hid (r_b.out.far2 (p := g_part) (by have dd_part := d_part.out; omega) (.int .i64 (bits BinOp.or IntKind.i64 (IntKind.i64.wrap (qh * 2)) (IntKind.i64.wrap (ql / 9223372036854775808)))) (.int .u64 (IntKind.u64.wrap (ql * 2))))
        replace r_out := Lib.hid (r_out.out.far2 (p := g_part) (by have dd_out := d_out.out; have dd_part := d_part.out; omega) (.int .i64 (bits BinOp.or IntKind.i64 (IntKind.i64.wrap (qh * 2)) (IntKind.i64.wrap (ql / 9223372036854775808)))) (.int .u64 (IntKind.u64.wrap (ql * 2))))
        replace r_part := Lib.hid (r_part.out.set2 (.int .i64 (bits BinOp.or IntKind.i64 (IntKind.i64.wrap (qh * 2)) (IntKind.i64.wrap (ql / 9223372036854775808)))) (.int .u64 (IntKind.u64.wrap (ql * 2))))
        replace r_nx := Lib.hid (r_nx.out.far2 (p := g_part) (by have dd_nx := d_nx.out; have dd_part := d_part.out; omega) (.int .i64 (bits BinOp.or IntKind.i64 (IntKind.i64.wrap (qh * 2)) (IntKind.i64.wrap (ql / 9223372036854775808)))) (.int .u64 (IntKind.u64.wrap (ql * 2))))
        replace BB := Lib.hid (below_far2 BB.out (p := g_part) (by have dd := d_part.out; omega) (.int .i64 (bits BinOp.or IntKind.i64 (IntKind.i64.wrap (qh * 2)) (IntKind.i64.wrap (ql / 9223372036854775808)))) (.int .u64 (IntKind.u64.wrap (ql * 2))))
        generalize ((w11.setCell ⟨g_part, 0, none⟩ (.int .i64 (bits BinOp.or IntKind.i64 (IntKind.i64.wrap (qh * 2)) (IntKind.i64.wrap (ql / 9223372036854775808))))).setCell ⟨g_part, 1, none⟩ (.int .u64 (IntKind.u64.wrap (ql * 2)))) = w12 at *
        have hb := below_drew (Below.refl w12.heap.size w12)
        generalize w12.drew = w13 at *
        replace r_a := Lib.hid (r_a.out.keep hb)
        replace r_b := Lib.hid (r_b.out.keep hb)
        replace r_out := Lib.hid (r_out.out.keep hb)
        replace r_part := Lib.hid (r_part.out.keep hb)
        replace r_nx := Lib.hid (r_nx.out.keep hb)
        replace BB := Lib.hid (below_next BB.out hb)
        clear hb
        have hq2 := Lib.hid (shl_law hq.out (HD.out.room hm.1 hAm (by omega)).1 (HD.out.room hm.1 hAm (by omega)).2)
        go_wp2_with fail
        go_roundw
        case rel => exact ⟨y + y, p + p, ⟨⟨_, _, r_b.out, hn.out⟩, ⟨_, _, r_part.out, hq2.out⟩, HD.out.next hm.1 hAm (by omega), r_a.out, r_out.out, BB.out⟩⟩
        case measure => rw [hv.out, wVal_at r_b.out hn.out]; have := hr; unfold I128 at this; omega
    · have HH := Lib.hid (HD.out.start hA0 (by unfold IM at hAm; unfold I128 at hr; omega))
      clear HD hv
      go_wp2_with fail
      clear r_nx
      go_loopw [] (fun wr => ∃ y p o a, Hid (WAt wr (w.heap.size + 1) y ∧ WAt wr g_part p ∧ WAt wr g_out o ∧ WAt wr w.heap.size a ∧ Ovr b y p o a A ∧ Below w.heap.size w wr)) (fun wr => (wVal wr g_part).toNat)
      case atStart => exact ⟨y, p, 0, A, ⟨⟨_, _, r_b.out, hy.out⟩, ⟨_, _, r_part.out, hq.out⟩, ⟨_, _, r_out.out, W128.zero⟩, ⟨_, _, r_a.out, hp.out⟩, HH.out, BB.out⟩⟩
      case round =>
        clear r_a r_b r_out r_part BB HH hy hq hp hy0
        obtain ⟨y, p, o, a, hinv⟩ := hrel
        obtain ⟨⟨yh, yl, r_b, hy⟩, ⟨qh, ql, r_part, hq⟩, ⟨oh, ol, r_out, ho⟩, ⟨xh, xl, r_a, hx⟩, HH, BB⟩ := hinv.out
        clear hinv
        have hv := Lib.hid (wVal_at r_part hq)
        replace r_b := Lib.hid r_b; replace r_a := Lib.hid r_a; replace r_out := Lib.hid r_out; replace r_part := Lib.hid r_part; replace BB := Lib.hid BB; replace hy := Lib.hid hy; replace hq := Lib.hid hq; replace hx := Lib.hid hx; replace ho := Lib.hid ho; replace HH := Lib.hid HH
        have hpo : 0 ≤ p ∧ 0 ≤ o ∧ o ≤ A ∧ 0 ≤ a ∧ 0 ≤ y := by
          obtain ⟨k0, k1, k2, k3⟩ := HH.out
          have h1 : o * 1 ≤ o * b := Int.mul_le_mul_of_nonneg_left (by omega) k1
          rcases k3 with ⟨k, -, k6, k5, -⟩ | k4
          · have := two_pow_pos k
            have h2 := Int.mul_nonneg (Int.le_of_lt hm.1) (Int.le_of_lt (two_pow_pos k))
            exact ⟨by omega, k1, by omega, k0, by omega⟩
          · exact ⟨by omega, k1, by omega, k0, by omega⟩
        obtain ⟨c_part0, c_part1, f_part0, f_part1⟩ := reads2 r_part.out
        have l_part := r_part.out.lt
        go_wp2_with fail
        refine (CG.out _ _ _ _ hq.out).mono ?_
        rintro e w10 ⟨rfl, hb⟩
        clear c_part0 c_part1 f_part0 f_part1 l_part
        replace r_a := Lib.hid (r_a.out.keep hb)
        replace r_b := Lib.hid (r_b.out.keep hb)
        replace r_out := Lib.hid (r_out.out.keep hb)
        replace r_part := Lib.hid (r_part.out.keep hb)
        replace BB := Lib.hid (below_next BB.out hb)
        clear hb
        by_cases hp0 : p = 0
        · have d3 : (cmpI p 0 != 0) = false := by rw [cmpI_ne0]; exact decide_eq_false (by omega)
          generalize cmpI p 0 = s3 at *
          subst hp0
          have hE := HH.out.done hm.1
          cases nb with
          | false =>
            have hz0 : ¬ z < 0 := by have := dz.out; simpa using this
            have hRo : R = o := by rw [hR.out, if_neg hz0, ← hE]
            obtain ⟨c_out0, c_out1, f_out0, f_out1⟩ := reads2 r_out.out
            have l_out := r_out.out.lt
            go_wp2_with fail
            refine (CF.out _ _ _ _ ho.out).mono ?_
            rintro e w11 ⟨rfl, hb⟩
            clear c_out0 c_out1 f_out0 f_out1 l_out
            replace r_a := Lib.hid (r_a.out.keep hb)
            replace r_b := Lib.hid (r_b.out.keep hb)
            replace r_out := Lib.hid (r_out.out.keep hb)
            replace r_part := Lib.hid (r_part.out.keep hb)
            replace BB := Lib.hid (below_next BB.out hb)
            clear hb
            go_wp2_with fail
            refine bodyPost_ret (v := .tuple #[.int .i64 (fitX o), .bool (fitsB o 63)]) (by unfold results; simp only [Try.results112]; go_simp) rfl ?_
            exact ⟨by rw [hRo], BB.out⟩
          | true =>
            have hz0 : z < 0 := by have := dz.out; simpa using this
            have hRo : R = -o := by rw [hR.out, if_pos hz0, ← hE]
            obtain ⟨c_out0, c_out1, f_out0, f_out1⟩ := reads2 r_out.out
            have l_out := r_out.out.lt
            go_wp2_with fail
            refine (CN.out _ _ _ _ ho.out).mono ?_
            rintro e w12 ⟨mh, ml, ok, rfl, hb, hn2⟩
            clear c_out0 c_out1 f_out0 f_out1 l_out
            replace r_a := Lib.hid (r_a.out.keep hb)
            replace r_b := Lib.hid (r_b.out.keep hb)
            replace r_out := Lib.hid (r_out.out.keep hb)
            replace r_part := Lib.hid (r_part.out.keep hb)
            replace BB := Lib.hid (below_next BB.out hb)
            clear hb
            have hn2 := Lib.hid (hn2.of_room (by unfold IM at hAm; unfold I128; omega))
            obtain ⟨c_out0, c_out1, f_out0, f_out1⟩ := reads2 r_out.out
            have l_out := r_out.out.lt
            go_upto_region 15 with fail
            clear c_out0 c_out1 f_out0 f_out1 l_out
            replace r_a := Lib.hid (r_a.out.far2 (p := g_out) (by have dd_out := d_out.out; omega) (.int .i64 mh) (.int .u64 ml))
            replace r_b := Lib.hid (r_b.out.far2 (p := g_out) (by have dd_out := d_out.out; omega) (.int .i64 mh) (.int .u64 ml))
            replace r_out := Lib.hid (r_out.out.set2 (.int .i64 mh) (.int .u64 ml))
            replace r_part := Lib.hid (r_part.out.far2 (p := g_out) (by have dd_part := d_part.out; have dd_out := d_out.out; omega) (.int .i64 mh) (.int .u64 ml))
            replace BB := Lib.hid (below_far2 BB.out (p := g_out) (by have dd := d_out.out; omega) (.int .i64 mh) (.int .u64 ml))
            generalize ((w12.setCell ⟨g_out, 0, none⟩ (.int .i64 mh)).setCell ⟨g_out, 1, none⟩ (.int .u64 ml)) = w13 at *
            obtain ⟨c_out0, c_out1, f_out0, f_out1⟩ := reads2 r_out.out
            have l_out := r_out.out.lt
            go_wp2_with fail
            refine (CF.out _ _ _ _ hn2.out).mono ?_
            rintro e w14 ⟨rfl, hb⟩
            clear c_out0 c_out1 f_out0 f_out1 l_out
            replace r_a := Lib.hid (r_a.out.keep hb)
            replace r_b := Lib.hid (r_b.out.keep hb)
            replace r_out := Lib.hid (r_out.out.keep hb)
            replace r_part := Lib.hid (r_part.out.keep hb)
            replace BB := Lib.hid (below_next BB.out hb)
            clear hb
            go_wp2_with fail
            refine bodyPost_ret (v := .tuple #[.int .i64 (fitX (-o)), .bool (fitsB (-o) 63)]) (by unfold results; simp only [Try.results112]; go_simp) rfl ?_
            exact ⟨by rw [hRo], BB.out⟩
        · have d3 : (cmpI p 0 != 0) = true := by rw [cmpI_ne0]; exact decide_eq_true hp0
          generalize cmpI p 0 = s3 at *
          obtain ⟨c_a0, c_a1, f_a0, f_a1⟩ := reads2 r_a.out
          have l_a := r_a.out.lt
          obtain ⟨c_b0, c_b1, f_b0, f_b1⟩ := reads2 r_b.out
          have l_b := r_b.out.lt
          go_wp2_with fail
          refine (CC.out _ _ _ _ _ _ _ hx.out hy.out).mono ?_
          rintro e w11 ⟨rfl, hb⟩
          clear c_a0 c_a1 f_a0 f_a1 l_a c_b0 c_b1 f_b0 f_b1 l_b
          replace r_a := Lib.hid (r_a.out.keep hb)
          replace r_b := Lib.hid (r_b.out.keep hb)
          replace r_out := Lib.hid (r_out.out.keep hb)
          replace r_part := Lib.hid (r_part.out.keep hb)
          replace BB := Lib.hid (below_next BB.out hb)
          clear hb
          by_cases hya : y ≤ a
          · have d2 : decide (cmpI a y ≥ 0) = true := by rw [cmpI_ge0]; exact decide_eq_true hya
            generalize cmpI a y = s2 at *
            have HL := Lib.hid (HH.out.less hm.1 hp0 hya)
            have hop : 0 ≤ o + p ∧ o + p ≤ A := by
              obtain ⟨k0, k1, k2, -⟩ := HL.out
              have h1 : (o + p) * 1 ≤ (o + p) * b := Int.mul_le_mul_of_nonneg_left (by omega) k1
              omega
            have hay : 0 ≤ a - y := HL.out.1
            obtain ⟨c_a0, c_a1, f_a0, f_a1⟩ := reads2 r_a.out
            have l_a := r_a.out.lt
            obtain ⟨c_b0, c_b1, f_b0, f_b1⟩ := reads2 r_b.out
            have l_b := r_b.out.lt
            go_wp2_with fail
            refine (CS.out _ _ _ _ _ _ _ hx.out hy.out).mono ?_
            rintro e w12 ⟨dh, dl, ok, rfl, hb, hd⟩
            clear c_a0 c_a1 f_a0 f_a1 l_a c_b0 c_b1 f_b0 f_b1 l_b
            replace r_a := Lib.hid (r_a.out.keep hb)
            replace r_b := Lib.hid (r_b.out.keep hb)
            replace r_out := Lib.hid (r_out.out.keep hb)
            replace r_part := Lib.hid (r_part.out.keep hb)
            replace BB := Lib.hid (below_next BB.out hb)
            clear hb
            have hd := Lib.hid (hd.of_room (by have h1 := hx.out.room; have h2 := hy.out.room; unfold I128 at *; omega))
            obtain ⟨c_a0, c_a1, f_a0, f_a1⟩ := reads2 r_a.out
            have l_a := r_a.out.lt
            go_upto_region 11 with fail
            clear c_a0 c_a1 f_a0 f_a1 l_a
            replace r_a := Lib.hid (r_a.out.set2 (.int .i64 dh) (.int .u64 dl))
            replace r_b := Lib.hid (r_b.out.far2 (p := w.heap.size) (by omega) (.int .i64 dh) (.int .u64 dl))
            replace r_out := Lib.hid (r_out.out.far2 (p := w.heap.size) (by have dd_out := d_out.out; omega) (.int .i64 dh) (.int .u64 dl))
            replace r_part := Lib.hid (r_part.out.far2 (p := w.heap.size) (by have dd_part := d_part.out; omega) (.int .i64 dh) (.int .u64 dl))
            replace BB := Lib.hid (below_far2 BB.out (p := w.heap.size) (by omega) (.int .i64 dh) (.int .u64 dl))
            generalize ((w12.setCell ⟨w.heap.size, 0, none⟩ (.int .i64 dh)).setCell ⟨w.heap.size, 1, none⟩ (.int .u64 dl)) = w13 at *
            obtain ⟨c_out0, c_out1, f_out0, f_out1⟩ := reads2 r_out.out
            have l_out := r_out.out.lt
            obtain ⟨c_part0, c_part1, f_part0, f_part1⟩ := reads2 r_part.out
            have l_part := r_part.out.lt
            go_wp2_with fail
            refine (CA.out _ _ _ _ _ _ _ ho.out hq.out).mono ?_
            rintro e w14 ⟨eh, el, ok2, rfl, hb, he⟩
            clear c_out0 c_out1 f_out0 f_out1 l_out c_part0 c_part1 f_part0 f_part1 l_part
            replace r_a := Lib.hid (r_a.out.keep hb)
            replace r_b := Lib.hid (r_b.out.keep hb)
            replace r_out := Lib.hid (r_out.out.keep hb)
            replace r_part := Lib.hid (r_part.out.keep hb)
            replace BB := Lib.hid (below_next BB.out hb)
            clear hb
            have he := Lib.hid (he.of_room (by unfold IM at hAm; unfold I128; omega))
            obtain ⟨c_out0, c_out1, f_out0, f_out1⟩ := reads2 r_out.out
            have l_out := r_out.out.lt
            go_upto_region 12 with fail
            clear c_out0 c_out1 f_out0 f_out1 l_out
            replace r_a := Lib.hid (r_a.out.far2 (p := g_out) (by have dd_out := d_out.out; omega) (.int .i64 eh) (.int .u64 el))
            replace r_b := Lib.hid (r_b.out.far2 (p := g_out) (by have dd_out := d_out.out; omega) (.int .i64 eh) (.int .u64 el))
            replace r_out := Lib.hid (r_out.out.set2 (.int .i64 eh) (.int .u64 el))
            replace r_part := Lib.hid (r_part.out.far2 (p := g_out) (by have dd_part := d_part.out; have dd_out := d_out.out; omega) (.int .i64 eh) (.int .u64 el))
            replace BB := Lib.hid (below_far2 BB.out (p := g_out) (by have dd := d_out.out; omega) (.int .i64 eh) (.int .u64 el))
            generalize ((w14.setCell ⟨g_out, 0, none⟩ (.int .i64 eh)).setCell ⟨g_out, 1, none⟩ (.int .u64 el)) = w15 at *
            have CR1 := Lib.hid (fun w => CR.out _ _ _ w hy.out)
            have CR2 := Lib.hid (fun w => CR.out _ _ _ w hq.out)
            have ne1 : ¬ g_part = w.heap.size + 1 := by have := d_part.out; omega
            have ne2 : ¬ w.heap.size + 1 = g_part := fun e => ne1 e.symm
            have KK := Lib.hid (fun (w9 : World) (h : Below w15.heap.size w15 w9) => (⟨cells2 (r_b.out.keep h), cells2 (r_part.out.keep h)⟩ : (w9.cell? ⟨w.heap.size + 1, 0, none⟩ = some (.int .i64 yh) ∧ w9.cell? ⟨w.heap.size + 1, 1, none⟩ = some (.int .u64 yl)) ∧ (w9.cell? ⟨g_part, 0, none⟩ = some (.int .i64 qh) ∧ w9.cell? ⟨g_part, 1, none⟩ = some (.int .u64 ql))))
            have K0 := KK.out w15 (Below.refl _ _)
            have KD := KK.out w15.drew (below_drew (Below.refl _ _))
            have tok0 : Hid True := trivial
            have tok1 : Hid True := trivial
            refine AnyG.begin_ (fun w9 => (w9.cell? ⟨w.heap.size + 1, 0, none⟩ = some (.int .i64 yh) ∧ w9.cell? ⟨w.heap.size + 1, 1, none⟩ = some (.int .u64 yl)) ∧ (w9.cell? ⟨g_part, 0, none⟩ = some (.int .i64 qh) ∧ w9.cell? ⟨g_part, 1, none⟩ = some (.int .u64 ql))) 4 (by kernel_rfl) ?_
            refine AnyG.take (i := 0) (v := ?_) rfl (by kernel_rfl) (by kernel_rfl) (by kernel_rfl) (fun _ _ _ h => h) (by kernel_rfl) (by kernel_rfl) (Or.inl ⟨by rfl, ?_⟩) (by assumption) ?_
            rotate_left
            · intro w9 hSw; (try dsimp only at hSw); go_simp <;> with_reducible rfl
            try simp only [Act.put, List.getElem_toArray, List.getElem_cons_zero, List.getElem_cons_succ, List.setIfInBounds_toArray, List.set_cons_zero, List.set_cons_succ]
            refine AnyG.take (i := 2) (v := ?_) rfl (by kernel_rfl) (by kernel_rfl) (by kernel_rfl) (fun _ _ _ h => h) (by kernel_rfl) (by kernel_rfl) (Or.inl ⟨by rfl, ?_⟩) (by assumption) ?_
            rotate_left
            · intro w9 hSw; (try dsimp only at hSw); go_simp <;> with_reducible rfl
            try simp only [Act.put, List.getElem_toArray, List.getElem_cons_zero, List.getElem_cons_succ, List.setIfInBounds_toArray, List.set_cons_zero, List.set_cons_succ]
            refine AnyG.step (i := 1) (by kernel_rfl) rfl (fun K hK => ?_)
            go_simp
            go_at_call 118
            have t_k := tok0
            refine (CR1.out _).mono ?_
            rintro e w16 ⟨mh, ml, rfl, hb, hm1⟩
            have B_w16 := Lib.hid (reg_next (w0 := w15) (by repeat (first | with_reducible exact Below.refl _ _ | with_reducible apply below_drew | with_reducible apply below_new)) hb)
            have K_w16 := KK.out _ B_w16.out
            clear hb
            clear t_k tok0
            refine hK.out _ _ (fun _ => K_w16) (fun hHeld => ?_)
            replace hHeld := hHeld (by decide)
            clear hK
            try simp only [Act.put, List.getElem_toArray, List.getElem_cons_zero, List.getElem_cons_succ, List.setIfInBounds_toArray, List.set_cons_zero, List.set_cons_succ]
            refine AnyG.step (i := 3) (by kernel_rfl) rfl (fun K hK => ?_)
            go_simp
            go_at_call 118
            have t_k := tok1
            refine (CR2.out _).mono ?_
            rintro e w17 ⟨kh, kl, rfl, hb, hm2⟩
            have B_w17 := Lib.hid (below_next B_w16.out hb)
            have K_w17 := KK.out _ B_w17.out
            obtain ⟨rc_b0, rc_b1, rf_b0, rf_b1⟩ := reads2 (r_b.out.keep B_w17.out)
            have rl_b := (r_b.out.keep B_w17.out).lt
            obtain ⟨rc_part0, rc_part1, rf_part0, rf_part1⟩ := reads2 (r_part.out.keep B_w17.out)
            have rl_part := (r_part.out.keep B_w17.out).lt
            clear hb
            clear t_k tok1
            refine hK.out _ _ (fun _ => K_w17) (fun hHeld => ?_)
            replace hHeld := hHeld (by decide)
            clear hK
            try simp only [Act.put, List.getElem_toArray, List.getElem_cons_zero, List.getElem_cons_succ, List.setIfInBounds_toArray, List.set_cons_zero, List.set_cons_succ]
            refine AnyG.step (i := 4) (by kernel_rfl) rfl (fun K hK => ?_)
            go_simp
            refine hK.out _ _ (fun h => absurd h (by decide)) (fun _ => ?_)
            clear hK
            try simp only [Act.put, List.getElem_toArray, List.getElem_cons_zero, List.getElem_cons_succ, List.setIfInBounds_toArray, List.set_cons_zero, List.set_cons_succ]
            refine AnyG.step (i := 5) (by kernel_rfl) rfl (fun K hK => ?_)
            go_simp
            refine hK.out _ _ (fun h => absurd h (by decide)) (fun _ => ?_)
            clear hK
            try simp only [Act.put, List.getElem_toArray, List.getElem_cons_zero, List.getElem_cons_succ, List.setIfInBounds_toArray, List.set_cons_zero, List.set_cons_succ]
            refine AnyG.done (by kernel_rfl) ?_ _
            clear KK K0 KD K_w16 K_w17
            replace r_a := Lib.hid (r_a.out.keep B_w17.out)
            replace r_b := Lib.hid (r_b.out.keep B_w17.out)
            replace r_out := Lib.hid (r_out.out.keep B_w17.out)
            replace r_part := Lib.hid (r_part.out.keep B_w17.out)
            replace BB := Lib.hid (below_next BB.out B_w17.out)
            clear B_w16 B_w17
            replace r_a := Lib.hid (r_a.out.far2 (p := w.heap.size + 1) (by omega) (.int .i64 mh) (.int .u64 ml))
            replace r_b := Lib.hid (r_b.out.set2 (.int .i64 mh) (.int .u64 ml))
            replace r_out := Lib.hid (r_out.out.far2 (p := w.heap.size + 1) (by have dd_out := d_out.out; omega) (.int .i64 mh) (.int .u64 ml))
            replace r_part := Lib.hid (r_part.out.far2 (p := w.heap.size + 1) (by have dd_part := d_part.out; omega) (.int .i64 mh) (.int .u64 ml))
            replace BB := Lib.hid (below_far2 BB.out (p := w.heap.size + 1) (by omega) (.int .i64 mh) (.int .u64 ml))
            generalize ((w17.setCell ⟨w.heap.size + 1, 0, none⟩ (.int .i64 mh)).setCell ⟨w.heap.size + 1, 1, none⟩ (.int .u64 ml)) = w18 at *
            replace r_a := Lib.hid (r_a.out.far2 (p := g_part) (by have dd_part := d_part.out; omega) (.int .i64 kh) (.int .u64 kl))
            replace r_b := Lib.hid (r_b.out.far2 (p := g_part) (by have dd_part := d_part.out; omega) (.int .i64 kh) (.int .u64 kl))
            replace r_out := Lib.hid (r_out.out.far2 (p := g_part) (by have dd_out := d_out.out; have dd_part := d_part.out; omega) (.int .i64 kh) (.int .u64 kl))
            replace r_part := Lib.hid (r_part.out.set2 (.int .i64 kh) (.int .u64 kl))
            replace BB := Lib.hid (below_far2 BB.out (p := g_part) (by have dd := d_part.out; omega) (.int .i64 kh) (.int .u64 kl))
            generalize ((w18.setCell ⟨g_part, 0, none⟩ (.int .i64 kh)).setCell ⟨g_part, 1, none⟩ (.int .u64 kl)) = w19 at *
            go_wp2_with fail
            go_roundw
            case rel => exact ⟨y / 2, p / 2, o + p, a - y, ⟨⟨_, _, r_b.out, hm1⟩, ⟨_, _, r_part.out, hm2⟩, ⟨_, _, r_out.out, he.out⟩, ⟨_, _, r_a.out, hd.out⟩, HL.out, BB.out⟩⟩
            case measure => rw [hv.out, wVal_at r_part.out hm2]; simp only [Int.reducePow]; omega
          · have d2 : decide (cmpI a y ≥ 0) = false := by rw [cmpI_ge0]; exact decide_eq_false hya
            generalize cmpI a y = s2 at *
            have HL := Lib.hid (HH.out.keep hm.1 hp0 (by omega))
            go_wp2_with fail
            have CR1 := Lib.hid (fun w => CR.out _ _ _ w hy.out)
            have CR2 := Lib.hid (fun w => CR.out _ _ _ w hq.out)
            have ne1 : ¬ g_part = w.heap.size + 1 := by have := d_part.out; omega
            have ne2 : ¬ w.heap.size + 1 = g_part := fun e => ne1 e.symm
            have KK := Lib.hid (fun (w9 : World) (h : Below w11.heap.size w11 w9) => (⟨cells2 (r_b.out.keep h), cells2 (r_part.out.keep h)⟩ : (w9.cell? ⟨w.heap.size + 1, 0, none⟩ = some (.int .i64 yh) ∧ w9.cell? ⟨w.heap.size + 1, 1, none⟩ = some (.int .u64 yl)) ∧ (w9.cell? ⟨g_part, 0, none⟩ = some (.int .i64 qh) ∧ w9.cell? ⟨g_part, 1, none⟩ = some (.int .u64 ql))))
            have K0 := KK.out w11 (Below.refl _ _)
            have KD := KK.out w11.drew (below_drew (Below.refl _ _))
            have tok0 : Hid True := trivial
            have tok1 : Hid True := trivial
            refine AnyG.begin_ (fun w9 => (w9.cell? ⟨w.heap.size + 1, 0, none⟩ = some (.int .i64 yh) ∧ w9.cell? ⟨w.heap.size + 1, 1, none⟩ = some (.int .u64 yl)) ∧ (w9.cell? ⟨g_part, 0, none⟩ = some (.int .i64 qh) ∧ w9.cell? ⟨g_part, 1, none⟩ = some (.int .u64 ql))) 4 (by kernel_rfl) ?_
            refine AnyG.take (i := 0) (v := ?_) rfl (by kernel_rfl) (by kernel_rfl) (by kernel_rfl) (fun _ _ _ h => h) (by kernel_rfl) (by kernel_rfl) (Or.inl ⟨by rfl, ?_⟩) (by assumption) ?_
            rotate_left
            · intro w9 hSw; (try dsimp only at hSw); go_simp <;> with_reducible rfl
            try simp only [Act.put, List.getElem_toArray, List.getElem_cons_zero, List.getElem_cons_succ, List.setIfInBounds_toArray, List.set_cons_zero, List.set_cons_succ]
            refine AnyG.take (i := 2) (v := ?_) rfl (by kernel_rfl) (by kernel_rfl) (by kernel_rfl) (fun _ _ _ h => h) (by kernel_rfl) (by kernel_rfl) (Or.inl ⟨by rfl, ?_⟩) (by assumption) ?_
            rotate_left
            · intro w9 hSw; (try dsimp only at hSw); go_simp <;> with_reducible rfl
            try simp only [Act.put, List.getElem_toArray, List.getElem_cons_zero, List.getElem_cons_succ, List.setIfInBounds_toArray, List.set_cons_zero, List.set_cons_succ]
            refine AnyG.step (i := 1) (by kernel_rfl) rfl (fun K hK => ?_)
            go_simp
            go_at_call 118
            have t_k := tok0
            refine (CR1.out _).mono ?_
            rintro e w12 ⟨mh, ml, rfl, hb, hm1⟩
            have B_w12 := Lib.hid (reg_next (w0 := w11) (by repeat (first | with_reducible exact Below.refl _ _ | with_reducible apply below_drew | with_reducible apply below_new)) hb)
            have K_w12 := KK.out _ B_w12.out
            clear hb
            clear t_k tok0
            refine hK.out _ _ (fun _ => K_w12) (fun hHeld => ?_)
            replace hHeld := hHeld (by decide)
            clear hK
            try simp only [Act.put, List.getElem_toArray, List.getElem_cons_zero, List.getElem_cons_succ, List.setIfInBounds_toArray, List.set_cons_zero, List.set_cons_succ]
            refine AnyG.step (i := 3) (by kernel_rfl) rfl (fun K hK => ?_)
            go_simp
            go_at_call 118
            have t_k := tok1
            refine (CR2.out _).mono ?_
            rintro e w13 ⟨kh, kl, rfl, hb, hm2⟩
            have B_w13 := Lib.hid (below_next B_w12.out hb)
            have K_w13 := KK.out _ B_w13.out
            obtain ⟨rc_b0, rc_b1, rf_b0, rf_b1⟩ := reads2 (r_b.out.keep B_w13.out)
            have rl_b := (r_b.out.keep B_w13.out).lt
            obtain ⟨rc_part0, rc_part1, rf_part0, rf_part1⟩ := reads2 (r_part.out.keep B_w13.out)
            have rl_part := (r_part.out.keep B_w13.out).lt
            clear hb
            clear t_k tok1
            refine hK.out _ _ (fun _ => K_w13) (fun hHeld => ?_)
            replace hHeld := hHeld (by decide)
            clear hK
            try simp only [Act.put, List.getElem_toArray, List.getElem_cons_zero, List.getElem_cons_succ, List.setIfInBounds_toArray, List.set_cons_zero, List.set_cons_succ]
            refine AnyG.step (i := 4) (by kernel_rfl) rfl (fun K hK => ?_)
            go_simp
            refine hK.out _ _ (fun h => absurd h (by decide)) (fun _ => ?_)
            clear hK
            try simp only [Act.put, List.getElem_toArray, List.getElem_cons_zero, List.getElem_cons_succ, List.setIfInBounds_toArray, List.set_cons_zero, List.set_cons_succ]
            refine AnyG.step (i := 5) (by kernel_rfl) rfl (fun K hK => ?_)
            go_simp
            refine hK.out _ _ (fun h => absurd h (by decide)) (fun _ => ?_)
            clear hK
            try simp only [Act.put, List.getElem_toArray, List.getElem_cons_zero, List.getElem_cons_succ, List.setIfInBounds_toArray, List.set_cons_zero, List.set_cons_succ]
            refine AnyG.done (by kernel_rfl) ?_ _
            clear KK K0 KD K_w12 K_w13
            replace r_a := Lib.hid (r_a.out.keep B_w13.out)
            replace r_b := Lib.hid (r_b.out.keep B_w13.out)
            replace r_out := Lib.hid (r_out.out.keep B_w13.out)
            replace r_part := Lib.hid (r_part.out.keep B_w13.out)
            replace BB := Lib.hid (below_next BB.out B_w13.out)
            clear B_w12 B_w13
            replace r_a := Lib.hid (r_a.out.far2 (p := w.heap.size + 1) (by omega) (.int .i64 mh) (.int .u64 ml))
            replace r_b := Lib.hid (r_b.out.set2 (.int .i64 mh) (.int .u64 ml))
            replace r_out := Lib.hid (r_out.out.far2 (p := w.heap.size + 1) (by have dd_out := d_out.out; omega) (.int .i64 mh) (.int .u64 ml))
            replace r_part := Lib.hid (r_part.out.far2 (p := w.heap.size + 1) (by have dd_part := d_part.out; omega) (.int .i64 mh) (.int .u64 ml))
            replace BB := Lib.hid (below_far2 BB.out (p := w.heap.size + 1) (by omega) (.int .i64 mh) (.int .u64 ml))
            generalize ((w13.setCell ⟨w.heap.size + 1, 0, none⟩ (.int .i64 mh)).setCell ⟨w.heap.size + 1, 1, none⟩ (.int .u64 ml)) = w14 at *
            replace r_a := Lib.hid (r_a.out.far2 (p := g_part) (by have dd_part := d_part.out; omega) (.int .i64 kh) (.int .u64 kl))
            replace r_b := Lib.hid (r_b.out.far2 (p := g_part) (by have dd_part := d_part.out; omega) (.int .i64 kh) (.int .u64 kl))
            replace r_out := Lib.hid (r_out.out.far2 (p := g_part) (by have dd_out := d_out.out; have dd_part := d_part.out; omega) (.int .i64 kh) (.int .u64 kl))
            replace r_part := Lib.hid (r_part.out.set2 (.int .i64 kh) (.int .u64 kl))
            replace BB := Lib.hid (below_far2 BB.out (p := g_part) (by have dd := d_part.out; omega) (.int .i64 kh) (.int .u64 kl))
            generalize ((w14.setCell ⟨g_part, 0, none⟩ (.int .i64 kh)).setCell ⟨g_part, 1, none⟩ (.int .u64 kl)) = w15 at *
            go_wp2_with fail
            go_roundw
            case rel => exact ⟨y / 2, p / 2, o, a, ⟨⟨_, _, r_b.out, hm1⟩, ⟨_, _, r_part.out, hm2⟩, ⟨_, _, r_out.out, ho.out⟩, ⟨_, _, r_a.out, hx.out⟩, HL.out, BB.out⟩⟩
            case measure => rw [hv.out, wVal_at r_part.out hm2]; simp only [Int.reducePow]; omega
end Go.Proofs.Ythdbchghhpoadaa
