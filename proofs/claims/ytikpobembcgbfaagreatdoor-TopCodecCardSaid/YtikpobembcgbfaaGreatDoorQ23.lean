/- Parts of the proof: Wr0 Wr1 Row. -/
import Derived.Test.YtikpobembcgbfaaGreatDoorQ22
import Derived.Test.YtikpobembcgbfaaGreatDoorQ14
import Derived.Test.YtikpobembcgbfaaGreatDoorQ20
import Derived.ArgAppend
import Derived.Deep.MidRow
import Derived.Lib.LazyBuf
set_option linter.unusedVariables false
set_option linter.unusedSimpArgs false
set_option maxRecDepth 100000
set_option maxHeartbeats 40000000
namespace Go.Proofs.YtikpobembcgbfaaGreatDoor
open Go.RowKit Go.Lib
/-- The world behind '[]byte(s)'. -/
abbrev cvW (w : World) (hd : List UInt8) : World := bytesWorld w U8T ⟨hd.toArray⟩
abbrev cvC (w : World) (hd : List UInt8) : Nat := grownCap w hd.length 0 U8T
theorem cv_run (w : World) (hd : List UInt8) : (convert 9 BLT (.string ⟨hd.toArray⟩)).run Tryz.prog w = .ok (.slice (some ⟨w.heap.size, 0, none⟩) hd.length (cvC w hd)) (cvW w hd) := by
 have h := Go.Lib.run_convert_string_bytes (P := Tryz.prog) w 9 BLT U8T ⟨hd.toArray⟩ Tryz.underlying9 Tryz.underlying22 Tryz.underlying5
 rw [str_size] at h
 exact h
theorem cv_heap (w : World) (hd : List UInt8) : ∃ cs : Array Value, (cvW w hd).heap[w.heap.size]? = some (.cells cs U8T (cs.size, cs.size + 1)) ∧ cs.size = hd.length + (cvC w hd - hd.length) ∧ ∀ i, i < hd.length → cs[i]? = some (.int .u8 ((hd.getD i 0).toNat : Int)) := by
 have h := bytesWorld_at_new w U8T ⟨hd.toArray⟩
 refine ⟨_, h, ?_, fun i hi => ?_⟩
 · unfold bytesCells
   rw [Array.size_append, Array.size_map, Array.size_replicate, str_size]
   simp
 · unfold bytesCells
   rw [Array.getElem?_append_left (by simpa using hi)]
   simp [List.getD, hi]
theorem below_cells {B b : Nat} {a : World} (hb : B ≤ b) : ∀ (vs : List Value) (o : Nat) {w : World}, Below B a w → Below B a (w.setCells b o vs)
 | [], _, _, h => h
 | v :: r, o, _, h => below_cells hb r (o + 1) (h.setCell (p := ⟨b, o, none⟩) hb v)
theorem cv_below (w : World) (hd : List UInt8) : Below w.heap.size w (cvW w hd) := bytesWorld_below w U8T ⟨hd.toArray⟩
theorem app_conv (w : World) (hd p : List UInt8) (A2 : Option Addr) (n2 cap2 : Nat) (hp : BY w (.slice A2 n2 cap2) p) (hn : p.length = n2) (hne : p ≠ []) (hl : hd.length + p.length ≤ 100000000) :
 ∃ v' w', (∀ ty, (Builtin.append_ #[BLT, BLT] ty #[.slice (some ⟨w.heap.size, 0, none⟩) hd.length (cvC w hd), .slice A2 n2 cap2]).run Tryz.prog (cvW w hd) = .ok v' w') ∧ BY w' v' (hd ++ p) ∧ Below w.heap.size w w' := by
 obtain ⟨i0, hi0, hz0, hz1, hz2⟩ := info_parts info_u8
 have hB := bytesWorld_below w U8T ⟨hd.toArray⟩
 obtain ⟨b2, off2, c2, e2, hc1, hc2, hlt2, hcell2⟩ := hp.some hne
 obtain ⟨rfl, hn2, rfl⟩ : A2 = some ⟨b2, off2, none⟩ ∧ n2 = p.length ∧ cap2 = c2 := by simpa using e2
 subst hn2
 clear e2
 obtain ⟨cs, hh, hcs, hci⟩ := cv_heap w hd
 have hge := grownCap_ge w hd.length 0 U8T
 have hcm : cvC w hd ≤ maxLen := grownCap_le_maxLen w hd.length 0 U8T (by unfold maxLen; omega)
 have hnews : ∀ j u, (uV p)[j]? = some u → (cvW w hd).cell? ((⟨b2, off2, none⟩ : Addr).add j) = some u := by
  intro j u hj
  have hjl : j < p.length := by have := (List.getElem?_eq_some_iff.1 hj).1; rwa [uV_len] at this
  rw [addr_add, hB.cell (p := ⟨b2, off2 + j, none⟩) hlt2, hcell2 j hjl]
  rw [uV_at hjl] at hj
  exact hj
 have hne2 : hd ++ p ≠ [] := by simp [hne]
 by_cases hr : hd.length + p.length ≤ cvC w hd
 · have hall : ∀ j, j < p.length → ((cvW w hd).cell? ⟨w.heap.size, 0 + hd.length * i0.size + j, none⟩).isSome = true ∧ (cvW w hd).frozen? ⟨w.heap.size, 0 + hd.length * i0.size + j, none⟩ = false := by
    intro j hj
    rw [hz1]
    constructor
    · simp only [World.cell?, hh]
      rw [Array.getElem?_eq_getElem (by omega)]
      rfl
    · simp only [World.frozen?, hh]
      simp
      omega
   have hrun := fun ty => run_append_room_cells (P := Tryz.prog) (cvW w hd) BLT ty U8T i0 Tryz.underlying22 hi0 w.heap.size 0 hd.length (cvC w hd) ⟨b2, off2, none⟩ p.length cap2 (uV p) (by rw [uV_len, hz1, Nat.mul_one]) hnews (uV_one p) hr
    (fun j hj => (hall j (by rwa [uV_len] at hj)).1) (fun j hj => (hall j (by rwa [uV_len] at hj)).2)
   refine ⟨_, _, hrun, ?_, below_cells (Nat.le_refl _) _ _ hB⟩
   have hsz : w.heap.size < (cvW w hd).heap.size := by rw [bytesWorld_size]; omega
   have hb := by_mk (w := (cvW w hd).setCells w.heap.size (0 + hd.length * i0.size) (uV p)) (b := w.heap.size) (off := 0) (cap := cvC w hd) (l := hd ++ p) (by rw [List.length_append]; exact hr) (by unfold maxLen at hcm; omega) (by exact Nat.lt_of_lt_of_le hsz (below_cells (Nat.le_refl _) _ _ (Below.refl _ (cvW w hd))).size) (fun i hi => by
    rw [List.length_append] at hi
    rw [hz1, Nat.mul_one, Nat.zero_add, Nat.zero_add]
    by_cases h1 : i < hd.length
    · rw [World.cell?_setCells_out _ _ _ _ _ (fun _ _ => .inl h1)]
      simp only [World.cell?, hh]
      rw [hci i h1]
      simp [List.getD, List.getElem?_append_left h1]
    · have hs := World.rangeAt_setCells_same (cvW w hd) w.heap.size hd.length (uV p) (fun j hj => by
       have := hall j (by rwa [uV_len] at hj)
       rwa [hz1, Nat.mul_one, Nat.zero_add] at this) (i - hd.length) _ (uV_at (by omega))
      rw [show hd.length + (i - hd.length) = i by omega] at hs
      rw [hs]
      simp [List.getD, List.getElem?_append_right (by omega : hd.length ≤ i)])
   rw [List.length_append] at hb
   exact hb
 · obtain ⟨v', w', hrun, hown, hgr⟩ := run_append_arg_grows (P := Tryz.prog) (cvW w hd) BLT BLT U8T i0 (.int .u8 0) 1 1 Tryz.underlying22 hi0 hz0 hz1 hz2 rfl (by decide) ⟨w.heap.size, 0, none⟩ hd.length (cvC w hd) (uV hd) (by rw [uV_len, Nat.mul_one]) (fun j u hj => by
    have hjl : j < hd.length := by have := (List.getElem?_eq_some_iff.1 hj).1; rwa [uV_len] at this
    rw [addr_add, Nat.zero_add]
    simp only [World.cell?, hh]
    rw [hci j hjl]
    rw [uV_at hjl] at hj
    exact hj) ⟨b2, off2, none⟩ p.length cap2 (uV p) (by rw [uV_len, Nat.mul_one]) hnews (by omega) (by unfold maxLen; omega) (by omega)
   refine ⟨v', w', fun ty => hrun, ?_, hB.trans ⟨hgr.os, hgr.tape, hgr.output, hgr.size, fun k hk => hgr.block k (Nat.lt_of_lt_of_le hk hB.size) (by simp)⟩⟩
   refine own_by (base := (cvW w hd).heap.size) ?_
   rw [List.length_append]
   unfold uV at hown ⊢
   rw [List.map_append]
   exact hown
/-- An append of which the outcome is known. -/
theorem wp_app_run {w : World} {o : Oper} {a : Act} {K : Act → World → Prop} {Q : Exit → Act → World → Prop} (s x : Operand) (t : TypeId)
 (ho : o.op = .call { callee := .builtin .append, args := #[s, x], argTypes := #[t, t] }) {v u v' : Value} {w' : World} (hs : a.eval s = v) (hx : a.eval x = u)
 (hr : ∀ ty, (Builtin.append_ #[t, t] ty #[v, u]).run Tryz.prog w = .ok v' w') (h : K (a.put o.dst v') w') : o.wp Tryz.prog a w K Q := by
 unfold Oper.wp execOp
 simp only [ho, resolve, invoke, builtin, Sem.run_bind, Sem.run_pure, Result.andThen_ok, List.map_toArray, List.map_cons, List.map_nil, hs, hx, hr]
 exact h
theorem wpList_app_run {w : World} {ops : Array Oper} {rest : List Oper} {o : Oper} {a : Act} {Q : Exit → Act → World → Prop} (hgd : o.guard = none) (s x : Operand) (t : TypeId)
 (ho : o.op = .call { callee := .builtin .append, args := #[s, x], argTypes := #[t, t] }) {v u v' : Value} {w' : World} (hs : a.eval s = v) (hx : a.eval x = u)
 (hr : ∀ ty, (Builtin.append_ #[t, t] ty #[v, u]).run Tryz.prog w = .ok v' w') (h : wpList Tryz.prog ops Q rest (a.put o.dst v') w') : wpList Tryz.prog ops Q (o :: rest) a w :=
 wpList_plain hgd fun _ hK => wp_app_run s x t ho hs hx hr (hK _ _ h)
/-- What writing gives: the bytes. -/
def GiveWr (l : List UInt8) (w : World) (e : Ending) (w' : World) : Prop := ∃ v, e = .returned (.tuple #[v, .int .i64 0]) ∧ Below w.heap.size w w' ∧ BY w' v l
theorem img_code {W H C n : Nat} (h : (1 ≤ W ∧ W ≤ 32768) ∧ (1 ≤ H ∧ H ≤ 32768) ∧ W * H ≤ 4194304 ∧ (C = 1 ∨ C = 3 ∨ C = 4) ∧ n = W * H * C) : imC W H C n = 0 := by
 obtain ⟨h1, h2, h3, h4, h5⟩ := h
 have e1 : (W : Int) * (H : Int) = ((W * H : Nat) : Int) := by rw [Int.natCast_mul]
 have hf : fitC W H C = 0 := by
  unfold fitC
  rw [e1, if_neg (by omega), if_neg (by omega), if_neg (by omega)]
 unfold imC
 rw [if_pos hf, e1, if_pos (by rw [h5, Int.natCast_mul])]
theorem pwrite_1 (W H : Nat) (p : List UInt8) (hi : Img W H 1 p) (hl : p.length ≤ 50000000) (v : Value) (w : World) (hp : BY w v p) (ht : Tab w) : Calls Tryz.prog 280 #[imv W H 1 v] w (GiveWr (pnmHd W H 1 ++ p) w) := by
 obtain ⟨A, cap, rfl⟩ := hp.form
 obtain ⟨n, hn⟩ : ∃ n, n = p.length := ⟨_, rfl⟩
 have hic := img_code hi
 rw [← hn] at hic
 have hpn : p ≠ [] := by
  rintro rfl
  have h1 := hi.2.2.2.2
  have : 0 < W * H := Nat.mul_pos (by have := hi.1; omega) (by have := hi.2.1; omega)
  simp at h1
  omega
 have hCK := icheck W H 1 A n cap
 rw [show imC (W : Int) (H : Int) 1 n = 0 from hic] at hCK
 replace hCK := Hi hCK
 have CH := Hi (fun w1 (hb : Below w.heap.size w w1) => hhead_1 W H hi.1.2 hi.2.1.2 w1 (tab_on ht hb))
 have hhl : (pnmHd W H 1).length ≤ 100 := by
  unfold pnmHd
  have := dec_len 4 W (by have := hi.1; omega)
  have := dec_len 4 H (by have := hi.2.1; omega)
  simp; omega
 have hhn : pnmHd W H 1 ≠ [] := by simp [pnmHd]
 generalize pnmHd W H 1 = hd at *
 rw [← hn] at hp ⊢
 have AC := Hi (fun w1 (hb : Below w.heap.size w w1) => app_conv w1 hd p A n cap (hp.below hb) hn.symm hpn (by omega))
 have hsn : hd.isEmpty = false := by
  cases hd with
  | nil => exact absurd rfl hhn
  | cons a t => rfl
 replace hn := Hi hn
 clear hi hp hic hpn hhl hhn ht hl
 go_enter Tryz.func280, Tryz.ntmps280
 go_upto_region 1 with fail
 obtain ⟨w0, e, BB, q0⟩ := en1 w #[.int .i64 W, .int .i64 H, .int .i64 1, .slice A n cap] IT
 rw [e]; clear e
 obtain ⟨q1, q2, q3, q4, q5, q6, q7, q8⟩ := reads4 q0.out
 have q9 := q0.out.lt
 go_wp2_with fail
 refine (hCK.out _).mono ?_
 rintro e w1 ⟨rfl, hb⟩
 clear q1 q2 q3 q4 q5 q6 q7 q8 q9
 replace q0 := kp q0 hb
 replace BB := nx BB hb
 clear hb
 obtain ⟨q1, q2, q3, q4, q5, q6, q7, q8⟩ := reads4 q0.out
 have q9 := q0.out.lt
 go_wp2_with fail
 refine (CH.out _ BB.out).mono ?_
 rintro e w2 ⟨rfl, hb⟩
 clear q1 q2 q3 q4 q5 q6 q7 q8 q9
 replace q0 := kp q0 hb
 replace BB := nx BB hb
 clear hb
 go_upto_region 7 with fail
 have hcv := cv_run w2 hd
 obtain ⟨v', w', hrun, hby, hbl⟩ := AC.out _ BB.out
 replace hby := Hi hby
 replace hbl := Hi (below_next BB.out hbl)
 have r2 := q0.out.keep (cv_below w2 hd)
 obtain ⟨q1, q2, q3, q4, q5, q6, q7, q8⟩ := reads4 r2
 clear r2
 generalize cvW w2 hd = wc at *
 generalize cvC w2 hd = cc at *
 replace hrun := Hi hrun
 go_wp2_with (first | (at_builtin; refine wpList_app_run rfl (.tmp 21) (.tmp 23) BLT rfl rfl rfl hrun.out ?_))
 go_ret2
 exact ⟨v', rfl, hbl.out, hby.out⟩
theorem pwrite_3 (W H : Nat) (p : List UInt8) (hi : Img W H 3 p) (hl : p.length ≤ 50000000) (v : Value) (w : World) (hp : BY w v p) (ht : Tab w) : Calls Tryz.prog 280 #[imv W H 3 v] w (GiveWr (pnmHd W H 3 ++ p) w) := by
 obtain ⟨A, cap, rfl⟩ := hp.form
 obtain ⟨n, hn⟩ : ∃ n, n = p.length := ⟨_, rfl⟩
 have hic := img_code hi
 rw [← hn] at hic
 have hpn : p ≠ [] := by
  rintro rfl
  have h1 := hi.2.2.2.2
  have : 0 < W * H := Nat.mul_pos (by have := hi.1; omega) (by have := hi.2.1; omega)
  simp at h1
  omega
 have hCK := icheck W H 3 A n cap
 rw [show imC (W : Int) (H : Int) 3 n = 0 from hic] at hCK
 replace hCK := Hi hCK
 have CH := Hi (fun w1 (hb : Below w.heap.size w w1) => hhead_3 W H hi.1.2 hi.2.1.2 w1 (tab_on ht hb))
 have hhl : (pnmHd W H 3).length ≤ 100 := by
  unfold pnmHd
  have := dec_len 4 W (by have := hi.1; omega)
  have := dec_len 4 H (by have := hi.2.1; omega)
  simp; omega
 have hhn : pnmHd W H 3 ≠ [] := by simp [pnmHd]
 generalize pnmHd W H 3 = hd at *
 rw [← hn] at hp ⊢
 have AC := Hi (fun w1 (hb : Below w.heap.size w w1) => app_conv w1 hd p A n cap (hp.below hb) hn.symm hpn (by omega))
 have hsn : hd.isEmpty = false := by
  cases hd with
  | nil => exact absurd rfl hhn
  | cons a t => rfl
 replace hn := Hi hn
 clear hi hp hic hpn hhl hhn ht hl
 go_enter Tryz.func280, Tryz.ntmps280
 go_upto_region 1 with fail
 obtain ⟨w0, e, BB, q0⟩ := en1 w #[.int .i64 W, .int .i64 H, .int .i64 3, .slice A n cap] IT
 rw [e]; clear e
 obtain ⟨q1, q2, q3, q4, q5, q6, q7, q8⟩ := reads4 q0.out
 have q9 := q0.out.lt
 go_wp2_with fail
 refine (hCK.out _).mono ?_
 rintro e w1 ⟨rfl, hb⟩
 clear q1 q2 q3 q4 q5 q6 q7 q8 q9
 replace q0 := kp q0 hb
 replace BB := nx BB hb
 clear hb
 obtain ⟨q1, q2, q3, q4, q5, q6, q7, q8⟩ := reads4 q0.out
 have q9 := q0.out.lt
 go_wp2_with fail
 refine (CH.out _ BB.out).mono ?_
 rintro e w2 ⟨rfl, hb⟩
 clear q1 q2 q3 q4 q5 q6 q7 q8 q9
 replace q0 := kp q0 hb
 replace BB := nx BB hb
 clear hb
 go_upto_region 7 with fail
 have hcv := cv_run w2 hd
 obtain ⟨v', w', hrun, hby, hbl⟩ := AC.out _ BB.out
 replace hby := Hi hby
 replace hbl := Hi (below_next BB.out hbl)
 have r2 := q0.out.keep (cv_below w2 hd)
 obtain ⟨q1, q2, q3, q4, q5, q6, q7, q8⟩ := reads4 r2
 clear r2
 generalize cvW w2 hd = wc at *
 generalize cvC w2 hd = cc at *
 replace hrun := Hi hrun
 go_wp2_with (first | (at_builtin; refine wpList_app_run rfl (.tmp 21) (.tmp 23) BLT rfl rfl rfl hrun.out ?_))
 go_ret2
 exact ⟨v', rfl, hbl.out, hby.out⟩
theorem rwrite15_1 (W H : Nat) (p : List UInt8) (hi : Img W H 1 p) (hl : p.length ≤ 50000000) (v : Value) (w : World) (hp : BY w v p) : Calls Tryz.prog 18 #[imv W H 1 v] w (GiveWr (pnmHd W H 1 ++ p) w) := by
 obtain ⟨A, cap, rfl⟩ := hp.form
 obtain ⟨n, hn⟩ : ∃ n, n = p.length := ⟨_, rfl⟩
 have hic := img_code hi
 rw [← hn] at hic
 have hpn : p ≠ [] := by
  rintro rfl
  have h1 := hi.2.2.2.2
  have : 0 < W * H := Nat.mul_pos (by have := hi.1; omega) (by have := hi.2.1; omega)
  simp at h1
  omega
 have hCK := rcheck07 W H 1 A n cap
 rw [show imC (W : Int) (H : Int) 1 n = 0 from hic] at hCK
 replace hCK := Hi hCK
 have CH := Hi (fun w1 (hb : Below w.heap.size w w1) => rhead15_1 W H hi.1.2 hi.2.1.2 w1)
 have hhl : (pnmHd W H 1).length ≤ 100 := by
  unfold pnmHd
  have := dec_len 4 W (by have := hi.1; omega)
  have := dec_len 4 H (by have := hi.2.1; omega)
  simp; omega
 have hhn : pnmHd W H 1 ≠ [] := by simp [pnmHd]
 generalize pnmHd W H 1 = hd at *
 rw [← hn] at hp ⊢
 have AC := Hi (fun w1 (hb : Below w.heap.size w w1) => app_conv w1 hd p A n cap (hp.below hb) hn.symm hpn (by omega))
 have hsn : hd.isEmpty = false := by
  cases hd with
  | nil => exact absurd rfl hhn
  | cons a t => rfl
 replace hn := Hi hn
 clear hi hp hic hpn hhl hhn hl
 go_enter Tryz.func18, Tryz.ntmps18
 go_upto_region 1 with fail
 obtain ⟨w0, e, BB, q1⟩ := en1 w #[.int .i64 W, .int .i64 H, .int .i64 1, .slice A n cap] IT
 rw [e]; clear e
 obtain ⟨q2, q3, q4, q5, q6, q7, q8, q9⟩ := reads4 q1.out
 have qa := q1.out.lt
 go_wp2_with fail
 refine (hCK.out _).mono ?_
 rintro e w1 ⟨rfl, hb⟩
 clear q2 q3 q4 q5 q6 q7 q8 q9 qa
 replace q1 := kp q1 hb
 replace BB := nx BB hb
 clear hb
 obtain ⟨q2, q3, q4, q5, q6, q7, q8, q9⟩ := reads4 q1.out
 have qa := q1.out.lt
 go_wp2_with fail
 have CH := Hi (fun w9 (hb : Below w1.heap.size w1 w9) => CH.out w9 (below_next BB.out hb))
 clear q2 q3 q4 q5 q6 q7 q8 q9 qa
 have KK := Hi fun w9 (h : Below w1.heap.size w1 w9) => cells4 (q1.out.keep h)
 have KD := kd KK
 refine g_bg KK 10 ?_
 refine g_tk 0 ?_
 refine g_tk 1 ?_
 refine g_tk 2 ?_
 refine g_tk 3 ?_
 refine g_tk 4 ?_
 refine g_tk 5 ?_
 refine g_tk 8 ?_
 refine g_tk 9 ?_
 refine g_sc 6 (fun K hK => ?_)
 go_simp
 go_at_call 32
 refine (CH.out _ ?_).mono ?_
 · repeat (first | with_reducible exact Below.refl _ _ | with_reducible apply below_drew | with_reducible apply below_new)
 rintro e w2 ⟨rfl, hb⟩
 have q0 := rn (w0 := w1) hb
 have qb := KK.out _ q0.out
 have hcv := cv_run w2 hd
 obtain ⟨v', w', hrun, hby, hbl⟩ := AC.out _ (below_next BB.out q0.out)
 have KC := KK.out _ (below_next q0.out (cv_below w2 hd))
 have hbl := Hi (below_next (below_next BB.out q0.out) hbl)
 have hby := Hi hby
 have hrun := Hi hrun
 clear hb
 refine hK.out _ _ (fun _ => qb) (fun hHeld => ?_)
 replace hHeld := hHeld (by decide)
 clear hK
 refine g_pt ?_
 refine g_sc 7 (fun K hK => ?_)
 go_simp
 refine hK.out _ _ (fun _ => by assumption) (fun _ => ?_)
 clear hK
 refine g_pt ?_
 refine g_sc 10 (fun K hK => ?_)
 refine wp_app_run (.tmp 20) (.tmp 22) BLT rfl rfl rfl hrun.out ?_
 refine hK.out _ _ (fun h => absurd h (by decide)) (fun _ => ?_)
 clear hK
 refine g_pt ?_
 refine g_ts 11 ?_
 refine g_ts 12 ?_
 refine g_dn ?_
 clear KK KD qb
 replace q1 := kp q1 q0.out
 replace BB := nx BB q0.out
 clear q0
 go_wp2_with fail
 go_ret2
 exact ⟨v', rfl, hbl.out, hby.out⟩
theorem rwrite15_3 (W H : Nat) (p : List UInt8) (hi : Img W H 3 p) (hl : p.length ≤ 50000000) (v : Value) (w : World) (hp : BY w v p) : Calls Tryz.prog 18 #[imv W H 3 v] w (GiveWr (pnmHd W H 3 ++ p) w) := by
 obtain ⟨A, cap, rfl⟩ := hp.form
 obtain ⟨n, hn⟩ : ∃ n, n = p.length := ⟨_, rfl⟩
 have hic := img_code hi
 rw [← hn] at hic
 have hpn : p ≠ [] := by
  rintro rfl
  have h1 := hi.2.2.2.2
  have : 0 < W * H := Nat.mul_pos (by have := hi.1; omega) (by have := hi.2.1; omega)
  simp at h1
  omega
 have hCK := rcheck07 W H 3 A n cap
 rw [show imC (W : Int) (H : Int) 3 n = 0 from hic] at hCK
 replace hCK := Hi hCK
 have CH := Hi (fun w1 (hb : Below w.heap.size w w1) => rhead15_3 W H hi.1.2 hi.2.1.2 w1)
 have hhl : (pnmHd W H 3).length ≤ 100 := by
  unfold pnmHd
  have := dec_len 4 W (by have := hi.1; omega)
  have := dec_len 4 H (by have := hi.2.1; omega)
  simp; omega
 have hhn : pnmHd W H 3 ≠ [] := by simp [pnmHd]
 generalize pnmHd W H 3 = hd at *
 rw [← hn] at hp ⊢
 have AC := Hi (fun w1 (hb : Below w.heap.size w w1) => app_conv w1 hd p A n cap (hp.below hb) hn.symm hpn (by omega))
 have hsn : hd.isEmpty = false := by
  cases hd with
  | nil => exact absurd rfl hhn
  | cons a t => rfl
 replace hn := Hi hn
 clear hi hp hic hpn hhl hhn hl
 go_enter Tryz.func18, Tryz.ntmps18
 go_upto_region 1 with fail
 obtain ⟨w0, e, BB, q1⟩ := en1 w #[.int .i64 W, .int .i64 H, .int .i64 3, .slice A n cap] IT
 rw [e]; clear e
 obtain ⟨q2, q3, q4, q5, q6, q7, q8, q9⟩ := reads4 q1.out
 have qa := q1.out.lt
 go_wp2_with fail
 refine (hCK.out _).mono ?_
 rintro e w1 ⟨rfl, hb⟩
 clear q2 q3 q4 q5 q6 q7 q8 q9 qa
 replace q1 := kp q1 hb
 replace BB := nx BB hb
 clear hb
 obtain ⟨q2, q3, q4, q5, q6, q7, q8, q9⟩ := reads4 q1.out
 have qa := q1.out.lt
 go_wp2_with fail
 have CH := Hi (fun w9 (hb : Below w1.heap.size w1 w9) => CH.out w9 (below_next BB.out hb))
 clear q2 q3 q4 q5 q6 q7 q8 q9 qa
 have KK := Hi fun w9 (h : Below w1.heap.size w1 w9) => cells4 (q1.out.keep h)
 have KD := kd KK
 refine g_bg KK 10 ?_
 refine g_tk 0 ?_
 refine g_tk 1 ?_
 refine g_tk 2 ?_
 refine g_tk 3 ?_
 refine g_tk 4 ?_
 refine g_tk 5 ?_
 refine g_tk 8 ?_
 refine g_tk 9 ?_
 refine g_sc 6 (fun K hK => ?_)
 go_simp
 go_at_call 32
 refine (CH.out _ ?_).mono ?_
 · repeat (first | with_reducible exact Below.refl _ _ | with_reducible apply below_drew | with_reducible apply below_new)
 rintro e w2 ⟨rfl, hb⟩
 have q0 := rn (w0 := w1) hb
 have qb := KK.out _ q0.out
 have hcv := cv_run w2 hd
 obtain ⟨v', w', hrun, hby, hbl⟩ := AC.out _ (below_next BB.out q0.out)
 have KC := KK.out _ (below_next q0.out (cv_below w2 hd))
 have hbl := Hi (below_next (below_next BB.out q0.out) hbl)
 have hby := Hi hby
 have hrun := Hi hrun
 clear hb
 refine hK.out _ _ (fun _ => qb) (fun hHeld => ?_)
 replace hHeld := hHeld (by decide)
 clear hK
 refine g_pt ?_
 refine g_sc 7 (fun K hK => ?_)
 go_simp
 refine hK.out _ _ (fun _ => by assumption) (fun _ => ?_)
 clear hK
 refine g_pt ?_
 refine g_sc 10 (fun K hK => ?_)
 refine wp_app_run (.tmp 20) (.tmp 22) BLT rfl rfl rfl hrun.out ?_
 refine hK.out _ _ (fun h => absurd h (by decide)) (fun _ => ?_)
 clear hK
 refine g_pt ?_
 refine g_ts 11 ?_
 refine g_ts 12 ?_
 refine g_dn ?_
 clear KK KD qb
 replace q1 := kp q1 q0.out
 replace BB := nx BB q0.out
 clear q0
 go_wp2_with fail
 go_ret2
 exact ⟨v', rfl, hbl.out, hby.out⟩
theorem irow_q (W H C n y t u t1 t2 : Nat) (A : Option Addr) (cap : Nat) (row : List UInt8) (w : World) (hic : imC W H C n = 0) (hy : (y : Int) < H) (hy0 : decide ((y : Int) < 0) = false) (hyH : ¬ (H : Int) ≤ y)
 (e1 : IntKind.i64.wrap ((W : Int) * (C : Int)) = (t : Int)) (e1' : wrap64 ((W : Int) * (C : Int)) = (t : Int)) (e2 : IntKind.i64.wrap ((y : Int) * (t : Int)) = (t1 : Int)) (e2' : wrap64 ((y : Int) * (t : Int)) = (t1 : Int)) (e3 : IntKind.i64.wrap ((t1 : Int) + (t : Int)) = (t2 : Int)) (e3' : wrap64 ((t1 : Int) + (t : Int)) = (t2 : Int)) (b1 : t1 ≤ t2) (b2 : t2 ≤ cap) (ht : t2 - t1 = t) (b3 : ¬ t1 = cap) (b4 : ¬ cap = t1) (b5 : ¬ (t1 : Int) = (cap : Int)) (b6 : t1 < cap)
 (b off : Nat) (hA : A = some ⟨b, off, none⟩)
 (CC : Hid (∀ w1, Below w.heap.size w w1 → Calls Tryz.prog 327 #[.slice (some ⟨b, off + t1, none⟩) t (cap - t1)] w1 (GiveOwn row w1))) :
 Calls Tryz.prog 366 #[imv W H C (.slice A n cap), .int .i64 (y : Int)] w (GiveOwn row w) := by
 subst hA
 have hCK := icheck W H C (some ⟨b, off, none⟩) n cap
 rw [hic] at hCK
 replace hCK := Hi hCK
 clear hic
 have b1' : (t1 : Int) ≤ (t2 : Int) := Int.ofNat_le.2 b1
 have b2' : (t2 : Int) ≤ (cap : Int) := Int.ofNat_le.2 b2
 go_enter Tryz.func366, Tryz.ntmps366
 go_upto_region 1 with fail
 obtain ⟨w0, e, BB, q0⟩ := en1 w #[.int .i64 W, .int .i64 H, .int .i64 C, .slice (some ⟨b, off, none⟩) n cap] IT
 rw [e]; clear e
 obtain ⟨q1, q2, q3, q4, q5, q6, q7, q8⟩ := reads4 q0.out
 have q9 := q0.out.lt
 go_wp2_with fail
 refine (hCK.out _).mono ?_
 rintro e w1 ⟨rfl, hb⟩
 clear q1 q2 q3 q4 q5 q6 q7 q8 q9
 replace q0 := kp q0 hb
 replace BB := nx BB hb
 clear hb
 obtain ⟨q1, q2, q3, q4, q5, q6, q7, q8⟩ := reads4 q0.out
 have q9 := q0.out.lt
 go_wp2_with fail
 have hz := Hi BB.out.size
 refine (CC.out _ BB.out).mono ?_
 rintro e w2 ⟨s, rfl, hb, hv⟩
 clear q1 q2 q3 q4 q5 q6 q7 q8 q9
 replace q0 := kp q0 hb
 replace BB := nx BB hb
 clear hb
 have hv := own_base hv hz.out
 replace hv := Hi hv
 go_wp2_with fail
 go_ret
 exact ⟨s, rfl, BB.out, hv.out⟩
theorem nat_mul3 {W H C y : Nat} (hy : y < H) : y * (W * C) + W * C ≤ W * H * C := by
 have h1 : (y + 1) * (W * C) ≤ H * (W * C) := Nat.mul_le_mul_right _ hy
 rw [Nat.add_mul, Nat.one_mul] at h1
 rwa [Nat.mul_comm W H, Nat.mul_assoc]
theorem irow (W H C : Nat) (p : List UInt8) (hi : Img W H C p) (y : Nat) (hy : y < H) (v : Value) (w : World) (hp : BY w v p) :
 Calls Tryz.prog 366 #[imv W H C v, .int .i64 (y : Int)] w (GiveOwn ((p.drop (y * (W * C))).take (W * C)) w) := by
 obtain ⟨h1, h2, h3, h4, h5⟩ := hi
 have h6 := nat_mul3 (W := W) (C := C) hy
 have hWC : 1 ≤ W * C := Nat.mul_pos h1.1 (by omega)
 have hlen : W * H * C ≤ 16777216 := by
  have := Nat.mul_le_mul h3 (show C ≤ 4 by omega)
  omega
 have hne : p ≠ [] := by rintro rfl; simp at h5; omega
 have hic := img_code (W := W) (H := H) (C := C) (n := p.length) ⟨h1, h2, h3, h4, h5⟩
 obtain ⟨b, off, cap, rfl, hc1, hc2, -⟩ := hp.some hne
 obtain ⟨t, ht⟩ : ∃ t, t = W * C := ⟨_, rfl⟩
 obtain ⟨t1, ht1⟩ : ∃ t1, t1 = y * t := ⟨_, rfl⟩
 rw [← ht] at h6 hWC ⊢
 rw [← ht1] at h6 ⊢
 have e1 : (W : Int) * (C : Int) = (t : Int) := by rw [ht, Int.natCast_mul]
 have e2 : (y : Int) * (t : Int) = (t1 : Int) := by rw [ht1, Int.natCast_mul]
 have e3 : (t1 : Int) + (t : Int) = ((t1 + t : Nat) : Int) := by rw [Int.natCast_add]
 have hpart := by_part hp t1 (t1 + t) (by omega) (by omega) (cap' := cap - t1) (by omega) (by omega)
 rw [show t1 + t - t1 = t by omega] at hpart
 have hlr : ((p.drop t1).take t).length = t := by rw [List.length_take, List.length_drop]; omega
 have CC := Hi (fun w1 (hb : Below w.heap.size w w1) => clone_by _ _ (by rw [hlr]; omega) w1 (hpart.below hb))
 have r3 : I64 ((t1 + t : Nat) : Int) := ⟨by omega, by omega⟩
 have r2 : I64 (t1 : Int) := ⟨by omega, by omega⟩
 have r1 : I64 (t : Int) := ⟨by omega, by omega⟩
 have f1 : t1 ≤ t1 + t := by omega
 have f2 : t1 + t ≤ cap := by omega
 have f3 : t1 + t - t1 = t := by omega
 have f4 : ¬ t1 = cap := by omega
 have f5 : ¬ cap = t1 := by omega
 have f6 : ¬ (t1 : Int) = (cap : Int) := by omega
 have f7 : t1 < cap := by omega
 have f8 : (y : Int) < H := by omega
 have f9 : decide ((y : Int) < 0) = false := decide_eq_false (by omega)
 have f10 : ¬ (H : Int) ≤ y := by omega
 exact irow_q W H C _ y t (t1 + t) t1 (t1 + t) _ cap _ w hic f8 f9 f10 (by rw [e1]; exact iw r1) (by rw [e1]; exact ww r1) (by rw [e2]; exact iw r2) (by rw [e2]; exact ww r2) (by rw [e3]; exact iw r3) (by rw [e3]; exact ww r3) f1 f2 f3 f4 f5 f6 f7 b off rfl CC
theorem bsize (W H C n m : Nat) (hW : 1 ≤ W ∧ W ≤ 32768) (hH : 1 ≤ H ∧ H ≤ 32768) (hWH : W * H ≤ 4194304) (hC : C = 3 ∨ C = 4) (hn : n = strideN W C) (hm : m = n * H) (w : World) :
 Calls Tryz.prog 364 #[.int .i64 (W : Int), .int .i64 (H : Int), .int .i64 (C : Int)] w fun e w' => e = .returned (.int .i64 ((54 + m : Nat) : Int)) ∧ w = w' := by
 have CT := Hi (bstride W C hW hC w)
 rw [← hn] at CT
 have hge := stride_ge W C
 have hle := stride_le W C
 rw [← hn] at hge hle
 have hn1 : 1 ≤ n := by
  have : 1 ≤ W * C := Nat.mul_pos hW.1 (by omega)
  omega
 have hmb : m ≤ 16875520 := by
  rw [hm]
  have h4 : W * C ≤ W * 4 := Nat.mul_le_mul_left _ (by omega)
  have h5 : n * H ≤ (W * 4 + 3) * H := Nat.mul_le_mul_right _ (by omega)
  have h6 : (W * 4 + 3) * H = W * H * 4 + 3 * H := by rw [Nat.add_mul, Nat.mul_right_comm]
  omega
 obtain ⟨a, ha⟩ : ∃ a, a = W * H := ⟨_, rfl⟩
 have e1 : (W : Int) * (H : Int) = (a : Int) := by rw [ha, Int.natCast_mul]
 have e2 : (n : Int) * (H : Int) = (m : Int) := by rw [hm, Int.natCast_mul]
 rw [← ha] at hWH
 have g1 : ((n : Int) == 0) = false := by rw [beq_eq_false_iff_ne]; omega
 have g2 : decide ((H : Int) < 1) = false := decide_eq_false (by omega)
 have g3 : decide ((H : Int) > 32768) = false := decide_eq_false (by omega)
 have g3' : decide (32768 < (H : Int)) = false := decide_eq_false (by omega)
 have g4 : decide (4194304 < (a : Int)) = false := decide_eq_false (by omega)
 have r3 : I64 ((54 + m : Nat) : Int) := ⟨by omega, by omega⟩
 have e3 : (54 : Int) + (m : Int) = ((54 + m : Nat) : Int) := by rw [Int.natCast_add]; rfl
 have r1 : I64 (a : Int) := ⟨by omega, by omega⟩
 have r2 : I64 (m : Int) := ⟨by omega, by omega⟩
 have w1 : IntKind.i64.wrap ((W : Int) * (H : Int)) = (a : Int) := by rw [e1]; exact iw r1
 have w1' : wrap64 ((W : Int) * (H : Int)) = (a : Int) := by rw [e1]; exact ww r1
 have w2 : IntKind.i64.wrap ((n : Int) * (H : Int)) = (m : Int) := by rw [e2]; exact iw r2
 have w2' : wrap64 ((n : Int) * (H : Int)) = (m : Int) := by rw [e2]; exact ww r2
 have w3 : IntKind.i64.wrap ((54 : Int) + (m : Int)) = ((54 + m : Nat) : Int) := by rw [e3]; exact iw r3
 have w3' : wrap64 ((54 : Int) + (m : Int)) = ((54 + m : Nat) : Int) := by rw [e3]; exact ww r3
 clear e1 e2 e3 r1 r2 r3 hge hle hn1 hmb hW hH hC hWH
 replace ha := Hi ha
 replace hm := Hi hm
 replace hn := Hi hn
 generalize 54 + m = q at *
 go_enter Tryz.func364, Tryz.ntmps364
 go_wp2_with fail
 refine CT.out.mono ?_
 rintro e w1 ⟨rfl, rfl⟩
 go_wp2_with fail
 go_ret
 exact ⟨rfl, rfl⟩
end Go.Proofs.YtikpobembcgbfaaGreatDoor
