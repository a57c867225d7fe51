/- Parts of the proof: Rw6. -/
import Derived.Test.YtikpobembcgbfaaGreatDoorQ27
import Derived.Test.YtikpobembcgbfaaGreatDoorQ14
set_option linter.unusedVariables false
set_option linter.unusedSimpArgs false
set_option maxRecDepth 100000
set_option maxHeartbeats 40000000
namespace Go.Proofs.YtikpobembcgbfaaGreatDoor
open Go.RowKit Go.Lib
theorem putB_nil {n x : Nat} (h : 0 < n) : putB n x ≠ [] := by
 intro e
 have := congrArg List.length e
 rw [putB_len] at this
 simp at this
 omega
/-- One more piece put down. -/
theorem put_step {w w1 : World} {g o n x N : Nat} {L : List UInt8} {v : Value} (hg : Hid (AtB w g (uV L).toArray U8T ∧ L.length = N)) (hb : Below w.heap.size w w1) (hv : BY w1 v (putB n x)) (hn : 0 < n) (ho : o + n ≤ N) (z : Int) (hz : (n : Int) = z) :
 ∃ A cap w2, v = .slice A n cap ∧ (∀ ty, (Builtin.copy_ #[BLT, BLT] ty #[.slice (some ⟨g, o, none⟩) (N - o) (N - o), .slice A n cap]).run Tryz.prog w1 = .ok (.int .i64 z) w2) ∧ Onl g w1 w2 ∧ Hid (AtB w2 g (uV (spl L (putB n x) o)).toArray U8T ∧ (spl L (putB n x) o).length = N) := by
 obtain ⟨A, cap, e⟩ := hv.form
 rw [putB_len] at e
 subst e
 have hl : (putB n x).length = n := putB_len n x
 obtain ⟨w2, h1, h2, h3⟩ := cp_row (o := o) (D := N - o) (E := N - o) (hg.out.1.keep hb) hv (putB_nil hn) hl.symm (by rw [hl, hg.out.2]; exact ho) (by rw [hl]; omega)
 rw [hl] at h1
 exact ⟨A, cap, w2, rfl, fun ty => by rw [h1 ty, ← hz]; rfl, h2, h3, by rw [spl_len _ _ _ (by rw [hl, hg.out.2]; exact ho)]; exact hg.out.2⟩
theorem fb_keep {w w1 : World} {g N : Nat} {L : List UInt8} (h : AtB w g (uV L).toArray U8T ∧ L.length = N) (hb : Below w.heap.size w w1) : AtB w1 g (uV L).toArray U8T ∧ L.length = N := ⟨h.1.keep hb, h.2⟩
theorem by_block {w : World} {g : Nat} {l : List UInt8} (h : AtB w g (uV l).toArray U8T) (hl : l.length ≤ 100000000) : BY w (.slice (some ⟨g, 0, none⟩) l.length l.length) l :=
 by_mk (Nat.le_refl _) (by omega) h.lt (fun i hi => by rw [Nat.zero_add]; exact h.cell i (by rw [List.getElem?_toArray]; exact uV_at hi))
theorem pos_parts {W H C i : Nat} (hi : i < H * (W * C)) (hW : 0 < W) (hC : 0 < C) : i / C / W < H ∧ i / C % W < W ∧ i % C < C := by
 refine ⟨?_, Nat.mod_lt _ hW, Nat.mod_lt _ hC⟩
 rw [Nat.div_div_eq_div_mul, Nat.div_lt_iff_lt_mul (Nat.mul_pos hC hW), Nat.mul_comm C W]
 exact hi
theorem tmod_nat (a b : Nat) : (a : Int).tmod (b : Int) = ((a % b : Nat) : Int) ∧ (a : Int) % (b : Int) = ((a % b : Nat) : Int) := by
 refine ⟨?_, (Int.natCast_emod a b).symm⟩
 rw [Int.tmod_eq_emod_of_nonneg (by omega)]
 exact (Int.natCast_emod a b).symm
theorem tdiv_nat2 (a b : Nat) : (a : Int).tdiv (b : Int) = ((a / b : Nat) : Int) ∧ (a : Int) / (b : Int) = ((a / b : Nat) : Int) := by
 refine ⟨?_, (Int.natCast_ediv a b).symm⟩
 rw [Int.tdiv_eq_ediv_of_nonneg (by omega)]
 exact (Int.natCast_ediv a b).symm
theorem rw16_3 (W H n cap s sH N pb poff : Nat) (p : List UInt8) (w : World) (hic : imC (W : Int) (H : Int) 3 n = 0) (hW : Hid (W ≤ 32768)) (hH : Hid (H ≤ 32768)) (hN : Hid (54 ≤ N ∧ N ≤ 100000000)) (hNs : Hid (N = 54 + strideN W 3 * H))
 (CS : Hid (∀ w1, Calls Tryz.prog 30 #[.int .i64 (W : Int), .int .i64 3] w1 (GiveV s w1))) (m1 : IntKind.i64.wrap ((s : Int) * (H : Int)) = (sH : Int)) (m2 : wrap64 ((s : Int) * (H : Int)) = (sH : Int)) (m3 : IntKind.i64.wrap (54 + (sH : Int)) = (N : Int)) (m4 : wrap64 (54 + (sH : Int)) = (N : Int))
 (hp : Hid (p.length = H * (W * 3))) (hn : Hid (n = p.length)) (hW0 : 0 < W) (hnB : Hid (n ≤ 100000000)) (hc : Hid (∀ i, i < n → ∀ w1, Below w.heap.size w w1 → w1.cell? ⟨pb, poff + i, none⟩ = some (.int .u8 ((p.getD i 0).toNat : Int)))) (hs : Hid (s = strideN W 3)) :
 Calls Tryz.prog 19 #[imv W H 3 (.slice (some ⟨pb, poff, none⟩) n cap)] w (GiveWr (bmpW W H 3 p) w) := by
 have hCK := rcheck07 W H 3 (some ⟨pb, poff, none⟩) n cap
 rw [show imC (W : Int) (H : Int) 3 n = 0 from hic] at hCK
 replace hCK := Hi hCK
 have PT := Hi (fun x k w hx hk => rput x k hx hk w)
 have WA := Hi (fun w => rwants w)
 have hmk := fun w => run_make_row' (P := Tryz.prog) BLT U8T (.int .u8 0) 1 Tryz.underlying22 info_u8 rfl .i64 .i64 N (by have := hN.out; omega) (by have := hN.out; omega) w
 clear hic
 go_enter Tryz.func19, Tryz.ntmps19
 go_upto_region 1 with fail
 obtain ⟨w0, e, BB, q0⟩ := en1 w #[.int .i64 W, .int .i64 H, .int .i64 3, .slice (some ⟨pb, poff, none⟩) n cap] IT
 rw [e]; clear e
 obtain ⟨q4, q5, q6, q7, q8, q9, qa, qb⟩ := reads4 q0.out
 have qd := q0.out.lt
 go_wp2_with fail
 refine (hCK.out _).mono ?_
 rintro e w1 ⟨rfl, hb⟩
 clear q4 q5 q6 q7 q8 q9 qa qb qd
 replace q0 := kp q0 hb
 replace BB := nx BB hb
 clear hb
 obtain ⟨q4, q5, q6, q7, q8, q9, qa, qb⟩ := reads4 q0.out
 have qd := q0.out.lt
 go_wp2_with fail
 clear q4 q5 q6 q7 q8 q9 qa qb qd
 have KK := Hi fun w9 (h : Below w1.heap.size w1 w9) => cells4 (q0.out.keep h)
 have KD := kd KK
 refine g_bg KK 10 ?_
 refine g_tk 0 ?_
 refine g_tk 1 ?_
 refine g_tk 2 ?_
 refine g_tk 3 ?_
 refine g_tk 5 ?_
 refine g_tk 6 ?_
 refine g_sc 4 (fun K hK => ?_)
 go_simp
 go_at_call 30
 refine (CS.out _).mono ?_
 rintro e w2 ⟨rfl, hb⟩
 have qr := rn (w0 := w1) hb
 have qB := KK.out _ qr.out
 have KC := KK.out (w2.alloc (.cells (madeCells #[.int .u8 0] N) U8T)) (below_next qr.out (below_new (Below.refl _ _) _))
 clear hb
 refine hK.out _ _ (fun _ => qB) (fun hHeld => ?_)
 replace hHeld := hHeld (by decide)
 clear hK
 refine g_pt ?_
 refine g_tk 7 ?_
 refine g_tk 8 ?_
 refine g_sc 9 (fun K hK => ?_)
 go_simp
 refine hK.out _ _ (fun _ => by assumption) (fun _ => ?_)
 clear hK
 refine g_pt ?_
 refine g_ts 10 ?_
 refine g_dn ?_
 clear KK KD qB
 replace q0 := kp q0 qr.out
 replace BB := nx BB qr.out
 clear qr
 clear KC hmk m1 m2 m3 m4
 have lt_m := q0.out.lt
 have hB0 := new_at w2 (madeCells #[.int .u8 0] N) U8T
 rw [made_uV] at hB0
 replace BB := Hi (below_new BB.out (.cells (madeCells #[.int .u8 0] N) U8T))
 replace q0 := Hi (q0.out.alloc (.cells (madeCells #[.int .u8 0] N) U8T))
 have FB : Hid (AtB (w2.alloc (.cells (madeCells #[.int .u8 0] N) U8T)) w2.heap.size (uV (List.replicate N 0)).toArray U8T ∧ (List.replicate N (0 : UInt8)).length = N) := ⟨by rw [made_uV]; exact hB0, List.length_replicate⟩
 clear hB0
 generalize w2.alloc (.cells (madeCells #[.int .u8 0] N) U8T) = wa at *
 generalize w2.heap.size = g at *
 have hgw := Hi (show w.heap.size ≤ g by omega)
 have hgm := Hi (show w.heap.size ≠ g by omega)
 clear lt_m
 obtain ⟨w99, hrun, honl, hFB0⟩ := cp_str 2 rfl (m := [66, 77]) (o := 0) (D := N) (E := N) FB.out.1 (by rw [FB.out.2]; have := hN.out; simp; omega) (by have := hN.out; simp; omega)
 have hFB : Hid (AtB w99 g (uV (spl (List.replicate N 0) [66, 77] 0)).toArray U8T ∧ (spl (List.replicate N 0) [66, 77] 0).length = N) := ⟨hFB0, by rw [spl_len _ _ _ (by rw [FB.out.2]; have := hN.out; simp; omega)]; exact FB.out.2⟩
 clear hFB0
 go_wp2_with (first | (at_builtin; refine wpList_cp_run rfl (.tmp 30) (.const (.string ⟨#[66, 77]⟩)) BLT 9 rfl rfl rfl hrun ?_))
 replace BB := Hi (below_onl' BB.out hgw.out honl)
 replace q0 := Hi (q0.out.onl hgm.out honl)
 clear FB hrun honl
 have FB := hFB
 clear hFB
 have v0 : (2 : Int) ≤ (N : Int) := by have := hN.out; omega
 have v1 : ¬ 2 = N := by have := hN.out; omega
 have v2 : ¬ N = 2 := by have := hN.out; omega
 have PTx := Hi (fun w9 => PT.out N 4 w9 (by have := hN.out; have := hW.out; have := hH.out; omega) (by omega))
 have KK := Hi fun w9 (h : Below w99.heap.size w99 w9) => cells4 (q0.out.keep h)
 have KD := kd KK
 refine g_bg KK 5 ?_
 refine g_tk 0 ?_
 refine g_tk 1 ?_
 refine g_tk 2 ?_
 refine g_tk 3 ?_
 refine g_sc 4 (fun K hK => ?_)
 go_simp
 go_at_call 33
 refine (PTx.out _).mono ?_
 rintro e w3 ⟨v9, rfl, hb, hv⟩
 have qp := rn (w0 := w99) hb
 have qC := KK.out _ qp.out
 obtain ⟨A9, cap9, w99, e9, hrun, honl, hFB⟩ := put_step (o := 2) FB qp.out hv (by omega) (by have := hN.out; omega) 4 rfl
 subst e9
 clear hb
 refine hK.out _ _ (fun _ => qC) (fun hHeld => ?_)
 replace hHeld := hHeld (by decide)
 clear hK
 refine g_pt ?_
 refine g_sc 5 (fun K hK => ?_)
 refine wp_cp_run (.tmp 33) (.tmp 36) BLT BLT rfl rfl rfl hrun ?_
 refine hK.out _ _ (fun h => absurd h (by decide)) (fun _ => ?_)
 clear hK
 refine g_pt ?_
 refine g_dn ?_
 clear KK KD qC
 replace q0 := kp q0 qp.out
 replace FB := Hi (fb_keep FB.out qp.out)
 replace BB := nx BB qp.out
 clear qp
 clear PTx hv
 replace BB := Hi (below_onl' BB.out hgw.out honl)
 replace q0 := Hi (q0.out.onl hgm.out honl)
 clear FB hrun honl
 have FB := hFB
 clear hFB
 clear v0 v1 v2
 go_wp2_with fail
 have lt_g := FB.out.1.lt
 refine (WA.out _).mono ?_
 rintro e w4 ⟨gw, rfl, hb, hge, hF⟩
 replace q0 := kp q0 hb
 replace FB := Hi (fb_keep FB.out hb)
 replace BB := nx BB hb
 clear hb
 replace hF := Hi hF
 have hgg := Hi (show gw ≠ g by omega)
 clear lt_g hge
 go_wp2_with fail
 go_loopw [7, 40] (fun _ i wr => Hid ((i = .int .i64 0 ∧ Hid (AtB wr g (uV (spl (spl (List.replicate N 0) [66, 77] 0) (putB 4 N) 2)).toArray U8T ∧ (spl (spl (List.replicate N 0) [66, 77] 0) (putB 4 N) 2).length = N)) ∨ (i = .int .i64 1 ∧ Hid (AtB wr g (uV (spl (spl (spl (List.replicate N 0) [66, 77] 0) (putB 4 N) 2) (putB 4 0) 6)).toArray U8T ∧ (spl (spl (spl (List.replicate N 0) [66, 77] 0) (putB 4 N) 2) (putB 4 0) 6).length = N)) ∨ (i = .int .i64 2 ∧ Hid (AtB wr g (uV (spl (spl (spl (spl (List.replicate N 0) [66, 77] 0) (putB 4 N) 2) (putB 4 0) 6) (putB 4 54) 10)).toArray U8T ∧ (spl (spl (spl (spl (List.replicate N 0) [66, 77] 0) (putB 4 N) 2) (putB 4 0) 6) (putB 4 54) 10).length = N)) ∨ (i = .int .i64 3 ∧ Hid (AtB wr g (uV (spl (spl (spl (spl (spl (List.replicate N 0) [66, 77] 0) (putB 4 N) 2) (putB 4 0) 6) (putB 4 54) 10) (putB 4 40) 14)).toArray U8T ∧ (spl (spl (spl (spl (spl (List.replicate N 0) [66, 77] 0) (putB 4 N) 2) (putB 4 0) 6) (putB 4 54) 10) (putB 4 40) 14).length = N)) ∨ (i = .int .i64 4 ∧ Hid (AtB wr g (uV (spl (spl (spl (spl (spl (spl (List.replicate N 0) [66, 77] 0) (putB 4 N) 2) (putB 4 0) 6) (putB 4 54) 10) (putB 4 40) 14) (putB 2 1) 26)).toArray U8T ∧ (spl (spl (spl (spl (spl (spl (List.replicate N 0) [66, 77] 0) (putB 4 N) 2) (putB 4 0) 6) (putB 4 54) 10) (putB 4 40) 14) (putB 2 1) 26).length = N)) ∨ (i = .int .i64 5 ∧ Hid (AtB wr g (uV (spl (spl (spl (spl (spl (spl (spl (List.replicate N 0) [66, 77] 0) (putB 4 N) 2) (putB 4 0) 6) (putB 4 54) 10) (putB 4 40) 14) (putB 2 1) 26) (putB 4 0) 30)).toArray U8T ∧ (spl (spl (spl (spl (spl (spl (spl (List.replicate N 0) [66, 77] 0) (putB 4 N) 2) (putB 4 0) 6) (putB 4 54) 10) (putB 4 40) 14) (putB 2 1) 26) (putB 4 0) 30).length = N)) ∨ (i = .int .i64 6 ∧ Hid (AtB wr g (uV (spl (spl (spl (spl (spl (spl (spl (spl (List.replicate N 0) [66, 77] 0) (putB 4 N) 2) (putB 4 0) 6) (putB 4 54) 10) (putB 4 40) 14) (putB 2 1) 26) (putB 4 0) 30) (putB 4 0) 46)).toArray U8T ∧ (spl (spl (spl (spl (spl (spl (spl (spl (List.replicate N 0) [66, 77] 0) (putB 4 N) 2) (putB 4 0) 6) (putB 4 54) 10) (putB 4 40) 14) (putB 2 1) 26) (putB 4 0) 30) (putB 4 0) 46).length = N)) ∨ (i = .int .i64 7 ∧ Hid (AtB wr g (uV (spl (spl (spl (spl (spl (spl (spl (spl (spl (List.replicate N 0) [66, 77] 0) (putB 4 N) 2) (putB 4 0) 6) (putB 4 54) 10) (putB 4 40) 14) (putB 2 1) 26) (putB 4 0) 30) (putB 4 0) 46) (putB 4 0) 50)).toArray U8T ∧ (spl (spl (spl (spl (spl (spl (spl (spl (spl (List.replicate N 0) [66, 77] 0) (putB 4 N) 2) (putB 4 0) 6) (putB 4 54) 10) (putB 4 40) 14) (putB 2 1) 26) (putB 4 0) 30) (putB 4 0) 46) (putB 4 0) 50).length = N))) ∧ Hid (AtB wr gw wnC WnT) ∧ AtB wr w.heap.size #[.int .i64 ↑W, .int .i64 ↑H, .int .i64 3, .slice (some ⟨pb, poff, none⟩) n cap] IT ∧ Below w.heap.size w wr) (fun _ i _ => 7 - (RowKit.intOf i).toNat)
 case atStart => exact ⟨by exact .inl ⟨rfl, FB⟩, hF, q0.out, BB.out⟩
 case round =>
  clear FB hF q0 BB
  obtain ⟨hd, hF, q0, BB⟩ := hrel
  replace q0 := Hi q0
  replace BB := Hi BB
  rcases hd.out with ⟨rfl, FB⟩ | ⟨rfl, FB⟩ | ⟨rfl, FB⟩ | ⟨rfl, FB⟩ | ⟨rfl, FB⟩ | ⟨rfl, FB⟩ | ⟨rfl, FB⟩ | ⟨rfl, FB⟩
  · clear hd
    have d0 : wr.cell? ⟨gw, 0, none⟩ = some (.int .i64 6) := hF.out.cell 0 rfl
    have d1 : wr.cell? ⟨gw, 1, none⟩ = some (.int .i64 4) := hF.out.cell 1 rfl
    have d2 : wr.cell? ⟨gw, 2, none⟩ = some (.int .i64 0) := hF.out.cell 2 rfl
    have lgw := hF.out.lt
    go_upto_region 12 with fail
    have qc := Hi (And.intro BB.out.size (And.intro q0.out.lt (True.intro)))
    obtain ⟨w5, qq, e1, e2, hb, q2⟩ := bx wr #[.int .i64 6, .int .i64 4, .int .i64 0] WnT
    rw [e2] at qc; rw [e1, e2]
    replace q0 := kp q0 hb
    replace FB := Hi (fb_keep FB.out hb)
    replace hF := Hi (AtB.keep hF.out hb)
    replace BB := nx BB hb
    clear hb e1 e2
    clear d0 d1 d2 lgw
    have PTx := Hi (fun w9 => PT.out 0 4 w9 (by omega) (by omega))
    have u0 : (6 : Int) ≤ (N : Int) := by have := hN.out; omega
    have u1 : ¬ 6 = N := by have := hN.out; omega
    have u2 : ¬ N = 6 := by have := hN.out; omega
    have KK := Hi fun w9 (h : Below w5.heap.size w5 w9) => And.intro (cells4 (q0.out.keep h)) (cells3 (q2.out.keep h))
    have KD := kd KK
    refine g_bg KK 9 ?_
    refine g_tk 0 ?_
    refine g_tk 1 ?_
    refine g_tk 2 ?_
    refine g_tk 3 ?_
    refine g_tk 4 ?_
    refine g_tk 5 ?_
    refine g_tk 6 ?_
    refine g_tk 7 ?_
    refine g_sc 8 (fun K hK => ?_)
    go_simp
    go_at_call 33
    refine (PTx.out _).mono ?_
    rintro e w6 ⟨v9, rfl, hb, hv⟩
    have qk := rn (w0 := w5) hb
    have qD := KK.out _ qk.out
    obtain ⟨A9, cap9, w99, e9, hrun, honl, hFB⟩ := put_step (o := 6) FB qk.out hv (by omega) (by have := hN.out; omega) 4 rfl
    subst e9
    clear hb
    refine hK.out _ _ (fun _ => qD) (fun hHeld => ?_)
    replace hHeld := hHeld (by decide)
    clear hK
    refine g_pt ?_
    refine g_sc 9 (fun K hK => ?_)
    refine wp_cp_run (.tmp 47) (.tmp 52) BLT BLT rfl rfl rfl hrun ?_
    refine hK.out _ _ (fun h => absurd h (by decide)) (fun _ => ?_)
    clear hK
    refine g_pt ?_
    refine g_dn ?_
    clear KK KD qD
    replace q0 := kp q0 qk.out
    replace q2 := kp q2 qk.out
    replace FB := Hi (fb_keep FB.out qk.out)
    replace hF := Hi (AtB.keep hF.out qk.out)
    replace BB := nx BB qk.out
    clear qk
    clear PTx hv u0 u1 u2
    replace hF := Hi (hF.out.onl hgg.out honl)
    replace BB := Hi (below_onl' BB.out hgw.out honl)
    replace q0 := Hi (q0.out.onl hgm.out honl)
    clear FB hrun honl
    have FB := hFB
    clear hFB
    go_wp2_with fail
    go_roundw
    case rel => exact ⟨by exact .inr (.inl ⟨rfl, FB⟩), hF, q0.out, BB.out⟩
    case measure => simp [RowKit.intOf]
  · clear hd
    have d0 : wr.cell? ⟨gw, 3, none⟩ = some (.int .i64 10) := hF.out.cell 3 rfl
    have d1 : wr.cell? ⟨gw, 4, none⟩ = some (.int .i64 4) := hF.out.cell 4 rfl
    have d2 : wr.cell? ⟨gw, 5, none⟩ = some (.int .i64 54) := hF.out.cell 5 rfl
    have lgw := hF.out.lt
    go_upto_region 12 with fail
    have qc := Hi (And.intro BB.out.size (And.intro q0.out.lt (True.intro)))
    obtain ⟨w7, qq, e1, e2, hb, q2⟩ := bx wr #[.int .i64 10, .int .i64 4, .int .i64 54] WnT
    rw [e2] at qc; rw [e1, e2]
    replace q0 := kp q0 hb
    replace FB := Hi (fb_keep FB.out hb)
    replace hF := Hi (AtB.keep hF.out hb)
    replace BB := nx BB hb
    clear hb e1 e2
    clear d0 d1 d2 lgw
    have PTx := Hi (fun w9 => PT.out 54 4 w9 (by omega) (by omega))
    have u0 : (10 : Int) ≤ (N : Int) := by have := hN.out; omega
    have u1 : ¬ 10 = N := by have := hN.out; omega
    have u2 : ¬ N = 10 := by have := hN.out; omega
    have KK := Hi fun w9 (h : Below w7.heap.size w7 w9) => And.intro (cells4 (q0.out.keep h)) (cells3 (q2.out.keep h))
    have KD := kd KK
    refine g_bg KK 9 ?_
    refine g_tk 0 ?_
    refine g_tk 1 ?_
    refine g_tk 2 ?_
    refine g_tk 3 ?_
    refine g_tk 4 ?_
    refine g_tk 5 ?_
    refine g_tk 6 ?_
    refine g_tk 7 ?_
    refine g_sc 8 (fun K hK => ?_)
    go_simp
    go_at_call 33
    refine (PTx.out _).mono ?_
    rintro e w8 ⟨v9, rfl, hb, hv⟩
    have ql := rn (w0 := w7) hb
    have qE := KK.out _ ql.out
    obtain ⟨A9, cap9, w99, e9, hrun, honl, hFB⟩ := put_step (o := 10) FB ql.out hv (by omega) (by have := hN.out; omega) 4 rfl
    subst e9
    clear hb
    refine hK.out _ _ (fun _ => qE) (fun hHeld => ?_)
    replace hHeld := hHeld (by decide)
    clear hK
    refine g_pt ?_
    refine g_sc 9 (fun K hK => ?_)
    refine wp_cp_run (.tmp 47) (.tmp 52) BLT BLT rfl rfl rfl hrun ?_
    refine hK.out _ _ (fun h => absurd h (by decide)) (fun _ => ?_)
    clear hK
    refine g_pt ?_
    refine g_dn ?_
    clear KK KD qE
    replace q0 := kp q0 ql.out
    replace q2 := kp q2 ql.out
    replace FB := Hi (fb_keep FB.out ql.out)
    replace hF := Hi (AtB.keep hF.out ql.out)
    replace BB := nx BB ql.out
    clear ql
    clear PTx hv u0 u1 u2
    replace hF := Hi (hF.out.onl hgg.out honl)
    replace BB := Hi (below_onl' BB.out hgw.out honl)
    replace q0 := Hi (q0.out.onl hgm.out honl)
    clear FB hrun honl
    have FB := hFB
    clear hFB
    go_wp2_with fail
    go_roundw
    case rel => exact ⟨by exact .inr (.inr (.inl ⟨rfl, FB⟩)), hF, q0.out, BB.out⟩
    case measure => simp [RowKit.intOf]
  · clear hd
    have d0 : wr.cell? ⟨gw, 6, none⟩ = some (.int .i64 14) := hF.out.cell 6 rfl
    have d1 : wr.cell? ⟨gw, 7, none⟩ = some (.int .i64 4) := hF.out.cell 7 rfl
    have d2 : wr.cell? ⟨gw, 8, none⟩ = some (.int .i64 40) := hF.out.cell 8 rfl
    have lgw := hF.out.lt
    go_upto_region 12 with fail
    have qc := Hi (And.intro BB.out.size (And.intro q0.out.lt (True.intro)))
    obtain ⟨w10, qq, e1, e2, hb, q2⟩ := bx wr #[.int .i64 14, .int .i64 4, .int .i64 40] WnT
    rw [e2] at qc; rw [e1, e2]
    replace q0 := kp q0 hb
    replace FB := Hi (fb_keep FB.out hb)
    replace hF := Hi (AtB.keep hF.out hb)
    replace BB := nx BB hb
    clear hb e1 e2
    clear d0 d1 d2 lgw
    have PTx := Hi (fun w9 => PT.out 40 4 w9 (by omega) (by omega))
    have u0 : (14 : Int) ≤ (N : Int) := by have := hN.out; omega
    have u1 : ¬ 14 = N := by have := hN.out; omega
    have u2 : ¬ N = 14 := by have := hN.out; omega
    have KK := Hi fun w9 (h : Below w10.heap.size w10 w9) => And.intro (cells4 (q0.out.keep h)) (cells3 (q2.out.keep h))
    have KD := kd KK
    refine g_bg KK 9 ?_
    refine g_tk 0 ?_
    refine g_tk 1 ?_
    refine g_tk 2 ?_
    refine g_tk 3 ?_
    refine g_tk 4 ?_
    refine g_tk 5 ?_
    refine g_tk 6 ?_
    refine g_tk 7 ?_
    refine g_sc 8 (fun K hK => ?_)
    go_simp
    go_at_call 33
    refine (PTx.out _).mono ?_
    rintro e w11 ⟨v9, rfl, hb, hv⟩
    have qe := rn (w0 := w10) hb
    have qs := KK.out _ qe.out
    obtain ⟨A9, cap9, w99, e9, hrun, honl, hFB⟩ := put_step (o := 14) FB qe.out hv (by omega) (by have := hN.out; omega) 4 rfl
    subst e9
    clear hb
    refine hK.out _ _ (fun _ => qs) (fun hHeld => ?_)
    replace hHeld := hHeld (by decide)
    clear hK
    refine g_pt ?_
    refine g_sc 9 (fun K hK => ?_)
    refine wp_cp_run (.tmp 47) (.tmp 52) BLT BLT rfl rfl rfl hrun ?_
    refine hK.out _ _ (fun h => absurd h (by decide)) (fun _ => ?_)
    clear hK
    refine g_pt ?_
    refine g_dn ?_
    clear KK KD qs
    replace q0 := kp q0 qe.out
    replace q2 := kp q2 qe.out
    replace FB := Hi (fb_keep FB.out qe.out)
    replace hF := Hi (AtB.keep hF.out qe.out)
    replace BB := nx BB qe.out
    clear qe
    clear PTx hv u0 u1 u2
    replace hF := Hi (hF.out.onl hgg.out honl)
    replace BB := Hi (below_onl' BB.out hgw.out honl)
    replace q0 := Hi (q0.out.onl hgm.out honl)
    clear FB hrun honl
    have FB := hFB
    clear hFB
    go_wp2_with fail
    go_roundw
    case rel => exact ⟨by exact .inr (.inr (.inr (.inl ⟨rfl, FB⟩))), hF, q0.out, BB.out⟩
    case measure => simp [RowKit.intOf]
  · clear hd
    have d0 : wr.cell? ⟨gw, 9, none⟩ = some (.int .i64 26) := hF.out.cell 9 rfl
    have d1 : wr.cell? ⟨gw, 10, none⟩ = some (.int .i64 2) := hF.out.cell 10 rfl
    have d2 : wr.cell? ⟨gw, 11, none⟩ = some (.int .i64 1) := hF.out.cell 11 rfl
    have lgw := hF.out.lt
    go_upto_region 12 with fail
    have qc := Hi (And.intro BB.out.size (And.intro q0.out.lt (True.intro)))
    obtain ⟨w12, qq, e1, e2, hb, q2⟩ := bx wr #[.int .i64 26, .int .i64 2, .int .i64 1] WnT
    rw [e2] at qc; rw [e1, e2]
    replace q0 := kp q0 hb
    replace FB := Hi (fb_keep FB.out hb)
    replace hF := Hi (AtB.keep hF.out hb)
    replace BB := nx BB hb
    clear hb e1 e2
    clear d0 d1 d2 lgw
    have PTx := Hi (fun w9 => PT.out 1 2 w9 (by omega) (by omega))
    have u0 : (26 : Int) ≤ (N : Int) := by have := hN.out; omega
    have u1 : ¬ 26 = N := by have := hN.out; omega
    have u2 : ¬ N = 26 := by have := hN.out; omega
    have KK := Hi fun w9 (h : Below w12.heap.size w12 w9) => And.intro (cells4 (q0.out.keep h)) (cells3 (q2.out.keep h))
    have KD := kd KK
    refine g_bg KK 9 ?_
    refine g_tk 0 ?_
    refine g_tk 1 ?_
    refine g_tk 2 ?_
    refine g_tk 3 ?_
    refine g_tk 4 ?_
    refine g_tk 5 ?_
    refine g_tk 6 ?_
    refine g_tk 7 ?_
    refine g_sc 8 (fun K hK => ?_)
    go_simp
    go_at_call 33
    refine (PTx.out _).mono ?_
    rintro e w13 ⟨v9, rfl, hb, hv⟩
    have qf := rn (w0 := w12) hb
    have qt := KK.out _ qf.out
    obtain ⟨A9, cap9, w99, e9, hrun, honl, hFB⟩ := put_step (o := 26) FB qf.out hv (by omega) (by have := hN.out; omega) 2 rfl
    subst e9
    clear hb
    refine hK.out _ _ (fun _ => qt) (fun hHeld => ?_)
    replace hHeld := hHeld (by decide)
    clear hK
    refine g_pt ?_
    refine g_sc 9 (fun K hK => ?_)
    refine wp_cp_run (.tmp 47) (.tmp 52) BLT BLT rfl rfl rfl hrun ?_
    refine hK.out _ _ (fun h => absurd h (by decide)) (fun _ => ?_)
    clear hK
    refine g_pt ?_
    refine g_dn ?_
    clear KK KD qt
    replace q0 := kp q0 qf.out
    replace q2 := kp q2 qf.out
    replace FB := Hi (fb_keep FB.out qf.out)
    replace hF := Hi (AtB.keep hF.out qf.out)
    replace BB := nx BB qf.out
    clear qf
    clear PTx hv u0 u1 u2
    replace hF := Hi (hF.out.onl hgg.out honl)
    replace BB := Hi (below_onl' BB.out hgw.out honl)
    replace q0 := Hi (q0.out.onl hgm.out honl)
    clear FB hrun honl
    have FB := hFB
    clear hFB
    go_wp2_with fail
    go_roundw
    case rel => exact ⟨by exact .inr (.inr (.inr (.inr (.inl ⟨rfl, FB⟩)))), hF, q0.out, BB.out⟩
    case measure => simp [RowKit.intOf]
  · clear hd
    have d0 : wr.cell? ⟨gw, 12, none⟩ = some (.int .i64 30) := hF.out.cell 12 rfl
    have d1 : wr.cell? ⟨gw, 13, none⟩ = some (.int .i64 4) := hF.out.cell 13 rfl
    have d2 : wr.cell? ⟨gw, 14, none⟩ = some (.int .i64 0) := hF.out.cell 14 rfl
    have lgw := hF.out.lt
    go_upto_region 12 with fail
    have qc := Hi (And.intro BB.out.size (And.intro q0.out.lt (True.intro)))
    obtain ⟨w14, qq, e1, e2, hb, q2⟩ := bx wr #[.int .i64 30, .int .i64 4, .int .i64 0] WnT
    rw [e2] at qc; rw [e1, e2]
    replace q0 := kp q0 hb
    replace FB := Hi (fb_keep FB.out hb)
    replace hF := Hi (AtB.keep hF.out hb)
    replace BB := nx BB hb
    clear hb e1 e2
    clear d0 d1 d2 lgw
    have PTx := Hi (fun w9 => PT.out 0 4 w9 (by omega) (by omega))
    have u0 : (30 : Int) ≤ (N : Int) := by have := hN.out; omega
    have u1 : ¬ 30 = N := by have := hN.out; omega
    have u2 : ¬ N = 30 := by have := hN.out; omega
    have KK := Hi fun w9 (h : Below w14.heap.size w14 w9) => And.intro (cells4 (q0.out.keep h)) (cells3 (q2.out.keep h))
    have KD := kd KK
    refine g_bg KK 9 ?_
    refine g_tk 0 ?_
    refine g_tk 1 ?_
    refine g_tk 2 ?_
    refine g_tk 3 ?_
    refine g_tk 4 ?_
    refine g_tk 5 ?_
    refine g_tk 6 ?_
    refine g_tk 7 ?_
    refine g_sc 8 (fun K hK => ?_)
    go_simp
    go_at_call 33
    refine (PTx.out _).mono ?_
    rintro e w15 ⟨v9, rfl, hb, hv⟩
    have qg := rn (w0 := w14) hb
    have qu := KK.out _ qg.out
    obtain ⟨A9, cap9, w99, e9, hrun, honl, hFB⟩ := put_step (o := 30) FB qg.out hv (by omega) (by have := hN.out; omega) 4 rfl
    subst e9
    clear hb
    refine hK.out _ _ (fun _ => qu) (fun hHeld => ?_)
    replace hHeld := hHeld (by decide)
    clear hK
    refine g_pt ?_
    refine g_sc 9 (fun K hK => ?_)
    refine wp_cp_run (.tmp 47) (.tmp 52) BLT BLT rfl rfl rfl hrun ?_
    refine hK.out _ _ (fun h => absurd h (by decide)) (fun _ => ?_)
    clear hK
    refine g_pt ?_
    refine g_dn ?_
    clear KK KD qu
    replace q0 := kp q0 qg.out
    replace q2 := kp q2 qg.out
    replace FB := Hi (fb_keep FB.out qg.out)
    replace hF := Hi (AtB.keep hF.out qg.out)
    replace BB := nx BB qg.out
    clear qg
    clear PTx hv u0 u1 u2
    replace hF := Hi (hF.out.onl hgg.out honl)
    replace BB := Hi (below_onl' BB.out hgw.out honl)
    replace q0 := Hi (q0.out.onl hgm.out honl)
    clear FB hrun honl
    have FB := hFB
    clear hFB
    go_wp2_with fail
    go_roundw
    case rel => exact ⟨by exact .inr (.inr (.inr (.inr (.inr (.inl ⟨rfl, FB⟩))))), hF, q0.out, BB.out⟩
    case measure => simp [RowKit.intOf]
  · clear hd
    have d0 : wr.cell? ⟨gw, 15, none⟩ = some (.int .i64 46) := hF.out.cell 15 rfl
    have d1 : wr.cell? ⟨gw, 16, none⟩ = some (.int .i64 4) := hF.out.cell 16 rfl
    have d2 : wr.cell? ⟨gw, 17, none⟩ = some (.int .i64 0) := hF.out.cell 17 rfl
    have lgw := hF.out.lt
    go_upto_region 12 with fail
    have qc := Hi (And.intro BB.out.size (And.intro q0.out.lt (True.intro)))
    obtain ⟨w16, qq, e1, e2, hb, q2⟩ := bx wr #[.int .i64 46, .int .i64 4, .int .i64 0] WnT
    rw [e2] at qc; rw [e1, e2]
    replace q0 := kp q0 hb
    replace FB := Hi (fb_keep FB.out hb)
    replace hF := Hi (AtB.keep hF.out hb)
    replace BB := nx BB hb
    clear hb e1 e2
    clear d0 d1 d2 lgw
    have PTx := Hi (fun w9 => PT.out 0 4 w9 (by omega) (by omega))
    have u0 : (46 : Int) ≤ (N : Int) := by have := hN.out; omega
    have u1 : ¬ 46 = N := by have := hN.out; omega
    have u2 : ¬ N = 46 := by have := hN.out; omega
    have KK := Hi fun w9 (h : Below w16.heap.size w16 w9) => And.intro (cells4 (q0.out.keep h)) (cells3 (q2.out.keep h))
    have KD := kd KK
    refine g_bg KK 9 ?_
    refine g_tk 0 ?_
    refine g_tk 1 ?_
    refine g_tk 2 ?_
    refine g_tk 3 ?_
    refine g_tk 4 ?_
    refine g_tk 5 ?_
    refine g_tk 6 ?_
    refine g_tk 7 ?_
    refine g_sc 8 (fun K hK => ?_)
    go_simp
    go_at_call 33
    refine (PTx.out _).mono ?_
    rintro e w17 ⟨v9, rfl, hb, hv⟩
    have qh := rn (w0 := w16) hb
    have qv := KK.out _ qh.out
    obtain ⟨A9, cap9, w99, e9, hrun, honl, hFB⟩ := put_step (o := 46) FB qh.out hv (by omega) (by have := hN.out; omega) 4 rfl
    subst e9
    clear hb
    refine hK.out _ _ (fun _ => qv) (fun hHeld => ?_)
    replace hHeld := hHeld (by decide)
    clear hK
    refine g_pt ?_
    refine g_sc 9 (fun K hK => ?_)
    refine wp_cp_run (.tmp 47) (.tmp 52) BLT BLT rfl rfl rfl hrun ?_
    refine hK.out _ _ (fun h => absurd h (by decide)) (fun _ => ?_)
    clear hK
    refine g_pt ?_
    refine g_dn ?_
    clear KK KD qv
    replace q0 := kp q0 qh.out
    replace q2 := kp q2 qh.out
    replace FB := Hi (fb_keep FB.out qh.out)
    replace hF := Hi (AtB.keep hF.out qh.out)
    replace BB := nx BB qh.out
    clear qh
    clear PTx hv u0 u1 u2
    replace hF := Hi (hF.out.onl hgg.out honl)
    replace BB := Hi (below_onl' BB.out hgw.out honl)
    replace q0 := Hi (q0.out.onl hgm.out honl)
    clear FB hrun honl
    have FB := hFB
    clear hFB
    go_wp2_with fail
    go_roundw
    case rel => exact ⟨by exact .inr (.inr (.inr (.inr (.inr (.inr (.inl ⟨rfl, FB⟩)))))), hF, q0.out, BB.out⟩
    case measure => simp [RowKit.intOf]
  · clear hd
    have d0 : wr.cell? ⟨gw, 18, none⟩ = some (.int .i64 50) := hF.out.cell 18 rfl
    have d1 : wr.cell? ⟨gw, 19, none⟩ = some (.int .i64 4) := hF.out.cell 19 rfl
    have d2 : wr.cell? ⟨gw, 20, none⟩ = some (.int .i64 0) := hF.out.cell 20 rfl
    have lgw := hF.out.lt
    go_upto_region 12 with fail
    have qc := Hi (And.intro BB.out.size (And.intro q0.out.lt (True.intro)))
    obtain ⟨w18, qq, e1, e2, hb, q2⟩ := bx wr #[.int .i64 50, .int .i64 4, .int .i64 0] WnT
    rw [e2] at qc; rw [e1, e2]
    replace q0 := kp q0 hb
    replace FB := Hi (fb_keep FB.out hb)
    replace hF := Hi (AtB.keep hF.out hb)
    replace BB := nx BB hb
    clear hb e1 e2
    clear d0 d1 d2 lgw
    have PTx := Hi (fun w9 => PT.out 0 4 w9 (by omega) (by omega))
    have u0 : (50 : Int) ≤ (N : Int) := by have := hN.out; omega
    have u1 : ¬ 50 = N := by have := hN.out; omega
    have u2 : ¬ N = 50 := by have := hN.out; omega
    have KK := Hi fun w9 (h : Below w18.heap.size w18 w9) => And.intro (cells4 (q0.out.keep h)) (cells3 (q2.out.keep h))
    have KD := kd KK
    refine g_bg KK 9 ?_
    refine g_tk 0 ?_
    refine g_tk 1 ?_
    refine g_tk 2 ?_
    refine g_tk 3 ?_
    refine g_tk 4 ?_
    refine g_tk 5 ?_
    refine g_tk 6 ?_
    refine g_tk 7 ?_
    refine g_sc 8 (fun K hK => ?_)
    go_simp
    go_at_call 33
    refine (PTx.out _).mono ?_
    rintro e w19 ⟨v9, rfl, hb, hv⟩
    have qi := rn (w0 := w18) hb
    have qw := KK.out _ qi.out
    obtain ⟨A9, cap9, w99, e9, hrun, honl, hFB⟩ := put_step (o := 50) FB qi.out hv (by omega) (by have := hN.out; omega) 4 rfl
    subst e9
    clear hb
    refine hK.out _ _ (fun _ => qw) (fun hHeld => ?_)
    replace hHeld := hHeld (by decide)
    clear hK
    refine g_pt ?_
    refine g_sc 9 (fun K hK => ?_)
    refine wp_cp_run (.tmp 47) (.tmp 52) BLT BLT rfl rfl rfl hrun ?_
    refine hK.out _ _ (fun h => absurd h (by decide)) (fun _ => ?_)
    clear hK
    refine g_pt ?_
    refine g_dn ?_
    clear KK KD qw
    replace q0 := kp q0 qi.out
    replace q2 := kp q2 qi.out
    replace FB := Hi (fb_keep FB.out qi.out)
    replace hF := Hi (AtB.keep hF.out qi.out)
    replace BB := nx BB qi.out
    clear qi
    clear PTx hv u0 u1 u2
    replace hF := Hi (hF.out.onl hgg.out honl)
    replace BB := Hi (below_onl' BB.out hgw.out honl)
    replace q0 := Hi (q0.out.onl hgm.out honl)
    clear FB hrun honl
    have FB := hFB
    clear hFB
    go_wp2_with fail
    go_roundw
    case rel => exact ⟨by exact .inr (.inr (.inr (.inr (.inr (.inr (.inr (⟨rfl, FB⟩))))))), hF, q0.out, BB.out⟩
    case measure => simp [RowKit.intOf]
  · clear hd
    have u0 : (18 : Int) ≤ (N : Int) := by have := hN.out; omega
    have u1 : ¬ 18 = N := by have := hN.out; omega
    have u2 : ¬ N = 18 := by have := hN.out; omega
    have u3 : (22 : Int) ≤ (N : Int) := by have := hN.out; omega
    have u4 : ¬ 22 = N := by have := hN.out; omega
    have u5 : ¬ N = 22 := by have := hN.out; omega
    have u6 : (28 : Int) ≤ (N : Int) := by have := hN.out; omega
    have u7 : ¬ 28 = N := by have := hN.out; omega
    have u8 : ¬ N = 28 := by have := hN.out; omega
    obtain ⟨q4, q5, q6, q7, q8, q9, qa, qb⟩ := reads4 q0.out
    have qd := q0.out.lt
    go_wp2_with fail
    have PTx := Hi (fun w9 => PT.out W 4 w9 (by have := hN.out; have := hW.out; have := hH.out; omega) (by omega))
    clear q4 q5 q6 q7 q8 q9 qa qb qd
    have KK := Hi fun w9 (h : Below wr.heap.size wr w9) => cells4 (q0.out.keep h)
    have KD := kd KK
    refine g_bg KK 5 ?_
    refine g_tk 0 ?_
    refine g_tk 1 ?_
    refine g_tk 2 ?_
    refine g_tk 3 ?_
    refine g_sc 4 (fun K hK => ?_)
    go_simp
    go_at_call 33
    refine (PTx.out _).mono ?_
    rintro e w20 ⟨v9, rfl, hb, hv⟩
    have qm := rn (w0 := wr) hb
    have qx := KK.out _ qm.out
    obtain ⟨A9, cap9, w99, e9, hrun, honl, hFB⟩ := put_step (o := 18) FB qm.out hv (by omega) (by have := hN.out; omega) 4 rfl
    subst e9
    clear hb
    refine hK.out _ _ (fun _ => qx) (fun hHeld => ?_)
    replace hHeld := hHeld (by decide)
    clear hK
    refine g_pt ?_
    refine g_sc 5 (fun K hK => ?_)
    refine wp_cp_run (.tmp 56) (.tmp 59) BLT BLT rfl rfl rfl hrun ?_
    refine hK.out _ _ (fun h => absurd h (by decide)) (fun _ => ?_)
    clear hK
    refine g_pt ?_
    refine g_dn ?_
    clear KK KD qx
    replace q0 := kp q0 qm.out
    replace FB := Hi (fb_keep FB.out qm.out)
    replace BB := nx BB qm.out
    clear qm
    clear PTx hv
    replace BB := Hi (below_onl' BB.out hgw.out honl)
    replace q0 := Hi (q0.out.onl hgm.out honl)
    clear FB hrun honl
    have FB := hFB
    clear hFB
    obtain ⟨q4, q5, q6, q7, q8, q9, qa, qb⟩ := reads4 q0.out
    have qd := q0.out.lt
    go_wp2_with fail
    have PTx := Hi (fun w9 => PT.out H 4 w9 (by have := hN.out; have := hW.out; have := hH.out; omega) (by omega))
    clear q4 q5 q6 q7 q8 q9 qa qb qd
    have KK := Hi fun w9 (h : Below w99.heap.size w99 w9) => cells4 (q0.out.keep h)
    have KD := kd KK
    refine g_bg KK 5 ?_
    refine g_tk 0 ?_
    refine g_tk 1 ?_
    refine g_tk 2 ?_
    refine g_tk 3 ?_
    refine g_sc 4 (fun K hK => ?_)
    go_simp
    go_at_call 33
    refine (PTx.out _).mono ?_
    rintro e w21 ⟨v9, rfl, hb, hv⟩
    have qn := rn (w0 := w99) hb
    have qy := KK.out _ qn.out
    obtain ⟨A9, cap9, w99, e9, hrun, honl, hFB⟩ := put_step (o := 22) FB qn.out hv (by omega) (by have := hN.out; omega) 4 rfl
    subst e9
    clear hb
    refine hK.out _ _ (fun _ => qy) (fun hHeld => ?_)
    replace hHeld := hHeld (by decide)
    clear hK
    refine g_pt ?_
    refine g_sc 5 (fun K hK => ?_)
    refine wp_cp_run (.tmp 62) (.tmp 65) BLT BLT rfl rfl rfl hrun ?_
    refine hK.out _ _ (fun h => absurd h (by decide)) (fun _ => ?_)
    clear hK
    refine g_pt ?_
    refine g_dn ?_
    clear KK KD qy
    replace q0 := kp q0 qn.out
    replace FB := Hi (fb_keep FB.out qn.out)
    replace BB := nx BB qn.out
    clear qn
    clear PTx hv
    replace BB := Hi (below_onl' BB.out hgw.out honl)
    replace q0 := Hi (q0.out.onl hgm.out honl)
    clear FB hrun honl
    have FB := hFB
    clear hFB
    obtain ⟨q4, q5, q6, q7, q8, q9, qa, qb⟩ := reads4 q0.out
    have qd := q0.out.lt
    go_wp2_with fail
    have PTx := Hi (fun w9 => PT.out 24 2 w9 (by have := hN.out; have := hW.out; have := hH.out; omega) (by omega))
    clear q4 q5 q6 q7 q8 q9 qa qb qd
    have KK := Hi fun w9 (h : Below w99.heap.size w99 w9) => cells4 (q0.out.keep h)
    have KD := kd KK
    refine g_bg KK 6 ?_
    refine g_tk 0 ?_
    refine g_tk 1 ?_
    refine g_tk 2 ?_
    refine g_tk 3 ?_
    refine g_tk 4 ?_
    refine g_sc 5 (fun K hK => ?_)
    go_simp
    go_at_call 33
    refine (PTx.out _).mono ?_
    rintro e w22 ⟨v9, rfl, hb, hv⟩
    have qo := rn (w0 := w99) hb
    have qz := KK.out _ qo.out
    obtain ⟨A9, cap9, w99, e9, hrun, honl, hFB⟩ := put_step (o := 28) FB qo.out hv (by omega) (by have := hN.out; omega) 2 rfl
    subst e9
    clear hb
    refine hK.out _ _ (fun _ => qz) (fun hHeld => ?_)
    replace hHeld := hHeld (by decide)
    clear hK
    refine g_pt ?_
    refine g_sc 6 (fun K hK => ?_)
    refine wp_cp_run (.tmp 68) (.tmp 72) BLT BLT rfl rfl rfl hrun ?_
    refine hK.out _ _ (fun h => absurd h (by decide)) (fun _ => ?_)
    clear hK
    refine g_pt ?_
    refine g_dn ?_
    clear KK KD qz
    replace q0 := kp q0 qo.out
    replace FB := Hi (fb_keep FB.out qo.out)
    replace BB := nx BB qo.out
    clear qo
    clear PTx hv
    replace BB := Hi (below_onl' BB.out hgw.out honl)
    replace q0 := Hi (q0.out.onl hgm.out honl)
    clear FB hrun honl
    have FB := hFB
    clear hFB
    clear u0 u1 u2 u3 u4 u5 u6 u7 u8
    have FW : Hid (AtB w99 g (uV (wrtN W H 3 p 0)).toArray U8T) := by
     have e12 : (spl (spl (spl (spl (spl (spl (spl (spl (spl (spl (spl (spl (List.replicate N 0) [66, 77] 0) (putB 4 N) 2) (putB 4 0) 6) (putB 4 54) 10) (putB 4 40) 14) (putB 2 1) 26) (putB 4 0) 30) (putB 4 0) 46) (putB 4 0) 50) (putB 4 W) 18) (putB 4 H) 22) (putB 2 24) 28) = wrtN W H 3 p 0 := by
      rw [hNs.out, ← List.replicate_append_replicate]
      exact head_made W H 3 _
     have := FB.out.1
     rw [e12] at this
     exact this
    clear FB PT
    go_wp2_with fail
    go_loopw [8, 9, 10, 11] (fun i _ _ _ wr => ∃ k : Nat, k ≤ n ∧ i = .int .i64 (k : Int) ∧ Hid (AtB wr g (uV (wrtN W H 3 p k)).toArray U8T) ∧ AtB wr w.heap.size #[.int .i64 ↑W, .int .i64 ↑H, .int .i64 3, .slice (some ⟨pb, poff, none⟩) n cap] IT ∧ Below w.heap.size w wr) (fun i _ _ _ _ => n - (RowKit.intOf i).toNat)
    case atStart => exact ⟨0, Nat.zero_le _, rfl, FW, q0.out, BB.out⟩
    case round =>
     clear FW q0 BB
     obtain ⟨k, hk, rfl, FW, q0, BB⟩ := hrel
     replace q0 := Hi q0
     replace BB := Hi BB
     by_cases hlt : k < n
     · skip
       have hk2 : k < H * (W * 3) := by rw [← hp.out, ← hn.out]; exact hlt
       obtain ⟨y1, y2, y3⟩ := pos_parts (C := 3) hk2 hW0 (by omega)
       obtain ⟨-, p1⟩ := posW_at hp.out (by omega) hk2
       have hpos : posW W H 3 k = 54 + ((H - 1 - k / 3 / W) * strideN W 3 + (3 * (k / 3 % W) + sgm (k % 3))) := rfl
       rw [← hNs.out] at p1
       rw [← hs.out] at hpos
       have hset : wrtN W H 3 p (k + 1) = (wrtN W H 3 p k).set (posW W H 3 k) (p.getD k 0) := rfl
       have hfl := wrtN_len (W := W) (H := H) (C := 3) (p := p) k
       rw [← hNs.out] at hfl
       have t1 : (k : Int).tmod 3 = ((k % 3 : Nat) : Int) := by rw [Int.tmod_eq_emod_of_nonneg (by omega)]; omega
       have t1' : (k : Int) % 3 = ((k % 3 : Nat) : Int) := by omega
       have t2 : (k : Int).tdiv 3 = ((k / 3 : Nat) : Int) := by rw [Int.tdiv_eq_ediv_of_nonneg (by omega)]; omega
       have t2' : (k : Int) / 3 = ((k / 3 : Nat) : Int) := by omega
       have t3 := tmod_nat (k / 3) W
       have t4 := tdiv_nat2 (k / 3) W
       obtain ⟨t3, t3'⟩ := t3
       obtain ⟨t4, t4'⟩ := t4
       have hdk : k / 3 ≤ k := Nat.div_le_self _ _
       have hsg : k % 3 < 3 → ((2 : Int) - ((k % 3 : Nat) : Int) = ((sgm (k % 3) : Nat) : Int)) := fun h => by unfold sgm; rw [if_pos h]; omega
       have hsg2 : ¬ k % 3 < 3 → sgm (k % 3) = k % 3 := fun h => by unfold sgm; rw [if_neg h]
       have hsl := sgm_lt (C := 3) (by omega) y3
       obtain ⟨pos, hposv⟩ : ∃ x, x = posW W H 3 k := ⟨_, rfl⟩
       obtain ⟨rs, hrs⟩ : ∃ x, x = (H - 1 - k / 3 / W) * s := ⟨_, rfl⟩
       rw [← hposv] at hset hpos p1
       rw [← hrs] at hpos
       obtain ⟨sg, hsgv⟩ : ∃ x, x = sgm (k % 3) := ⟨_, rfl⟩
       rw [← hsgv] at hsg hsg2 hsl hpos
       obtain ⟨kk, hkk⟩ : ∃ x, x = k % 3 := ⟨_, rfl⟩
       rw [← hkk] at t1 t1' hsg hsg2 y3
       obtain ⟨xx, hxx⟩ : ∃ x, x = k / 3 % W := ⟨_, rfl⟩
       rw [← hxx] at t3 t3' y2 hpos
       obtain ⟨yy, hyy⟩ : ∃ x, x = k / 3 / W := ⟨_, rfl⟩
       rw [← hyy] at t4 t4' y1 hrs
       obtain ⟨d, hd⟩ : ∃ x, x = k / 3 := ⟨_, rfl⟩
       rw [← hd] at t2 t2' t3 t3' t4 t4' hdk
       obtain ⟨r, hr⟩ : ∃ x, x = H - 1 - yy := ⟨_, rfl⟩
       rw [← hr] at hrs
       have hN' := hN.out
       have hnB' := hnB.out
       have hW' := hW.out
       have hH' := hH.out
       have e1 : (H : Int) - 1 = ((H - 1 : Nat) : Int) := by omega
       have e2 : ((H - 1 : Nat) : Int) - (yy : Int) = (r : Int) := by omega
       have e3 : (r : Int) * (s : Int) = (rs : Int) := by rw [hrs, Int.natCast_mul]
       have e4 : (54 : Int) + (rs : Int) = ((54 + rs : Nat) : Int) := by omega
       have e5 : (xx : Int) * 3 = ((3 * xx : Nat) : Int) := by omega
       have e6 : ((54 + rs : Nat) : Int) + ((3 * xx : Nat) : Int) = ((54 + rs + 3 * xx : Nat) : Int) := by omega
       have e7 : ((54 + rs + 3 * xx : Nat) : Int) + (sg : Int) = (pos : Int) := by omega
       have e8 : (k : Int) + 1 = ((k + 1 : Nat) : Int) := by omega
       have hNB : N ≤ 100000000 := hN'.2
       have i0 : I64 (d : Int) := ⟨by omega, by omega⟩
       have i1 : I64 ((H - 1 : Nat) : Int) := ⟨by omega, by omega⟩
       have i2 : I64 (r : Int) := ⟨by omega, by omega⟩
       have i3 : I64 (rs : Int) := ⟨by omega, by omega⟩
       have i4 : I64 ((54 + rs : Nat) : Int) := ⟨by omega, by omega⟩
       have i5 : I64 ((3 * xx : Nat) : Int) := ⟨by omega, by omega⟩
       have i6 : I64 ((54 + rs + 3 * xx : Nat) : Int) := ⟨by omega, by omega⟩
       have i7 : I64 (pos : Int) := ⟨by omega, by omega⟩
       have i8 : I64 ((k + 1 : Nat) : Int) := ⟨by omega, by omega⟩
       have i9 : I64 (yy : Int) := ⟨by omega, by omega⟩
       have iA : I64 (sg : Int) := ⟨by omega, by omega⟩
       have iB : I64 (kk : Int) := ⟨by omega, by omega⟩
       have iC : I64 (xx : Int) := ⟨by omega, by omega⟩
       have z0 : (0 : Int) ≤ (k : Int) := by omega
       have z1 : (k : Int) < (n : Int) := by omega
       have z2 : (0 : Int) ≤ (pos : Int) := by omega
       have z3 : (pos : Int) < (N : Int) := by omega
       have z4 : ((W : Int) == 0) = false := by rw [beq_eq_false_iff_ne]; omega
       have z5 : ¬ (W : Int) = 0 := by omega
       have CP := Hi (hc.out k hlt)
       have hlt' := Hi hlt
       have hset := Hi hset
       have hfp := Hi (show pos < (wrtN W H 3 p k).length by rw [hfl]; exact p1)
       have hk3 : kk < 3 ∨ ¬ kk < 3 := Nat.lt_or_ge kk 3 |>.imp id Nat.not_lt.2
       replace hsg := Hi hsg
       replace hsg2 := Hi hsg2
       generalize 54 + rs + 3 * xx = b2 at *
       generalize 54 + rs = b1 at *
       generalize 3 * xx = xc at *
       generalize H - 1 = H1 at *
       have hK3 := Hi y3
       clear hpos hposv hrs hsgv hkk hxx hyy hd hr hk2 hdk p1 y1 y2 y3 hsl hk hlt hN' hnB' hW' hH' hNB hfl
       have f0 : IntKind.i64.wrap (d : Int) = (d : Int) := iw i0
       have f0' : wrap64 (d : Int) = (d : Int) := ww i0
       have f1 : IntKind.i64.wrap ((H : Int) - 1) = (H1 : Int) := by rw [e1]; exact iw i1
       have f1' : wrap64 ((H : Int) - 1) = (H1 : Int) := by rw [e1]; exact ww i1
       have f2 : IntKind.i64.wrap ((H1 : Int) - (yy : Int)) = (r : Int) := by rw [e2]; exact iw i2
       have f2' : wrap64 ((H1 : Int) - (yy : Int)) = (r : Int) := by rw [e2]; exact ww i2
       have f3 : IntKind.i64.wrap ((r : Int) * (s : Int)) = (rs : Int) := by rw [e3]; exact iw i3
       have f3' : wrap64 ((r : Int) * (s : Int)) = (rs : Int) := by rw [e3]; exact ww i3
       have f4 : IntKind.i64.wrap ((54 : Int) + (rs : Int)) = (b1 : Int) := by rw [e4]; exact iw i4
       have f4' : wrap64 ((54 : Int) + (rs : Int)) = (b1 : Int) := by rw [e4]; exact ww i4
       have f5 : IntKind.i64.wrap ((xx : Int) * 3) = (xc : Int) := by rw [e5]; exact iw i5
       have f5' : wrap64 ((xx : Int) * 3) = (xc : Int) := by rw [e5]; exact ww i5
       have f6 : IntKind.i64.wrap ((b1 : Int) + (xc : Int)) = (b2 : Int) := by rw [e6]; exact iw i6
       have f6' : wrap64 ((b1 : Int) + (xc : Int)) = (b2 : Int) := by rw [e6]; exact ww i6
       have f7 : IntKind.i64.wrap ((b2 : Int) + (sg : Int)) = (pos : Int) := by rw [e7]; exact iw i7
       have f7' : wrap64 ((b2 : Int) + (sg : Int)) = (pos : Int) := by rw [e7]; exact ww i7
       have f8 : IntKind.i64.wrap ((k : Int) + 1) = ((k + 1 : Nat) : Int) := by rw [e8]; exact iw i8
       have f9 : IntKind.i64.wrap (yy : Int) = (yy : Int) := iw i9
       have f9' : wrap64 (yy : Int) = (yy : Int) := ww i9
       have fA : IntKind.i64.wrap (kk : Int) = (kk : Int) := iw iB
       have fA' : wrap64 (kk : Int) = (kk : Int) := ww iB
       have fB : IntKind.i64.wrap (xx : Int) = (xx : Int) := iw iC
       have fB' : wrap64 (xx : Int) = (xx : Int) := ww iC
       clear e1 e2 e3 e4 e5 e6 e7 e8 i0 i1 i2 i3 i4 i5 i6 i7 i8 i9 iB iC
       rcases hk3 with hk3 | hk3
       · have q3 : (kk : Int) < 3 := Int.ofNat_lt.2 hk3
         have g2 : IntKind.i64.wrap ((2 : Int) - (kk : Int)) = (sg : Int) := by rw [hsg.out hk3]; exact iw iA
         clear iA hk3
         obtain ⟨q4, q5, q6, q7, q8, q9, qa, qb⟩ := reads4 q0.out
         have qd := q0.out.lt
         go_wp2_with fail
         go_quiet (fail)
         have hb := below_drawn (Below.refl wr.heap.size wr) nq
         generalize wr.drewN nq = w23 at *
         clear q4 q5 q6 q7 q8 q9 qa qb qd
         replace q0 := kp q0 hb
         replace FW := Hi (AtB.keep FW.out hb)
         replace BB := nx BB hb
         clear hb nq
         obtain ⟨q4, q5, q6, q7, q8, q9, qa, qb⟩ := reads4 q0.out
         have qd := q0.out.lt
         go_wp2_with fail
         go_quiet (fail)
         have hb := below_drawn (Below.refl w23.heap.size w23) nq
         generalize w23.drewN nq = w24 at *
         clear q4 q5 q6 q7 q8 q9 qa qb qd
         replace q0 := kp q0 hb
         replace FW := Hi (AtB.keep FW.out hb)
         replace BB := nx BB hb
         clear hb nq
         obtain ⟨q4, q5, q6, q7, q8, q9, qa, qb⟩ := reads4 q0.out
         have qd := q0.out.lt
         go_wp2_with fail
         clear q4 q5 q6 q7 q8 q9 qa qb qd
         have KK := Hi fun w9 (h : Below w24.heap.size w24 w9) => And.intro (cells4 (q0.out.keep h)) (CP.out _ (below_next BB.out h))
         have KD := kd KK
         refine g_bg KK 26 ?_
         refine g_tk 0 ?_
         refine g_tk 1 ?_
         refine g_tk 2 ?_
         refine g_tk 3 ?_
         refine g_tk 4 ?_
         refine g_tk 5 ?_
         refine g_tk 6 ?_
         refine g_tk 7 ?_
         refine g_tk 8 ?_
         refine g_tk 9 ?_
         refine g_tk 13 ?_
         refine g_tk 14 ?_
         refine g_tk 15 ?_
         refine g_tk 16 ?_
         refine g_tk 18 ?_
         refine g_tk 20 ?_
         refine g_tk 21 ?_
         refine g_tk 22 ?_
         refine g_tk 23 ?_
         refine g_tk 24 ?_
         refine g_sc 10 (fun K hK => ?_)
         go_simp
         go_at_call 30
         refine (CS.out _).mono ?_
         rintro e w25 ⟨rfl, hb⟩
         have qj := rn (w0 := w24) hb
         have qA := KK.out _ qj.out
         have rc := (FW.out.keep qj.out).cell pos (by rw [List.getElem?_toArray]; exact uV_at hfp.out)
         have rf := (FW.out.keep qj.out).fr pos
         have rl := (FW.out.keep qj.out).lt
         clear hb
         refine hK.out _ _ (fun _ => qA) (fun hHeld => ?_)
         replace hHeld := hHeld (by decide)
         clear hK
         refine g_pt ?_
         refine g_tk 11 ?_
         refine g_tk 12 ?_
         refine g_tk 17 ?_
         refine g_tk 19 ?_
         refine g_tk 25 ?_
         refine g_ts 26 ?_
         refine g_dn ?_
         clear KK KD qA
         replace q0 := kp q0 qj.out
         replace FW := Hi (AtB.keep FW.out qj.out)
         replace BB := nx BB qj.out
         clear qj
         have hF2 := set_uV (o := pos) FW.out (p.getD k 0)
         rw [← hset.out] at hF2
         replace hF2 := Hi hF2
         have qF := Hi (q0.out.far (p := g) hgm.out pos (.int .u8 ((p.getD k 0).toNat : Int)))
         have BB2 := Hi (below_set BB.out (b := g) (o := pos) hgw.out (.int .u8 ((p.getD k 0).toNat : Int)))
         go_wp2_with fail
         go_roundw
         case rel => exact ⟨k + 1, hlt'.out, by go_num, hF2, qF.out, BB2.out⟩
         case measure => have := hlt'.out; clear hset hfp hsg hsg2 rc rf rl hF2 qF BB2; simp [RowKit.intOf, f8]; clear f0 f0' f1 f1' f2 f2' f3 f3' f4 f4' f5 f5' f6 f6' f7 f7' f8 f9 f9' fA fA' fB fB'; omega
       · skip
         have hkk2 : False := hk3 hK3.out
         exact hkk2.elim
     · obtain rfl : k = n := by omega
       have q1 : ¬ (k : Int) < (k : Int) := by omega
       clear hk hlt
       obtain ⟨q4, q5, q6, q7, q8, q9, qa, qb⟩ := reads4 q0.out
       have qd := q0.out.lt
       go_wp2_with fail
       go_ret2
       refine ⟨_, rfl, BB.out, ?_⟩
       have h1 := FW.out
       rw [hn.out, wrtN_all hp.out (by omega) hW0] at h1
       have h2 := bmp_len (W := W) (C := 3) hp.out
       rw [← hNs.out] at h2
       rw [← h2]
       exact by_block h1 (by rw [h2]; have := hN.out; omega)
end Go.Proofs.YtikpobembcgbfaaGreatDoor
