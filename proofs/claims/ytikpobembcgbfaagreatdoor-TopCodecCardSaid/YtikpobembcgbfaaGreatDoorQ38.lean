/- Parts of the proof: Rr16. -/
import Derived.Test.YtikpobembcgbfaaGreatDoorQ27
import Derived.Test.YtikpobembcgbfaaGreatDoorQ14
set_option linter.unusedVariables false
set_option linter.unusedSimpArgs false
set_option maxRecDepth 100000
set_option maxHeartbeats 40000000
namespace Go.Proofs.YtikpobembcgbfaaGreatDoor
open Go.RowKit Go.Lib
attribute [go_sem] Tryz.results15
theorem rr16_ok_3_1 (n cap b off W h0 H s N WH L v2 v34 : Nat) (X : Nat → UInt8) (RB : Nat → List UInt8) (PX : Nat → Nat → List UInt8) (w : World) (hn20 : Hid (n ≤ 20000)) (hHb : Hid (H ≤ 32768))
 (hc : Hid (∀ q, q < n → ∀ w1, Below w.heap.size w w1 → w1.cell? ⟨b, off + q, none⟩ = some (.int .u8 ((X q).toNat : Int))))
 (CF : Hid (∀ w1, Below w.heap.size w w1 → Calls Tryz.prog 28 #[.slice (some ⟨b, off, none⟩) n cap] w1 (GiveV 0 w1)))
 (LW : Hid (∀ w1, Below w.heap.size w w1 → Calls Tryz.prog 29 #[.slice (some ⟨b, off, none⟩) n cap, .int .i64 18, .int .i64 4] w1 (GiveV W w1)))
 (LH : Hid (∀ w1, Below w.heap.size w w1 → Calls Tryz.prog 29 #[.slice (some ⟨b, off, none⟩) n cap, .int .i64 22, .int .i64 4] w1 (GiveV h0 w1)))
 (LC : Hid (∀ w1, Below w.heap.size w w1 → Calls Tryz.prog 29 #[.slice (some ⟨b, off, none⟩) n cap, .int .i64 28, .int .i64 2] w1 (GiveV 24 w1)))
 (L2 : Hid (∀ w1, Below w.heap.size w w1 → Calls Tryz.prog 29 #[.slice (some ⟨b, off, none⟩) n cap, .int .i64 2, .int .i64 4] w1 (GiveV v2 w1)))
 (L3 : Hid (∀ w1, Below w.heap.size w w1 → Calls Tryz.prog 29 #[.slice (some ⟨b, off, none⟩) n cap, .int .i64 34, .int .i64 4] w1 (GiveV v34 w1)))
 (CS : Hid (∀ w1, Calls Tryz.prog 30 #[.int .i64 (W : Int), .int .i64 3] w1 (GiveV s w1)))
 (d : (2147483648 : Int) ≤ (h0 : Int) ∧ IntKind.i64.wrap ((4294967296 : Int) - (h0 : Int)) = (H : Int)) (k1 : ((W : Int) == 0) = false) (k2 : ((H : Int) == 0) = false) (k3 : ¬ (32768 : Int) < (W : Int)) (k4 : ¬ (32768 : Int) < (H : Int)) (k5 : IntKind.i64.wrap ((W : Int) * (H : Int)) = (WH : Int)) (k6 : wrap64 ((W : Int) * (H : Int)) = (WH : Int)) (k7 : ¬ (4194304 : Int) < (WH : Int))
 (m1 : IntKind.i64.wrap ((s : Int) * (H : Int)) = (N : Int)) (m2 : wrap64 ((s : Int) * (H : Int)) = (N : Int)) (m3 : IntKind.i64.wrap ((n : Int) - 54) = (N : Int))
 (q2 : ((v2 : Int) != (n : Int)) = false) (q3 : ((v34 : Int) != 0) = false ∨ (((v34 : Int) != 0) = true ∧ ((v34 : Int) != (N : Int)) = false))
 (RB0 : Hid (RB 0 = [])) (P0 : Hid (∀ k, PX k 0 = RB k)) (PW : Hid (∀ k, k < H → PX k W = RB (k + 1))) (PL : Hid (∀ k j, k < H → (PX k j).length ≤ 50000000))
 (PS : Hid (∀ k j, k < H → j < W → PX k (j + 1) = PX k j ++ [X (54 + k * s + j * 3 + 2), X (54 + k * s + j * 3 + 1), X (54 + k * s + j * 3)])) (HB : Hid (∀ k j, k < H → j < W → 54 + k * s + j * 3 + 3 ≤ n)) :
 Calls Tryz.prog 15 #[.slice (some ⟨b, off, none⟩) n cap] w (GiveRim (0, W, H, 3, RB H) w) := by
 obtain ⟨d1, d2⟩ := d
 skip
 have CM := Hi (fun X Y Z A n cap w => rmade X Y Z A n cap w)
 have g0 : ¬ (N : Int) < (N : Int) := by omega
 go_enter Tryz.func15, Tryz.ntmps15
 go_upto_region 1 with fail
 obtain ⟨w0, e, BB, q0⟩ := en1 w #[.int .i64 0, .int .i64 0, .int .i64 0, .slice none 0 0] IT
 rw [e]; clear e
 go_wp2_with fail
 refine (CF.out _ BB.out).mono ?_
 rintro e w1 ⟨rfl, hb⟩
 replace q0 := kp q0 hb
 replace BB := nx BB hb
 clear hb
 go_wp2_with fail
 refine (LW.out _ BB.out).mono ?_
 rintro e w2 ⟨rfl, hb⟩
 replace q0 := kp q0 hb
 replace BB := nx BB hb
 clear hb
 go_wp2_with fail
 refine (LH.out _ BB.out).mono ?_
 rintro e w3 ⟨rfl, hb⟩
 replace q0 := kp q0 hb
 replace BB := nx BB hb
 clear hb
 go_wp2_with fail
 refine (LC.out _ BB.out).mono ?_
 rintro e w4 ⟨rfl, hb⟩
 replace q0 := kp q0 hb
 replace BB := nx BB hb
 clear hb
 go_wp2_with fail
 refine (CS.out _).mono ?_
 rintro e w5 ⟨rfl, hb⟩
 replace q0 := kp q0 hb
 replace BB := nx BB hb
 clear hb
 go_upto_region 19 with fail
 go_cut [85] from 70 to 85 (fun u wc => u = .bool false ∧ Hid (AtB wc w.heap.size #[.int .i64 0, .int .i64 0, .int .i64 0, .slice none 0 0] IT ∧ Below w.heap.size w wc))
 case first =>
  rcases q3 with q3 | ⟨q3, q4⟩
  ·
   go_wp2_with fail
   refine (L2.out _ BB.out).mono ?_
   rintro e w6 ⟨rfl, hb⟩
   replace q0 := kp q0 hb
   replace BB := nx BB hb
   clear hb
   go_wp2_with fail
   refine (L3.out _ BB.out).mono ?_
   rintro e w7 ⟨rfl, hb⟩
   replace q0 := kp q0 hb
   replace BB := nx BB hb
   clear hb
   go_wp2_with fail
   go_meet
   exact ⟨rfl, q0.out, BB.out⟩
  ·
   go_wp2_with fail
   refine (L2.out _ BB.out).mono ?_
   rintro e w6 ⟨rfl, hb⟩
   replace q0 := kp q0 hb
   replace BB := nx BB hb
   clear hb
   go_wp2_with fail
   refine (L3.out _ BB.out).mono ?_
   rintro e w7 ⟨rfl, hb⟩
   replace q0 := kp q0 hb
   replace BB := nx BB hb
   clear hb
   go_wp2_with fail
   refine (L3.out _ BB.out).mono ?_
   rintro e w8 ⟨rfl, hb⟩
   replace q0 := kp q0 hb
   replace BB := nx BB hb
   clear hb
   go_wp2_with fail
   go_meet
   exact ⟨rfl, q0.out, BB.out⟩
 case rest =>
  clear q0 BB L2 L3 q3
  obtain ⟨rfl, hI⟩ := hcut
  obtain ⟨q0, BB⟩ := hI.out
  replace q0 := Hi q0; replace BB := Hi BB
  clear hI
  go_wp2_with fail
  go_loopw [10, 11, 12, 13, 14] (fun u y _ _ _ wr => ∃ k : Nat, k ≤ H ∧ y = .int .i64 (k : Int) ∧ Hid (wr.ownsRow (w.heap.size + 1) U8T 1 u (RB k).length (uV (RB k)) ∧ AtB wr w.heap.size #[.int .i64 0, .int .i64 0, .int .i64 0, .slice none 0 0] IT ∧ Below w.heap.size w wr)) (fun _ y _ _ _ _ => H - (RowKit.intOf y).toNat)
  case atStart => exact ⟨0, Nat.zero_le _, rfl, by rw [RB0.out]; exact ⟨World.ownsRow_nil _ _ _ _, q0.out, BB.out⟩⟩
  case round =>
   clear BB q0
   obtain ⟨k, hk, rfl, hI⟩ := hrel
   obtain ⟨hown, q0, BB⟩ := hI.out
   replace hown := Hi hown; replace q0 := Hi q0; replace BB := Hi BB
   clear hI
   by_cases hlt : k < H
   · have q1 : (k : Int) < (H : Int) := by omega
     have hHb := hHb.out
     obtain ⟨r, hr⟩ : ∃ r, r = k := ⟨_, rfl⟩
     have i1 : I64 ((k + 1 : Nat) : Int) := ⟨by omega, by omega⟩
     have i2 : I64 ((H : Int) - 1) := ⟨by omega, by omega⟩
     have i3 : I64 (r : Int) := ⟨by omega, by omega⟩
     have j1 : (k : Int) + 1 = ((k + 1 : Nat) : Int) := by omega
     have PSk := Hi (fun j hj => PS.out k j hlt hj)
     have hB := Hi (fun j hj => HB.out k j hlt hj)
     rw [← hr] at PSk hB
     have PWk := Hi (PW.out k hlt)
     have hr2 := Hi hr
     clear hr
     have ek0 := Hi (show IntKind.i64.wrap ((k : Int) + 1) = ((k + 1 : Nat) : Int) by rw [j1]; exact iw i1)
     have ek : IntKind.i64.wrap ((k : Int) + 1) = ((k + 1 : Nat) : Int) := by rw [j1]; exact iw i1
     have ek2 : IntKind.i64.wrap ((H : Int) - 1) = (H : Int) - 1 := iw i2
     obtain rfl : k = r := hr2.out.symm
     replace hlt := Hi hlt
     clear i1 i2 i3 j1 hHb hk
     go_wp2_with fail
     go_loopw [10, 13, 14] (fun u x _ wr => ∃ j : Nat, j ≤ W ∧ x = .int .i64 (j : Int) ∧ Hid (wr.ownsRow (w.heap.size + 1) U8T 1 u (PX k j).length (uV (PX k j)) ∧ AtB wr w.heap.size #[.int .i64 0, .int .i64 0, .int .i64 0, .slice none 0 0] IT ∧ Below w.heap.size w wr)) (fun _ x _ _ => W - (RowKit.intOf x).toNat)
     case atStart => exact ⟨0, Nat.zero_le _, rfl, by rw [P0.out]; exact ⟨hown.out, q0.out, BB.out⟩⟩
     case round =>
      clear BB q0 hown q1 ek ek2
      obtain ⟨j, hj, rfl, hI⟩ := hrel
      obtain ⟨hown, q0, BB⟩ := hI.out
      replace hown := Hi hown; replace q0 := Hi q0; replace BB := Hi BB
      clear hI
      by_cases hlj : j < W
      · have q1 : (j : Int) < (W : Int) := by omega
        have hb3 := hB.out j hlj
        have hPS := PSk.out j hlj
        have hPL := PL.out k j hlt.out
        have hn20 := hn20.out
        obtain ⟨rs, hrs⟩ : ∃ x, x = k * s := ⟨_, rfl⟩
        obtain ⟨xc, hxc⟩ : ∃ x, x = j * 3 := ⟨_, rfl⟩
        rw [← hrs, ← hxc] at hb3 hPS
        obtain ⟨a, ha⟩ : ∃ x, x = 54 + rs + xc := ⟨_, rfl⟩
        rw [← ha] at hb3 hPS
        obtain ⟨a1, ha1⟩ : ∃ x, x = a + 1 := ⟨_, rfl⟩
        obtain ⟨a2, ha2⟩ : ∃ x, x = a + 2 := ⟨_, rfl⟩
        obtain ⟨a3, ha3⟩ : ∃ x, x = a + 3 := ⟨_, rfl⟩
        rw [← ha1, ← ha2] at hPS
        have e1 : (k : Int) * (s : Int) = (rs : Int) := by rw [hrs, Int.natCast_mul]
        have e2 : (54 : Int) + (rs : Int) = ((54 + rs : Nat) : Int) := by omega
        have e3 : (j : Int) * 3 = (xc : Int) := by omega
        have e4 : ((54 + rs : Nat) : Int) + (xc : Int) = (a : Int) := by omega
        have e5 : (a : Int) + 1 = (a1 : Int) := by omega
        have e6 : (a : Int) + 2 = (a2 : Int) := by omega
        have e7 : (a : Int) + 3 = (a3 : Int) := by omega
        have i1 : I64 (rs : Int) := ⟨by omega, by omega⟩
        have i2 : I64 ((54 + rs : Nat) : Int) := ⟨by omega, by omega⟩
        have i3 : I64 (xc : Int) := ⟨by omega, by omega⟩
        have i4 : I64 (a : Int) := ⟨by omega, by omega⟩
        have i5 : I64 (a1 : Int) := ⟨by omega, by omega⟩
        have i6 : I64 (a2 : Int) := ⟨by omega, by omega⟩
        have i7 : I64 (a3 : Int) := ⟨by omega, by omega⟩
        have i8 : I64 ((j + 1 : Nat) : Int) := ⟨by omega, by omega⟩
        have e8 : (j : Int) + 1 = ((j + 1 : Nat) : Int) := by omega
        have z0 : (0 : Int) ≤ (a : Int) := by omega
        have z1 : (0 : Int) ≤ (a1 : Int) := by omega
        have z2 : (0 : Int) ≤ (a2 : Int) := by omega
        have z3 : (0 : Int) ≤ (a3 : Int) := by omega
        have y0 : (a : Int) < (n : Int) := by omega
        have y1 : (a1 : Int) < (n : Int) := by omega
        have y2 : (a2 : Int) < (n : Int) := by omega
        skip
        have C0 := Hi (fun w9 (hb : Below w.heap.size w w9) => hc.out a (by omega) w9 hb)
        have C1 := Hi (fun w9 (hb : Below w.heap.size w w9) => hc.out a1 (by omega) w9 hb)
        have C2 := Hi (fun w9 (hb : Below w.heap.size w w9) => hc.out a2 (by omega) w9 hb)
        replace hlj := Hi hlj
        replace hPS := Hi hPS
        clear hb3 hrs hxc ha ha1 ha2 ha3 hn20 hj
        have f1 : IntKind.i64.wrap ((k : Int) * (s : Int)) = (rs : Int) := by rw [e1]; exact iw i1
        have f1' : wrap64 ((k : Int) * (s : Int)) = (rs : Int) := by rw [e1]; exact ww i1
        have f2 : IntKind.i64.wrap ((54 : Int) + (rs : Int)) = ((54 + rs : Nat) : Int) := by rw [e2]; exact iw i2
        have f3 : IntKind.i64.wrap ((j : Int) * 3) = (xc : Int) := by rw [e3]; exact iw i3
        have f4 : IntKind.i64.wrap (((54 + rs : Nat) : Int) + (xc : Int)) = (a : Int) := by rw [e4]; exact iw i4
        have f5 : IntKind.i64.wrap ((a : Int) + 1) = (a1 : Int) := by rw [e5]; exact iw i5
        have f6 : IntKind.i64.wrap ((a : Int) + 2) = (a2 : Int) := by rw [e6]; exact iw i6
        have f7 : IntKind.i64.wrap ((a : Int) + 3) = (a3 : Int) := by rw [e7]; exact iw i7
        have f8 : IntKind.i64.wrap ((j : Int) + 1) = ((j + 1 : Nat) : Int) := by rw [e8]; exact iw i8
        have f2' : wrap64 ((54 : Int) + (rs : Int)) = ((54 + rs : Nat) : Int) := by rw [e2]; exact ww i2
        have f3' : wrap64 ((j : Int) * 3) = (xc : Int) := by rw [e3]; exact ww i3
        have f4' : wrap64 (((54 + rs : Nat) : Int) + (xc : Int)) = (a : Int) := by rw [e4]; exact ww i4
        clear e1 e2 e3 e4 e5 e6 e7 e8 i1 i2 i3 i4 i5 i6 i7 i8
        generalize 54 + rs = b1 at *
        go_wp2_with fail
        refine (CS.out _).mono ?_
        rintro e w10 ⟨rfl, hb⟩
        replace q0 := kp q0 hb
        replace hown := Hi (own_below hown.out hb)
        replace BB := nx BB hb
        clear hb
        go_wp2_with fail
        have hbase : w.heap.size + 1 ≤ w10.drew.heap.size := q0.out.lt
        obtain ⟨g, cap1, wq, hrun, hRW, hgr⟩ := app_three w10.drew (w.heap.size + 1) _ _ (X a2) (X a1) (X a) (own_below hown.out (below_drew (Below.refl _ _))) (Nat.le_trans hPL (by decide)) hbase
        have BB2 : Below w.heap.size w wq := (below_new (below_drew BB.out) (.cells #[.int .u8 ((X a2).toNat : Int), .int .u8 ((X a1).toNat : Int), .int .u8 ((X a).toNat : Int)] U8T)).grown hgr (by have := BB.out.size; simp; omega) (fun b e => Nat.le_trans (Nat.le_succ _) (hown.out.lt b e).1)
        have q5 : AtB wq w.heap.size #[.int .i64 0, .int .i64 0, .int .i64 0, .slice none 0 0] IT := AtB.grow (AtB.drew q0.out) (fun e => absurd (hown.out.lt _ e).1 (by omega)) hgr
        replace BB2 := Hi BB2
        replace q5 := Hi q5
        replace hRW := Hi hRW
        replace hrun := Hi hrun
        have hPL3 := Hi (show (PX k j).length + 3 ≤ 100000000 by clear f1 f1' f2 f2' f3 f3' f4 f4' f5 f6 f7 f8; omega)
        clear hgr hbase hPL
        have KK := Hi fun w9 (h : Below w10.heap.size w10 w9) => And.intro (C2.out _ (below_next BB.out h)) (And.intro (C1.out _ (below_next BB.out h)) (C0.out _ (below_next BB.out h)))
        have KD := kd KK
        have KC := KK.out (w10.drew.alloc (.cells #[.int .u8 ((X a2).toNat : Int), .int .u8 ((X a1).toNat : Int), .int .u8 ((X a).toNat : Int)] U8T)) (below_new (below_drew (Below.refl _ _)) _)
        refine g_bg KK 16 ?_
        refine g_tk 0 ?_
        refine g_tk 1 ?_
        refine g_tk 2 ?_
        refine g_tk 3 ?_
        refine g_tk 4 ?_
        refine g_tk 5 ?_
        refine g_tk 6 ?_
        refine g_tk 7 ?_
        refine g_tk 8 ?_
        refine g_tk 9 ?_
        refine g_tk 10 ?_
        refine g_tk 11 ?_
        refine g_tk 12 ?_
        refine g_tk 13 ?_
        refine g_tk 14 ?_
        refine g_sc 15 (fun K hK => ?_)
        go_simp
        refine hK.out _ _ (fun _ => by assumption) (fun _ => ?_)
        clear hK
        refine g_pt ?_
        refine g_sc 16 (fun K hK => ?_)
        refine wp_app_run (.tmp 114) (.tmp 129) BLT rfl rfl rfl hrun.out ?_
        refine hK.out _ _ (fun h => absurd h (by decide)) (fun _ => ?_)
        clear hK
        refine g_pt ?_
        refine g_ts 17 ?_
        refine g_dn ?_
        clear KK KD
        clear KC
        go_wp2_with fail
        go_roundw
        case rel => exact ⟨j + 1, hlj.out, by go_num, by rw [hPS.out]; exact ⟨hRW.out, q5.out, BB2.out⟩⟩
        case measure => have := hlj.out; simp [RowKit.intOf, f8]; clear f1 f1' f2 f2' f3 f3' f4 f4' f5 f6 f7 f8; omega
      · obtain rfl : j = W := by omega
        have q1 : ¬ (j : Int) < (j : Int) := by omega
        clear hj hlj
        have ek := ek0.out
        go_wp2_with fail
        go_roundw
        case rel => exact ⟨k + 1, hlt.out, by go_num, by rw [← PWk.out]; exact ⟨hown.out, q0.out, BB.out⟩⟩
        case measure => have := hlt.out; have ek := ek0.out; simp [RowKit.intOf, ek]; clear ek; omega
   · obtain rfl : k = H := by omega
     have q1 : ¬ (k : Int) < (k : Int) := by omega
     obtain ⟨A2, cap2, rfl⟩ := own_form hown.out
     clear hk hlt
     have nv_res := Hi (show (Value.slice A2 (RB k).length cap2).ownBlock ≠ some w.heap.size from fun e => absurd (hown.out.lt _ e).1 (by omega))
     go_wp2_with fail
     refine (CM.out _ _ _ _ _ _ _).mono ?_
     rintro e w11 ⟨rfl, hb⟩
     replace q0 := kp q0 hb
     replace hown := Hi (own_below hown.out hb)
     replace BB := nx BB hb
     clear hb
     obtain ⟨q6, q7, q8, q9, qa, qb, qc, qd⟩ := reads4 q0.out
     have qe := q0.out.lt
     go_wp2_with fail
     clear q6 q7 q8 q9 qa qb qc qd qe
     replace q0 := Hi ((((q0.out.sn 0 (.int .i64 (W : Int))).sn 1 (.int .i64 (k : Int))).sn 2 (.int .i64 3)).sn 3 (.slice A2 (RB k).length cap2))
     replace BB := Hi (below_set (below_set (below_set (below_set BB.out (b := w.heap.size) (o := 0) (by omega) (.int .i64 (W : Int))) (b := w.heap.size) (o := 1) (by omega) (.int .i64 (k : Int))) (b := w.heap.size) (o := 2) (by omega) (.int .i64 3)) (b := w.heap.size) (o := 3) (by omega) (.slice A2 (RB k).length cap2))
     replace hown := Hi (own_store nv_res.out (own_store nv_res.out (own_store nv_res.out (own_store nv_res.out hown.out 0 (.int .i64 (W : Int))) 1 (.int .i64 (k : Int))) 2 (.int .i64 3)) 3 (.slice A2 (RB k).length cap2))
     generalize ((((w11.setCell ⟨w.heap.size, 0, none⟩ (.int .i64 (W : Int))).setCell ⟨w.heap.size, 1, none⟩ (.int .i64 (k : Int))).setCell ⟨w.heap.size, 2, none⟩ (.int .i64 3)).setCell ⟨w.heap.size, 3, none⟩ (.slice A2 (RB k).length cap2)) = w12 at *
     obtain ⟨q6, q7, q8, q9, qa, qb, qc, qd⟩ := reads4 q0.out
     have qe := q0.out.lt
     refine bret (.tuple #[imv (W : Int) (k : Int) 3 (.slice A2 (RB k).length cap2), .int .i64 0]) ?_
     exact ⟨_, _, _, _, rfl, BB.out, ⟨_, _, _, rfl⟩, fun e => absurd rfl e, fun _ => ⟨rfl, rfl, rfl, own_by hown.out⟩⟩
theorem rr16_ok_3_0 (n cap b off W h0 H s N WH L v2 v34 : Nat) (X : Nat → UInt8) (RB : Nat → List UInt8) (PX : Nat → Nat → List UInt8) (w : World) (hn20 : Hid (n ≤ 20000)) (hHb : Hid (H ≤ 32768))
 (hc : Hid (∀ q, q < n → ∀ w1, Below w.heap.size w w1 → w1.cell? ⟨b, off + q, none⟩ = some (.int .u8 ((X q).toNat : Int))))
 (CF : Hid (∀ w1, Below w.heap.size w w1 → Calls Tryz.prog 28 #[.slice (some ⟨b, off, none⟩) n cap] w1 (GiveV 0 w1)))
 (LW : Hid (∀ w1, Below w.heap.size w w1 → Calls Tryz.prog 29 #[.slice (some ⟨b, off, none⟩) n cap, .int .i64 18, .int .i64 4] w1 (GiveV W w1)))
 (LH : Hid (∀ w1, Below w.heap.size w w1 → Calls Tryz.prog 29 #[.slice (some ⟨b, off, none⟩) n cap, .int .i64 22, .int .i64 4] w1 (GiveV h0 w1)))
 (LC : Hid (∀ w1, Below w.heap.size w w1 → Calls Tryz.prog 29 #[.slice (some ⟨b, off, none⟩) n cap, .int .i64 28, .int .i64 2] w1 (GiveV 24 w1)))
 (L2 : Hid (∀ w1, Below w.heap.size w w1 → Calls Tryz.prog 29 #[.slice (some ⟨b, off, none⟩) n cap, .int .i64 2, .int .i64 4] w1 (GiveV v2 w1)))
 (L3 : Hid (∀ w1, Below w.heap.size w w1 → Calls Tryz.prog 29 #[.slice (some ⟨b, off, none⟩) n cap, .int .i64 34, .int .i64 4] w1 (GiveV v34 w1)))
 (CS : Hid (∀ w1, Calls Tryz.prog 30 #[.int .i64 (W : Int), .int .i64 3] w1 (GiveV s w1)))
 (d : decide ((2147483648 : Int) ≤ (h0 : Int)) = false ∧ h0 = H) (k1 : ((W : Int) == 0) = false) (k2 : ((H : Int) == 0) = false) (k3 : ¬ (32768 : Int) < (W : Int)) (k4 : ¬ (32768 : Int) < (H : Int)) (k5 : IntKind.i64.wrap ((W : Int) * (H : Int)) = (WH : Int)) (k6 : wrap64 ((W : Int) * (H : Int)) = (WH : Int)) (k7 : ¬ (4194304 : Int) < (WH : Int))
 (m1 : IntKind.i64.wrap ((s : Int) * (H : Int)) = (N : Int)) (m2 : wrap64 ((s : Int) * (H : Int)) = (N : Int)) (m3 : IntKind.i64.wrap ((n : Int) - 54) = (N : Int))
 (q2 : ((v2 : Int) != (n : Int)) = false) (q3 : ((v34 : Int) != 0) = false ∨ (((v34 : Int) != 0) = true ∧ ((v34 : Int) != (N : Int)) = false))
 (RB0 : Hid (RB 0 = [])) (P0 : Hid (∀ k, PX k 0 = RB k)) (PW : Hid (∀ k, k < H → PX k W = RB (k + 1))) (PL : Hid (∀ k j, k < H → (PX k j).length ≤ 50000000))
 (PS : Hid (∀ k j, k < H → j < W → PX k (j + 1) = PX k j ++ [X (54 + (H - 1 - k) * s + j * 3 + 2), X (54 + (H - 1 - k) * s + j * 3 + 1), X (54 + (H - 1 - k) * s + j * 3)])) (HB : Hid (∀ k j, k < H → j < W → 54 + (H - 1 - k) * s + j * 3 + 3 ≤ n)) :
 Calls Tryz.prog 15 #[.slice (some ⟨b, off, none⟩) n cap] w (GiveRim (0, W, H, 3, RB H) w) := by
 obtain ⟨d1, d2⟩ := d
 obtain rfl : H = h0 := d2.symm
 clear d2
 have CM := Hi (fun X Y Z A n cap w => rmade X Y Z A n cap w)
 have g0 : ¬ (N : Int) < (N : Int) := by omega
 go_enter Tryz.func15, Tryz.ntmps15
 go_upto_region 1 with fail
 obtain ⟨w0, e, BB, q0⟩ := en1 w #[.int .i64 0, .int .i64 0, .int .i64 0, .slice none 0 0] IT
 rw [e]; clear e
 go_wp2_with fail
 refine (CF.out _ BB.out).mono ?_
 rintro e w1 ⟨rfl, hb⟩
 replace q0 := kp q0 hb
 replace BB := nx BB hb
 clear hb
 go_wp2_with fail
 refine (LW.out _ BB.out).mono ?_
 rintro e w2 ⟨rfl, hb⟩
 replace q0 := kp q0 hb
 replace BB := nx BB hb
 clear hb
 go_wp2_with fail
 refine (LH.out _ BB.out).mono ?_
 rintro e w3 ⟨rfl, hb⟩
 replace q0 := kp q0 hb
 replace BB := nx BB hb
 clear hb
 go_wp2_with fail
 refine (LC.out _ BB.out).mono ?_
 rintro e w4 ⟨rfl, hb⟩
 replace q0 := kp q0 hb
 replace BB := nx BB hb
 clear hb
 go_wp2_with fail
 refine (CS.out _).mono ?_
 rintro e w5 ⟨rfl, hb⟩
 replace q0 := kp q0 hb
 replace BB := nx BB hb
 clear hb
 go_upto_region 19 with fail
 go_cut [85] from 70 to 85 (fun u wc => u = .bool false ∧ Hid (AtB wc w.heap.size #[.int .i64 0, .int .i64 0, .int .i64 0, .slice none 0 0] IT ∧ Below w.heap.size w wc))
 case first =>
  rcases q3 with q3 | ⟨q3, q4⟩
  ·
   go_wp2_with fail
   refine (L2.out _ BB.out).mono ?_
   rintro e w6 ⟨rfl, hb⟩
   replace q0 := kp q0 hb
   replace BB := nx BB hb
   clear hb
   go_wp2_with fail
   refine (L3.out _ BB.out).mono ?_
   rintro e w7 ⟨rfl, hb⟩
   replace q0 := kp q0 hb
   replace BB := nx BB hb
   clear hb
   go_wp2_with fail
   go_meet
   exact ⟨rfl, q0.out, BB.out⟩
  ·
   go_wp2_with fail
   refine (L2.out _ BB.out).mono ?_
   rintro e w6 ⟨rfl, hb⟩
   replace q0 := kp q0 hb
   replace BB := nx BB hb
   clear hb
   go_wp2_with fail
   refine (L3.out _ BB.out).mono ?_
   rintro e w7 ⟨rfl, hb⟩
   replace q0 := kp q0 hb
   replace BB := nx BB hb
   clear hb
   go_wp2_with fail
   refine (L3.out _ BB.out).mono ?_
   rintro e w8 ⟨rfl, hb⟩
   replace q0 := kp q0 hb
   replace BB := nx BB hb
   clear hb
   go_wp2_with fail
   go_meet
   exact ⟨rfl, q0.out, BB.out⟩
 case rest =>
  clear q0 BB L2 L3 q3
  obtain ⟨rfl, hI⟩ := hcut
  obtain ⟨q0, BB⟩ := hI.out
  replace q0 := Hi q0; replace BB := Hi BB
  clear hI
  go_wp2_with fail
  go_loopw [10, 11, 12, 13, 14] (fun u y _ _ _ wr => ∃ k : Nat, k ≤ H ∧ y = .int .i64 (k : Int) ∧ Hid (wr.ownsRow (w.heap.size + 1) U8T 1 u (RB k).length (uV (RB k)) ∧ AtB wr w.heap.size #[.int .i64 0, .int .i64 0, .int .i64 0, .slice none 0 0] IT ∧ Below w.heap.size w wr)) (fun _ y _ _ _ _ => H - (RowKit.intOf y).toNat)
  case atStart => exact ⟨0, Nat.zero_le _, rfl, by rw [RB0.out]; exact ⟨World.ownsRow_nil _ _ _ _, q0.out, BB.out⟩⟩
  case round =>
   clear BB q0
   obtain ⟨k, hk, rfl, hI⟩ := hrel
   obtain ⟨hown, q0, BB⟩ := hI.out
   replace hown := Hi hown; replace q0 := Hi q0; replace BB := Hi BB
   clear hI
   by_cases hlt : k < H
   · have q1 : (k : Int) < (H : Int) := by omega
     have hHb := hHb.out
     obtain ⟨r, hr⟩ : ∃ r, r = (H - 1 - k) := ⟨_, rfl⟩
     have i1 : I64 ((k + 1 : Nat) : Int) := ⟨by omega, by omega⟩
     have i2 : I64 ((H : Int) - 1) := ⟨by omega, by omega⟩
     have i3 : I64 (r : Int) := ⟨by omega, by omega⟩
     have j1 : (k : Int) + 1 = ((k + 1 : Nat) : Int) := by omega
     have PSk := Hi (fun j hj => PS.out k j hlt hj)
     have hB := Hi (fun j hj => HB.out k j hlt hj)
     rw [← hr] at PSk hB
     have PWk := Hi (PW.out k hlt)
     have hr2 := Hi hr
     clear hr
     have ek0 := Hi (show IntKind.i64.wrap ((k : Int) + 1) = ((k + 1 : Nat) : Int) by rw [j1]; exact iw i1)
     have ek : IntKind.i64.wrap ((k : Int) + 1) = ((k + 1 : Nat) : Int) := by rw [j1]; exact iw i1
     have ek2 : IntKind.i64.wrap ((H : Int) - 1) = (H : Int) - 1 := iw i2
     have j2 : (H : Int) - 1 - (k : Int) = (r : Int) := by have := hr2.out; omega
     have ek3 : IntKind.i64.wrap ((H : Int) - 1 - (k : Int)) = (r : Int) := by rw [j2]; exact iw i3
     clear j2
     replace hlt := Hi hlt
     clear i1 i2 i3 j1 hHb hk
     go_wp2_with fail
     go_loopw [10, 13, 14] (fun u x _ wr => ∃ j : Nat, j ≤ W ∧ x = .int .i64 (j : Int) ∧ Hid (wr.ownsRow (w.heap.size + 1) U8T 1 u (PX k j).length (uV (PX k j)) ∧ AtB wr w.heap.size #[.int .i64 0, .int .i64 0, .int .i64 0, .slice none 0 0] IT ∧ Below w.heap.size w wr)) (fun _ x _ _ => W - (RowKit.intOf x).toNat)
     case atStart => exact ⟨0, Nat.zero_le _, rfl, by rw [P0.out]; exact ⟨hown.out, q0.out, BB.out⟩⟩
     case round =>
      clear BB q0 hown q1 ek ek2
      obtain ⟨j, hj, rfl, hI⟩ := hrel
      obtain ⟨hown, q0, BB⟩ := hI.out
      replace hown := Hi hown; replace q0 := Hi q0; replace BB := Hi BB
      clear hI
      by_cases hlj : j < W
      · have q1 : (j : Int) < (W : Int) := by omega
        have hb3 := hB.out j hlj
        have hPS := PSk.out j hlj
        have hPL := PL.out k j hlt.out
        have hn20 := hn20.out
        obtain ⟨rs, hrs⟩ : ∃ x, x = r * s := ⟨_, rfl⟩
        obtain ⟨xc, hxc⟩ : ∃ x, x = j * 3 := ⟨_, rfl⟩
        rw [← hrs, ← hxc] at hb3 hPS
        obtain ⟨a, ha⟩ : ∃ x, x = 54 + rs + xc := ⟨_, rfl⟩
        rw [← ha] at hb3 hPS
        obtain ⟨a1, ha1⟩ : ∃ x, x = a + 1 := ⟨_, rfl⟩
        obtain ⟨a2, ha2⟩ : ∃ x, x = a + 2 := ⟨_, rfl⟩
        obtain ⟨a3, ha3⟩ : ∃ x, x = a + 3 := ⟨_, rfl⟩
        rw [← ha1, ← ha2] at hPS
        have e1 : (r : Int) * (s : Int) = (rs : Int) := by rw [hrs, Int.natCast_mul]
        have e2 : (54 : Int) + (rs : Int) = ((54 + rs : Nat) : Int) := by omega
        have e3 : (j : Int) * 3 = (xc : Int) := by omega
        have e4 : ((54 + rs : Nat) : Int) + (xc : Int) = (a : Int) := by omega
        have e5 : (a : Int) + 1 = (a1 : Int) := by omega
        have e6 : (a : Int) + 2 = (a2 : Int) := by omega
        have e7 : (a : Int) + 3 = (a3 : Int) := by omega
        have i1 : I64 (rs : Int) := ⟨by omega, by omega⟩
        have i2 : I64 ((54 + rs : Nat) : Int) := ⟨by omega, by omega⟩
        have i3 : I64 (xc : Int) := ⟨by omega, by omega⟩
        have i4 : I64 (a : Int) := ⟨by omega, by omega⟩
        have i5 : I64 (a1 : Int) := ⟨by omega, by omega⟩
        have i6 : I64 (a2 : Int) := ⟨by omega, by omega⟩
        have i7 : I64 (a3 : Int) := ⟨by omega, by omega⟩
        have i8 : I64 ((j + 1 : Nat) : Int) := ⟨by omega, by omega⟩
        have e8 : (j : Int) + 1 = ((j + 1 : Nat) : Int) := by omega
        have z0 : (0 : Int) ≤ (a : Int) := by omega
        have z1 : (0 : Int) ≤ (a1 : Int) := by omega
        have z2 : (0 : Int) ≤ (a2 : Int) := by omega
        have z3 : (0 : Int) ≤ (a3 : Int) := by omega
        have y0 : (a : Int) < (n : Int) := by omega
        have y1 : (a1 : Int) < (n : Int) := by omega
        have y2 : (a2 : Int) < (n : Int) := by omega
        skip
        have C0 := Hi (fun w9 (hb : Below w.heap.size w w9) => hc.out a (by omega) w9 hb)
        have C1 := Hi (fun w9 (hb : Below w.heap.size w w9) => hc.out a1 (by omega) w9 hb)
        have C2 := Hi (fun w9 (hb : Below w.heap.size w w9) => hc.out a2 (by omega) w9 hb)
        replace hlj := Hi hlj
        replace hPS := Hi hPS
        clear hb3 hrs hxc ha ha1 ha2 ha3 hn20 hj
        have f1 : IntKind.i64.wrap ((r : Int) * (s : Int)) = (rs : Int) := by rw [e1]; exact iw i1
        have f1' : wrap64 ((r : Int) * (s : Int)) = (rs : Int) := by rw [e1]; exact ww i1
        have f2 : IntKind.i64.wrap ((54 : Int) + (rs : Int)) = ((54 + rs : Nat) : Int) := by rw [e2]; exact iw i2
        have f3 : IntKind.i64.wrap ((j : Int) * 3) = (xc : Int) := by rw [e3]; exact iw i3
        have f4 : IntKind.i64.wrap (((54 + rs : Nat) : Int) + (xc : Int)) = (a : Int) := by rw [e4]; exact iw i4
        have f5 : IntKind.i64.wrap ((a : Int) + 1) = (a1 : Int) := by rw [e5]; exact iw i5
        have f6 : IntKind.i64.wrap ((a : Int) + 2) = (a2 : Int) := by rw [e6]; exact iw i6
        have f7 : IntKind.i64.wrap ((a : Int) + 3) = (a3 : Int) := by rw [e7]; exact iw i7
        have f8 : IntKind.i64.wrap ((j : Int) + 1) = ((j + 1 : Nat) : Int) := by rw [e8]; exact iw i8
        have f2' : wrap64 ((54 : Int) + (rs : Int)) = ((54 + rs : Nat) : Int) := by rw [e2]; exact ww i2
        have f3' : wrap64 ((j : Int) * 3) = (xc : Int) := by rw [e3]; exact ww i3
        have f4' : wrap64 (((54 + rs : Nat) : Int) + (xc : Int)) = (a : Int) := by rw [e4]; exact ww i4
        clear e1 e2 e3 e4 e5 e6 e7 e8 i1 i2 i3 i4 i5 i6 i7 i8
        generalize 54 + rs = b1 at *
        go_wp2_with fail
        refine (CS.out _).mono ?_
        rintro e w10 ⟨rfl, hb⟩
        replace q0 := kp q0 hb
        replace hown := Hi (own_below hown.out hb)
        replace BB := nx BB hb
        clear hb
        go_wp2_with fail
        have hbase : w.heap.size + 1 ≤ w10.drew.heap.size := q0.out.lt
        obtain ⟨g, cap1, wq, hrun, hRW, hgr⟩ := app_three w10.drew (w.heap.size + 1) _ _ (X a2) (X a1) (X a) (own_below hown.out (below_drew (Below.refl _ _))) (Nat.le_trans hPL (by decide)) hbase
        have BB2 : Below w.heap.size w wq := (below_new (below_drew BB.out) (.cells #[.int .u8 ((X a2).toNat : Int), .int .u8 ((X a1).toNat : Int), .int .u8 ((X a).toNat : Int)] U8T)).grown hgr (by have := BB.out.size; simp; omega) (fun b e => Nat.le_trans (Nat.le_succ _) (hown.out.lt b e).1)
        have q5 : AtB wq w.heap.size #[.int .i64 0, .int .i64 0, .int .i64 0, .slice none 0 0] IT := AtB.grow (AtB.drew q0.out) (fun e => absurd (hown.out.lt _ e).1 (by omega)) hgr
        replace BB2 := Hi BB2
        replace q5 := Hi q5
        replace hRW := Hi hRW
        replace hrun := Hi hrun
        have hPL3 := Hi (show (PX k j).length + 3 ≤ 100000000 by clear f1 f1' f2 f2' f3 f3' f4 f4' f5 f6 f7 f8; omega)
        clear hgr hbase hPL
        have KK := Hi fun w9 (h : Below w10.heap.size w10 w9) => And.intro (C2.out _ (below_next BB.out h)) (And.intro (C1.out _ (below_next BB.out h)) (C0.out _ (below_next BB.out h)))
        have KD := kd KK
        have KC := KK.out (w10.drew.alloc (.cells #[.int .u8 ((X a2).toNat : Int), .int .u8 ((X a1).toNat : Int), .int .u8 ((X a).toNat : Int)] U8T)) (below_new (below_drew (Below.refl _ _)) _)
        refine g_bg KK 16 ?_
        refine g_tk 0 ?_
        refine g_tk 1 ?_
        refine g_tk 2 ?_
        refine g_tk 3 ?_
        refine g_tk 4 ?_
        refine g_tk 5 ?_
        refine g_tk 6 ?_
        refine g_tk 7 ?_
        refine g_tk 8 ?_
        refine g_tk 9 ?_
        refine g_tk 10 ?_
        refine g_tk 11 ?_
        refine g_tk 12 ?_
        refine g_tk 13 ?_
        refine g_tk 14 ?_
        refine g_sc 15 (fun K hK => ?_)
        go_simp
        refine hK.out _ _ (fun _ => by assumption) (fun _ => ?_)
        clear hK
        refine g_pt ?_
        refine g_sc 16 (fun K hK => ?_)
        refine wp_app_run (.tmp 114) (.tmp 129) BLT rfl rfl rfl hrun.out ?_
        refine hK.out _ _ (fun h => absurd h (by decide)) (fun _ => ?_)
        clear hK
        refine g_pt ?_
        refine g_ts 17 ?_
        refine g_dn ?_
        clear KK KD
        clear KC
        go_wp2_with fail
        go_roundw
        case rel => exact ⟨j + 1, hlj.out, by go_num, by rw [hPS.out]; exact ⟨hRW.out, q5.out, BB2.out⟩⟩
        case measure => have := hlj.out; simp [RowKit.intOf, f8]; clear f1 f1' f2 f2' f3 f3' f4 f4' f5 f6 f7 f8; omega
      · obtain rfl : j = W := by omega
        have q1 : ¬ (j : Int) < (j : Int) := by omega
        clear hj hlj
        have ek := ek0.out
        go_wp2_with fail
        go_roundw
        case rel => exact ⟨k + 1, hlt.out, by go_num, by rw [← PWk.out]; exact ⟨hown.out, q0.out, BB.out⟩⟩
        case measure => have := hlt.out; have ek := ek0.out; simp [RowKit.intOf, ek]; clear ek; omega
   · obtain rfl : k = H := by omega
     have q1 : ¬ (k : Int) < (k : Int) := by omega
     obtain ⟨A2, cap2, rfl⟩ := own_form hown.out
     clear hk hlt
     have nv_res := Hi (show (Value.slice A2 (RB k).length cap2).ownBlock ≠ some w.heap.size from fun e => absurd (hown.out.lt _ e).1 (by omega))
     go_wp2_with fail
     refine (CM.out _ _ _ _ _ _ _).mono ?_
     rintro e w11 ⟨rfl, hb⟩
     replace q0 := kp q0 hb
     replace hown := Hi (own_below hown.out hb)
     replace BB := nx BB hb
     clear hb
     obtain ⟨q6, q7, q8, q9, qa, qb, qc, qd⟩ := reads4 q0.out
     have qe := q0.out.lt
     go_wp2_with fail
     clear q6 q7 q8 q9 qa qb qc qd qe
     replace q0 := Hi ((((q0.out.sn 0 (.int .i64 (W : Int))).sn 1 (.int .i64 (k : Int))).sn 2 (.int .i64 3)).sn 3 (.slice A2 (RB k).length cap2))
     replace BB := Hi (below_set (below_set (below_set (below_set BB.out (b := w.heap.size) (o := 0) (by omega) (.int .i64 (W : Int))) (b := w.heap.size) (o := 1) (by omega) (.int .i64 (k : Int))) (b := w.heap.size) (o := 2) (by omega) (.int .i64 3)) (b := w.heap.size) (o := 3) (by omega) (.slice A2 (RB k).length cap2))
     replace hown := Hi (own_store nv_res.out (own_store nv_res.out (own_store nv_res.out (own_store nv_res.out hown.out 0 (.int .i64 (W : Int))) 1 (.int .i64 (k : Int))) 2 (.int .i64 3)) 3 (.slice A2 (RB k).length cap2))
     generalize ((((w11.setCell ⟨w.heap.size, 0, none⟩ (.int .i64 (W : Int))).setCell ⟨w.heap.size, 1, none⟩ (.int .i64 (k : Int))).setCell ⟨w.heap.size, 2, none⟩ (.int .i64 3)).setCell ⟨w.heap.size, 3, none⟩ (.slice A2 (RB k).length cap2)) = w12 at *
     obtain ⟨q6, q7, q8, q9, qa, qb, qc, qd⟩ := reads4 q0.out
     have qe := q0.out.lt
     refine bret (.tuple #[imv (W : Int) (k : Int) 3 (.slice A2 (RB k).length cap2), .int .i64 0]) ?_
     exact ⟨_, _, _, _, rfl, BB.out, ⟨_, _, _, rfl⟩, fun e => absurd rfl e, fun _ => ⟨rfl, rfl, rfl, own_by hown.out⟩⟩
end Go.Proofs.YtikpobembcgbfaaGreatDoor
