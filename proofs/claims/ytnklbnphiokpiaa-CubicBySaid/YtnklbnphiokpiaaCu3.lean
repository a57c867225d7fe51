/- Contracts of cubic.By, At. -/
import Derived.Test.YtnklbnphiokpiaaCu2
import Derived.Test.YtnklbnphiokpiaaCuA
import Derived.Deep.WholeRow
set_option linter.unusedVariables false
set_option linter.unusedSimpArgs false
namespace Go.Proofs.Ytnklbnphiokpiaa
open Go.RowKit
theorem load_cells {w : World} {g n : Nat} {cs : Array Value} {T : TypeId} (h : AtB w g cs T) (hn : cs.size = n) : (loadCellsFrom ⟨g, 0, none⟩ 0 n #[]).run Try.prog w = .ok cs w := by
  subst hn
  have := run_loadCells_list (P := Try.prog) w ⟨g, 0, none⟩ cs.toList (fun j v hv => by
    have hadd : (⟨g, 0, none⟩ : Addr).add j = ⟨g, j, none⟩ := by unfold Addr.add; split <;> simp_all
    rw [hadd, cell_of_row _ _ j cs T (0, 0) h]
    simpa using hv)
  simpa [loadCells] using this
theorem store_new (w : World) (c c' : Array Value) (hi : (Try.prog.info? CAT).map (·.size) = some c'.size) (ho : c.size = c'.size) (h1 : c'.all (·.oneCell') = true) :
    (Instr.storeAt CAT (.pointer (some ⟨w.heap.size, 0, none⟩)) (.agg c')).run Try.prog (w.alloc (.cells c CAT)) = .ok () (w.alloc (.cells c' CAT)) := run_storeAt_new w CAT c c' hi ho h1
theorem store_new2 (w : World) (c c' : Array Value) (hi : (Try.prog.info? CAT).map (·.size) = some c'.size) (ho : c.size = c'.size) (h1 : c'.all (·.oneCell') = true) :
    (storeCells ⟨w.heap.size, 0, none⟩ c'.toList 0).run Try.prog (w.alloc (.cells c CAT)) = .ok () (w.alloc (.cells c' CAT)) := run_storeCells_new w CAT c c' hi ho h1
set_option maxRecDepth 100000 in
set_option maxHeartbeats 16000000 in
theorem zby (cp : Value) (c : Nat) (hc : 1 ≤ c ∧ c ≤ 1000) (Lf : Nat → List Int) (u v : Int) (hu : inB u 70368744177664 = true) (hv : inB v 70368744177664 = true) (w : World)
    (C : ∀ X Y : Nat, X < 4 → Y < 4 → ∀ w1, Below w.heap.size w w1 → Calls Try.prog 86 #[cp, .int .i64 (u / 65536 - 1 + X), .int .i64 (v / 65536 - 1 + Y)] w1 (GiveGet2 w (Lf (Y * 4 + X)) w1)) :
    Calls Try.prog 42 #[.func (.func 86) #[cp] #[], .int .i64 (c : Int), .int .i64 u, .int .i64 v] w (GiveRow (cubRow Lf (cw0 (u % 65536 / 256)) (cw1 (u % 65536 / 256)) (cw2 (u % 65536 / 256)) (cw3 (u % 65536 / 256)) (cw0 (v % 65536 / 256)) (cw1 (v % 65536 / 256)) (cw2 (v % 65536 / 256)) (cw3 (v % 65536 / 256)) c) w) := by
  have CI := Lib.hid (fun x w => cub_in x w)
  have FN := func_some
  have CL := Lib.hid (fun w1 (hb : Below w.heap.size w w1) => zlook cp Lf u v hu hv w1 (fun X Y hX hY w2 h2 => (C X Y hX hY w2 (hb.trans (Below.less h2 hb.size))).mono fun e w' h => GiveGet2.up h hb))
  have MK := mk_bytes c (by omega)
  have hc1 : decide ((c : Int) < 1) = false := decide_eq_false (by omega)
  have hx := Lib.hid (cw_ok (t := u % 65536 / 256) (by omega) (by omega))
  have hy := Lib.hid (cw_ok (t := v % 65536 / 256) (by omega) (by omega))
  unfold cubRow
  generalize cw0 (u % 65536 / 256) = x0 at *
  generalize cw1 (u % 65536 / 256) = x1 at *
  generalize cw2 (u % 65536 / 256) = x2 at *
  generalize cw3 (u % 65536 / 256) = x3 at *
  generalize cw0 (v % 65536 / 256) = y0 at *
  generalize cw1 (v % 65536 / 256) = y1 at *
  generalize cw2 (v % 65536 / 256) = y2 at *
  generalize cw3 (v % 65536 / 256) = y3 at *
  obtain ⟨F, hF⟩ : ∃ F, F = cubAt Lf x0 x1 x2 x3 y0 y1 y2 y3 := ⟨_, rfl⟩
  replace hF := Lib.hid hF
  rw [← hF.out]
  have hFk := Lib.hid (fun k => congrFun hF.out k)
  replace hu := Lib.hid hu; replace hv := Lib.hid hv
  clear C hF
  go_enter Try.func42, Try.ntmps42
  go_wp2_with fail
  have BB : Hid (Below w.heap.size w w) := Below.refl _ _
  refine (CI.out _ _).mono ?_
  rintro e w9 ⟨rfl, rfl⟩
  rw [hu.out]
  go_wp2_with fail
  refine (CI.out _ _).mono ?_
  rintro e w9 ⟨rfl, rfl⟩
  rw [hv.out]
  go_wp2_with fail
  refine (CL.out _ BB.out).mono ?_
  rintro e w1 ⟨S0, S1, S2, S3, S4, S5, S6, S7, S8, S9, S10, S11, S12, S13, S14, S15, rfl, hb, s0, s1, s2, s3, s4, s5, s6, s7, s8, s9, s10, s11, s12, s13, s14, s15⟩
  replace BB := Lib.hid (below_next BB.out hb)
  clear hb
  obtain ⟨A0, p0, rfl⟩ := s0.form
  generalize (Lf 0).length = n0 at *
  obtain ⟨A1, p1, rfl⟩ := s1.form
  generalize (Lf 1).length = n1 at *
  obtain ⟨A2, p2, rfl⟩ := s2.form
  generalize (Lf 2).length = n2 at *
  obtain ⟨A3, p3, rfl⟩ := s3.form
  generalize (Lf 3).length = n3 at *
  obtain ⟨A4, p4, rfl⟩ := s4.form
  generalize (Lf 4).length = n4 at *
  obtain ⟨A5, p5, rfl⟩ := s5.form
  generalize (Lf 5).length = n5 at *
  obtain ⟨A6, p6, rfl⟩ := s6.form
  generalize (Lf 6).length = n6 at *
  obtain ⟨A7, p7, rfl⟩ := s7.form
  generalize (Lf 7).length = n7 at *
  obtain ⟨A8, p8, rfl⟩ := s8.form
  generalize (Lf 8).length = n8 at *
  obtain ⟨A9, p9, rfl⟩ := s9.form
  generalize (Lf 9).length = n9 at *
  obtain ⟨A10, p10, rfl⟩ := s10.form
  generalize (Lf 10).length = n10 at *
  obtain ⟨A11, p11, rfl⟩ := s11.form
  generalize (Lf 11).length = n11 at *
  obtain ⟨A12, p12, rfl⟩ := s12.form
  generalize (Lf 12).length = n12 at *
  obtain ⟨A13, p13, rfl⟩ := s13.form
  generalize (Lf 13).length = n13 at *
  obtain ⟨A14, p14, rfl⟩ := s14.form
  generalize (Lf 14).length = n14 at *
  obtain ⟨A15, p15, rfl⟩ := s15.form
  generalize (Lf 15).length = n15 at *
  have CC := Lib.hid (fun k w9 (hb : Below w1.heap.size w1 w9) (hk : k ≤ 1000) => cchannel_v (.slice A0 n0 p0) (.slice A1 n1 p1) (.slice A2 n2 p2) (.slice A3 n3 p3) (.slice A4 n4 p4) (.slice A5 n5 p5) (.slice A6 n6 p6) (.slice A7 n7 p7) (.slice A8 n8 p8) (.slice A9 n9 p9) (.slice A10 n10 p10) (.slice A11 n11 p11) (.slice A12 n12 p12) (.slice A13 n13 p13) (.slice A14 n14 p14) (.slice A15 n15 p15) Lf x0 x1 x2 x3 y0 y1 y2 y3 k w1 ⟨s0, s1, s2, s3, s4, s5, s6, s7, s8, s9, s10, s11, s12, s13, s14, s15⟩ hx.out hy.out hk w9 hb)
  clear s0 s1 s2 s3 s4 s5 s6 s7 s8 s9 s10 s11 s12 s13 s14 s15 CL CI hu hv
  obtain ⟨W0, hW0⟩ : ∃ W0, W0 = w1 := ⟨_, rfl⟩
  rw [← hW0] at CC
  have h_w := Lib.hid (show Below W0.heap.size W0 w1 by rw [hW0]; exact Below.refl _ _)
  have CC := Lib.hid (show ∀ (k : Nat) w9, Below W0.heap.size W0 w9 → k ≤ 1000 → Calls Try.prog 84 #[.agg #[.slice A0 n0 p0, .slice A1 n1 p1, .slice A2 n2 p2, .slice A3 n3 p3, .slice A4 n4 p4, .slice A5 n5 p5, .slice A6 n6 p6, .slice A7 n7 p7, .slice A8 n8 p8, .slice A9 n9 p9, .slice A10 n10 p10, .slice A11 n11 p11, .slice A12 n12 p12, .slice A13 n13 p13, .slice A14 n14 p14, .slice A15 n15 p15, .int .i64 x0, .int .i64 x1, .int .i64 x2, .int .i64 x3, .int .i64 y0, .int .i64 y1, .int .i64 y2, .int .i64 y3], .int .i64 (k : Int)] w9 (fun e w' => e = .returned (.int .u8 (F k)) ∧ Below w9.heap.size w9 w') from fun k w9 hb hk => by rw [hFk.out k]; exact CC.out k w9 hb hk)
  have hg0 : W0.heap.size = w1.heap.size := by rw [hW0]
  clear hFk hx hy hW0
  have hcz : (#[.slice A0 n0 p0, .slice A1 n1 p1, .slice A2 n2 p2, .slice A3 n3 p3, .slice A4 n4 p4, .slice A5 n5 p5, .slice A6 n6 p6, .slice A7 n7 p7, .slice A8 n8 p8, .slice A9 n9 p9, .slice A10 n10 p10, .slice A11 n11 p11, .slice A12 n12 p12, .slice A13 n13 p13, .slice A14 n14 p14, .slice A15 n15 p15, .int .i64 x0, .int .i64 x1, .int .i64 x2, .int .i64 x3, .int .i64 y0, .int .i64 y1, .int .i64 y2, .int .i64 y3] : Array Value).size = 24 := rfl
  have hc1c : (#[.slice A0 n0 p0, .slice A1 n1 p1, .slice A2 n2 p2, .slice A3 n3 p3, .slice A4 n4 p4, .slice A5 n5 p5, .slice A6 n6 p6, .slice A7 n7 p7, .slice A8 n8 p8, .slice A9 n9 p9, .slice A10 n10 p10, .slice A11 n11 p11, .slice A12 n12 p12, .slice A13 n13 p13, .slice A14 n14 p14, .slice A15 n15 p15, .int .i64 x0, .int .i64 x1, .int .i64 x2, .int .i64 x3, .int .i64 y0, .int .i64 y1, .int .i64 y2, .int .i64 y3] : Array Value).all (·.oneCell') = true := by kernel_rfl
  generalize (#[.slice A0 n0 p0, .slice A1 n1 p1, .slice A2 n2 p2, .slice A3 n3 p3, .slice A4 n4 p4, .slice A5 n5 p5, .slice A6 n6 p6, .slice A7 n7 p7, .slice A8 n8 p8, .slice A9 n9 p9, .slice A10 n10 p10, .slice A11 n11 p11, .slice A12 n12 p12, .slice A13 n13 p13, .slice A14 n14 p14, .slice A15 n15 p15, .int .i64 x0, .int .i64 x1, .int .i64 x2, .int .i64 x3, .int .i64 y0, .int .i64 y1, .int .i64 y2, .int .i64 y3] : Array Value) = cs at *
  have ST1 := store_new w1 #[.slice none 0 0, .slice none 0 0, .slice none 0 0, .slice none 0 0, .slice none 0 0, .slice none 0 0, .slice none 0 0, .slice none 0 0, .slice none 0 0, .slice none 0 0, .slice none 0 0, .slice none 0 0, .slice none 0 0, .slice none 0 0, .slice none 0 0, .slice none 0 0, .int .i64 0, .int .i64 0, .int .i64 0, .int .i64 0, .int .i64 0, .int .i64 0, .int .i64 0, .int .i64 0] cs (by rw [hcz]; kernel_rfl) (by rw [hcz]; rfl) hc1c
  have ST2 := store_new2 w1 #[.slice none 0 0, .slice none 0 0, .slice none 0 0, .slice none 0 0, .slice none 0 0, .slice none 0 0, .slice none 0 0, .slice none 0 0, .slice none 0 0, .slice none 0 0, .slice none 0 0, .slice none 0 0, .slice none 0 0, .slice none 0 0, .slice none 0 0, .slice none 0 0, .int .i64 0, .int .i64 0, .int .i64 0, .int .i64 0, .int .i64 0, .int .i64 0, .int .i64 0, .int .i64 0] cs (by rw [hcz]; kernel_rfl) (by rw [hcz]; rfl) hc1c
  go_upto_region 4 with fail
  have d_a := Lib.hid (And.intro BB.out.size (True.intro))
  obtain ⟨hb, r_a⟩ := laid w1 cs CAT
  replace h_w := Lib.hid (Below.fol h_w.out hb)
  replace BB := Lib.hid (below_next BB.out hb)
  replace r_a := Lib.hid r_a
  clear hb
  generalize w1.alloc (.cells cs CAT) = w2 at *
  generalize w1.heap.size = g_a at *
  go_wp2_with fail
  have d_out := Lib.hid (And.intro BB.out.size (And.intro r_a.out.lt (True.intro)))
  obtain ⟨hb, r_out⟩ := laid w2 (Array.replicate c (Value.int .u8 0)) 5
  replace r_a := Lib.hid (r_a.out.keep hb)
  replace h_w := Lib.hid (Below.fol h_w.out hb)
  replace BB := Lib.hid (below_next BB.out hb)
  replace r_out := Lib.hid r_out
  clear hb
  generalize w2.alloc (.cells (Array.replicate c (Value.int .u8 0)) 5) = w3 at *
  generalize w2.heap.size = g_out at *
  have hg : W0.heap.size ≤ g_out := by have := d_out.out; have := d_a.out; omega
  have hga : W0.heap.size ≤ g_a := by have := d_a.out; omega
  have h_r := Lib.hid (show BRow w3 g_out (lrow F c 0) by unfold BRow; rw [lrow_zero]; simpa using r_out.out)
  have hgw : w.heap.size ≤ g_out := d_out.out.1
  clear hg0 hc1 FN MK r_out
  go_wp2_with fail
  go_loopw [11, 36] (fun _ i wr => ∃ k : Nat, k ≤ c ∧ i = .int .i64 k ∧ Hid (BRow wr g_out (lrow F c k) ∧ AtB wr g_a cs CAT ∧ Below w.heap.size w wr ∧ Below W0.heap.size W0 wr)) (fun _ i _ => c - (intOf i).toNat)
  case atStart => exact ⟨0, by omega, rfl, ⟨h_r.out, r_a.out, BB.out, h_w.out⟩⟩
  case round =>
    clear h_r r_a BB h_w
    obtain ⟨k, hk, rfl, hinv⟩ := hrel
    obtain ⟨h_r, r_a, BB, h_w⟩ := hinv.out
    replace h_r := Lib.hid h_r; replace r_a := Lib.hid r_a; replace BB := Lib.hid BB; replace h_w := Lib.hid h_w
    clear hinv
    by_cases hlt : k < c
    · have k0 : (0 : Int) ≤ (k : Int) := by omega
      have k1 : (k : Int) < (c : Int) := by omega
      go_wp2_with (refine wpList_load_row rfl CAT _ rfl g_a rfl CAT _ (0, 0) _ r_a.out Try.underlying110 rfl (by rw [hcz]; kernel_rfl) ?_)
      refine (CC.out k _ h_w.out (by omega)).mono ?_
      rintro e w4 ⟨rfl, hb⟩
      replace r_a := Lib.hid (r_a.out.keep hb)
      replace h_r := Lib.hid (BRow.keep h_r.out hb)
      replace h_w := Lib.hid (Below.fol h_w.out hb)
      replace BB := Lib.hid (below_next BB.out hb)
      clear hb
      have cz := row_at h_r.out (by rw [lrow_len]; exact hlt)
      have fz := AtB.fr h_r.out k
      generalize (lrow F c k).getD k 0 = zz at cz
      go_wp2_with fail
      go_roundw
      case rel =>
        refine ⟨k + 1, by omega, by go_num, ⟨?_, r_a.out.far (p := g_out) (by have := d_out.out; omega) _ _, below_set BB.out hgw _, below_set h_w.out hg _⟩⟩
        rw [← lrow_set hlt]
        exact BRow.set h_r.out k (F k)
      case measure => simp [intOf]; omega
    · obtain rfl : k = c := by omega
      go_wp2_with fail
      go_ret
      refine ⟨g_out, ?_, BB.out, hgw, ?_⟩
      · simp
      · rw [← lrow_all]; exact h_r.out
end Go.Proofs.Ytnklbnphiokpiaa
