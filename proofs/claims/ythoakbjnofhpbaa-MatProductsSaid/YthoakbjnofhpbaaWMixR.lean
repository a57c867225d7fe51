/- Contracts of the document's Near and Byte. -/
import Derived.Test.YthoakbjnofhpbaaWt0
import Derived.Test.YthoakbjnofhpbaaRQuot1
import Derived.Test.YthoakbjnofhpbaaRegG
set_option linter.unusedVariables false
set_option linter.unusedSimpArgs false
namespace Go.Proofs.Ythoakbjnofhpbaa
open Go.RowKit
abbrev BT : TypeId := 76

set_option maxRecDepth 100000 in
set_option maxHeartbeats 8000000 in
theorem r1near (u v : Value) (z b : Int) (w : World) (hu : BR w u z) (hv : BR w v b) (hz : Wd 1000 z) (hb : Wd 1000 b) (h0 : b ≠ 0) :
    Calls Try.prog 124 #[u, v] w (GiveB (nearI z b) w) := by
  obtain ⟨A, n, cap, rfl, -⟩ := id hu.form
  obtain ⟨A', n', cap', rfl, -⟩ := id hv.form
  have e1 : (z + z + b).fdiv (b + b) = nearI z b := by unfold nearI; rw [show z + z + b = 2 * z + b by omega, show b + b = 2 * b by omega]
  have w2 : Wd 1001 (z + z) := hz.add hz
  have w3 : Wd 1002 (z + z + b) := w2.add (hb.up (by omega))
  have w4 : Wd 1001 (b + b) := hb.add hb
  have C1 := Lib.hid (fun (u v : Value) w (hu : BR w u z) (hv : BR w v z) => add_any u v z z w hu hv (hz.mid (by omega)) (hz.mid (by omega)))
  have C2 := Lib.hid (fun (u v : Value) w (hu : BR w u (z + z)) (hv : BR w v b) => add_any u v (z + z) b w hu hv (w2.mid (by omega)) (hb.mid (by omega)))
  have C3 := Lib.hid (fun (u v : Value) w (hu : BR w u b) (hv : BR w v b) => add_any u v b b w hu hv (hb.mid (by omega)) (hb.mid (by omega)))
  have C4 := Lib.hid (fun (u v : Value) w (hu : BR w u (z + z + b)) (hv : BR w v (b + b)) => floor_any u v (z + z + b) (b + b) w hu hv (w3.mid (by omega)) (w4.low (by omega)) (by omega))
  rw [e1] at C4
  replace hu := Lib.hid hu
  replace hv := Lib.hid hv
  clear hz hb h0 e1 w2 w3 w4
  generalize nearI z b = q at *
  generalize z + z + b = s at *
  generalize z + z = t at *
  generalize b + b = d at *
  go_enter Try.func124, Try.ntmps124
  go_wp2_with fail
  have BB := start3 w #[.bool (sgn z), .slice A n cap] BT #[.bool (sgn b), .slice A' n' cap'] BT #[.bool false, .slice none 0 0] BT
  obtain ⟨BB, hsz, r_a, r_b, r_res⟩ := BB
  generalize (((w.alloc (.cells #[.bool (sgn z), .slice A n cap] BT)).alloc (.cells #[.bool (sgn b), .slice A' n' cap'] BT)).alloc (.cells #[.bool false, .slice none 0 0] BT)) = w0 at *
  replace BB := Lib.hid BB
  replace r_a := Lib.hid r_a
  replace r_b := Lib.hid r_b
  replace r_res := Lib.hid r_res
  clear hsz
  have h_a := Lib.hid (hu.out.below BB.out)
  have h_b := Lib.hid (hv.out.below BB.out)
  clear hu hv
  have KK := Lib.hid (fun (w9 : World) (h : Below w0.heap.size w0 w9) => (⟨cells2 (r_a.out.keep h), cells2 (r_b.out.keep h)⟩ : (w9.cell? ⟨w.heap.size, 0, none⟩ = some (.bool (sgn z)) ∧ w9.cell? ⟨w.heap.size, 1, none⟩ = some (.slice A n cap)) ∧ (w9.cell? ⟨w.heap.size + 1, 0, none⟩ = some (.bool (sgn b)) ∧ w9.cell? ⟨w.heap.size + 1, 1, none⟩ = some (.slice A' n' cap'))))
  have K0 := KK.out w0 (Below.refl _ _)
  have KD := KK.out w0.drew (below_drew (Below.refl _ _))
  have tok0 : Hid True := trivial
  have tok1 : Hid True := trivial
  have tok2 : Hid True := trivial
  go_region_held3 (fun w9 => (w9.cell? ⟨w.heap.size, 0, none⟩ = some (.bool (sgn z)) ∧ w9.cell? ⟨w.heap.size, 1, none⟩ = some (.slice A n cap)) ∧ (w9.cell? ⟨w.heap.size + 1, 0, none⟩ = some (.bool (sgn b)) ∧ w9.cell? ⟨w.heap.size + 1, 1, none⟩ = some (.slice A' n' cap')))
      (first | with_reducible exact KD | with_reducible exact K0 | with_reducible exact K_w1 | with_reducible exact K_w2 | with_reducible exact K_w3 | with_reducible exact K_w4 | with_reducible exact ⟨cells2 ((r_a.out.keep B_w4.out).far2 (by omega) _ _), cells2 ((r_b.out.keep B_w4.out).far2 (by omega) _ _)⟩)
      (first
        | (go_at_call 46
           have t_k := tok0
           refine (C1.out _ _ _ (h_a.out.below ?_) (h_a.out.below ?_)).mono ?_
           · repeat (first | with_reducible exact Below.refl _ _ | with_reducible apply below_drew | with_reducible apply below_new)
           · repeat (first | with_reducible exact Below.refl _ _ | with_reducible apply below_drew | with_reducible apply below_new)
           rintro e w1 ⟨v_t, rfl, hb, h_t⟩
           obtain ⟨A_t, n_t, cap_t, rfl, -⟩ := id h_t.form
           replace h_t := Lib.hid h_t
           have B_w1 := Lib.hid (reg_next (w0 := w0) (by repeat (first | with_reducible exact Below.refl _ _ | with_reducible apply below_drew | with_reducible apply below_new)) hb)
           have K_w1 := KK.out _ B_w1.out
           clear hb
           clear t_k tok0)
        | (go_at_call 46
           have t_k := tok1
           refine (C2.out _ _ _ h_t.out (h_b.out.below B_w1.out)).mono ?_
           rintro e w2 ⟨v_s, rfl, hb, h_s⟩
           obtain ⟨A_s, n_s, cap_s, rfl, -⟩ := id h_s.form
           replace h_s := Lib.hid h_s
           replace h_t := Lib.hid (h_t.out.below hb)
           have B_w2 := Lib.hid (below_next B_w1.out hb)
           have K_w2 := KK.out _ B_w2.out
           clear hb
           clear t_k tok1)
        | (go_at_call 46
           have t_k := tok2
           refine (C3.out _ _ _ (h_b.out.below B_w2.out) (h_b.out.below B_w2.out)).mono ?_
           rintro e w3 ⟨v_d, rfl, hb, h_d⟩
           obtain ⟨A_d, n_d, cap_d, rfl, -⟩ := id h_d.form
           replace h_d := Lib.hid h_d
           replace h_t := Lib.hid (h_t.out.below hb)
           replace h_s := Lib.hid (h_s.out.below hb)
           have B_w3 := Lib.hid (below_next B_w2.out hb)
           have K_w3 := KK.out _ B_w3.out
           clear hb
           clear t_k tok2)
        | (go_at_call 86
           refine (C4.out _ _ _ h_s.out h_d.out).mono ?_
           rintro e w4 ⟨v_q, rfl, hb, h_q⟩
           obtain ⟨A_q, n_q, cap_q, rfl, -⟩ := id h_q.form
           replace h_q := Lib.hid h_q
           replace h_t := Lib.hid (h_t.out.below hb)
           replace h_s := Lib.hid (h_s.out.below hb)
           replace h_d := Lib.hid (h_d.out.below hb)
           have B_w4 := Lib.hid (below_next B_w3.out hb)
           have K_w4 := KK.out _ B_w4.out
           obtain ⟨rc_res0, rc_res1, rf_res0, rf_res1⟩ := reads2 (r_res.out.keep B_w4.out)
           have rl_res := (r_res.out.keep B_w4.out).lt
           clear hb))
  clear KK K0 KD K_w1 K_w2 K_w3 K_w4
  replace r_a := Lib.hid (r_a.out.keep B_w4.out)
  replace r_b := Lib.hid (r_b.out.keep B_w4.out)
  replace r_res := Lib.hid (r_res.out.keep B_w4.out)
  replace h_a := Lib.hid (h_a.out.below B_w4.out)
  replace h_b := Lib.hid (h_b.out.below B_w4.out)
  replace BB := Lib.hid (below_next BB.out B_w4.out)
  clear B_w1 B_w2 B_w3 B_w4
  go_wp2_with fail
  refine bodyPost_ret (v := .agg #[.bool (sgn q), .slice A_q n_q cap_q]) (by unfold results; simp only [Try.results124]; go_simp) rfl ?_
  exact give_res BB.out h_q.out r_res.out (by omega) rfl

theorem nearI_wd {z b : Int} (hz : Wd 1000 z) (hb : Wd 1000 b) : Wd 1100 (nearI z b) := by
  have w2 : Wd 1001 (z + z) := hz.add hz
  have w3 : Wd 1002 (z + z + b) := w2.add (hb.up (by omega))
  have : nearI z b = (z + z + b).fdiv (2 * b) := by unfold nearI; rw [show z + z + b = 2 * z + b by omega]
  rw [this]; exact w3.fdiv.up (by omega)

end Go.Proofs.Ythoakbjnofhpbaa
