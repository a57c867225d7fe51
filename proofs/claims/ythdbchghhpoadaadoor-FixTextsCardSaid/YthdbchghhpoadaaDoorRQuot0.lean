/- Walks of the document's quotients: ref02's Floor, Left. -/
import Derived.Test.YthdbchghhpoadaaDoorFlo4
import Derived.Test.YthdbchghhpoadaaDoorJC
import Derived.Deep.DeepCutAuto
set_option linter.unusedVariables false
namespace Go.Proofs.YthdbchghhpoadaaDoor
open Go.RowKit

theorem br_zero (w : World) : BR w (.agg #[.bool false, .slice none 0 0]) 0 := ⟨_, rfl, _, DR.nil w, Canon.nil, rfl⟩
theorem br_set {z : Int} {w w1 w2 : World} {A : Option Addr} {n cap p : Nat} {c : Array Value} (hb : Below w.heap.size w w1) (hn : BR w1 (.agg #[.bool (sgn z), .slice A n cap]) z) (hp : AtB w1 p c 24) (hpw : w.heap.size ≤ p)
    (e2 : w2 = (w1.setCell ⟨p, 0, none⟩ (.bool (sgn z))).setCell ⟨p, 1, none⟩ (.slice A n cap)) : Below w.heap.size w w2 ∧ BR w2 (.agg #[.bool (sgn z), .slice A n cap]) z := by
  obtain ⟨r, e, h1, h2⟩ := give_res hb hn hp hpw e2
  injection e with e; subst e
  exact ⟨h1, h2⟩
/-- A number of the document and a bool. -/
def GiveBB (z : Int) (b : Bool) (w : World) (e : Ending) (w' : World) : Prop := ∃ r, e = .returned (.tuple #[r, .bool b]) ∧ Below w.heap.size w w' ∧ BR w' r z

set_option maxHeartbeats 1000000 in
theorem r2floor_zero (u : Value) (z : Int) (w : World) (hu : BR w u z) : Calls Tryd.prog 33 #[u, .int .i64 0] w (GiveBB 0 false w) := by
  obtain ⟨A, n, cap, rfl, -⟩ := id hu.form
  clear hu
  go_enter Tryd.func33, Tryd.ntmps33
  go_wp2
  exact bodyPost_ret (v := .tuple #[.agg #[.bool false, .slice none 0 0], .bool false]) (by unfold results; simp only [Tryd.results33]; go_simp) rfl ⟨_, rfl, by repeat (first | exact Below.refl _ _ | apply below_new), br_zero _⟩

set_option maxHeartbeats 1000000 in
theorem r2floor (u : Value) (z b : Int) (w : World) (hu : BR w u z) (hz : Wd 1000 z) (hb : I64 b) (h0 : b ≠ 0) : Calls Tryd.prog 33 #[u, .int .i64 b] w (GiveBB (z.fdiv b) true w) := by
  obtain ⟨A, n, cap, rfl, -⟩ := id hu.form
  have CO := Lib.hid (fun w => of_any b hb w)
  have CF := Lib.hid (fun (u v : Value) w (hu : BR w u z) (hv : BR w v b) => floor_any u v z b w hu hv (hz.mid (by omega)) ((i64_wd hb).low (by omega)) h0)
  have hb1 : (b == 0) = false := by simpa using h0
  replace hu := Lib.hid hu
  clear hz hb h0
  generalize z.fdiv b = q at *
  go_enter Tryd.func33, Tryd.ntmps33
  go_wp2_with fail
  have BB := start2 w #[.bool (sgn z), .slice A n cap] 24 #[.bool false, .slice none 0 0] 24
  obtain ⟨BB, hsz, r_a, r_res⟩ := BB
  generalize ((w.alloc (.cells #[.bool (sgn z), .slice A n cap] 24)).alloc (.cells #[.bool false, .slice none 0 0] 24)) = w0 at *
  replace BB := Lib.hid BB
  replace r_a := Lib.hid r_a
  replace r_res := Lib.hid r_res
  clear hsz
  have h_a := Lib.hid (hu.out.below BB.out)
  have KK := Lib.hid (fun (w9 : World) (h : Below w0.heap.size w0 w9) => (cells2 (r_a.out.keep h) : (w9.cell? ⟨w.heap.size, 0, none⟩ = some (.bool (sgn z)) ∧ w9.cell? ⟨w.heap.size, 1, none⟩ = some (.slice A n cap))))
  have K0 := KK.out w0 (Below.refl _ _)
  have KD := KK.out w0.drew (below_drew (Below.refl _ _))
  go_region_held3 (fun w9 => (w9.cell? ⟨w.heap.size, 0, none⟩ = some (.bool (sgn z)) ∧ w9.cell? ⟨w.heap.size, 1, none⟩ = some (.slice A n cap)))
      (first | with_reducible exact KD | with_reducible exact K0 | with_reducible exact K_w1 | with_reducible exact K_w2 | with_reducible exact cells2 ((r_a.out.keep B_w2.out).far2 (by omega) _ _))
      (first
        | (go_at_call 6
           refine (CO.out _).mono ?_
           rintro e w1 ⟨v_d, rfl, hb, h_d⟩
           obtain ⟨A_d, n_d, cap_d, rfl, -⟩ := id h_d.form
           replace h_d := Lib.hid h_d
           have B_w1 := Lib.hid (reg_next (w0 := w0) (by repeat (first | with_reducible exact Below.refl _ _ | with_reducible apply below_drew | with_reducible apply below_new)) hb)
           have K_w1 := KK.out _ B_w1.out
           clear hb)
        | (go_at_call 43
           refine (CF.out _ _ _ (h_a.out.below B_w1.out) h_d.out).mono ?_
           rintro e w2 ⟨v_q, rfl, hb, h_q⟩
           obtain ⟨A_q, n_q, cap_q, rfl, -⟩ := id h_q.form
           replace h_q := Lib.hid h_q
           replace h_d := Lib.hid (h_d.out.below hb)
           have B_w2 := Lib.hid (below_next B_w1.out hb)
           have K_w2 := KK.out _ B_w2.out
           obtain ⟨rc_res0, rc_res1, rf_res0, rf_res1⟩ := reads2 (r_res.out.keep B_w2.out)
           have rl_res := (r_res.out.keep B_w2.out).lt
           clear hb))
  clear KK K0 KD K_w1 K_w2
  replace r_a := Lib.hid (r_a.out.keep B_w2.out)
  replace r_res := Lib.hid (r_res.out.keep B_w2.out)
  replace h_a := Lib.hid (h_a.out.below B_w2.out)
  replace BB := Lib.hid (below_next BB.out B_w2.out)
  clear B_w1 B_w2
  go_wp2_with fail
  have HF := br_set BB.out h_q.out r_res.out (by omega) rfl
  exact bodyPost_ret (v := .tuple #[.agg #[.bool (sgn q), .slice A_q n_q cap_q], .bool true]) (by unfold results; simp only [Tryd.results33]; go_simp) rfl ⟨_, rfl, HF.1, HF.2⟩

end Go.Proofs.YthdbchghhpoadaaDoor
