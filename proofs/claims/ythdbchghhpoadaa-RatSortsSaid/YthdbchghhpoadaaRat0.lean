/- Walks of the document's fractions: Of, Mul. -/
import Derived.Test.YthdbchghhpoadaaRQuot0
set_option linter.unusedVariables false
namespace Go.Proofs.Ythdbchghhpoadaa
open Go.RowKit

abbrev RT : TypeId := 54
/-- A fraction of the document, as two numbers. -/
def RR (w : World) (v : Value) (p q : Int) : Prop := ∃ A n c B m d, v = .agg #[.bool (sgn p), .slice A n c, .bool (sgn q), .slice B m d] ∧ BR w (.agg #[.bool (sgn p), .slice A n c]) p ∧ BR w (.agg #[.bool (sgn q), .slice B m d]) q
theorem RR.below {w w1 : World} {v : Value} {p q : Int} (h : RR w v p q) (hb : Below w.heap.size w w1) : RR w1 v p q := by
  obtain ⟨A, n, c, B, m, d, rfl, h1, h2⟩ := h
  exact ⟨A, n, c, B, m, d, rfl, h1.below hb, h2.below hb⟩
theorem RR.form {w : World} {v : Value} {p q : Int} (h : RR w v p q) : ∃ A n c B m d, v = .agg #[.bool (sgn p), .slice A n c, .bool (sgn q), .slice B m d] ∧ BR w (.agg #[.bool (sgn p), .slice A n c]) p ∧ BR w (.agg #[.bool (sgn q), .slice B m d]) q := h
theorem RR.parts {w : World} {s t : Bool} {A B : Option Addr} {n c m d : Nat} {p q : Int} (h : RR w (.agg #[.bool s, .slice A n c, .bool t, .slice B m d]) p q) : BR w (.agg #[.bool (sgn p), .slice A n c]) p ∧ BR w (.agg #[.bool (sgn q), .slice B m d]) q := by
  obtain ⟨A', n', c', B', m', d', e, h1, h2⟩ := h
  simp at e
  obtain ⟨-, ⟨rfl, rfl, rfl⟩, -, rfl, rfl, rfl⟩ := e
  exact ⟨h1, h2⟩
def GiveR (p q : Int) (w : World) (e : Ending) (w' : World) : Prop := ∃ r, e = .returned r ∧ Below w.heap.size w w' ∧ RR w' r p q

theorem AtB.set_at {w : World} {g : Nat} {cs : Array Value} {T : TypeId} (h : AtB w g cs T) (o : Nat) (u : Value) : AtB (w.setCell ⟨g, o, none⟩ u) g (cs.setIfInBounds o u) T := heap_set h.heap u (o := o)
theorem AtB.far4 {w : World} {g p : Nat} {cs : Array Value} {T : TypeId} (h : AtB w g cs T) (hp : g ≠ p) (u0 u1 u2 u3 : Value) : AtB ((((w.setCell ⟨p, 0, none⟩ u0).setCell ⟨p, 1, none⟩ u1).setCell ⟨p, 2, none⟩ u2).setCell ⟨p, 3, none⟩ u3) g cs T := (h.far2 hp u0 u1).far hp 2 u2 |>.far hp 3 u3
theorem BR.far4 {w : World} {v : Value} {z : Int} (h : BR w v z) {p : Nat} {c : Array Value} {T : TypeId} (hp : AtB w p c T) (ht : T ≠ 3) (u0 u1 u2 u3 : Value) :
    BR ((((w.setCell ⟨p, 0, none⟩ u0).setCell ⟨p, 1, none⟩ u1).setCell ⟨p, 2, none⟩ u2).setCell ⟨p, 3, none⟩ u3) v z :=
  (((h.far hp ht 0 u0).far (hp.set_at 0 u0) ht 1 u1).far ((hp.set_at 0 u0).set_at 1 u1) ht 2 u2).far (((hp.set_at 0 u0).set_at 1 u1).set_at 2 u2) ht 3 u3
theorem below_far4 {w w1 : World} (h : Below w.heap.size w w1) {p : Nat} (hp : w.heap.size ≤ p) (u0 u1 u2 u3 : Value) : Below w.heap.size w ((((w1.setCell ⟨p, 0, none⟩ u0).setCell ⟨p, 1, none⟩ u1).setCell ⟨p, 2, none⟩ u2).setCell ⟨p, 3, none⟩ u3) :=
  below_set (below_set (below_far2 h hp u0 u1) hp u2) hp u3
theorem AtB.set4 {w : World} {g : Nat} {a b c d : Value} {T : TypeId} (h : AtB w g #[a, b, c, d] T) (u0 u1 u2 u3 : Value) : AtB ((((w.setCell ⟨g, 0, none⟩ u0).setCell ⟨g, 1, none⟩ u1).setCell ⟨g, 2, none⟩ u2).setCell ⟨g, 3, none⟩ u3) g #[u0, u1, u2, u3] T := by
  have k := (((h.set_at 0 u0).set_at 1 u1).set_at 2 u2).set_at 3 u3
  simpa using k
theorem RR.alloc {w : World} {v : Value} {p q : Int} (h : RR w v p q) (o : Obj) : RR (w.alloc o) v p q := h.below (below_new (Below.refl _ _) o)
theorem RR.far4 {w : World} {v : Value} {p q : Int} (h : RR w v p q) {g : Nat} {cs : Array Value} (hp : AtB w g cs RT) (u0 u1 u2 u3 : Value) :
    RR ((((w.setCell ⟨g, 0, none⟩ u0).setCell ⟨g, 1, none⟩ u1).setCell ⟨g, 2, none⟩ u2).setCell ⟨g, 3, none⟩ u3) v p q := by
  obtain ⟨A, n, c, B, m, d, rfl, h1, h2⟩ := h
  exact ⟨A, n, c, B, m, d, rfl, h1.far4 hp (by decide) _ _ _ _, h2.far4 hp (by decide) _ _ _ _⟩
/-- A fraction that was stored into a result's box. -/
theorem give_rat {p q : Int} {w w1 : World} {A B : Option Addr} {n c m d g : Nat} {cs : Array Value} (hb : Below w.heap.size w w1) (h1 : BR w1 (.agg #[.bool (sgn p), .slice A n c]) p) (h2 : BR w1 (.agg #[.bool (sgn q), .slice B m d]) q) (hp : AtB w1 g cs RT) (hpw : w.heap.size ≤ g) :
    GiveR p q w (.returned (.agg #[.bool (sgn p), .slice A n c, .bool (sgn q), .slice B m d])) ((((w1.setCell ⟨g, 0, none⟩ (.bool (sgn p))).setCell ⟨g, 1, none⟩ (.slice A n c)).setCell ⟨g, 2, none⟩ (.bool (sgn q))).setCell ⟨g, 3, none⟩ (.slice B m d)) :=
  ⟨_, rfl, below_far4 hb hpw _ _ _ _, _, _, _, _, _, _, rfl, h1.far4 hp (by decide) _ _ _ _, h2.far4 hp (by decide) _ _ _ _⟩

set_option maxHeartbeats 1000000 in
theorem rof (n d : Int) (hn : I64 n) (hd : I64 d) (w : World) : Calls Try.prog 44 #[.int .i64 n, .int .i64 d] w (GiveR n d w) := by
  have C1 := Lib.hid (fun w => of_any n hn w)
  have C2 := Lib.hid (fun w => of_any d hd w)
  clear hn hd
  go_enter Try.func44, Try.ntmps44
  go_wp2_with fail
  have BB := start1 w #[.bool false, .slice none 0 0, .bool false, .slice none 0 0] RT
  obtain ⟨BB, hsz, r_res⟩ := BB
  generalize (w.alloc (.cells #[.bool false, .slice none 0 0, .bool false, .slice none 0 0] RT)) = w0 at *
  replace BB := Lib.hid BB
  replace r_res := Lib.hid r_res
  clear hsz
  refine (C1.out _).mono ?_
  rintro e w1 ⟨v_n, rfl, hb, h_n⟩
  obtain ⟨A_n, n_n, cap_n, rfl, -⟩ := id h_n.form
  replace h_n := Lib.hid h_n
  replace r_res := Lib.hid (r_res.out.keep hb)
  replace BB := Lib.hid (below_next BB.out hb)
  clear hb
  go_wp2_with fail
  refine (C2.out _).mono ?_
  rintro e w2 ⟨v_d, rfl, hb, h_d⟩
  obtain ⟨A_d, n_d, cap_d, rfl, -⟩ := id h_d.form
  replace h_d := Lib.hid h_d
  replace r_res := Lib.hid (r_res.out.keep hb)
  replace h_n := Lib.hid (h_n.out.below hb)
  replace BB := Lib.hid (below_next BB.out hb)
  clear hb
  obtain ⟨c_res0, c_res1, c_res2, c_res3, f_res0, f_res1, f_res2, f_res3⟩ := reads4 r_res.out
  have l_res := r_res.out.lt
  go_wp2_with fail
  refine bodyPost_ret (v := .agg #[.bool (sgn n), .slice A_n n_n cap_n, .bool (sgn d), .slice A_d n_d cap_d]) (by unfold results; simp only [Try.results44]; go_simp) rfl ?_
  exact give_rat BB.out h_n.out h_d.out r_res.out (by omega)

set_option maxHeartbeats 4000000 in
set_option maxRecDepth 100000 in
theorem rmul (u v : Value) (p q x y : Int) {a b c d : Nat} (hp : Wd a p) (hq : Wd b q) (hx : Wd c x) (hy : Wd d y) (hm : a ≤ 1500 ∧ b ≤ 1500 ∧ c ≤ 1500 ∧ d ≤ 1500) (w : World) (hu : RR w u p q) (hv : RR w v x y) : Calls Try.prog 45 #[u, v] w (GiveR (p * x) (q * y) w) := by
  obtain ⟨A1, n1, c1, B1, m1, d1, rfl, hp1, hq1⟩ := hu
  obtain ⟨A2, n2, c2, B2, m2, d2, rfl, hp2, hq2⟩ := hv
  have C1 := Lib.hid (fun (u v : Value) w (hu : BR w u p) (hv : BR w v x) => mul_any u v p x w hu hv (hp.mid (by omega)) (hx.mid (by omega)))
  have C2 := Lib.hid (fun (u v : Value) w (hu : BR w u q) (hv : BR w v y) => mul_any u v q y w hu hv (hq.mid (by omega)) (hy.mid (by omega)))
  replace hp1 := Lib.hid hp1; replace hq1 := Lib.hid hq1; replace hp2 := Lib.hid hp2; replace hq2 := Lib.hid hq2
  clear hp hq hx hy hm
  generalize p * x = P at *
  generalize q * y = Q at *
  go_enter Try.func45, Try.ntmps45
  go_wp2_with fail
  have BB := start3 w #[.bool (sgn p), .slice A1 n1 c1, .bool (sgn q), .slice B1 m1 d1] RT #[.bool (sgn x), .slice A2 n2 c2, .bool (sgn y), .slice B2 m2 d2] RT #[.bool false, .slice none 0 0, .bool false, .slice none 0 0] RT
  obtain ⟨BB, hsz, r_a, r_b, r_res⟩ := BB
  generalize (((w.alloc (.cells #[.bool (sgn p), .slice A1 n1 c1, .bool (sgn q), .slice B1 m1 d1] RT)).alloc (.cells #[.bool (sgn x), .slice A2 n2 c2, .bool (sgn y), .slice B2 m2 d2] RT)).alloc (.cells #[.bool false, .slice none 0 0, .bool false, .slice none 0 0] RT)) = w0 at *
  replace BB := Lib.hid BB
  replace r_a := Lib.hid r_a
  replace r_b := Lib.hid r_b
  replace r_res := Lib.hid r_res
  clear hsz
  have h_p := Lib.hid (hp1.out.below BB.out)
  have h_q := Lib.hid (hq1.out.below BB.out)
  have h_x := Lib.hid (hp2.out.below BB.out)
  have h_y := Lib.hid (hq2.out.below BB.out)
  have KK := Lib.hid (fun (w9 : World) (h : Below w0.heap.size w0 w9) => (⟨cells4 (r_a.out.keep h), cells4 (r_b.out.keep h)⟩ : (w9.cell? ⟨w.heap.size, 0, none⟩ = some (.bool (sgn p)) ∧ w9.cell? ⟨w.heap.size, 1, none⟩ = some (.slice A1 n1 c1) ∧ w9.cell? ⟨w.heap.size, 2, none⟩ = some (.bool (sgn q)) ∧ w9.cell? ⟨w.heap.size, 3, none⟩ = some (.slice B1 m1 d1)) ∧ (w9.cell? ⟨w.heap.size + 1, 0, none⟩ = some (.bool (sgn x)) ∧ w9.cell? ⟨w.heap.size + 1, 1, none⟩ = some (.slice A2 n2 c2) ∧ w9.cell? ⟨w.heap.size + 1, 2, none⟩ = some (.bool (sgn y)) ∧ w9.cell? ⟨w.heap.size + 1, 3, none⟩ = some (.slice B2 m2 d2))))
  have K0 := KK.out w0 (Below.refl _ _)
  have KD := KK.out w0.drew (below_drew (Below.refl _ _))
  have tok0 : Hid True := trivial
  have tok1 : Hid True := trivial
  go_region_held3 (fun w9 => (w9.cell? ⟨w.heap.size, 0, none⟩ = some (.bool (sgn p)) ∧ w9.cell? ⟨w.heap.size, 1, none⟩ = some (.slice A1 n1 c1) ∧ w9.cell? ⟨w.heap.size, 2, none⟩ = some (.bool (sgn q)) ∧ w9.cell? ⟨w.heap.size, 3, none⟩ = some (.slice B1 m1 d1)) ∧ (w9.cell? ⟨w.heap.size + 1, 0, none⟩ = some (.bool (sgn x)) ∧ w9.cell? ⟨w.heap.size + 1, 1, none⟩ = some (.slice A2 n2 c2) ∧ w9.cell? ⟨w.heap.size + 1, 2, none⟩ = some (.bool (sgn y)) ∧ w9.cell? ⟨w.heap.size + 1, 3, none⟩ = some (.slice B2 m2 d2)))
      (first | with_reducible exact KD | with_reducible exact K0 | with_reducible exact K_w1 | with_reducible exact K_w2 | with_reducible exact ⟨cells4 ((r_a.out.keep B_w2.out).far4 (by omega) _ _ _ _), cells4 ((r_b.out.keep B_w2.out).far4 (by omega) _ _ _ _)⟩)
      (first
        | (go_at_call 58
           have t_k := tok0
           refine (C1.out _ _ _ (h_p.out.below ?_) (h_x.out.below ?_)).mono ?_
           · repeat (first | with_reducible exact Below.refl _ _ | with_reducible apply below_drew | with_reducible apply below_new)
           · repeat (first | with_reducible exact Below.refl _ _ | with_reducible apply below_drew | with_reducible apply below_new)
           rintro e w1 ⟨v_s, rfl, hb, h_s⟩
           obtain ⟨A_s, n_s, cap_s, rfl, -⟩ := id h_s.form
           replace h_s := Lib.hid h_s
           have B_w1 := Lib.hid (reg_next (w0 := w0) (by repeat (first | with_reducible exact Below.refl _ _ | with_reducible apply below_drew | with_reducible apply below_new)) hb)
           have K_w1 := KK.out _ B_w1.out
           clear hb
           clear t_k tok0)
        | (go_at_call 58
           have t_k := tok1
           refine (C2.out _ _ _ (h_q.out.below B_w1.out) (h_y.out.below B_w1.out)).mono ?_
           rintro e w2 ⟨v_t, rfl, hb, h_t⟩
           obtain ⟨A_t, n_t, cap_t, rfl, -⟩ := id h_t.form
           replace h_t := Lib.hid h_t
           replace h_s := Lib.hid (h_s.out.below hb)
           have B_w2 := Lib.hid (below_next B_w1.out hb)
           have K_w2 := KK.out _ B_w2.out
           obtain ⟨rc_res0, rc_res1, rc_res2, rc_res3, rf_res0, rf_res1, rf_res2, rf_res3⟩ := reads4 (r_res.out.keep B_w2.out)
           have rl_res := (r_res.out.keep B_w2.out).lt
           clear hb
           clear t_k tok1))
  clear KK K0 KD K_w1 K_w2
  replace r_a := Lib.hid (r_a.out.keep B_w2.out)
  replace r_b := Lib.hid (r_b.out.keep B_w2.out)
  replace r_res := Lib.hid (r_res.out.keep B_w2.out)
  replace h_p := Lib.hid (h_p.out.below B_w2.out)
  replace h_q := Lib.hid (h_q.out.below B_w2.out)
  replace h_x := Lib.hid (h_x.out.below B_w2.out)
  replace h_y := Lib.hid (h_y.out.below B_w2.out)
  replace BB := Lib.hid (below_next BB.out B_w2.out)
  clear B_w1 B_w2
  go_wp2_with fail
  refine bodyPost_ret (v := .agg #[.bool (sgn P), .slice A_s n_s cap_s, .bool (sgn Q), .slice A_t n_t cap_t]) (by unfold results; simp only [Try.results45]; go_simp) rfl ?_
  exact give_rat BB.out h_s.out h_t.out r_res.out (by omega)

end Go.Proofs.Ythdbchghhpoadaa
