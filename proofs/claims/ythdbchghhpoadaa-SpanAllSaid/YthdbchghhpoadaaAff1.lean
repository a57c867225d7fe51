/- Contracts of the affine maps: New, Det, Lines. -/
import Derived.Test.YthdbchghhpoadaaAff0
set_option linter.unusedVariables false
namespace Go.Proofs.Ythdbchghhpoadaa
open Go.RowKit

abbrev LN : TypeId := 99
abbrev afCells (c0 c1 c2 c3 c4 c5 : Int) : Array Value := #[.int .i64 (65536 * c4), .int .i64 (-65536 * c1), .int .i64 (c1 * c5 - c4 * c2), .int .i64 (-65536 * c3), .int .i64 (65536 * c0), .int .i64 (c3 * c2 - c0 * c5), .int .i64 (detI c0 c1 c3 c4)]
/-- What is told of a map's numbers: where it lies, or why there is none. -/
def GiveAf (zs : List Int) (w : World) (e : Ending) (w' : World) : Prop := ∃ p, e = .returned (.tuple #[p, .int .i64 (afC zs)]) ∧ Below w.heap.size w w' ∧
  (afC zs ≠ 0 → p = .pointer none) ∧ (afC zs = 0 → ∃ g c0 c1 c2 c3 c4 c5, p = .pointer (some ⟨g, 0, none⟩) ∧ zs = [c0, c1, c2, c3, c4, c5] ∧ AM c0 c1 c2 c3 c4 c5 ∧ AtB w' g (afCells c0 c1 c2 c3 c4 c5) AT)
theorem AtB.set_n {w : World} {g : Nat} {cs : Array Value} {T : TypeId} (h : AtB w g cs T) (o : Nat) (u : Value) : AtB (w.setCell ⟨g, o, none⟩ u) g (cs.setIfInBounds o u) T := heap_set h.heap u (o := o)
theorem AtB.sets7 {w : World} {g : Nat} {a0 a1 a2 a3 a4 a5 a6 : Value} {T : TypeId} (h : AtB w g #[a0, a1, a2, a3, a4, a5, a6] T) (u0 u1 u2 : Value) :
    AtB (((w.setCell ⟨g, 0, none⟩ u0).setCell ⟨g, 1, none⟩ u1).setCell ⟨g, 2, none⟩ u2) g #[u0, u1, u2, a3, a4, a5, a6] T ∧ AtB (((w.setCell ⟨g, 3, none⟩ u0).setCell ⟨g, 4, none⟩ u1).setCell ⟨g, 5, none⟩ u2) g #[a0, a1, a2, u0, u1, u2, a6] T := by
  constructor
  · have k := ((h.set_n 0 u0).set_n 1 u1).set_n 2 u2
    simpa using k
  · have k := ((h.set_n 3 u0).set_n 4 u1).set_n 5 u2
    simpa using k

set_option maxRecDepth 100000 in
set_option maxHeartbeats 8000000 in
theorem afnew (v : Value) (zs : List Int) (w : World) (hv : IS w v zs) : Calls Try.prog 29 #[v] w (GiveAf zs w) := by
  have CR := Lib.hid (fun w hv => afcheck v zs w hv)
  by_cases h0 : afC zs = 0
  · obtain ⟨c0, c1, c2, c3, c4, c5, rfl, hM⟩ := afC_zero h0
    rw [h0] at CR
    have HC := Lib.hid h0
    have CD := Lib.hid (fun w hv => afdet v c0 c1 c2 c3 c4 c5 hM.a hM.b hM.d hM.e w hv)
    have hv' := Lib.hid hv
    obtain ⟨b, off, cap, rfl, hcap, h2, hlt, hS⟩ := hv.six
    have KS := Lib.hid (fun w9 hb => (hS.keep hlt hb : S6 b off c0 c1 c2 c3 c4 c5 w9))
    have m1 := mul_in hM.b hM.f
    have m2 := mul_in hM.e hM.c
    have m3 := mul_in hM.d hM.c
    have m4 := mul_in hM.a hM.f
    have hB := Lib.hid hM
    obtain ⟨ha, hb, hc, hd, he, hf, -⟩ := hM
    have i1 : IntKind.i64.wrap (65536 * c4) = 65536 * c4 := iw (by omega)
    have i2 : IntKind.i64.wrap (-65536 * c1) = -65536 * c1 := iw (by omega)
    have i3 : IntKind.i64.wrap (c1 * c5) = c1 * c5 := iw (by omega)
    have i4 : IntKind.i64.wrap (c4 * c2) = c4 * c2 := iw (by omega)
    have i5 : IntKind.i64.wrap (c1 * c5 - c4 * c2) = c1 * c5 - c4 * c2 := iw (by omega)
    have i6 : IntKind.i64.wrap (-65536 * c3) = -65536 * c3 := iw (by omega)
    have i7 : IntKind.i64.wrap (65536 * c0) = 65536 * c0 := iw (by omega)
    have i8 : IntKind.i64.wrap (c3 * c2) = c3 * c2 := iw (by omega)
    have i9 : IntKind.i64.wrap (c0 * c5) = c0 * c5 := iw (by omega)
    have i10 : IntKind.i64.wrap (c3 * c2 - c0 * c5) = c3 * c2 - c0 * c5 := iw (by omega)
    clear hv hS h0 ha hb hc hd he hf m1 m2 m3 m4
    generalize hDe : detI c0 c1 c3 c4 = D at *
    have hDe := Lib.hid hDe
    go_enter Try.func29, Try.ntmps29
    go_wp2_with fail
    have BB : Hid (Below w.heap.size w w) := Below.refl _ _
    have h_v := Lib.hid (hv'.out.below BB.out)
    refine (CR.out _ h_v.out).mono ?_
    rintro e w9 ⟨rfl, m_q, rfl⟩
    have hb := below_drawn (Below.refl w.heap.size w) m_q
    generalize w.drewN m_q = w1 at *
    replace h_v := Lib.hid (IS.below h_v.out hb)
    replace BB := Lib.hid (below_next BB.out hb)
    clear hb
    go_wp2_with fail
    refine (CD.out _ h_v.out).mono ?_
    rintro e w9 ⟨rfl, m_q, rfl⟩
    have hb := below_drawn (Below.refl w1.heap.size w1) m_q
    generalize w1.drewN m_q = w2 at *
    replace h_v := Lib.hid (IS.below h_v.out hb)
    replace BB := Lib.hid (below_next BB.out hb)
    clear hb
    clear CR CD
    go_wp2_with fail
    have d_m := Lib.hid (And.intro BB.out.size (True.intro))
    obtain ⟨hb, r_m⟩ := laid w2 #[.int .i64 0, .int .i64 0, .int .i64 0, .int .i64 0, .int .i64 0, .int .i64 0, .int .i64 D] AT
    replace h_v := Lib.hid (IS.below h_v.out hb)
    replace BB := Lib.hid (below_next BB.out hb)
    replace r_m := Lib.hid r_m
    clear hb
    generalize w2.alloc (.cells #[.int .i64 0, .int .i64 0, .int .i64 0, .int .i64 0, .int .i64 0, .int .i64 0, .int .i64 D] AT) = w3 at *
    generalize w2.heap.size = g_m at *
    have dm := d_m.out.1
    have K0 := KS.out w3 BB.out
    obtain ⟨c_m0, c_m1, c_m2, c_m3, c_m4, c_m5, c_m6, f_m0, f_m1, f_m2, f_m3, f_m4, f_m5, f_m6⟩ := reads7 r_m.out
    have l_m := r_m.out.lt
    have K0 := KS.out w3 BB.out
    have KD := KS.out w3.drew (below_drew BB.out)
    have KK := Lib.hid (fun w9 h => KS.out w9 (below_next BB.out h))
    go_region_held3 (fun w9 => w9.cell? ⟨b, off, none⟩ = some (.int .i64 c0) ∧ w9.cell? ⟨b, off + 1, none⟩ = some (.int .i64 c1) ∧ w9.cell? ⟨b, off + 2, none⟩ = some (.int .i64 c2) ∧ w9.cell? ⟨b, off + 3, none⟩ = some (.int .i64 c3) ∧ w9.cell? ⟨b, off + 4, none⟩ = some (.int .i64 c4) ∧ w9.cell? ⟨b, off + 5, none⟩ = some (.int .i64 c5))
      (first | with_reducible exact KD | with_reducible exact K0 | (refine KS.out _ ?_; repeat' (first | with_reducible exact BB.out | with_reducible apply below_new | with_reducible apply below_drew | (with_reducible refine below_set ?_ ?_ _) | omega)))
      (fail)
    all_goals clear KK K0 KD
    clear c_m0 c_m1 c_m2 c_m3 c_m4 c_m5 c_m6 f_m0 f_m1 f_m2 f_m3 f_m4 f_m5 f_m6 l_m h_v
    replace r_m := Lib.hid (AtB.drew (AtB.sets7 r_m.out (.int .i64 (65536 * c4)) (.int .i64 (-65536 * c1)) (.int .i64 (c1 * c5 - c4 * c2))).1)
    replace BB := Lib.hid (below_drew (below_set (below_set (below_set BB.out dm (o := 0) (.int .i64 (65536 * c4))) dm (o := 1) (.int .i64 (-65536 * c1))) dm (o := 2) (.int .i64 (c1 * c5 - c4 * c2))))
    generalize (((w3.setCell ⟨g_m, 0, none⟩ (.int .i64 (65536 * c4))).setCell ⟨g_m, 1, none⟩ (.int .i64 (-65536 * c1))).setCell ⟨g_m, 2, none⟩ (.int .i64 (c1 * c5 - c4 * c2))).drew = w5 at *
    obtain ⟨c_m0, c_m1, c_m2, c_m3, c_m4, c_m5, c_m6, f_m0, f_m1, f_m2, f_m3, f_m4, f_m5, f_m6⟩ := reads7 r_m.out
    have l_m := r_m.out.lt
    have K0 := KS.out w5 BB.out
    go_wp2_with fail
    have K0 := KS.out w5 BB.out
    have KD := KS.out w5.drew (below_drew BB.out)
    have KK := Lib.hid (fun w9 h => KS.out w9 (below_next BB.out h))
    go_region_held3 (fun w9 => w9.cell? ⟨b, off, none⟩ = some (.int .i64 c0) ∧ w9.cell? ⟨b, off + 1, none⟩ = some (.int .i64 c1) ∧ w9.cell? ⟨b, off + 2, none⟩ = some (.int .i64 c2) ∧ w9.cell? ⟨b, off + 3, none⟩ = some (.int .i64 c3) ∧ w9.cell? ⟨b, off + 4, none⟩ = some (.int .i64 c4) ∧ w9.cell? ⟨b, off + 5, none⟩ = some (.int .i64 c5))
      (first | with_reducible exact KD | with_reducible exact K0 | (refine KS.out _ ?_; repeat' (first | with_reducible exact BB.out | with_reducible apply below_new | with_reducible apply below_drew | (with_reducible refine below_set ?_ ?_ _) | omega)))
      (fail)
    all_goals clear KK K0 KD
    clear c_m0 c_m1 c_m2 c_m3 c_m4 c_m5 c_m6 f_m0 f_m1 f_m2 f_m3 f_m4 f_m5 f_m6 l_m
    replace r_m := Lib.hid (AtB.drew (AtB.sets7 r_m.out (.int .i64 (-65536 * c3)) (.int .i64 (65536 * c0)) (.int .i64 (c3 * c2 - c0 * c5))).2)
    replace BB := Lib.hid (below_drew (below_set (below_set (below_set BB.out dm (o := 3) (.int .i64 (-65536 * c3))) dm (o := 4) (.int .i64 (65536 * c0))) dm (o := 5) (.int .i64 (c3 * c2 - c0 * c5))))
    go_wp2_with fail
    refine bodyPost_ret (v := .tuple #[.pointer (some ⟨g_m, 0, none⟩), .int .i64 0]) (by unfold results; simp only [Try.results29]; go_simp) rfl ?_
    refine ⟨_, by rw [HC.out], BB.out, fun h => absurd HC.out h, fun _ => ⟨_, _, _, _, _, _, _, rfl, rfl, hB.out, ?_⟩⟩
    have r := r_m.out
    rw [← hDe.out] at r
    exact r
  · have hne := Lib.hid h0
    have h0 : (afC zs != 0) = true := by simpa using h0
    obtain ⟨A, cap, rfl⟩ := hv.form
    have hv' := Lib.hid hv
    clear hv
    generalize hk : afC zs = k at *
    have hk := Lib.hid hk
    go_enter Try.func29, Try.ntmps29
    go_wp2_with fail
    have BB : Hid (Below w.heap.size w w) := Below.refl _ _
    refine (CR.out _ hv'.out).mono ?_
    rintro e w9 ⟨rfl, m_q, rfl⟩
    have hb := below_drawn (Below.refl w.heap.size w) m_q
    generalize w.drewN m_q = w1 at *
    replace BB := Lib.hid (below_next BB.out hb)
    clear hb
    go_wp2_with fail
    refine bodyPost_ret (v := .tuple #[.pointer none, .int .i64 k]) (by unfold results; simp only [Try.results29]; go_simp) rfl ?_
    exact ⟨_, by rw [hk.out], BB.out, fun _ => rfl, fun h => absurd (hk.out.symm.trans h) hne.out⟩

/-- The numbers of columns, and of rows. -/
def GiveLn (a b : Value) (w : World) (e : Ending) (w' : World) : Prop := e = .returned (.tuple #[a, b]) ∧ Below w.heap.size w w'
theorem AtB.far3 {w : World} {g p : Nat} {cs : Array Value} {T : TypeId} (h : AtB w g cs T) (hp : g ≠ p) (u0 u1 u2 : Value) : AtB (((w.setCell ⟨p, 0, none⟩ u0).setCell ⟨p, 1, none⟩ u1).setCell ⟨p, 2, none⟩ u2) g cs T := ((h.far hp 0 u0).far hp 1 u1).far hp 2 u2
theorem AtB.set3 {w : World} {g : Nat} {a b c : Value} {T : TypeId} (h : AtB w g #[a, b, c] T) (u0 u1 u2 : Value) : AtB (((w.setCell ⟨g, 0, none⟩ u0).setCell ⟨g, 1, none⟩ u1).setCell ⟨g, 2, none⟩ u2) g #[u0, u1, u2] T := by
  have k := ((h.set_n 0 u0).set_n 1 u1).set_n 2 u2
  simpa using k
theorem below_far3 {w w1 : World} (h : Below w.heap.size w w1) {p : Nat} (hp : w.heap.size ≤ p) (u0 u1 u2 : Value) : Below w.heap.size w (((w1.setCell ⟨p, 0, none⟩ u0).setCell ⟨p, 1, none⟩ u1).setCell ⟨p, 2, none⟩ u2) := below_set (below_set (below_set h hp u0) hp u1) hp u2
end Go.Proofs.Ythdbchghhpoadaa
