/- Contracts of span.line's from, column, row, of within and its tests. -/
import Derived.Test.YthdbchghhpoadaaSp0
import Derived.Test.YthdbchghhpoadaaSpP
set_option linter.unusedVariables false
set_option linter.unusedSimpArgs false
namespace Go.Proofs.Ythdbchghhpoadaa
open Go.RowKit
abbrev LNT : TypeId := 71
abbrev FNT : TypeId := 104
def colI (c0 c1 c2 c3 c4 c5 y x : Int) : Int := rowF (65536 * c4) (-65536 * c1) (c1 * c5 - c4 * c2) (detI c0 c1 c3 c4) y x
def rowI (c0 c1 c2 c3 c4 c5 y x : Int) : Int := rowF (-65536 * c3) (65536 * c0) (c3 * c2 - c0 * c5) (detI c0 c1 c3 c4) y x
theorem cut_in (z : Int) : -70368744177664 ≤ cutI z ∧ cutI z ≤ 70368744177664 := by unfold cutI; split <;> (try split) <;> omega
abbrev lineV (g : Nat) (W H y : Int) : Value := .agg #[.pointer (some ⟨g, 0, none⟩), .int .i64 W, .int .i64 H, .int .i64 y]
abbrev lineC (g : Nat) (W H y : Int) : Array Value := #[.pointer (some ⟨g, 0, none⟩), .int .i64 W, .int .i64 H, .int .i64 y]
set_option maxRecDepth 100000 in
set_option maxHeartbeats 2000000 in
theorem lfrom (g : Nat) (c0 c1 c2 c3 c4 c5 W H y x : Int) (hM : AM c0 c1 c2 c3 c4 c5) (hx : 0 ≤ x ∧ x ≤ 32768) (hy : 0 ≤ y ∧ y ≤ 32768) (w : World) (hm : AtB w g (afCells c0 c1 c2 c3 c4 c5) AT) :
    Calls Try.prog 91 #[lineV g W H y, .int .i64 x] w fun e w' => e = .returned (.tuple #[.int .i64 (colI c0 c1 c2 c3 c4 c5 y x), .int .i64 (rowI c0 c1 c2 c3 c4 c5 y x)]) ∧ Below w.heap.size w w' := by
  have CA := Lib.hid (fun w hm => afat_ok g _ _ _ _ _ _ _ x y 1 (rightI_iff.2 ⟨⟨by omega, by omega⟩, ⟨by omega, by omega⟩, by omega, by omega⟩) hM.lines.1 hM.lines.2 w hm)
  have C1 := Lib.hid (fun w => nearest (plU (65536 * c4) (-65536 * c1) (c1 * c5 - c4 * c2) (detI c0 c1 c3 c4) x y 1) (cut_in _).1 (cut_in _).2 w)
  have C2 := Lib.hid (fun w => nearest (plU (-65536 * c3) (65536 * c0) (c3 * c2 - c0 * c5) (detI c0 c1 c3 c4) x y 1) (cut_in _).1 (cut_in _).2 w)
  have r1 : Hid (colI c0 c1 c2 c3 c4 c5 y x = (plU (65536 * c4) (-65536 * c1) (c1 * c5 - c4 * c2) (detI c0 c1 c3 c4) x y 1 + 32768) / 65536) := rfl
  have r2 : Hid (rowI c0 c1 c2 c3 c4 c5 y x = (plU (-65536 * c3) (65536 * c0) (c3 * c2 - c0 * c5) (detI c0 c1 c3 c4) x y 1 + 32768) / 65536) := rfl
  rw [← r1.out] at C1
  rw [← r2.out] at C2
  generalize plU (65536 * c4) (-65536 * c1) (c1 * c5 - c4 * c2) (detI c0 c1 c3 c4) x y 1 = U at *
  generalize plU (-65536 * c3) (65536 * c0) (c3 * c2 - c0 * c5) (detI c0 c1 c3 c4) x y 1 = V at *
  generalize colI c0 c1 c2 c3 c4 c5 y x = A at *
  generalize rowI c0 c1 c2 c3 c4 c5 y x = B at *
  replace hm := Lib.hid hm
  clear hM hx hy r1 r2
  go_enter Try.func91, Try.ntmps91
  go_upto_region 1 with fail
  have BB := start1 w #[.pointer (some ⟨g, 0, none⟩), .int .i64 W, .int .i64 H, .int .i64 y] LNT
  obtain ⟨BB, hsz, r_l⟩ := BB
  generalize (w.alloc (.cells #[.pointer (some ⟨g, 0, none⟩), .int .i64 W, .int .i64 H, .int .i64 y] LNT)) = w0 at *
  replace BB := Lib.hid BB
  replace r_l := Lib.hid r_l
  clear hsz
  obtain ⟨c_l0, c_l1, c_l2, c_l3, f_l0, f_l1, f_l2, f_l3⟩ := reads4 r_l.out
  have l_l := r_l.out.lt
  go_wp2_with fail
  refine (CA.out _ (hm.out.keep BB.out)).mono ?_
  rintro e w1 ⟨rfl, hb⟩
  clear c_l0 c_l1 c_l2 c_l3 f_l0 f_l1 f_l2 f_l3 l_l
  replace r_l := Lib.hid (r_l.out.keep hb)
  replace BB := Lib.hid (below_next BB.out hb)
  clear hb
  go_wp2_with fail
  refine (C1.out _).mono ?_
  rintro e w9 ⟨rfl, rfl⟩
  go_wp2_with fail
  refine (C2.out _).mono ?_
  rintro e w9 ⟨rfl, rfl⟩
  go_wp2_with fail
  refine bodyPost_ret (v := .tuple #[.int .i64 A, .int .i64 B]) (by unfold results; simp only [Try.results91]; go_simp) rfl ?_
  exact ⟨rfl, BB.out⟩
set_option maxRecDepth 100000 in
set_option maxHeartbeats 2000000 in
theorem lcol (g : Nat) (c0 c1 c2 c3 c4 c5 W H y x : Int) (hM : AM c0 c1 c2 c3 c4 c5) (hx : 0 ≤ x ∧ x ≤ 32768) (hy : 0 ≤ y ∧ y ≤ 32768) (w : World) (hm : AtB w g (afCells c0 c1 c2 c3 c4 c5) AT) :
    Calls Try.prog 61 #[lineV g W H y, .int .i64 x] w fun e w' => e = .returned (.int .i64 (colI c0 c1 c2 c3 c4 c5 y x)) ∧ Below w.heap.size w w' := by
  have CF := Lib.hid (fun w hm => lfrom g c0 c1 c2 c3 c4 c5 W H y x hM hx hy w hm)
  generalize colI c0 c1 c2 c3 c4 c5 y x = A at *
  generalize rowI c0 c1 c2 c3 c4 c5 y x = B at *
  replace hm := Lib.hid hm
  clear hM hx hy
  go_enter Try.func61, Try.ntmps61
  go_upto_region 1 with fail
  have BB := start1 w #[.pointer (some ⟨g, 0, none⟩), .int .i64 W, .int .i64 H, .int .i64 y] LNT
  obtain ⟨BB, hsz, r_l⟩ := BB
  generalize (w.alloc (.cells #[.pointer (some ⟨g, 0, none⟩), .int .i64 W, .int .i64 H, .int .i64 y] LNT)) = w0 at *
  replace BB := Lib.hid BB
  replace r_l := Lib.hid r_l
  clear hsz
  obtain ⟨c_l0, c_l1, c_l2, c_l3, f_l0, f_l1, f_l2, f_l3⟩ := reads4 r_l.out
  have l_l := r_l.out.lt
  go_wp2_with fail
  refine (CF.out _ (hm.out.keep BB.out)).mono ?_
  rintro e w1 ⟨rfl, hb⟩
  clear c_l0 c_l1 c_l2 c_l3 f_l0 f_l1 f_l2 f_l3 l_l
  replace r_l := Lib.hid (r_l.out.keep hb)
  replace BB := Lib.hid (below_next BB.out hb)
  clear hb
  go_wp2_with fail
  go_ret
  exact ⟨rfl, BB.out⟩
set_option maxRecDepth 100000 in
set_option maxHeartbeats 2000000 in
theorem lrow (g : Nat) (c0 c1 c2 c3 c4 c5 W H y x : Int) (hM : AM c0 c1 c2 c3 c4 c5) (hx : 0 ≤ x ∧ x ≤ 32768) (hy : 0 ≤ y ∧ y ≤ 32768) (w : World) (hm : AtB w g (afCells c0 c1 c2 c3 c4 c5) AT) :
    Calls Try.prog 62 #[lineV g W H y, .int .i64 x] w fun e w' => e = .returned (.int .i64 (rowI c0 c1 c2 c3 c4 c5 y x)) ∧ Below w.heap.size w w' := by
  have CF := Lib.hid (fun w hm => lfrom g c0 c1 c2 c3 c4 c5 W H y x hM hx hy w hm)
  generalize colI c0 c1 c2 c3 c4 c5 y x = A at *
  generalize rowI c0 c1 c2 c3 c4 c5 y x = B at *
  replace hm := Lib.hid hm
  clear hM hx hy
  go_enter Try.func62, Try.ntmps62
  go_upto_region 1 with fail
  have BB := start1 w #[.pointer (some ⟨g, 0, none⟩), .int .i64 W, .int .i64 H, .int .i64 y] LNT
  obtain ⟨BB, hsz, r_l⟩ := BB
  generalize (w.alloc (.cells #[.pointer (some ⟨g, 0, none⟩), .int .i64 W, .int .i64 H, .int .i64 y] LNT)) = w0 at *
  replace BB := Lib.hid BB
  replace r_l := Lib.hid r_l
  clear hsz
  obtain ⟨c_l0, c_l1, c_l2, c_l3, f_l0, f_l1, f_l2, f_l3⟩ := reads4 r_l.out
  have l_l := r_l.out.lt
  go_wp2_with fail
  refine (CF.out _ (hm.out.keep BB.out)).mono ?_
  rintro e w1 ⟨rfl, hb⟩
  clear c_l0 c_l1 c_l2 c_l3 f_l0 f_l1 f_l2 f_l3 l_l
  replace r_l := Lib.hid (r_l.out.keep hb)
  replace BB := Lib.hid (below_next BB.out hb)
  clear hb
  go_wp2_with fail
  go_ret
  exact ⟨rfl, BB.out⟩
set_option maxRecDepth 100000 in
theorem wcol_a (L : Value) (f : Int → Int) (k : Nat) (a : Nat) (w : World) (ha : AtB w a #[.func (.func 61) #[L] #[]] FNT) (hF : ∀ w1, Bl w w1 → Calls Try.prog 61 #[L, .int .i64 (k : Int)] w1 fun e w' => e = .returned (.int .i64 (f k)) ∧ Below w1.heap.size w1 w') :
    Calls Try.prog 87 #[.int .i64 (k : Int), .pointer (some ⟨a, 0, none⟩)] w fun e w' => e = .returned (.bool (decide (f k ≥ 0))) ∧ Below w.heap.size w w' := by
  replace hF := Lib.hid hF
  have r_of := Lib.hid ha
  generalize f k = z at *
  clear ha
  go_enter Try.func87, Try.ntmps87
  go_upto_region 1 with fail
  have BB : Hid (Below w.heap.size w w) := Below.refl _ _
  obtain ⟨c_of0, f_of0⟩ := reads1 r_of.out
  have l_of := r_of.out.lt
  go_wp2_with fail
  refine (hF.out _ BB.out).mono ?_
  rintro e w1 ⟨rfl, hb⟩
  clear c_of0 f_of0 l_of
  replace r_of := Lib.hid (r_of.out.keep hb)
  replace BB := Lib.hid (below_next BB.out hb)
  clear hb
  go_wp2_with fail
  go_ret
  exact ⟨rfl, BB.out⟩
set_option maxRecDepth 100000 in
theorem wcol_b (L : Value) (f : Int → Int) (M : Int) (k : Nat) (a b : Nat) (w : World) (ha : AtB w a #[.func (.func 61) #[L] #[]] FNT) (hm : AtB w b #[.int .i64 M] 2) (hF : ∀ w1, Bl w w1 → Calls Try.prog 61 #[L, .int .i64 (k : Int)] w1 fun e w' => e = .returned (.int .i64 (f k)) ∧ Below w1.heap.size w1 w') :
    Calls Try.prog 88 #[.int .i64 (k : Int), .pointer (some ⟨a, 0, none⟩), .pointer (some ⟨b, 0, none⟩)] w fun e w' => e = .returned (.bool (decide (f k ≥ M))) ∧ Below w.heap.size w w' := by
  replace hF := Lib.hid hF
  have r_of := Lib.hid ha
  have r_m := Lib.hid hm
  generalize f k = z at *
  clear ha hm
  go_enter Try.func88, Try.ntmps88
  go_wp2_with fail
  have BB : Hid (Below w.heap.size w w) := Below.refl _ _
  have h_b : Hid (Bl w w) := Below.refl _ _
  have KK := Lib.hid (fun (w9 : World) (h : Below w.heap.size w w9) => (⟨cells1 (r_of.out.keep h), cells1 (r_m.out.keep h)⟩ : (w9.cell? ⟨a, 0, none⟩ = some (.func (.func 61) #[L] #[])) ∧ (w9.cell? ⟨b, 0, none⟩ = some (.int .i64 M))))
  have K0 := KK.out w (Below.refl _ _)
  have KD := KK.out w.drew (below_drew (Below.refl _ _))
  go_region_held3 (fun w9 => (w9.cell? ⟨a, 0, none⟩ = some (.func (.func 61) #[L] #[])) ∧ (w9.cell? ⟨b, 0, none⟩ = some (.int .i64 M)))
      (first | with_reducible exact KD | with_reducible exact K0 | with_reducible exact K_w1)
      (first
        | (go_at_call 61
           refine (hF.out _ (h_b.out.below ?_)).mono ?_
           · repeat (first | with_reducible exact Below.refl _ _ | with_reducible apply below_drew | with_reducible apply below_new)
           rintro e w1 ⟨rfl, hb⟩
           have B_w1 := Lib.hid (reg_next (w0 := w) (by repeat (first | with_reducible exact Below.refl _ _ | with_reducible apply below_drew | with_reducible apply below_new)) hb)
           have K_w1 := KK.out _ B_w1.out
           clear hb))
  clear KK K0 KD K_w1
  replace r_of := Lib.hid (r_of.out.keep B_w1.out)
  replace r_m := Lib.hid (r_m.out.keep B_w1.out)
  replace h_b := Lib.hid (h_b.out.below B_w1.out)
  replace BB := Lib.hid (below_next BB.out B_w1.out)
  clear B_w1
  go_wp2_with fail
  go_ret
  exact ⟨rfl, BB.out⟩
set_option maxRecDepth 100000 in
theorem wcol_c (L : Value) (f : Int → Int) (M : Int) (k : Nat) (a b : Nat) (w : World) (ha : AtB w a #[.func (.func 61) #[L] #[]] FNT) (hm : AtB w b #[.int .i64 M] 2) (hF : ∀ w1, Bl w w1 → Calls Try.prog 61 #[L, .int .i64 (k : Int)] w1 fun e w' => e = .returned (.int .i64 (f k)) ∧ Below w1.heap.size w1 w') :
    Calls Try.prog 89 #[.int .i64 (k : Int), .pointer (some ⟨a, 0, none⟩), .pointer (some ⟨b, 0, none⟩)] w fun e w' => e = .returned (.bool (decide (f k < M))) ∧ Below w.heap.size w w' := by
  replace hF := Lib.hid hF
  have r_of := Lib.hid ha
  have r_m := Lib.hid hm
  generalize f k = z at *
  clear ha hm
  go_enter Try.func89, Try.ntmps89
  go_wp2_with fail
  have BB : Hid (Below w.heap.size w w) := Below.refl _ _
  have h_b : Hid (Bl w w) := Below.refl _ _
  have KK := Lib.hid (fun (w9 : World) (h : Below w.heap.size w w9) => (⟨cells1 (r_of.out.keep h), cells1 (r_m.out.keep h)⟩ : (w9.cell? ⟨a, 0, none⟩ = some (.func (.func 61) #[L] #[])) ∧ (w9.cell? ⟨b, 0, none⟩ = some (.int .i64 M))))
  have K0 := KK.out w (Below.refl _ _)
  have KD := KK.out w.drew (below_drew (Below.refl _ _))
  go_region_held3 (fun w9 => (w9.cell? ⟨a, 0, none⟩ = some (.func (.func 61) #[L] #[])) ∧ (w9.cell? ⟨b, 0, none⟩ = some (.int .i64 M)))
      (first | with_reducible exact KD | with_reducible exact K0 | with_reducible exact K_w1)
      (first
        | (go_at_call 61
           refine (hF.out _ (h_b.out.below ?_)).mono ?_
           · repeat (first | with_reducible exact Below.refl _ _ | with_reducible apply below_drew | with_reducible apply below_new)
           rintro e w1 ⟨rfl, hb⟩
           have B_w1 := Lib.hid (reg_next (w0 := w) (by repeat (first | with_reducible exact Below.refl _ _ | with_reducible apply below_drew | with_reducible apply below_new)) hb)
           have K_w1 := KK.out _ B_w1.out
           clear hb))
  clear KK K0 KD K_w1
  replace r_of := Lib.hid (r_of.out.keep B_w1.out)
  replace r_m := Lib.hid (r_m.out.keep B_w1.out)
  replace h_b := Lib.hid (h_b.out.below B_w1.out)
  replace BB := Lib.hid (below_next BB.out B_w1.out)
  clear B_w1
  go_wp2_with fail
  go_ret
  exact ⟨rfl, BB.out⟩
set_option maxRecDepth 100000 in
theorem wcol_d (L : Value) (f : Int → Int) (k : Nat) (a : Nat) (w : World) (ha : AtB w a #[.func (.func 61) #[L] #[]] FNT) (hF : ∀ w1, Bl w w1 → Calls Try.prog 61 #[L, .int .i64 (k : Int)] w1 fun e w' => e = .returned (.int .i64 (f k)) ∧ Below w1.heap.size w1 w') :
    Calls Try.prog 90 #[.int .i64 (k : Int), .pointer (some ⟨a, 0, none⟩)] w fun e w' => e = .returned (.bool (decide (f k < 0))) ∧ Below w.heap.size w w' := by
  replace hF := Lib.hid hF
  have r_of := Lib.hid ha
  generalize f k = z at *
  clear ha
  go_enter Try.func90, Try.ntmps90
  go_upto_region 1 with fail
  have BB : Hid (Below w.heap.size w w) := Below.refl _ _
  obtain ⟨c_of0, f_of0⟩ := reads1 r_of.out
  have l_of := r_of.out.lt
  go_wp2_with fail
  refine (hF.out _ BB.out).mono ?_
  rintro e w1 ⟨rfl, hb⟩
  clear c_of0 f_of0 l_of
  replace r_of := Lib.hid (r_of.out.keep hb)
  replace BB := Lib.hid (below_next BB.out hb)
  clear hb
  go_wp2_with fail
  go_ret
  exact ⟨rfl, BB.out⟩
set_option maxRecDepth 100000 in
set_option maxHeartbeats 4000000 in
theorem wcol (L : Value) (f : Int → Int) (M : Int) (n : Nat) (hn : 0 < n ∧ n ≤ 32768) (hway : UpTo f n ∨ DnTo f n) (w : World) (hF : ∀ (k : Nat) w1, k < n → Bl w w1 → Calls Try.prog 61 #[L, .int .i64 (k : Int)] w1 fun e w' => e = .returned (.int .i64 (f k)) ∧ Below w1.heap.size w1 w') :
    Calls Try.prog 60 #[.func (.func 61) #[L] #[], .int .i64 M, .int .i64 (n : Int)] w fun e w' => ∃ a b : Nat, e = .returned (.tuple #[.int .i64 (a : Int), .int .i64 (b : Int)]) ∧ WithIn f M n a b ∧ Below w.heap.size w w' := by
  have F0 := Lib.hid (fun w1 hb => hF 0 w1 (by omega) hb)
  have F1 := Lib.hid (fun w1 hb => hF (n - 1) w1 (by omega) hb)
  rw [show ((n - 1 : Nat) : Int) = (n : Int) - 1 by omega] at F1
  have e1 : IntKind.i64.wrap ((n : Int) - 1) = (n : Int) - 1 := iw ⟨by omega, by omega⟩
  have hmf : ∀ (fn : Fn) (first cap : Array Value) (w : World), (Instr.makeFunc fn first cap).run Try.prog w = .ok (.func fn first cap) w := fun _ _ _ _ => rfl
  have CA := Lib.hid (fun (k : Nat) a w1 ha (hk : k < n) (hb : Bl w w1) => wcol_a L f k a w1 ha (fun w2 hb2 => hF k w2 hk (hb.below hb2)))
  have CB := Lib.hid (fun (k : Nat) a b w1 ha hm (hk : k < n) (hb : Bl w w1) => wcol_b L f M k a b w1 ha hm (fun w2 hb2 => hF k w2 hk (hb.below hb2)))
  have CC := Lib.hid (fun (k : Nat) a b w1 ha hm (hk : k < n) (hb : Bl w w1) => wcol_c L f M k a b w1 ha hm (fun w2 hb2 => hF k w2 hk (hb.below hb2)))
  have CD := Lib.hid (fun (k : Nat) a w1 ha (hk : k < n) (hb : Bl w w1) => wcol_d L f k a w1 ha (fun w2 hb2 => hF k w2 hk (hb.below hb2)))
  clear hF
  replace hn := Lib.hid hn
  have H0 : Hid (∃ z, z = f ((n : Int) - 1)) := ⟨_, rfl⟩
  obtain ⟨z0, hz0⟩ : ∃ z, z = f 0 := ⟨_, rfl⟩
  obtain ⟨z1, hz1⟩ : ∃ z, z = f ((n : Int) - 1) := ⟨_, rfl⟩
  simp only [Int.natCast_zero] at F0
  rw [← hz0] at F0
  rw [← hz1] at F1
  replace hz0 := Lib.hid hz0; replace hz1 := Lib.hid hz1
  replace hway := Lib.hid hway
  clear H0
  go_enter Try.func60, Try.ntmps60
  go_upto_region 1 with fail
  have BB := start2 w #[.func (.func 61) #[L] #[]] FNT #[.int .i64 M] 2
  obtain ⟨BB, hsz, r_of, r_m⟩ := BB
  generalize ((w.alloc (.cells #[.func (.func 61) #[L] #[]] FNT)).alloc (.cells #[.int .i64 M] 2)) = w0 at *
  replace BB := Lib.hid BB
  replace r_of := Lib.hid r_of
  replace r_m := Lib.hid r_m
  clear hsz
  have h_b : Hid (Bl w w0) := BB
  have KK := Lib.hid (fun (w9 : World) (h : Below w0.heap.size w0 w9) => (⟨cells1 (r_of.out.keep h), cells1 (r_m.out.keep h)⟩ : (w9.cell? ⟨w.heap.size, 0, none⟩ = some (.func (.func 61) #[L] #[])) ∧ (w9.cell? ⟨w.heap.size + 1, 0, none⟩ = some (.int .i64 M))))
  have K0 := KK.out w0 (Below.refl _ _)
  have KD := KK.out w0.drew (below_drew (Below.refl _ _))
  have tok0 : Hid True := trivial
  have tok1 : Hid True := trivial
  go_region_held3 (fun w9 => (w9.cell? ⟨w.heap.size, 0, none⟩ = some (.func (.func 61) #[L] #[])) ∧ (w9.cell? ⟨w.heap.size + 1, 0, none⟩ = some (.int .i64 M)))
      (first | with_reducible exact KD | with_reducible exact K0 | with_reducible exact K_w1 | with_reducible exact K_w2)
      (first
        | (go_at_call 61
           have t_k := tok0
           refine (F0.out _ (h_b.out.below ?_)).mono ?_
           · repeat (first | with_reducible exact Below.refl _ _ | with_reducible apply below_drew | with_reducible apply below_new)
           rintro e w1 ⟨rfl, hb⟩
           have B_w1 := Lib.hid (reg_next (w0 := w0) (by repeat (first | with_reducible exact Below.refl _ _ | with_reducible apply below_drew | with_reducible apply below_new)) hb)
           have K_w1 := KK.out _ B_w1.out
           clear hb
           clear t_k tok0)
        | (go_at_call 61
           have t_k := tok1
           refine (F1.out _ (h_b.out.below B_w1.out)).mono ?_
           rintro e w2 ⟨rfl, hb⟩
           have B_w2 := Lib.hid (below_next B_w1.out hb)
           have K_w2 := KK.out _ B_w2.out
           clear hb
           clear t_k tok1))
  clear KK K0 KD K_w1 K_w2
  replace r_of := Lib.hid (r_of.out.keep B_w2.out)
  replace r_m := Lib.hid (r_m.out.keep B_w2.out)
  replace h_b := Lib.hid (h_b.out.below B_w2.out)
  replace BB := Lib.hid (below_next BB.out B_w2.out)
  clear B_w1 B_w2
  clear F0 F1
  by_cases hle : z0 ≤ z1
  · have hup : UpTo f n := way_up hway.out hn.out.1 (by rw [show ((n - 1 : Nat) : Int) = (n : Int) - 1 by have := hn.out; omega, ← hz0.out, ← hz1.out]; exact hle)
    have S1 := Lib.hid (fun w1 hW hf => search_a (.pointer (some ⟨w.heap.size, 0, none⟩)) (fun x => decide (f x ≥ 0)) n hn.out.2 (fun i j h1 h2 h3 => by have := hup i j h1 h2; simp at h3 ⊢; omega) w1 w2 hW hf)
    have Q1 := Lib.hid (fun (k : Nat) w1 (hk : k < n) (hb : Below w2.heap.size w2 w1) => CA.out k w.heap.size w1 (r_of.out.keep hb) hk (h_b.out.below hb))
    have S2 := Lib.hid (fun w1 hW hf => search_b (.pointer (some ⟨w.heap.size, 0, none⟩)) (.pointer (some ⟨w.heap.size + 1, 0, none⟩)) (fun x => decide (f x ≥ M)) n hn.out.2 (fun i j h1 h2 h3 => by have := hup i j h1 h2; simp at h3 ⊢; omega) w1 w2 hW hf)
    have Q2 := Lib.hid (fun (k : Nat) w1 (hk : k < n) (hb : Below w2.heap.size w2 w1) => CB.out k w.heap.size (w.heap.size + 1) w1 (r_of.out.keep hb) (r_m.out.keep hb) hk (h_b.out.below hb))
    have hB0 := Lib.hid (Below.refl w2.heap.size w2)
    clear CA CB CC CD
    go_wp2_with fail
    refine (S1.out _ hB0.out Q1.out).mono ?_
    rintro e w3 ⟨a, rfl, hsa, hb⟩
    replace r_of := Lib.hid (r_of.out.keep hb)
    replace r_m := Lib.hid (r_m.out.keep hb)
    replace h_b := Lib.hid (h_b.out.below hb)
    replace hB0 := Lib.hid (below_next hB0.out hb)
    replace BB := Lib.hid (below_next BB.out hb)
    clear hb
    replace hsa := Lib.hid hsa
    go_wp2_with fail
    refine (S2.out _ hB0.out Q2.out).mono ?_
    rintro e w4 ⟨b, rfl, hsb, hb⟩
    replace r_of := Lib.hid (r_of.out.keep hb)
    replace r_m := Lib.hid (r_m.out.keep hb)
    replace h_b := Lib.hid (h_b.out.below hb)
    replace hB0 := Lib.hid (below_next hB0.out hb)
    replace BB := Lib.hid (below_next BB.out hb)
    clear hb
    replace hsb := Lib.hid hsb
    go_wp2_with fail
    refine bodyPost_ret (v := .tuple #[.int .i64 (a : Int), .int .i64 (b : Int)]) (by unfold results; simp only [Try.results60]; go_simp) rfl ?_
    exact ⟨a, b, rfl, with_up hsa.out hsb.out, BB.out⟩
  · have hdn : DnTo f n := way_dn hway.out hn.out.1 (by rw [show ((n - 1 : Nat) : Int) = (n : Int) - 1 by have := hn.out; omega, ← hz0.out, ← hz1.out]; exact hle)
    have S1 := Lib.hid (fun w1 hW hf => search_c (.pointer (some ⟨w.heap.size, 0, none⟩)) (.pointer (some ⟨w.heap.size + 1, 0, none⟩)) (fun x => decide (f x < M)) n hn.out.2 (fun i j h1 h2 h3 => by have := hdn i j h1 h2; simp at h3 ⊢; omega) w1 w2 hW hf)
    have Q1 := Lib.hid (fun (k : Nat) w1 (hk : k < n) (hb : Below w2.heap.size w2 w1) => CC.out k w.heap.size (w.heap.size + 1) w1 (r_of.out.keep hb) (r_m.out.keep hb) hk (h_b.out.below hb))
    have S2 := Lib.hid (fun w1 hW hf => search_d (.pointer (some ⟨w.heap.size, 0, none⟩)) (fun x => decide (f x < 0)) n hn.out.2 (fun i j h1 h2 h3 => by have := hdn i j h1 h2; simp at h3 ⊢; omega) w1 w2 hW hf)
    have Q2 := Lib.hid (fun (k : Nat) w1 (hk : k < n) (hb : Below w2.heap.size w2 w1) => CD.out k w.heap.size w1 (r_of.out.keep hb) hk (h_b.out.below hb))
    have hB0 := Lib.hid (Below.refl w2.heap.size w2)
    clear CA CB CC CD
    go_wp2_with fail
    refine (S1.out _ hB0.out Q1.out).mono ?_
    rintro e w3 ⟨a, rfl, hsa, hb⟩
    replace r_of := Lib.hid (r_of.out.keep hb)
    replace r_m := Lib.hid (r_m.out.keep hb)
    replace h_b := Lib.hid (h_b.out.below hb)
    replace hB0 := Lib.hid (below_next hB0.out hb)
    replace BB := Lib.hid (below_next BB.out hb)
    clear hb
    replace hsa := Lib.hid hsa
    go_wp2_with fail
    refine (S2.out _ hB0.out Q2.out).mono ?_
    rintro e w4 ⟨b, rfl, hsb, hb⟩
    replace r_of := Lib.hid (r_of.out.keep hb)
    replace r_m := Lib.hid (r_m.out.keep hb)
    replace h_b := Lib.hid (h_b.out.below hb)
    replace hB0 := Lib.hid (below_next hB0.out hb)
    replace BB := Lib.hid (below_next BB.out hb)
    clear hb
    replace hsb := Lib.hid hsb
    go_wp2_with fail
    refine bodyPost_ret (v := .tuple #[.int .i64 (a : Int), .int .i64 (b : Int)]) (by unfold results; simp only [Try.results60]; go_simp) rfl ?_
    exact ⟨a, b, rfl, with_dn hsa.out hsb.out, BB.out⟩
set_option maxRecDepth 100000 in
theorem wrow_a (L : Value) (f : Int → Int) (k : Nat) (a : Nat) (w : World) (ha : AtB w a #[.func (.func 62) #[L] #[]] FNT) (hF : ∀ w1, Bl w w1 → Calls Try.prog 62 #[L, .int .i64 (k : Int)] w1 fun e w' => e = .returned (.int .i64 (f k)) ∧ Below w1.heap.size w1 w') :
    Calls Try.prog 87 #[.int .i64 (k : Int), .pointer (some ⟨a, 0, none⟩)] w fun e w' => e = .returned (.bool (decide (f k ≥ 0))) ∧ Below w.heap.size w w' := by
  replace hF := Lib.hid hF
  have r_of := Lib.hid ha
  generalize f k = z at *
  clear ha
  go_enter Try.func87, Try.ntmps87
  go_upto_region 1 with fail
  have BB : Hid (Below w.heap.size w w) := Below.refl _ _
  obtain ⟨c_of0, f_of0⟩ := reads1 r_of.out
  have l_of := r_of.out.lt
  go_wp2_with fail
  refine (hF.out _ BB.out).mono ?_
  rintro e w1 ⟨rfl, hb⟩
  clear c_of0 f_of0 l_of
  replace r_of := Lib.hid (r_of.out.keep hb)
  replace BB := Lib.hid (below_next BB.out hb)
  clear hb
  go_wp2_with fail
  go_ret
  exact ⟨rfl, BB.out⟩
set_option maxRecDepth 100000 in
theorem wrow_b (L : Value) (f : Int → Int) (M : Int) (k : Nat) (a b : Nat) (w : World) (ha : AtB w a #[.func (.func 62) #[L] #[]] FNT) (hm : AtB w b #[.int .i64 M] 2) (hF : ∀ w1, Bl w w1 → Calls Try.prog 62 #[L, .int .i64 (k : Int)] w1 fun e w' => e = .returned (.int .i64 (f k)) ∧ Below w1.heap.size w1 w') :
    Calls Try.prog 88 #[.int .i64 (k : Int), .pointer (some ⟨a, 0, none⟩), .pointer (some ⟨b, 0, none⟩)] w fun e w' => e = .returned (.bool (decide (f k ≥ M))) ∧ Below w.heap.size w w' := by
  replace hF := Lib.hid hF
  have r_of := Lib.hid ha
  have r_m := Lib.hid hm
  generalize f k = z at *
  clear ha hm
  go_enter Try.func88, Try.ntmps88
  go_wp2_with fail
  have BB : Hid (Below w.heap.size w w) := Below.refl _ _
  have h_b : Hid (Bl w w) := Below.refl _ _
  have KK := Lib.hid (fun (w9 : World) (h : Below w.heap.size w w9) => (⟨cells1 (r_of.out.keep h), cells1 (r_m.out.keep h)⟩ : (w9.cell? ⟨a, 0, none⟩ = some (.func (.func 62) #[L] #[])) ∧ (w9.cell? ⟨b, 0, none⟩ = some (.int .i64 M))))
  have K0 := KK.out w (Below.refl _ _)
  have KD := KK.out w.drew (below_drew (Below.refl _ _))
  go_region_held3 (fun w9 => (w9.cell? ⟨a, 0, none⟩ = some (.func (.func 62) #[L] #[])) ∧ (w9.cell? ⟨b, 0, none⟩ = some (.int .i64 M)))
      (first | with_reducible exact KD | with_reducible exact K0 | with_reducible exact K_w1)
      (first
        | (go_at_call 62
           refine (hF.out _ (h_b.out.below ?_)).mono ?_
           · repeat (first | with_reducible exact Below.refl _ _ | with_reducible apply below_drew | with_reducible apply below_new)
           rintro e w1 ⟨rfl, hb⟩
           have B_w1 := Lib.hid (reg_next (w0 := w) (by repeat (first | with_reducible exact Below.refl _ _ | with_reducible apply below_drew | with_reducible apply below_new)) hb)
           have K_w1 := KK.out _ B_w1.out
           clear hb))
  clear KK K0 KD K_w1
  replace r_of := Lib.hid (r_of.out.keep B_w1.out)
  replace r_m := Lib.hid (r_m.out.keep B_w1.out)
  replace h_b := Lib.hid (h_b.out.below B_w1.out)
  replace BB := Lib.hid (below_next BB.out B_w1.out)
  clear B_w1
  go_wp2_with fail
  go_ret
  exact ⟨rfl, BB.out⟩
set_option maxRecDepth 100000 in
theorem wrow_c (L : Value) (f : Int → Int) (M : Int) (k : Nat) (a b : Nat) (w : World) (ha : AtB w a #[.func (.func 62) #[L] #[]] FNT) (hm : AtB w b #[.int .i64 M] 2) (hF : ∀ w1, Bl w w1 → Calls Try.prog 62 #[L, .int .i64 (k : Int)] w1 fun e w' => e = .returned (.int .i64 (f k)) ∧ Below w1.heap.size w1 w') :
    Calls Try.prog 89 #[.int .i64 (k : Int), .pointer (some ⟨a, 0, none⟩), .pointer (some ⟨b, 0, none⟩)] w fun e w' => e = .returned (.bool (decide (f k < M))) ∧ Below w.heap.size w w' := by
  replace hF := Lib.hid hF
  have r_of := Lib.hid ha
  have r_m := Lib.hid hm
  generalize f k = z at *
  clear ha hm
  go_enter Try.func89, Try.ntmps89
  go_wp2_with fail
  have BB : Hid (Below w.heap.size w w) := Below.refl _ _
  have h_b : Hid (Bl w w) := Below.refl _ _
  have KK := Lib.hid (fun (w9 : World) (h : Below w.heap.size w w9) => (⟨cells1 (r_of.out.keep h), cells1 (r_m.out.keep h)⟩ : (w9.cell? ⟨a, 0, none⟩ = some (.func (.func 62) #[L] #[])) ∧ (w9.cell? ⟨b, 0, none⟩ = some (.int .i64 M))))
  have K0 := KK.out w (Below.refl _ _)
  have KD := KK.out w.drew (below_drew (Below.refl _ _))
  go_region_held3 (fun w9 => (w9.cell? ⟨a, 0, none⟩ = some (.func (.func 62) #[L] #[])) ∧ (w9.cell? ⟨b, 0, none⟩ = some (.int .i64 M)))
      (first | with_reducible exact KD | with_reducible exact K0 | with_reducible exact K_w1)
      (first
        | (go_at_call 62
           refine (hF.out _ (h_b.out.below ?_)).mono ?_
           · repeat (first | with_reducible exact Below.refl _ _ | with_reducible apply below_drew | with_reducible apply below_new)
           rintro e w1 ⟨rfl, hb⟩
           have B_w1 := Lib.hid (reg_next (w0 := w) (by repeat (first | with_reducible exact Below.refl _ _ | with_reducible apply below_drew | with_reducible apply below_new)) hb)
           have K_w1 := KK.out _ B_w1.out
           clear hb))
  clear KK K0 KD K_w1
  replace r_of := Lib.hid (r_of.out.keep B_w1.out)
  replace r_m := Lib.hid (r_m.out.keep B_w1.out)
  replace h_b := Lib.hid (h_b.out.below B_w1.out)
  replace BB := Lib.hid (below_next BB.out B_w1.out)
  clear B_w1
  go_wp2_with fail
  go_ret
  exact ⟨rfl, BB.out⟩
set_option maxRecDepth 100000 in
theorem wrow_d (L : Value) (f : Int → Int) (k : Nat) (a : Nat) (w : World) (ha : AtB w a #[.func (.func 62) #[L] #[]] FNT) (hF : ∀ w1, Bl w w1 → Calls Try.prog 62 #[L, .int .i64 (k : Int)] w1 fun e w' => e = .returned (.int .i64 (f k)) ∧ Below w1.heap.size w1 w') :
    Calls Try.prog 90 #[.int .i64 (k : Int), .pointer (some ⟨a, 0, none⟩)] w fun e w' => e = .returned (.bool (decide (f k < 0))) ∧ Below w.heap.size w w' := by
  replace hF := Lib.hid hF
  have r_of := Lib.hid ha
  generalize f k = z at *
  clear ha
  go_enter Try.func90, Try.ntmps90
  go_upto_region 1 with fail
  have BB : Hid (Below w.heap.size w w) := Below.refl _ _
  obtain ⟨c_of0, f_of0⟩ := reads1 r_of.out
  have l_of := r_of.out.lt
  go_wp2_with fail
  refine (hF.out _ BB.out).mono ?_
  rintro e w1 ⟨rfl, hb⟩
  clear c_of0 f_of0 l_of
  replace r_of := Lib.hid (r_of.out.keep hb)
  replace BB := Lib.hid (below_next BB.out hb)
  clear hb
  go_wp2_with fail
  go_ret
  exact ⟨rfl, BB.out⟩
set_option maxRecDepth 100000 in
set_option maxHeartbeats 4000000 in
theorem wrow (L : Value) (f : Int → Int) (M : Int) (n : Nat) (hn : 0 < n ∧ n ≤ 32768) (hway : UpTo f n ∨ DnTo f n) (w : World) (hF : ∀ (k : Nat) w1, k < n → Bl w w1 → Calls Try.prog 62 #[L, .int .i64 (k : Int)] w1 fun e w' => e = .returned (.int .i64 (f k)) ∧ Below w1.heap.size w1 w') :
    Calls Try.prog 60 #[.func (.func 62) #[L] #[], .int .i64 M, .int .i64 (n : Int)] w fun e w' => ∃ a b : Nat, e = .returned (.tuple #[.int .i64 (a : Int), .int .i64 (b : Int)]) ∧ WithIn f M n a b ∧ Below w.heap.size w w' := by
  have F0 := Lib.hid (fun w1 hb => hF 0 w1 (by omega) hb)
  have F1 := Lib.hid (fun w1 hb => hF (n - 1) w1 (by omega) hb)
  rw [show ((n - 1 : Nat) : Int) = (n : Int) - 1 by omega] at F1
  have e1 : IntKind.i64.wrap ((n : Int) - 1) = (n : Int) - 1 := iw ⟨by omega, by omega⟩
  have hmf : ∀ (fn : Fn) (first cap : Array Value) (w : World), (Instr.makeFunc fn first cap).run Try.prog w = .ok (.func fn first cap) w := fun _ _ _ _ => rfl
  have CA := Lib.hid (fun (k : Nat) a w1 ha (hk : k < n) (hb : Bl w w1) => wrow_a L f k a w1 ha (fun w2 hb2 => hF k w2 hk (hb.below hb2)))
  have CB := Lib.hid (fun (k : Nat) a b w1 ha hm (hk : k < n) (hb : Bl w w1) => wrow_b L f M k a b w1 ha hm (fun w2 hb2 => hF k w2 hk (hb.below hb2)))
  have CC := Lib.hid (fun (k : Nat) a b w1 ha hm (hk : k < n) (hb : Bl w w1) => wrow_c L f M k a b w1 ha hm (fun w2 hb2 => hF k w2 hk (hb.below hb2)))
  have CD := Lib.hid (fun (k : Nat) a w1 ha (hk : k < n) (hb : Bl w w1) => wrow_d L f k a w1 ha (fun w2 hb2 => hF k w2 hk (hb.below hb2)))
  clear hF
  replace hn := Lib.hid hn
  have H0 : Hid (∃ z, z = f ((n : Int) - 1)) := ⟨_, rfl⟩
  obtain ⟨z0, hz0⟩ : ∃ z, z = f 0 := ⟨_, rfl⟩
  obtain ⟨z1, hz1⟩ : ∃ z, z = f ((n : Int) - 1) := ⟨_, rfl⟩
  simp only [Int.natCast_zero] at F0
  rw [← hz0] at F0
  rw [← hz1] at F1
  replace hz0 := Lib.hid hz0; replace hz1 := Lib.hid hz1
  replace hway := Lib.hid hway
  clear H0
  go_enter Try.func60, Try.ntmps60
  go_upto_region 1 with fail
  have BB := start2 w #[.func (.func 62) #[L] #[]] FNT #[.int .i64 M] 2
  obtain ⟨BB, hsz, r_of, r_m⟩ := BB
  generalize ((w.alloc (.cells #[.func (.func 62) #[L] #[]] FNT)).alloc (.cells #[.int .i64 M] 2)) = w0 at *
  replace BB := Lib.hid BB
  replace r_of := Lib.hid r_of
  replace r_m := Lib.hid r_m
  clear hsz
  have h_b : Hid (Bl w w0) := BB
  have KK := Lib.hid (fun (w9 : World) (h : Below w0.heap.size w0 w9) => (⟨cells1 (r_of.out.keep h), cells1 (r_m.out.keep h)⟩ : (w9.cell? ⟨w.heap.size, 0, none⟩ = some (.func (.func 62) #[L] #[])) ∧ (w9.cell? ⟨w.heap.size + 1, 0, none⟩ = some (.int .i64 M))))
  have K0 := KK.out w0 (Below.refl _ _)
  have KD := KK.out w0.drew (below_drew (Below.refl _ _))
  have tok0 : Hid True := trivial
  have tok1 : Hid True := trivial
  go_region_held3 (fun w9 => (w9.cell? ⟨w.heap.size, 0, none⟩ = some (.func (.func 62) #[L] #[])) ∧ (w9.cell? ⟨w.heap.size + 1, 0, none⟩ = some (.int .i64 M)))
      (first | with_reducible exact KD | with_reducible exact K0 | with_reducible exact K_w1 | with_reducible exact K_w2)
      (first
        | (go_at_call 62
           have t_k := tok0
           refine (F0.out _ (h_b.out.below ?_)).mono ?_
           · repeat (first | with_reducible exact Below.refl _ _ | with_reducible apply below_drew | with_reducible apply below_new)
           rintro e w1 ⟨rfl, hb⟩
           have B_w1 := Lib.hid (reg_next (w0 := w0) (by repeat (first | with_reducible exact Below.refl _ _ | with_reducible apply below_drew | with_reducible apply below_new)) hb)
           have K_w1 := KK.out _ B_w1.out
           clear hb
           clear t_k tok0)
        | (go_at_call 62
           have t_k := tok1
           refine (F1.out _ (h_b.out.below B_w1.out)).mono ?_
           rintro e w2 ⟨rfl, hb⟩
           have B_w2 := Lib.hid (below_next B_w1.out hb)
           have K_w2 := KK.out _ B_w2.out
           clear hb
           clear t_k tok1))
  clear KK K0 KD K_w1 K_w2
  replace r_of := Lib.hid (r_of.out.keep B_w2.out)
  replace r_m := Lib.hid (r_m.out.keep B_w2.out)
  replace h_b := Lib.hid (h_b.out.below B_w2.out)
  replace BB := Lib.hid (below_next BB.out B_w2.out)
  clear B_w1 B_w2
  clear F0 F1
  by_cases hle : z0 ≤ z1
  · have hup : UpTo f n := way_up hway.out hn.out.1 (by rw [show ((n - 1 : Nat) : Int) = (n : Int) - 1 by have := hn.out; omega, ← hz0.out, ← hz1.out]; exact hle)
    have S1 := Lib.hid (fun w1 hW hf => search_a (.pointer (some ⟨w.heap.size, 0, none⟩)) (fun x => decide (f x ≥ 0)) n hn.out.2 (fun i j h1 h2 h3 => by have := hup i j h1 h2; simp at h3 ⊢; omega) w1 w2 hW hf)
    have Q1 := Lib.hid (fun (k : Nat) w1 (hk : k < n) (hb : Below w2.heap.size w2 w1) => CA.out k w.heap.size w1 (r_of.out.keep hb) hk (h_b.out.below hb))
    have S2 := Lib.hid (fun w1 hW hf => search_b (.pointer (some ⟨w.heap.size, 0, none⟩)) (.pointer (some ⟨w.heap.size + 1, 0, none⟩)) (fun x => decide (f x ≥ M)) n hn.out.2 (fun i j h1 h2 h3 => by have := hup i j h1 h2; simp at h3 ⊢; omega) w1 w2 hW hf)
    have Q2 := Lib.hid (fun (k : Nat) w1 (hk : k < n) (hb : Below w2.heap.size w2 w1) => CB.out k w.heap.size (w.heap.size + 1) w1 (r_of.out.keep hb) (r_m.out.keep hb) hk (h_b.out.below hb))
    have hB0 := Lib.hid (Below.refl w2.heap.size w2)
    clear CA CB CC CD
    go_wp2_with fail
    refine (S1.out _ hB0.out Q1.out).mono ?_
    rintro e w3 ⟨a, rfl, hsa, hb⟩
    replace r_of := Lib.hid (r_of.out.keep hb)
    replace r_m := Lib.hid (r_m.out.keep hb)
    replace h_b := Lib.hid (h_b.out.below hb)
    replace hB0 := Lib.hid (below_next hB0.out hb)
    replace BB := Lib.hid (below_next BB.out hb)
    clear hb
    replace hsa := Lib.hid hsa
    go_wp2_with fail
    refine (S2.out _ hB0.out Q2.out).mono ?_
    rintro e w4 ⟨b, rfl, hsb, hb⟩
    replace r_of := Lib.hid (r_of.out.keep hb)
    replace r_m := Lib.hid (r_m.out.keep hb)
    replace h_b := Lib.hid (h_b.out.below hb)
    replace hB0 := Lib.hid (below_next hB0.out hb)
    replace BB := Lib.hid (below_next BB.out hb)
    clear hb
    replace hsb := Lib.hid hsb
    go_wp2_with fail
    refine bodyPost_ret (v := .tuple #[.int .i64 (a : Int), .int .i64 (b : Int)]) (by unfold results; simp only [Try.results60]; go_simp) rfl ?_
    exact ⟨a, b, rfl, with_up hsa.out hsb.out, BB.out⟩
  · have hdn : DnTo f n := way_dn hway.out hn.out.1 (by rw [show ((n - 1 : Nat) : Int) = (n : Int) - 1 by have := hn.out; omega, ← hz0.out, ← hz1.out]; exact hle)
    have S1 := Lib.hid (fun w1 hW hf => search_c (.pointer (some ⟨w.heap.size, 0, none⟩)) (.pointer (some ⟨w.heap.size + 1, 0, none⟩)) (fun x => decide (f x < M)) n hn.out.2 (fun i j h1 h2 h3 => by have := hdn i j h1 h2; simp at h3 ⊢; omega) w1 w2 hW hf)
    have Q1 := Lib.hid (fun (k : Nat) w1 (hk : k < n) (hb : Below w2.heap.size w2 w1) => CC.out k w.heap.size (w.heap.size + 1) w1 (r_of.out.keep hb) (r_m.out.keep hb) hk (h_b.out.below hb))
    have S2 := Lib.hid (fun w1 hW hf => search_d (.pointer (some ⟨w.heap.size, 0, none⟩)) (fun x => decide (f x < 0)) n hn.out.2 (fun i j h1 h2 h3 => by have := hdn i j h1 h2; simp at h3 ⊢; omega) w1 w2 hW hf)
    have Q2 := Lib.hid (fun (k : Nat) w1 (hk : k < n) (hb : Below w2.heap.size w2 w1) => CD.out k w.heap.size w1 (r_of.out.keep hb) hk (h_b.out.below hb))
    have hB0 := Lib.hid (Below.refl w2.heap.size w2)
    clear CA CB CC CD
    go_wp2_with fail
    refine (S1.out _ hB0.out Q1.out).mono ?_
    rintro e w3 ⟨a, rfl, hsa, hb⟩
    replace r_of := Lib.hid (r_of.out.keep hb)
    replace r_m := Lib.hid (r_m.out.keep hb)
    replace h_b := Lib.hid (h_b.out.below hb)
    replace hB0 := Lib.hid (below_next hB0.out hb)
    replace BB := Lib.hid (below_next BB.out hb)
    clear hb
    replace hsa := Lib.hid hsa
    go_wp2_with fail
    refine (S2.out _ hB0.out Q2.out).mono ?_
    rintro e w4 ⟨b, rfl, hsb, hb⟩
    replace r_of := Lib.hid (r_of.out.keep hb)
    replace r_m := Lib.hid (r_m.out.keep hb)
    replace h_b := Lib.hid (h_b.out.below hb)
    replace hB0 := Lib.hid (below_next hB0.out hb)
    replace BB := Lib.hid (below_next BB.out hb)
    clear hb
    replace hsb := Lib.hid hsb
    go_wp2_with fail
    refine bodyPost_ret (v := .tuple #[.int .i64 (a : Int), .int .i64 (b : Int)]) (by unfold results; simp only [Try.results60]; go_simp) rfl ?_
    exact ⟨a, b, rfl, with_dn hsa.out hsb.out, BB.out⟩
end Go.Proofs.Ythdbchghhpoadaa
