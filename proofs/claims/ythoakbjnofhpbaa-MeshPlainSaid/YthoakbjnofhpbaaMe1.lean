/- Contracts of mesh: corners, mix, At. -/
import Derived.Test.YthoakbjnofhpbaaMe0
import Derived.Test.YthoakbjnofhpbaaRQuot1
set_option linter.unusedVariables false
set_option linter.unusedSimpArgs false
namespace Go.Proofs.Ythoakbjnofhpbaa
open Go.RowKit
abbrev CRT : TypeId := 141
abbrev C4T : TypeId := 142
theorem reads12 {w : World} {g : Nat} {v0 v1 v2 v3 v4 v5 v6 v7 v8 v9 v10 v11 : Value} {T : TypeId} (h : AtB w g #[v0, v1, v2, v3, v4, v5, v6, v7, v8, v9, v10, v11] T) : w.cell? ⟨g, 0, none⟩ = some v0 ∧ w.cell? ⟨g, 1, none⟩ = some v1 ∧ w.cell? ⟨g, 2, none⟩ = some v2 ∧ w.cell? ⟨g, 3, none⟩ = some v3 ∧ w.cell? ⟨g, 4, none⟩ = some v4 ∧ w.cell? ⟨g, 5, none⟩ = some v5 ∧ w.cell? ⟨g, 6, none⟩ = some v6 ∧ w.cell? ⟨g, 7, none⟩ = some v7 ∧ w.cell? ⟨g, 8, none⟩ = some v8 ∧ w.cell? ⟨g, 9, none⟩ = some v9 ∧ w.cell? ⟨g, 10, none⟩ = some v10 ∧ w.cell? ⟨g, 11, none⟩ = some v11 ∧ w.frozen? ⟨g, 0, none⟩ = false ∧ w.frozen? ⟨g, 1, none⟩ = false ∧ w.frozen? ⟨g, 2, none⟩ = false ∧ w.frozen? ⟨g, 3, none⟩ = false ∧ w.frozen? ⟨g, 4, none⟩ = false ∧ w.frozen? ⟨g, 5, none⟩ = false ∧ w.frozen? ⟨g, 6, none⟩ = false ∧ w.frozen? ⟨g, 7, none⟩ = false ∧ w.frozen? ⟨g, 8, none⟩ = false ∧ w.frozen? ⟨g, 9, none⟩ = false ∧ w.frozen? ⟨g, 10, none⟩ = false ∧ w.frozen? ⟨g, 11, none⟩ = false := ⟨h.cell 0 rfl, h.cell 1 rfl, h.cell 2 rfl, h.cell 3 rfl, h.cell 4 rfl, h.cell 5 rfl, h.cell 6 rfl, h.cell 7 rfl, h.cell 8 rfl, h.cell 9 rfl, h.cell 10 rfl, h.cell 11 rfl, h.fr 0, h.fr 1, h.fr 2, h.fr 3, h.fr 4, h.fr 5, h.fr 6, h.fr 7, h.fr 8, h.fr 9, h.fr 10, h.fr 11⟩
theorem cells12 {w : World} {g : Nat} {v0 v1 v2 v3 v4 v5 v6 v7 v8 v9 v10 v11 : Value} {T : TypeId} (h : AtB w g #[v0, v1, v2, v3, v4, v5, v6, v7, v8, v9, v10, v11] T) : w.cell? ⟨g, 0, none⟩ = some v0 ∧ w.cell? ⟨g, 1, none⟩ = some v1 ∧ w.cell? ⟨g, 2, none⟩ = some v2 ∧ w.cell? ⟨g, 3, none⟩ = some v3 ∧ w.cell? ⟨g, 4, none⟩ = some v4 ∧ w.cell? ⟨g, 5, none⟩ = some v5 ∧ w.cell? ⟨g, 6, none⟩ = some v6 ∧ w.cell? ⟨g, 7, none⟩ = some v7 ∧ w.cell? ⟨g, 8, none⟩ = some v8 ∧ w.cell? ⟨g, 9, none⟩ = some v9 ∧ w.cell? ⟨g, 10, none⟩ = some v10 ∧ w.cell? ⟨g, 11, none⟩ = some v11 := ⟨h.cell 0 rfl, h.cell 1 rfl, h.cell 2 rfl, h.cell 3 rfl, h.cell 4 rfl, h.cell 5 rfl, h.cell 6 rfl, h.cell 7 rfl, h.cell 8 rfl, h.cell 9 rfl, h.cell 10 rfl, h.cell 11 rfl⟩
theorem kn_ix {nx ny i k : Int} (hn : 1 ≤ nx) (hi : 0 ≤ i ∧ i ≤ nx) (hk : 0 ≤ k ∧ k ≤ ny) : 0 ≤ k * (nx + 1) + i ∧ k * (nx + 1) + i < (nx + 1) * (ny + 1) := by
  have h1 : 0 ≤ k * (nx + 1) := Int.mul_nonneg hk.1 (by omega)
  have h2 : k * (nx + 1) ≤ ny * (nx + 1) := Int.mul_le_mul_of_nonneg_right hk.2 (by omega)
  have h3 : (nx + 1) * (ny + 1) = ny * (nx + 1) + (nx + 1) := by rw [Int.mul_add, Int.mul_one, Int.mul_comm]
  omega
/-- A knot's numbers. -/
def knP (ks : List (Int × Int)) (nx i k : Int) : Int × Int := ks.getD (k * (nx + 1) + i).toNat (0, 0)
/-- What fits together in a mesh. -/
def MG (gx gy nx ny : Int) (ks : List (Int × Int)) : Prop := (1 ≤ gx ∧ gx ≤ 1024) ∧ (1 ≤ gy ∧ gy ≤ 1024) ∧ (1 ≤ nx ∧ nx ≤ 64) ∧ (1 ≤ ny ∧ ny ≤ 64) ∧ (ks.length : Int) = (nx + 1) * (ny + 1)
theorem MG.len {gx gy nx ny : Int} {ks : List (Int × Int)} (h : MG gx gy nx ny ks) : ks.length ≤ 100000 := by
  obtain ⟨-, -, h1, h2, h3⟩ := h
  have : (nx + 1) * (ny + 1) ≤ 65 * 65 := Int.mul_le_mul (by omega) (by omega) (by omega) (by omega)
  omega
theorem mk_kn (g : Nat) (gx gy nx ny i k : Int) (ks : List (Int × Int)) (hG : MG gx gy nx ny ks) (hi : 0 ≤ i ∧ i ≤ nx) (hk : 0 ≤ k ∧ k ≤ ny) (w : World) (hm : MX w g gx gy nx ny ks) : Calls Try.prog 87 #[.pointer (some ⟨g, 0, none⟩), .int .i64 i, .int .i64 k] w fun e w' => e = .returned (.agg #[.int .i64 (knP ks nx i k).1, .int .i64 (knP ks nx i k).2]) ∧ Below w.heap.size w w' := by
  have hl := hG.len
  obtain ⟨h1, h2, h3, h4, h5⟩ := hG
  have h6 := kn_ix h3.1 hi hk
  exact mk_at g gx gy nx ny i k ks (k * (nx + 1) + i).toNat (by omega) (by omega) h3 (by omega) (by omega) hl w hm
/-- How much the four corners count. -/
def cwA (gx gy nx ny px py d : Int) : Int := (gx * d - cellS gx nx px d) * (gy * d - cellS gy ny py d)
def cwB (gx gy nx ny px py d : Int) : Int := cellS gx nx px d * (gy * d - cellS gy ny py d)
def cwC (gx gy nx ny px py d : Int) : Int := (gx * d - cellS gx nx px d) * cellS gy ny py d
def cwD (gx gy nx ny px py d : Int) : Int := cellS gx nx px d * cellS gy ny py d
def GiveC4 (gx gy nx ny px py d : Int) (ks : List (Int × Int)) (w : World) (e : Ending) (w' : World) : Prop :=
  e = .returned (.agg #[.int .i64 (knP ks nx (cellI gx nx px d) (cellI gy ny py d)).1, .int .i64 (knP ks nx (cellI gx nx px d) (cellI gy ny py d)).2, .int .i64 (cwA gx gy nx ny px py d),
    .int .i64 (knP ks nx (cellI gx nx px d + 1) (cellI gy ny py d)).1, .int .i64 (knP ks nx (cellI gx nx px d + 1) (cellI gy ny py d)).2, .int .i64 (cwB gx gy nx ny px py d),
    .int .i64 (knP ks nx (cellI gx nx px d) (cellI gy ny py d + 1)).1, .int .i64 (knP ks nx (cellI gx nx px d) (cellI gy ny py d + 1)).2, .int .i64 (cwC gx gy nx ny px py d),
    .int .i64 (knP ks nx (cellI gx nx px d + 1) (cellI gy ny py d + 1)).1, .int .i64 (knP ks nx (cellI gx nx px d + 1) (cellI gy ny py d + 1)).2, .int .i64 (cwD gx gy nx ny px py d)]) ∧ Below w.heap.size w w'
theorem prod_rng {a b : Int} (ha : 0 ≤ a ∧ a ≤ 16384) (hb : 0 ≤ b ∧ b ≤ 16384) : 0 ≤ a * b ∧ a * b ≤ 268435456 :=
  ⟨Int.mul_nonneg ha.1 hb.1, Int.mul_le_mul (c := 16384) (d := 16384) ha.2 hb.2 hb.1 (by omega)⟩
set_option maxRecDepth 100000 in
set_option maxHeartbeats 8000000 in
theorem mcorners (g : Nat) (gx gy nx ny px py d : Int) (ks : List (Int × Int)) (hG : MG gx gy nx ny ks) (hd : 1 ≤ d ∧ d ≤ 16) (w : World) (hm : MX w g gx gy nx ny ks) : Calls Try.prog 80 #[.pointer (some ⟨g, 0, none⟩), .int .i64 px, .int .i64 py, .int .i64 d] w (GiveC4 gx gy nx ny px py d ks w) := by
  obtain ⟨g1, g2, g3, g4, g5⟩ := id hG
  have CX := Lib.hid (fun w => mcell gx nx px d g1 g3 hd w)
  have CY := Lib.hid (fun w => mcell gy ny py d g2 g4 hd w)
  obtain ⟨-, -, x3, x4, x5, x6⟩ := cell_facts (p := px) g1 g3 hd
  obtain ⟨-, -, y3, y4, y5, y6⟩ := cell_facts (p := py) g2 g4 hd
  have u1 := mul_rng g1 hd
  have u2 := mul_rng g2 hd
  unfold GiveC4 cwA cwB cwC cwD
  generalize cellI gx nx px d = I at *
  generalize cellI gy ny py d = K at *
  generalize cellS gx nx px d = S at *
  generalize cellS gy ny py d = T at *
  have P0 := Lib.hid (fun w hm => mk_kn g gx gy nx ny I K ks hG (by omega) (by omega) w hm)
  have P1 := Lib.hid (fun w hm => mk_kn g gx gy nx ny (I + 1) K ks hG (by omega) (by omega) w hm)
  have P2 := Lib.hid (fun w hm => mk_kn g gx gy nx ny I (K + 1) ks hG (by omega) (by omega) w hm)
  have P3 := Lib.hid (fun w hm => mk_kn g gx gy nx ny (I + 1) (K + 1) ks hG (by omega) (by omega) w hm)
  obtain ⟨U, hU⟩ : ∃ v, v = gx * d := ⟨_, rfl⟩
  obtain ⟨H, hH⟩ : ∃ v, v = gy * d := ⟨_, rfl⟩
  have e1 : IntKind.i64.wrap (gx * d) = U := by rw [hU]; exact iw ⟨by omega, by omega⟩
  have e2 : IntKind.i64.wrap (gy * d) = H := by rw [hH]; exact iw ⟨by omega, by omega⟩
  rw [← hU] at x6 u1 ⊢
  rw [← hH] at y6 u2 ⊢
  obtain ⟨us, hus⟩ : ∃ v, v = U - S := ⟨_, rfl⟩
  obtain ⟨ht, hht⟩ : ∃ v, v = H - T := ⟨_, rfl⟩
  have e3 : IntKind.i64.wrap (U - S) = us := by rw [hus]; exact iw ⟨by omega, by omega⟩
  have e4 : IntKind.i64.wrap (H - T) = ht := by rw [hht]; exact iw ⟨by omega, by omega⟩
  rw [← hus, ← hht]
  have q1 := prod_rng (a := us) (b := ht) (by omega) (by omega)
  have q2 := prod_rng (a := S) (b := ht) (by omega) (by omega)
  have q3 := prod_rng (a := us) (b := T) (by omega) (by omega)
  have q4 := prod_rng (a := S) (b := T) (by omega) (by omega)
  obtain ⟨b0, hb0⟩ : ∃ v, v = us * ht := ⟨_, rfl⟩
  obtain ⟨b1, hb1⟩ : ∃ v, v = S * ht := ⟨_, rfl⟩
  obtain ⟨b2, hb2⟩ : ∃ v, v = us * T := ⟨_, rfl⟩
  obtain ⟨b3, hb3⟩ : ∃ v, v = S * T := ⟨_, rfl⟩
  have e5 : IntKind.i64.wrap (us * ht) = b0 := by rw [hb0]; exact iw ⟨by omega, by omega⟩
  have e6 : IntKind.i64.wrap (S * ht) = b1 := by rw [hb1]; exact iw ⟨by omega, by omega⟩
  have e7 : IntKind.i64.wrap (us * T) = b2 := by rw [hb2]; exact iw ⟨by omega, by omega⟩
  have e8 : IntKind.i64.wrap (S * T) = b3 := by rw [hb3]; exact iw ⟨by omega, by omega⟩
  rw [← hb0, ← hb1, ← hb2, ← hb3]
  obtain ⟨I1, hI1⟩ : ∃ v, v = I + 1 := ⟨_, rfl⟩
  obtain ⟨K1, hK1⟩ : ∃ v, v = K + 1 := ⟨_, rfl⟩
  have e9 : IntKind.i64.wrap (I + 1) = I1 := by rw [hI1]; exact iw ⟨by omega, by omega⟩
  have e10 : IntKind.i64.wrap (K + 1) = K1 := by rw [hK1]; exact iw ⟨by omega, by omega⟩
  rw [← hI1] at P1 P3 ⊢
  rw [← hK1] at P2 P3 ⊢
  clear q1 q2 q3 q4 hb0 hb1 hb2 hb3 hus hht hU hH x3 x4 x5 x6 y3 y4 y5 y6 u1 u2 g1 g2 g3 g4 g5 hI1 hK1 hG hd
  generalize (knP ks nx I K).1 = kx0 at *
  generalize (knP ks nx I K).2 = ky0 at *
  generalize (knP ks nx I1 K).1 = kx1 at *
  generalize (knP ks nx I1 K).2 = ky1 at *
  generalize (knP ks nx I K1).1 = kx2 at *
  generalize (knP ks nx I K1).2 = ky2 at *
  generalize (knP ks nx I1 K1).1 = kx3 at *
  generalize (knP ks nx I1 K1).2 = ky3 at *
  go_enter Try.func80, Try.ntmps80
  go_upto_region 1 with fail
  have BB := start1 w #[.int .i64 0, .int .i64 0, .int .i64 0, .int .i64 0, .int .i64 0, .int .i64 0, .int .i64 0, .int .i64 0, .int .i64 0, .int .i64 0, .int .i64 0, .int .i64 0] C4T
  obtain ⟨BB, hsz, r_res⟩ := BB
  generalize (w.alloc (.cells #[.int .i64 0, .int .i64 0, .int .i64 0, .int .i64 0, .int .i64 0, .int .i64 0, .int .i64 0, .int .i64 0, .int .i64 0, .int .i64 0, .int .i64 0, .int .i64 0] C4T)) = w0 at *
  replace BB := Lib.hid BB
  replace r_res := Lib.hid r_res
  clear hsz
  have h_mx := Lib.hid (hm.below BB.out)
  obtain ⟨b, cap, hA, -⟩ := hm
  have r_m := Lib.hid (hA.keep BB.out)
  clear hA
  obtain ⟨c_m0, c_m1, c_m2, c_m3, c_m4, f_m0, f_m1, f_m2, f_m3, f_m4⟩ := reads5 r_m.out
  have l_m := r_m.out.lt
  go_wp2_with fail
  refine (CX.out _).mono ?_
  rintro e w1 ⟨rfl, hb⟩
  clear c_m0 c_m1 c_m2 c_m3 c_m4 f_m0 f_m1 f_m2 f_m3 f_m4 l_m
  replace r_res := Lib.hid (r_res.out.keep hb)
  replace r_m := Lib.hid (r_m.out.keep hb)
  replace h_mx := Lib.hid (MX.below h_mx.out hb)
  replace BB := Lib.hid (below_next BB.out hb)
  clear hb
  obtain ⟨c_m0, c_m1, c_m2, c_m3, c_m4, f_m0, f_m1, f_m2, f_m3, f_m4⟩ := reads5 r_m.out
  have l_m := r_m.out.lt
  go_wp2_with fail
  refine (CY.out _).mono ?_
  rintro e w2 ⟨rfl, hb⟩
  clear c_m0 c_m1 c_m2 c_m3 c_m4 f_m0 f_m1 f_m2 f_m3 f_m4 l_m
  replace r_res := Lib.hid (r_res.out.keep hb)
  replace r_m := Lib.hid (r_m.out.keep hb)
  replace h_mx := Lib.hid (MX.below h_mx.out hb)
  replace BB := Lib.hid (below_next BB.out hb)
  clear hb
  obtain ⟨c_m0, c_m1, c_m2, c_m3, c_m4, f_m0, f_m1, f_m2, f_m3, f_m4⟩ := reads5 r_m.out
  have l_m := r_m.out.lt
  go_wp2_with fail
  go_quiet (fail)
  have hb := below_drawn (Below.refl w2.heap.size w2) nq
  generalize w2.drewN nq = w3 at *
  clear c_m0 c_m1 c_m2 c_m3 c_m4 f_m0 f_m1 f_m2 f_m3 f_m4 l_m
  replace r_res := Lib.hid (r_res.out.keep hb)
  replace r_m := Lib.hid (r_m.out.keep hb)
  replace h_mx := Lib.hid (MX.below h_mx.out hb)
  replace BB := Lib.hid (below_next BB.out hb)
  clear hb nq
  go_wp2_with fail
  refine (P0.out _ h_mx.out).mono ?_
  rintro e w4 ⟨rfl, hb⟩
  replace r_res := Lib.hid (r_res.out.keep hb)
  replace r_m := Lib.hid (r_m.out.keep hb)
  replace h_mx := Lib.hid (MX.below h_mx.out hb)
  replace BB := Lib.hid (below_next BB.out hb)
  clear hb
  go_wp2_with fail
  refine (P1.out _ h_mx.out).mono ?_
  rintro e w5 ⟨rfl, hb⟩
  replace r_res := Lib.hid (r_res.out.keep hb)
  replace r_m := Lib.hid (r_m.out.keep hb)
  replace h_mx := Lib.hid (MX.below h_mx.out hb)
  replace BB := Lib.hid (below_next BB.out hb)
  clear hb
  go_wp2_with fail
  refine (P2.out _ h_mx.out).mono ?_
  rintro e w6 ⟨rfl, hb⟩
  replace r_res := Lib.hid (r_res.out.keep hb)
  replace r_m := Lib.hid (r_m.out.keep hb)
  replace h_mx := Lib.hid (MX.below h_mx.out hb)
  replace BB := Lib.hid (below_next BB.out hb)
  clear hb
  go_wp2_with fail
  refine (P3.out _ h_mx.out).mono ?_
  rintro e w7 ⟨rfl, hb⟩
  replace r_res := Lib.hid (r_res.out.keep hb)
  replace r_m := Lib.hid (r_m.out.keep hb)
  replace h_mx := Lib.hid (MX.below h_mx.out hb)
  replace BB := Lib.hid (below_next BB.out hb)
  clear hb
  obtain ⟨c_res0, c_res1, c_res2, c_res3, c_res4, c_res5, c_res6, c_res7, c_res8, c_res9, c_res10, c_res11, f_res0, f_res1, f_res2, f_res3, f_res4, f_res5, f_res6, f_res7, f_res8, f_res9, f_res10, f_res11⟩ := reads12 r_res.out
  have l_res := r_res.out.lt
  go_wp2_with fail
  clear r_m
  clear c_res0 c_res1 c_res2 c_res3 c_res4 c_res5 c_res6 c_res7 c_res8 c_res9 c_res10 c_res11 f_res0 f_res1 f_res2 f_res3 f_res4 f_res5 f_res6 f_res7 f_res8 f_res9 f_res10 f_res11 l_res
  have e_st : ((((((((((((w7.setCell ⟨w.heap.size, 0, none⟩ (.int .i64 kx0)).setCell ⟨w.heap.size, 1, none⟩ (.int .i64 ky0)).setCell ⟨w.heap.size, 2, none⟩ (.int .i64 b0)).setCell ⟨w.heap.size, 3, none⟩ (.int .i64 kx1)).setCell ⟨w.heap.size, 4, none⟩ (.int .i64 ky1)).setCell ⟨w.heap.size, 5, none⟩ (.int .i64 b1)).setCell ⟨w.heap.size, 6, none⟩ (.int .i64 kx2)).setCell ⟨w.heap.size, 7, none⟩ (.int .i64 ky2)).setCell ⟨w.heap.size, 8, none⟩ (.int .i64 b2)).setCell ⟨w.heap.size, 9, none⟩ (.int .i64 kx3)).setCell ⟨w.heap.size, 10, none⟩ (.int .i64 ky3)).setCell ⟨w.heap.size, 11, none⟩ (.int .i64 b3)) = setFrom w7 (w.heap.size) 0 [.int .i64 kx0, .int .i64 ky0, .int .i64 b0, .int .i64 kx1, .int .i64 ky1, .int .i64 b1, .int .i64 kx2, .int .i64 ky2, .int .i64 b2, .int .i64 kx3, .int .i64 ky3, .int .i64 b3] := by simp only [setFrom, Nat.reduceAdd]
  rw [e_st]
  clear e_st
  replace r_res := Lib.hid (AtB.setAll r_res.out [.int .i64 kx0, .int .i64 ky0, .int .i64 b0, .int .i64 kx1, .int .i64 ky1, .int .i64 b1, .int .i64 kx2, .int .i64 ky2, .int .i64 b2, .int .i64 kx3, .int .i64 ky3, .int .i64 b3] rfl)
  replace BB := Lib.hid (below_setAll (b := w.heap.size) (by omega) [.int .i64 kx0, .int .i64 ky0, .int .i64 b0, .int .i64 kx1, .int .i64 ky1, .int .i64 b1, .int .i64 kx2, .int .i64 ky2, .int .i64 b2, .int .i64 kx3, .int .i64 ky3, .int .i64 b3] 0 BB.out)
  generalize setFrom w7 (w.heap.size) 0 [.int .i64 kx0, .int .i64 ky0, .int .i64 b0, .int .i64 kx1, .int .i64 ky1, .int .i64 b1, .int .i64 kx2, .int .i64 ky2, .int .i64 b2, .int .i64 kx3, .int .i64 ky3, .int .i64 b3] = w8 at *
  obtain ⟨c_res0, c_res1, c_res2, c_res3, c_res4, c_res5, c_res6, c_res7, c_res8, c_res9, c_res10, c_res11, f_res0, f_res1, f_res2, f_res3, f_res4, f_res5, f_res6, f_res7, f_res8, f_res9, f_res10, f_res11⟩ := reads12 r_res.out
  have l_res := r_res.out.lt
  refine bodyPost_ret (v := .agg #[.int .i64 kx0, .int .i64 ky0, .int .i64 b0, .int .i64 kx1, .int .i64 ky1, .int .i64 b1, .int .i64 kx2, .int .i64 ky2, .int .i64 b2, .int .i64 kx3, .int .i64 ky3, .int .i64 b3]) (by unfold results; simp only [Try.results80]; go_simp) rfl ⟨rfl, BB.out⟩
def mixS (b0 f0 b1 f1 b2 f2 b3 f3 : Int) : Int := 0 + b0 * f0 + b1 * f1 + b2 * f2 + b3 * f3
theorem mix_rng {b f : Int} (hb : 0 ≤ b ∧ b ≤ 268435456) (hf : I64 f) : -2475880078570760549798248448 ≤ b * f ∧ b * f ≤ 2475880078570760549798248448 := by
  obtain ⟨h1, h2⟩ := hf
  have k1 : b.natAbs ≤ 268435456 := by omega
  have k2 : f.natAbs ≤ 9223372036854775808 := by omega
  have k3 := Nat.mul_le_mul k1 k2
  rw [← Int.natAbs_mul] at k3
  omega
theorem fdiv_128 {z t : Int} (hz : I128 z) (ht : 1 ≤ t) : I128 (z.fdiv t) := by
  rw [Int.fdiv_eq_ediv_of_nonneg _ (by omega)]
  unfold I128 at *
  have h1 := Int.mul_ediv_add_emod z t
  have h2 := Int.emod_nonneg z (show t ≠ 0 by omega)
  have h3 := Int.emod_lt_of_pos z (show 0 < t by omega)
  constructor
  · refine (Int.le_ediv_iff_mul_le (by omega)).2 ?_
    have : (170141183460469231731687303715884105728 : Int) * 1 ≤ 170141183460469231731687303715884105728 * t := Int.mul_le_mul_of_nonneg_left ht (by omega)
    omega
  · have : z / t < 170141183460469231731687303715884105728 := (Int.ediv_lt_iff_lt_mul (by omega)).2 (by
      have : (170141183460469231731687303715884105728 : Int) * 1 ≤ 170141183460469231731687303715884105728 * t := Int.mul_le_mul_of_nonneg_left ht (by omega)
      omega)
    omega
set_option maxRecDepth 100000 in
set_option maxHeartbeats 8000000 in
theorem mmix_x (x0 y0 b0 x1 y1 b1 x2 y2 b2 x3 y3 b3 : Int) (h0 : 0 ≤ b0 ∧ b0 ≤ 268435456) (h1 : 0 ≤ b1 ∧ b1 ≤ 268435456) (h2 : 0 ≤ b2 ∧ b2 ≤ 268435456) (h3 : 0 ≤ b3 ∧ b3 ≤ 268435456) (hb : b0 + b1 + b2 + b3 ≠ 0) (f0 : I64 x0) (f1 : I64 x1) (f2 : I64 x2) (f3 : I64 x3) (w : World) :
    Calls Try.prog 81 #[.agg #[.int .i64 x0, .int .i64 y0, .int .i64 b0, .int .i64 x1, .int .i64 y1, .int .i64 b1, .int .i64 x2, .int .i64 y2, .int .i64 b2, .int .i64 x3, .int .i64 y3, .int .i64 b3], .func (.func 82) #[] #[]] w fun e w' => e = .returned (.int .i64 (cutI ((mixS b0 x0 b1 x1 b2 x2 b3 x3).fdiv (b0 + b1 + b2 + b3)))) ∧ Below w.heap.size w w' := by
  have KC0 := Lib.hid (fun w => mcolumn x0 y0 w)
  have KC1 := Lib.hid (fun w => mcolumn x1 y1 w)
  have KC2 := Lib.hid (fun w => mcolumn x2 y2 w)
  have KC3 := Lib.hid (fun w => mcolumn x3 y3 w)
  have M0 := Lib.hid (fun w => wmul b0 x0 (by unfold I64; omega) f0 w)
  have M1 := Lib.hid (fun w => wmul b1 x1 (by unfold I64; omega) f1 w)
  have M2 := Lib.hid (fun w => wmul b2 x2 (by unfold I64; omega) f2 w)
  have M3 := Lib.hid (fun w => wmul b3 x3 (by unfold I64; omega) f3 w)
  have p0 := mix_rng h0 f0
  have p1 := mix_rng h1 f1
  have p2 := mix_rng h2 f2
  have p3 := mix_rng h3 f3
  unfold mixS
  generalize b0 * x0 = q0 at *
  generalize b1 * x1 = q1 at *
  generalize b2 * x2 = q2 at *
  generalize b3 * x3 = q3 at *
  have R := Lib.hid (show I128 (0 + q0) ∧ I128 (0 + q0 + q1) ∧ I128 (0 + q0 + q1 + q2) ∧ I128 (0 + q0 + q1 + q2 + q3) by unfold I128; refine ⟨?_, ?_, ?_, ?_⟩ <;> omega)
  have A0 := Lib.hid (fun w xh xl yh yl hx hy => wadd 0 q0 xh xl yh yl hx hy w)
  have A1 := Lib.hid (fun w xh xl yh yl hx hy => wadd (0 + q0) q1 xh xl yh yl hx hy w)
  have A2 := Lib.hid (fun w xh xl yh yl hx hy => wadd (0 + q0 + q1) q2 xh xl yh yl hx hy w)
  have A3 := Lib.hid (fun w xh xl yh yl hx hy => wadd (0 + q0 + q1 + q2) q3 xh xl yh yl hx hy w)
  have CQ := Lib.hid (fun w xh xl hx => qwide (0 + q0 + q1 + q2 + q3) xh xl (b0 + b1 + b2 + b3) hx (by unfold I64; omega) w)
  have CC := Lib.hid (fun z xh xl hx w => qcut z xh xl hx w)
  have HQ : Hid (I128 ((0 + q0 + q1 + q2 + q3).fdiv (b0 + b1 + b2 + b3))) := fdiv_128 R.out.2.2.2 (by omega)
  obtain ⟨t1, ht1⟩ : ∃ v, v = 0 + b0 := ⟨_, rfl⟩
  obtain ⟨t2, ht2⟩ : ∃ v, v = t1 + b1 := ⟨_, rfl⟩
  obtain ⟨t3, ht3⟩ : ∃ v, v = t2 + b2 := ⟨_, rfl⟩
  obtain ⟨t4, ht4⟩ : ∃ v, v = t3 + b3 := ⟨_, rfl⟩
  have e1 : IntKind.i64.wrap (0 + b0) = t1 := by rw [ht1]; exact iw ⟨by omega, by omega⟩
  have e1' : IntKind.i64.wrap b0 = t1 := by rw [ht1]; rw [Int.zero_add]; exact iw ⟨by omega, by omega⟩
  have e2 : IntKind.i64.wrap (t1 + b1) = t2 := by rw [ht2]; exact iw ⟨by omega, by omega⟩
  have e3 : IntKind.i64.wrap (t2 + b2) = t3 := by rw [ht3]; exact iw ⟨by omega, by omega⟩
  have e4 : IntKind.i64.wrap (t3 + b3) = t4 := by rw [ht4]; exact iw ⟨by omega, by omega⟩
  rw [show b0 + b1 + b2 + b3 = t4 by omega] at CQ HQ ⊢
  have hn : t4 ≠ 0 := by omega
  clear p0 p1 p2 p3 h0 h1 h2 h3 ht1 ht2 ht3 ht4 f0 f1 f2 f3 hb
  obtain ⟨Z, hZ⟩ : ∃ v, v = 0 + q0 + q1 + q2 + q3 := ⟨_, rfl⟩
  rw [← hZ] at CQ HQ ⊢
  replace hZ := Lib.hid hZ
  have u0 : ∀ w, (Instr.index C4T (.agg #[.int .i64 x0, .int .i64 y0, .int .i64 b0, .int .i64 x1, .int .i64 y1, .int .i64 b1, .int .i64 x2, .int .i64 y2, .int .i64 b2, .int .i64 x3, .int .i64 y3, .int .i64 b3]) (.int .i64 0)).run Try.prog w = .ok (.agg #[.int .i64 x0, .int .i64 y0, .int .i64 b0]) w := by intro w; kernel_rfl
  have u1 : ∀ w, (Instr.index C4T (.agg #[.int .i64 x0, .int .i64 y0, .int .i64 b0, .int .i64 x1, .int .i64 y1, .int .i64 b1, .int .i64 x2, .int .i64 y2, .int .i64 b2, .int .i64 x3, .int .i64 y3, .int .i64 b3]) (.int .i64 1)).run Try.prog w = .ok (.agg #[.int .i64 x1, .int .i64 y1, .int .i64 b1]) w := by intro w; kernel_rfl
  have u2 : ∀ w, (Instr.index C4T (.agg #[.int .i64 x0, .int .i64 y0, .int .i64 b0, .int .i64 x1, .int .i64 y1, .int .i64 b1, .int .i64 x2, .int .i64 y2, .int .i64 b2, .int .i64 x3, .int .i64 y3, .int .i64 b3]) (.int .i64 2)).run Try.prog w = .ok (.agg #[.int .i64 x2, .int .i64 y2, .int .i64 b2]) w := by intro w; kernel_rfl
  have u3 : ∀ w, (Instr.index C4T (.agg #[.int .i64 x0, .int .i64 y0, .int .i64 b0, .int .i64 x1, .int .i64 y1, .int .i64 b1, .int .i64 x2, .int .i64 y2, .int .i64 b2, .int .i64 x3, .int .i64 y3, .int .i64 b3]) (.int .i64 3)).run Try.prog w = .ok (.agg #[.int .i64 x3, .int .i64 y3, .int .i64 b3]) w := by intro w; kernel_rfl
  go_enter Try.func81, Try.ntmps81
  go_upto_region 1 with fail
  have BB := start1 w #[.int .i64 x0, .int .i64 y0, .int .i64 b0, .int .i64 x1, .int .i64 y1, .int .i64 b1, .int .i64 x2, .int .i64 y2, .int .i64 b2, .int .i64 x3, .int .i64 y3, .int .i64 b3] C4T
  obtain ⟨BB, hsz, r_l⟩ := BB
  generalize (w.alloc (.cells #[.int .i64 x0, .int .i64 y0, .int .i64 b0, .int .i64 x1, .int .i64 y1, .int .i64 b1, .int .i64 x2, .int .i64 y2, .int .i64 b2, .int .i64 x3, .int .i64 y3, .int .i64 b3] C4T)) = w0 at *
  replace BB := Lib.hid BB
  replace r_l := Lib.hid r_l
  clear hsz
  go_upto_region 2 with fail
  have d_sum := Lib.hid (And.intro BB.out.size (And.intro r_l.out.lt (True.intro)))
  obtain ⟨hb, r_sum⟩ := laid w0 #[.int .i64 0, .int .u64 0] WT5
  replace r_l := Lib.hid (r_l.out.keep hb)
  replace BB := Lib.hid (below_next BB.out hb)
  replace r_sum := Lib.hid r_sum
  clear hb
  generalize w0.alloc (.cells #[.int .i64 0, .int .u64 0] WT5) = w1 at *
  generalize w0.heap.size = g_sum at *
  obtain ⟨c_l0, c_l1, c_l2, c_l3, c_l4, c_l5, c_l6, c_l7, c_l8, c_l9, c_l10, c_l11, f_l0, f_l1, f_l2, f_l3, f_l4, f_l5, f_l6, f_l7, f_l8, f_l9, f_l10, f_l11⟩ := reads12 r_l.out
  have l_l := r_l.out.lt
  go_wp2_with fail
  clear r_l
  refine wp_loop_rounds 5 ?_
  rw [rounds_succ]
  go_wp2_with fail
  clear c_l0 c_l1 c_l2 c_l3 c_l4 c_l5 c_l6 c_l7 c_l8 c_l9 c_l10 c_l11 f_l0 f_l1 f_l2 f_l3 f_l4 f_l5 f_l6 f_l7 f_l8 f_l9 f_l10 f_l11 l_l
  have d_c0 := Lib.hid (And.intro BB.out.size (And.intro r_sum.out.lt (True.intro)))
  obtain ⟨hb, r_c0⟩ := laid w1 #[.int .i64 x0, .int .i64 y0, .int .i64 b0] CRT
  replace r_sum := Lib.hid (r_sum.out.keep hb)
  replace BB := Lib.hid (below_next BB.out hb)
  replace r_c0 := Lib.hid r_c0
  clear hb
  generalize w1.alloc (.cells #[.int .i64 x0, .int .i64 y0, .int .i64 b0] CRT) = w2 at *
  generalize w1.heap.size = g_c0 at *
  go_wp2_with fail
  have KK := Lib.hid (fun (w9 : World) (h : Below w2.heap.size w2 w9) => (⟨cells2 (r_sum.out.keep h), cells3 (r_c0.out.keep h)⟩ : (w9.cell? ⟨g_sum, 0, none⟩ = some (.int .i64 0) ∧ w9.cell? ⟨g_sum, 1, none⟩ = some (.int .u64 0)) ∧ (w9.cell? ⟨g_c0, 0, none⟩ = some (.int .i64 x0) ∧ w9.cell? ⟨g_c0, 1, none⟩ = some (.int .i64 y0) ∧ w9.cell? ⟨g_c0, 2, none⟩ = some (.int .i64 b0))))
  have K0 := KK.out w2 (Below.refl _ _)
  have KD := KK.out w2.drew (below_drew (Below.refl _ _))
  refine AnyG.begin_ (fun w9 => (w9.cell? ⟨g_sum, 0, none⟩ = some (.int .i64 0) ∧ w9.cell? ⟨g_sum, 1, none⟩ = some (.int .u64 0)) ∧ (w9.cell? ⟨g_c0, 0, none⟩ = some (.int .i64 x0) ∧ w9.cell? ⟨g_c0, 1, none⟩ = some (.int .i64 y0) ∧ w9.cell? ⟨g_c0, 2, none⟩ = some (.int .i64 b0))) 12 (by kernel_rfl) ?_
  refine AnyG.take (i := 0) (v := ?_) rfl (by kernel_rfl) (by kernel_rfl) (by kernel_rfl) (fun _ _ _ h => h) (by kernel_rfl) (by kernel_rfl) (Or.inl ⟨by rfl, ?_⟩) (by assumption) ?_
  rotate_left
  · intro w9 hSw; (try dsimp only at hSw); go_simp <;> with_reducible rfl
  try simp only [Act.put, List.getElem_toArray, List.getElem_cons_zero, List.getElem_cons_succ, List.setIfInBounds_toArray, List.set_cons_zero, List.set_cons_succ]
  refine AnyG.take (i := 1) (v := ?_) rfl (by kernel_rfl) (by kernel_rfl) (by kernel_rfl) (fun _ _ _ h => h) (by kernel_rfl) (by kernel_rfl) (Or.inl ⟨by rfl, ?_⟩) (by assumption) ?_
  rotate_left
  · intro w9 hSw; (try dsimp only at hSw); go_simp <;> with_reducible rfl
  try simp only [Act.put, List.getElem_toArray, List.getElem_cons_zero, List.getElem_cons_succ, List.setIfInBounds_toArray, List.set_cons_zero, List.set_cons_succ]
  refine AnyG.take (i := 2) (v := ?_) rfl (by kernel_rfl) (by kernel_rfl) (by kernel_rfl) (fun _ _ _ h => h) (by kernel_rfl) (by kernel_rfl) (Or.inl ⟨by rfl, ?_⟩) (by assumption) ?_
  rotate_left
  · intro w9 hSw; (try dsimp only at hSw); go_simp <;> with_reducible rfl
  try simp only [Act.put, List.getElem_toArray, List.getElem_cons_zero, List.getElem_cons_succ, List.setIfInBounds_toArray, List.set_cons_zero, List.set_cons_succ]
  refine AnyG.take (i := 3) (v := ?_) rfl (by kernel_rfl) (by kernel_rfl) (by kernel_rfl) (fun _ _ _ h => h) (by kernel_rfl) (by kernel_rfl) (Or.inl ⟨by rfl, ?_⟩) (by assumption) ?_
  rotate_left
  · intro w9 hSw; (try dsimp only at hSw); go_simp <;> with_reducible rfl
  try simp only [Act.put, List.getElem_toArray, List.getElem_cons_zero, List.getElem_cons_succ, List.setIfInBounds_toArray, List.set_cons_zero, List.set_cons_succ]
  refine AnyG.take (i := 4) (v := ?_) rfl (by kernel_rfl) (by kernel_rfl) (by kernel_rfl) (fun _ _ _ h => h) (by kernel_rfl) (by kernel_rfl) (Or.inl ⟨by rfl, ?_⟩) (by assumption) ?_
  rotate_left
  · intro w9 hSw; (try dsimp only at hSw); go_simp <;> with_reducible rfl
  try simp only [Act.put, List.getElem_toArray, List.getElem_cons_zero, List.getElem_cons_succ, List.setIfInBounds_toArray, List.set_cons_zero, List.set_cons_succ]
  refine AnyG.take (i := 5) (v := ?_) rfl (by kernel_rfl) (by kernel_rfl) (by kernel_rfl) (fun _ _ _ h => h) (by kernel_rfl) (by kernel_rfl) (Or.inl ⟨by rfl, ?_⟩) (by assumption) ?_
  rotate_left
  · intro w9 hSw; (try dsimp only at hSw); go_simp <;> with_reducible rfl
  try simp only [Act.put, List.getElem_toArray, List.getElem_cons_zero, List.getElem_cons_succ, List.setIfInBounds_toArray, List.set_cons_zero, List.set_cons_succ]
  refine AnyG.step (i := 6) (by kernel_rfl) rfl (fun K hK => ?_)
  go_simp
  go_at_call 82
  refine (KC0.out _).mono ?_
  rintro e w3 ⟨rfl, hb⟩
  have B_w3 := Lib.hid (reg_next (w0 := w2) (by repeat (first | with_reducible exact Below.refl _ _ | with_reducible apply below_drew | with_reducible apply below_new)) hb)
  have K_w3 := KK.out _ B_w3.out
  clear hb
  refine hK.out _ _ (fun _ => K_w3) (fun hHeld => ?_)
  replace hHeld := hHeld (by decide)
  clear hK
  try simp only [Act.put, List.getElem_toArray, List.getElem_cons_zero, List.getElem_cons_succ, List.setIfInBounds_toArray, List.set_cons_zero, List.set_cons_succ]
  refine AnyG.step (i := 7) (by kernel_rfl) rfl (fun K hK => ?_)
  go_simp
  go_at_call 117
  refine (M0.out _).mono ?_
  rintro e w4 ⟨ph, pl, rfl, hb, hp⟩
  have B_w4 := Lib.hid (below_next B_w3.out hb)
  have K_w4 := KK.out _ B_w4.out
  clear hb
  refine hK.out _ _ (fun _ => K_w4) (fun hHeld => ?_)
  replace hHeld := hHeld (by decide)
  clear hK
  try simp only [Act.put, List.getElem_toArray, List.getElem_cons_zero, List.getElem_cons_succ, List.setIfInBounds_toArray, List.set_cons_zero, List.set_cons_succ]
  refine AnyG.step (i := 8) (by kernel_rfl) rfl (fun K hK => ?_)
  go_simp
  go_at_call 91
  refine (A0.out _ _ _ _ _ W128.zero hp).mono ?_
  rintro e w5 ⟨sh0, sl0, ok, rfl, hb, hs0⟩
  have B_w5 := Lib.hid (below_next B_w4.out hb)
  have K_w5 := KK.out _ B_w5.out
  obtain ⟨rc_sum0, rc_sum1, rf_sum0, rf_sum1⟩ := reads2 (r_sum.out.keep B_w5.out)
  have rl_sum := (r_sum.out.keep B_w5.out).lt
  clear hb
  refine hK.out _ _ (fun _ => K_w5) (fun hHeld => ?_)
  replace hHeld := hHeld (by decide)
  clear hK
  try simp only [Act.put, List.getElem_toArray, List.getElem_cons_zero, List.getElem_cons_succ, List.setIfInBounds_toArray, List.set_cons_zero, List.set_cons_succ]
  refine AnyG.take (i := 9) (v := ?_) rfl (by kernel_rfl) (by kernel_rfl) (by kernel_rfl) (fun _ _ _ h => h) (by kernel_rfl) (by kernel_rfl) (Or.inl ⟨by rfl, ?_⟩) (by assumption) ?_
  rotate_left
  · intro w9 hSw; (try dsimp only at hSw); go_simp <;> with_reducible rfl
  try simp only [Act.put, List.getElem_toArray, List.getElem_cons_zero, List.getElem_cons_succ, List.setIfInBounds_toArray, List.set_cons_zero, List.set_cons_succ]
  refine AnyG.take (i := 10) (v := ?_) rfl (by kernel_rfl) (by kernel_rfl) (by kernel_rfl) (fun _ _ _ h => h) (by kernel_rfl) (by kernel_rfl) (Or.inl ⟨by rfl, ?_⟩) (by assumption) ?_
  rotate_left
  · intro w9 hSw; (try dsimp only at hSw); go_simp <;> with_reducible rfl
  try simp only [Act.put, List.getElem_toArray, List.getElem_cons_zero, List.getElem_cons_succ, List.setIfInBounds_toArray, List.set_cons_zero, List.set_cons_succ]
  refine AnyG.take0 (i := 11) (v := ?_) rfl (by kernel_rfl) (by kernel_rfl) (by kernel_rfl) (fun _ _ _ h => h) (by decide) (Or.inl ⟨by rfl, ?_⟩) (by assumption) ?_
  rotate_left
  · intro w9 hSw; clear hSw; go_simp <;> with_reducible rfl
  try simp only [Act.put, List.getElem_toArray, List.getElem_cons_zero, List.getElem_cons_succ, List.setIfInBounds_toArray, List.set_cons_zero, List.set_cons_succ]
  refine AnyG.step (i := 12) (by kernel_rfl) rfl (fun K hK => ?_)
  go_simp
  refine hK.out _ _ (fun h => absurd h (by decide)) (fun _ => ?_)
  clear hK
  try simp only [Act.put, List.getElem_toArray, List.getElem_cons_zero, List.getElem_cons_succ, List.setIfInBounds_toArray, List.set_cons_zero, List.set_cons_succ]
  refine AnyG.done (by kernel_rfl) ?_ _
  clear KK K0 KD K_w3 K_w4 K_w5
  replace r_sum := Lib.hid (r_sum.out.keep B_w5.out)
  replace r_c0 := Lib.hid (r_c0.out.keep B_w5.out)
  replace BB := Lib.hid (below_next BB.out B_w5.out)
  clear B_w3 B_w4 B_w5
  replace hs0 := Lib.hid (hs0.of_room R.out.1)
  clear hp
  replace r_sum := Lib.hid (r_sum.out.set2 (.int .i64 sh0) (.int .u64 sl0))
  replace r_c0 := Lib.hid (r_c0.out.far2 (p := g_sum) (by have dd_c0 := d_c0.out; have dd_sum := d_sum.out; omega) (.int .i64 sh0) (.int .u64 sl0))
  replace BB := Lib.hid (below_far2 BB.out (p := g_sum) (by have dd := d_sum.out; omega) (.int .i64 sh0) (.int .u64 sl0))
  generalize ((w5.setCell ⟨g_sum, 0, none⟩ (.int .i64 sh0)).setCell ⟨g_sum, 1, none⟩ (.int .u64 sl0)) = w6 at *
  obtain ⟨c_c00, c_c01, c_c02, f_c00, f_c01, f_c02⟩ := reads3 r_c0.out
  have l_c0 := r_c0.out.lt
  go_wp2_with fail
  clear r_c0
  rw [rounds_succ]
  go_wp2_with fail
  clear c_c00 c_c01 c_c02 f_c00 f_c01 f_c02 l_c0
  have d_c1 := Lib.hid (And.intro BB.out.size (And.intro r_sum.out.lt (True.intro)))
  obtain ⟨hb, r_c1⟩ := laid w6 #[.int .i64 x1, .int .i64 y1, .int .i64 b1] CRT
  replace r_sum := Lib.hid (r_sum.out.keep hb)
  replace BB := Lib.hid (below_next BB.out hb)
  replace r_c1 := Lib.hid r_c1
  clear hb
  generalize w6.alloc (.cells #[.int .i64 x1, .int .i64 y1, .int .i64 b1] CRT) = w7 at *
  generalize w6.heap.size = g_c1 at *
  go_wp2_with fail
  have KK := Lib.hid (fun (w9 : World) (h : Below w7.heap.size w7 w9) => (⟨cells2 (r_sum.out.keep h), cells3 (r_c1.out.keep h)⟩ : (w9.cell? ⟨g_sum, 0, none⟩ = some (.int .i64 sh0) ∧ w9.cell? ⟨g_sum, 1, none⟩ = some (.int .u64 sl0)) ∧ (w9.cell? ⟨g_c1, 0, none⟩ = some (.int .i64 x1) ∧ w9.cell? ⟨g_c1, 1, none⟩ = some (.int .i64 y1) ∧ w9.cell? ⟨g_c1, 2, none⟩ = some (.int .i64 b1))))
  have K0 := KK.out w7 (Below.refl _ _)
  have KD := KK.out w7.drew (below_drew (Below.refl _ _))
  refine AnyG.begin_ (fun w9 => (w9.cell? ⟨g_sum, 0, none⟩ = some (.int .i64 sh0) ∧ w9.cell? ⟨g_sum, 1, none⟩ = some (.int .u64 sl0)) ∧ (w9.cell? ⟨g_c1, 0, none⟩ = some (.int .i64 x1) ∧ w9.cell? ⟨g_c1, 1, none⟩ = some (.int .i64 y1) ∧ w9.cell? ⟨g_c1, 2, none⟩ = some (.int .i64 b1))) 12 (by kernel_rfl) ?_
  refine AnyG.take (i := 0) (v := ?_) rfl (by kernel_rfl) (by kernel_rfl) (by kernel_rfl) (fun _ _ _ h => h) (by kernel_rfl) (by kernel_rfl) (Or.inl ⟨by rfl, ?_⟩) (by assumption) ?_
  rotate_left
  · intro w9 hSw; (try dsimp only at hSw); go_simp <;> with_reducible rfl
  try simp only [Act.put, List.getElem_toArray, List.getElem_cons_zero, List.getElem_cons_succ, List.setIfInBounds_toArray, List.set_cons_zero, List.set_cons_succ]
  refine AnyG.take (i := 1) (v := ?_) rfl (by kernel_rfl) (by kernel_rfl) (by kernel_rfl) (fun _ _ _ h => h) (by kernel_rfl) (by kernel_rfl) (Or.inl ⟨by rfl, ?_⟩) (by assumption) ?_
  rotate_left
  · intro w9 hSw; (try dsimp only at hSw); go_simp <;> with_reducible rfl
  try simp only [Act.put, List.getElem_toArray, List.getElem_cons_zero, List.getElem_cons_succ, List.setIfInBounds_toArray, List.set_cons_zero, List.set_cons_succ]
  refine AnyG.take (i := 2) (v := ?_) rfl (by kernel_rfl) (by kernel_rfl) (by kernel_rfl) (fun _ _ _ h => h) (by kernel_rfl) (by kernel_rfl) (Or.inl ⟨by rfl, ?_⟩) (by assumption) ?_
  rotate_left
  · intro w9 hSw; (try dsimp only at hSw); go_simp <;> with_reducible rfl
  try simp only [Act.put, List.getElem_toArray, List.getElem_cons_zero, List.getElem_cons_succ, List.setIfInBounds_toArray, List.set_cons_zero, List.set_cons_succ]
  refine AnyG.take (i := 3) (v := ?_) rfl (by kernel_rfl) (by kernel_rfl) (by kernel_rfl) (fun _ _ _ h => h) (by kernel_rfl) (by kernel_rfl) (Or.inl ⟨by rfl, ?_⟩) (by assumption) ?_
  rotate_left
  · intro w9 hSw; (try dsimp only at hSw); go_simp <;> with_reducible rfl
  try simp only [Act.put, List.getElem_toArray, List.getElem_cons_zero, List.getElem_cons_succ, List.setIfInBounds_toArray, List.set_cons_zero, List.set_cons_succ]
  refine AnyG.take (i := 4) (v := ?_) rfl (by kernel_rfl) (by kernel_rfl) (by kernel_rfl) (fun _ _ _ h => h) (by kernel_rfl) (by kernel_rfl) (Or.inl ⟨by rfl, ?_⟩) (by assumption) ?_
  rotate_left
  · intro w9 hSw; (try dsimp only at hSw); go_simp <;> with_reducible rfl
  try simp only [Act.put, List.getElem_toArray, List.getElem_cons_zero, List.getElem_cons_succ, List.setIfInBounds_toArray, List.set_cons_zero, List.set_cons_succ]
  refine AnyG.take (i := 5) (v := ?_) rfl (by kernel_rfl) (by kernel_rfl) (by kernel_rfl) (fun _ _ _ h => h) (by kernel_rfl) (by kernel_rfl) (Or.inl ⟨by rfl, ?_⟩) (by assumption) ?_
  rotate_left
  · intro w9 hSw; (try dsimp only at hSw); go_simp <;> with_reducible rfl
  try simp only [Act.put, List.getElem_toArray, List.getElem_cons_zero, List.getElem_cons_succ, List.setIfInBounds_toArray, List.set_cons_zero, List.set_cons_succ]
  refine AnyG.step (i := 6) (by kernel_rfl) rfl (fun K hK => ?_)
  go_simp
  go_at_call 82
  refine (KC1.out _).mono ?_
  rintro e w8 ⟨rfl, hb⟩
  have B_w8 := Lib.hid (reg_next (w0 := w7) (by repeat (first | with_reducible exact Below.refl _ _ | with_reducible apply below_drew | with_reducible apply below_new)) hb)
  have K_w8 := KK.out _ B_w8.out
  clear hb
  refine hK.out _ _ (fun _ => K_w8) (fun hHeld => ?_)
  replace hHeld := hHeld (by decide)
  clear hK
  try simp only [Act.put, List.getElem_toArray, List.getElem_cons_zero, List.getElem_cons_succ, List.setIfInBounds_toArray, List.set_cons_zero, List.set_cons_succ]
  refine AnyG.step (i := 7) (by kernel_rfl) rfl (fun K hK => ?_)
  go_simp
  go_at_call 117
  refine (M1.out _).mono ?_
  rintro e w10 ⟨ph, pl, rfl, hb, hp⟩
  have B_w10 := Lib.hid (below_next B_w8.out hb)
  have K_w10 := KK.out _ B_w10.out
  clear hb
  refine hK.out _ _ (fun _ => K_w10) (fun hHeld => ?_)
  replace hHeld := hHeld (by decide)
  clear hK
  try simp only [Act.put, List.getElem_toArray, List.getElem_cons_zero, List.getElem_cons_succ, List.setIfInBounds_toArray, List.set_cons_zero, List.set_cons_succ]
  refine AnyG.step (i := 8) (by kernel_rfl) rfl (fun K hK => ?_)
  go_simp
  go_at_call 91
  refine (A1.out _ _ _ _ _ hs0.out hp).mono ?_
  rintro e w11 ⟨sh1, sl1, ok, rfl, hb, hs1⟩
  have B_w11 := Lib.hid (below_next B_w10.out hb)
  have K_w11 := KK.out _ B_w11.out
  obtain ⟨rc_sum0, rc_sum1, rf_sum0, rf_sum1⟩ := reads2 (r_sum.out.keep B_w11.out)
  have rl_sum := (r_sum.out.keep B_w11.out).lt
  clear hb
  refine hK.out _ _ (fun _ => K_w11) (fun hHeld => ?_)
  replace hHeld := hHeld (by decide)
  clear hK
  try simp only [Act.put, List.getElem_toArray, List.getElem_cons_zero, List.getElem_cons_succ, List.setIfInBounds_toArray, List.set_cons_zero, List.set_cons_succ]
  refine AnyG.take (i := 9) (v := ?_) rfl (by kernel_rfl) (by kernel_rfl) (by kernel_rfl) (fun _ _ _ h => h) (by kernel_rfl) (by kernel_rfl) (Or.inl ⟨by rfl, ?_⟩) (by assumption) ?_
  rotate_left
  · intro w9 hSw; (try dsimp only at hSw); go_simp <;> with_reducible rfl
  try simp only [Act.put, List.getElem_toArray, List.getElem_cons_zero, List.getElem_cons_succ, List.setIfInBounds_toArray, List.set_cons_zero, List.set_cons_succ]
  refine AnyG.take (i := 10) (v := ?_) rfl (by kernel_rfl) (by kernel_rfl) (by kernel_rfl) (fun _ _ _ h => h) (by kernel_rfl) (by kernel_rfl) (Or.inl ⟨by rfl, ?_⟩) (by assumption) ?_
  rotate_left
  · intro w9 hSw; (try dsimp only at hSw); go_simp <;> with_reducible rfl
  try simp only [Act.put, List.getElem_toArray, List.getElem_cons_zero, List.getElem_cons_succ, List.setIfInBounds_toArray, List.set_cons_zero, List.set_cons_succ]
  refine AnyG.take0 (i := 11) (v := ?_) rfl (by kernel_rfl) (by kernel_rfl) (by kernel_rfl) (fun _ _ _ h => h) (by decide) (Or.inl ⟨by rfl, ?_⟩) (by assumption) ?_
  rotate_left
  · intro w9 hSw; clear hSw; go_simp <;> with_reducible rfl
  try simp only [Act.put, List.getElem_toArray, List.getElem_cons_zero, List.getElem_cons_succ, List.setIfInBounds_toArray, List.set_cons_zero, List.set_cons_succ]
  refine AnyG.step (i := 12) (by kernel_rfl) rfl (fun K hK => ?_)
  go_simp
  refine hK.out _ _ (fun h => absurd h (by decide)) (fun _ => ?_)
  clear hK
  try simp only [Act.put, List.getElem_toArray, List.getElem_cons_zero, List.getElem_cons_succ, List.setIfInBounds_toArray, List.set_cons_zero, List.set_cons_succ]
  refine AnyG.done (by kernel_rfl) ?_ _
  clear KK K0 KD K_w8 K_w10 K_w11
  replace r_sum := Lib.hid (r_sum.out.keep B_w11.out)
  replace r_c1 := Lib.hid (r_c1.out.keep B_w11.out)
  replace BB := Lib.hid (below_next BB.out B_w11.out)
  clear B_w8 B_w10 B_w11
  replace hs1 := Lib.hid (hs1.of_room R.out.2.1)
  clear hp
  replace r_sum := Lib.hid (r_sum.out.set2 (.int .i64 sh1) (.int .u64 sl1))
  replace r_c1 := Lib.hid (r_c1.out.far2 (p := g_sum) (by have dd_c1 := d_c1.out; have dd_sum := d_sum.out; omega) (.int .i64 sh1) (.int .u64 sl1))
  replace BB := Lib.hid (below_far2 BB.out (p := g_sum) (by have dd := d_sum.out; omega) (.int .i64 sh1) (.int .u64 sl1))
  generalize ((w11.setCell ⟨g_sum, 0, none⟩ (.int .i64 sh1)).setCell ⟨g_sum, 1, none⟩ (.int .u64 sl1)) = w12 at *
  obtain ⟨c_c10, c_c11, c_c12, f_c10, f_c11, f_c12⟩ := reads3 r_c1.out
  have l_c1 := r_c1.out.lt
  go_wp2_with fail
  clear r_c1
  rw [rounds_succ]
  go_wp2_with fail
  clear c_c10 c_c11 c_c12 f_c10 f_c11 f_c12 l_c1
  have d_c2 := Lib.hid (And.intro BB.out.size (And.intro r_sum.out.lt (True.intro)))
  obtain ⟨hb, r_c2⟩ := laid w12 #[.int .i64 x2, .int .i64 y2, .int .i64 b2] CRT
  replace r_sum := Lib.hid (r_sum.out.keep hb)
  replace BB := Lib.hid (below_next BB.out hb)
  replace r_c2 := Lib.hid r_c2
  clear hb
  generalize w12.alloc (.cells #[.int .i64 x2, .int .i64 y2, .int .i64 b2] CRT) = w13 at *
  generalize w12.heap.size = g_c2 at *
  go_wp2_with fail
  have KK := Lib.hid (fun (w9 : World) (h : Below w13.heap.size w13 w9) => (⟨cells2 (r_sum.out.keep h), cells3 (r_c2.out.keep h)⟩ : (w9.cell? ⟨g_sum, 0, none⟩ = some (.int .i64 sh1) ∧ w9.cell? ⟨g_sum, 1, none⟩ = some (.int .u64 sl1)) ∧ (w9.cell? ⟨g_c2, 0, none⟩ = some (.int .i64 x2) ∧ w9.cell? ⟨g_c2, 1, none⟩ = some (.int .i64 y2) ∧ w9.cell? ⟨g_c2, 2, none⟩ = some (.int .i64 b2))))
  have K0 := KK.out w13 (Below.refl _ _)
  have KD := KK.out w13.drew (below_drew (Below.refl _ _))
  refine AnyG.begin_ (fun w9 => (w9.cell? ⟨g_sum, 0, none⟩ = some (.int .i64 sh1) ∧ w9.cell? ⟨g_sum, 1, none⟩ = some (.int .u64 sl1)) ∧ (w9.cell? ⟨g_c2, 0, none⟩ = some (.int .i64 x2) ∧ w9.cell? ⟨g_c2, 1, none⟩ = some (.int .i64 y2) ∧ w9.cell? ⟨g_c2, 2, none⟩ = some (.int .i64 b2))) 12 (by kernel_rfl) ?_
  refine AnyG.take (i := 0) (v := ?_) rfl (by kernel_rfl) (by kernel_rfl) (by kernel_rfl) (fun _ _ _ h => h) (by kernel_rfl) (by kernel_rfl) (Or.inl ⟨by rfl, ?_⟩) (by assumption) ?_
  rotate_left
  · intro w9 hSw; (try dsimp only at hSw); go_simp <;> with_reducible rfl
  try simp only [Act.put, List.getElem_toArray, List.getElem_cons_zero, List.getElem_cons_succ, List.setIfInBounds_toArray, List.set_cons_zero, List.set_cons_succ]
  refine AnyG.take (i := 1) (v := ?_) rfl (by kernel_rfl) (by kernel_rfl) (by kernel_rfl) (fun _ _ _ h => h) (by kernel_rfl) (by kernel_rfl) (Or.inl ⟨by rfl, ?_⟩) (by assumption) ?_
  rotate_left
  · intro w9 hSw; (try dsimp only at hSw); go_simp <;> with_reducible rfl
  try simp only [Act.put, List.getElem_toArray, List.getElem_cons_zero, List.getElem_cons_succ, List.setIfInBounds_toArray, List.set_cons_zero, List.set_cons_succ]
  refine AnyG.take (i := 2) (v := ?_) rfl (by kernel_rfl) (by kernel_rfl) (by kernel_rfl) (fun _ _ _ h => h) (by kernel_rfl) (by kernel_rfl) (Or.inl ⟨by rfl, ?_⟩) (by assumption) ?_
  rotate_left
  · intro w9 hSw; (try dsimp only at hSw); go_simp <;> with_reducible rfl
  try simp only [Act.put, List.getElem_toArray, List.getElem_cons_zero, List.getElem_cons_succ, List.setIfInBounds_toArray, List.set_cons_zero, List.set_cons_succ]
  refine AnyG.take (i := 3) (v := ?_) rfl (by kernel_rfl) (by kernel_rfl) (by kernel_rfl) (fun _ _ _ h => h) (by kernel_rfl) (by kernel_rfl) (Or.inl ⟨by rfl, ?_⟩) (by assumption) ?_
  rotate_left
  · intro w9 hSw; (try dsimp only at hSw); go_simp <;> with_reducible rfl
  try simp only [Act.put, List.getElem_toArray, List.getElem_cons_zero, List.getElem_cons_succ, List.setIfInBounds_toArray, List.set_cons_zero, List.set_cons_succ]
  refine AnyG.take (i := 4) (v := ?_) rfl (by kernel_rfl) (by kernel_rfl) (by kernel_rfl) (fun _ _ _ h => h) (by kernel_rfl) (by kernel_rfl) (Or.inl ⟨by rfl, ?_⟩) (by assumption) ?_
  rotate_left
  · intro w9 hSw; (try dsimp only at hSw); go_simp <;> with_reducible rfl
  try simp only [Act.put, List.getElem_toArray, List.getElem_cons_zero, List.getElem_cons_succ, List.setIfInBounds_toArray, List.set_cons_zero, List.set_cons_succ]
  refine AnyG.take (i := 5) (v := ?_) rfl (by kernel_rfl) (by kernel_rfl) (by kernel_rfl) (fun _ _ _ h => h) (by kernel_rfl) (by kernel_rfl) (Or.inl ⟨by rfl, ?_⟩) (by assumption) ?_
  rotate_left
  · intro w9 hSw; (try dsimp only at hSw); go_simp <;> with_reducible rfl
  try simp only [Act.put, List.getElem_toArray, List.getElem_cons_zero, List.getElem_cons_succ, List.setIfInBounds_toArray, List.set_cons_zero, List.set_cons_succ]
  refine AnyG.step (i := 6) (by kernel_rfl) rfl (fun K hK => ?_)
  go_simp
  go_at_call 82
  refine (KC2.out _).mono ?_
  rintro e w14 ⟨rfl, hb⟩
  have B_w14 := Lib.hid (reg_next (w0 := w13) (by repeat (first | with_reducible exact Below.refl _ _ | with_reducible apply below_drew | with_reducible apply below_new)) hb)
  have K_w14 := KK.out _ B_w14.out
  clear hb
  refine hK.out _ _ (fun _ => K_w14) (fun hHeld => ?_)
  replace hHeld := hHeld (by decide)
  clear hK
  try simp only [Act.put, List.getElem_toArray, List.getElem_cons_zero, List.getElem_cons_succ, List.setIfInBounds_toArray, List.set_cons_zero, List.set_cons_succ]
  refine AnyG.step (i := 7) (by kernel_rfl) rfl (fun K hK => ?_)
  go_simp
  go_at_call 117
  refine (M2.out _).mono ?_
  rintro e w15 ⟨ph, pl, rfl, hb, hp⟩
  have B_w15 := Lib.hid (below_next B_w14.out hb)
  have K_w15 := KK.out _ B_w15.out
  clear hb
  refine hK.out _ _ (fun _ => K_w15) (fun hHeld => ?_)
  replace hHeld := hHeld (by decide)
  clear hK
  try simp only [Act.put, List.getElem_toArray, List.getElem_cons_zero, List.getElem_cons_succ, List.setIfInBounds_toArray, List.set_cons_zero, List.set_cons_succ]
  refine AnyG.step (i := 8) (by kernel_rfl) rfl (fun K hK => ?_)
  go_simp
  go_at_call 91
  refine (A2.out _ _ _ _ _ hs1.out hp).mono ?_
  rintro e w16 ⟨sh2, sl2, ok, rfl, hb, hs2⟩
  have B_w16 := Lib.hid (below_next B_w15.out hb)
  have K_w16 := KK.out _ B_w16.out
  obtain ⟨rc_sum0, rc_sum1, rf_sum0, rf_sum1⟩ := reads2 (r_sum.out.keep B_w16.out)
  have rl_sum := (r_sum.out.keep B_w16.out).lt
  clear hb
  refine hK.out _ _ (fun _ => K_w16) (fun hHeld => ?_)
  replace hHeld := hHeld (by decide)
  clear hK
  try simp only [Act.put, List.getElem_toArray, List.getElem_cons_zero, List.getElem_cons_succ, List.setIfInBounds_toArray, List.set_cons_zero, List.set_cons_succ]
  refine AnyG.take (i := 9) (v := ?_) rfl (by kernel_rfl) (by kernel_rfl) (by kernel_rfl) (fun _ _ _ h => h) (by kernel_rfl) (by kernel_rfl) (Or.inl ⟨by rfl, ?_⟩) (by assumption) ?_
  rotate_left
  · intro w9 hSw; (try dsimp only at hSw); go_simp <;> with_reducible rfl
  try simp only [Act.put, List.getElem_toArray, List.getElem_cons_zero, List.getElem_cons_succ, List.setIfInBounds_toArray, List.set_cons_zero, List.set_cons_succ]
  refine AnyG.take (i := 10) (v := ?_) rfl (by kernel_rfl) (by kernel_rfl) (by kernel_rfl) (fun _ _ _ h => h) (by kernel_rfl) (by kernel_rfl) (Or.inl ⟨by rfl, ?_⟩) (by assumption) ?_
  rotate_left
  · intro w9 hSw; (try dsimp only at hSw); go_simp <;> with_reducible rfl
  try simp only [Act.put, List.getElem_toArray, List.getElem_cons_zero, List.getElem_cons_succ, List.setIfInBounds_toArray, List.set_cons_zero, List.set_cons_succ]
  refine AnyG.take0 (i := 11) (v := ?_) rfl (by kernel_rfl) (by kernel_rfl) (by kernel_rfl) (fun _ _ _ h => h) (by decide) (Or.inl ⟨by rfl, ?_⟩) (by assumption) ?_
  rotate_left
  · intro w9 hSw; clear hSw; go_simp <;> with_reducible rfl
  try simp only [Act.put, List.getElem_toArray, List.getElem_cons_zero, List.getElem_cons_succ, List.setIfInBounds_toArray, List.set_cons_zero, List.set_cons_succ]
  refine AnyG.step (i := 12) (by kernel_rfl) rfl (fun K hK => ?_)
  go_simp
  refine hK.out _ _ (fun h => absurd h (by decide)) (fun _ => ?_)
  clear hK
  try simp only [Act.put, List.getElem_toArray, List.getElem_cons_zero, List.getElem_cons_succ, List.setIfInBounds_toArray, List.set_cons_zero, List.set_cons_succ]
  refine AnyG.done (by kernel_rfl) ?_ _
  clear KK K0 KD K_w14 K_w15 K_w16
  replace r_sum := Lib.hid (r_sum.out.keep B_w16.out)
  replace r_c2 := Lib.hid (r_c2.out.keep B_w16.out)
  replace BB := Lib.hid (below_next BB.out B_w16.out)
  clear B_w14 B_w15 B_w16
  replace hs2 := Lib.hid (hs2.of_room R.out.2.2.1)
  clear hp
  replace r_sum := Lib.hid (r_sum.out.set2 (.int .i64 sh2) (.int .u64 sl2))
  replace r_c2 := Lib.hid (r_c2.out.far2 (p := g_sum) (by have dd_c2 := d_c2.out; have dd_sum := d_sum.out; omega) (.int .i64 sh2) (.int .u64 sl2))
  replace BB := Lib.hid (below_far2 BB.out (p := g_sum) (by have dd := d_sum.out; omega) (.int .i64 sh2) (.int .u64 sl2))
  generalize ((w16.setCell ⟨g_sum, 0, none⟩ (.int .i64 sh2)).setCell ⟨g_sum, 1, none⟩ (.int .u64 sl2)) = w17 at *
  obtain ⟨c_c20, c_c21, c_c22, f_c20, f_c21, f_c22⟩ := reads3 r_c2.out
  have l_c2 := r_c2.out.lt
  go_wp2_with fail
  clear r_c2
  rw [rounds_succ]
  go_wp2_with fail
  clear c_c20 c_c21 c_c22 f_c20 f_c21 f_c22 l_c2
  have d_c3 := Lib.hid (And.intro BB.out.size (And.intro r_sum.out.lt (True.intro)))
  obtain ⟨hb, r_c3⟩ := laid w17 #[.int .i64 x3, .int .i64 y3, .int .i64 b3] CRT
  replace r_sum := Lib.hid (r_sum.out.keep hb)
  replace BB := Lib.hid (below_next BB.out hb)
  replace r_c3 := Lib.hid r_c3
  clear hb
  generalize w17.alloc (.cells #[.int .i64 x3, .int .i64 y3, .int .i64 b3] CRT) = w18 at *
  generalize w17.heap.size = g_c3 at *
  go_wp2_with fail
  have KK := Lib.hid (fun (w9 : World) (h : Below w18.heap.size w18 w9) => (⟨cells2 (r_sum.out.keep h), cells3 (r_c3.out.keep h)⟩ : (w9.cell? ⟨g_sum, 0, none⟩ = some (.int .i64 sh2) ∧ w9.cell? ⟨g_sum, 1, none⟩ = some (.int .u64 sl2)) ∧ (w9.cell? ⟨g_c3, 0, none⟩ = some (.int .i64 x3) ∧ w9.cell? ⟨g_c3, 1, none⟩ = some (.int .i64 y3) ∧ w9.cell? ⟨g_c3, 2, none⟩ = some (.int .i64 b3))))
  have K0 := KK.out w18 (Below.refl _ _)
  have KD := KK.out w18.drew (below_drew (Below.refl _ _))
  refine AnyG.begin_ (fun w9 => (w9.cell? ⟨g_sum, 0, none⟩ = some (.int .i64 sh2) ∧ w9.cell? ⟨g_sum, 1, none⟩ = some (.int .u64 sl2)) ∧ (w9.cell? ⟨g_c3, 0, none⟩ = some (.int .i64 x3) ∧ w9.cell? ⟨g_c3, 1, none⟩ = some (.int .i64 y3) ∧ w9.cell? ⟨g_c3, 2, none⟩ = some (.int .i64 b3))) 12 (by kernel_rfl) ?_
  refine AnyG.take (i := 0) (v := ?_) rfl (by kernel_rfl) (by kernel_rfl) (by kernel_rfl) (fun _ _ _ h => h) (by kernel_rfl) (by kernel_rfl) (Or.inl ⟨by rfl, ?_⟩) (by assumption) ?_
  rotate_left
  · intro w9 hSw; (try dsimp only at hSw); go_simp <;> with_reducible rfl
  try simp only [Act.put, List.getElem_toArray, List.getElem_cons_zero, List.getElem_cons_succ, List.setIfInBounds_toArray, List.set_cons_zero, List.set_cons_succ]
  refine AnyG.take (i := 1) (v := ?_) rfl (by kernel_rfl) (by kernel_rfl) (by kernel_rfl) (fun _ _ _ h => h) (by kernel_rfl) (by kernel_rfl) (Or.inl ⟨by rfl, ?_⟩) (by assumption) ?_
  rotate_left
  · intro w9 hSw; (try dsimp only at hSw); go_simp <;> with_reducible rfl
  try simp only [Act.put, List.getElem_toArray, List.getElem_cons_zero, List.getElem_cons_succ, List.setIfInBounds_toArray, List.set_cons_zero, List.set_cons_succ]
  refine AnyG.take (i := 2) (v := ?_) rfl (by kernel_rfl) (by kernel_rfl) (by kernel_rfl) (fun _ _ _ h => h) (by kernel_rfl) (by kernel_rfl) (Or.inl ⟨by rfl, ?_⟩) (by assumption) ?_
  rotate_left
  · intro w9 hSw; (try dsimp only at hSw); go_simp <;> with_reducible rfl
  try simp only [Act.put, List.getElem_toArray, List.getElem_cons_zero, List.getElem_cons_succ, List.setIfInBounds_toArray, List.set_cons_zero, List.set_cons_succ]
  refine AnyG.take (i := 3) (v := ?_) rfl (by kernel_rfl) (by kernel_rfl) (by kernel_rfl) (fun _ _ _ h => h) (by kernel_rfl) (by kernel_rfl) (Or.inl ⟨by rfl, ?_⟩) (by assumption) ?_
  rotate_left
  · intro w9 hSw; (try dsimp only at hSw); go_simp <;> with_reducible rfl
  try simp only [Act.put, List.getElem_toArray, List.getElem_cons_zero, List.getElem_cons_succ, List.setIfInBounds_toArray, List.set_cons_zero, List.set_cons_succ]
  refine AnyG.take (i := 4) (v := ?_) rfl (by kernel_rfl) (by kernel_rfl) (by kernel_rfl) (fun _ _ _ h => h) (by kernel_rfl) (by kernel_rfl) (Or.inl ⟨by rfl, ?_⟩) (by assumption) ?_
  rotate_left
  · intro w9 hSw; (try dsimp only at hSw); go_simp <;> with_reducible rfl
  try simp only [Act.put, List.getElem_toArray, List.getElem_cons_zero, List.getElem_cons_succ, List.setIfInBounds_toArray, List.set_cons_zero, List.set_cons_succ]
  refine AnyG.take (i := 5) (v := ?_) rfl (by kernel_rfl) (by kernel_rfl) (by kernel_rfl) (fun _ _ _ h => h) (by kernel_rfl) (by kernel_rfl) (Or.inl ⟨by rfl, ?_⟩) (by assumption) ?_
  rotate_left
  · intro w9 hSw; (try dsimp only at hSw); go_simp <;> with_reducible rfl
  try simp only [Act.put, List.getElem_toArray, List.getElem_cons_zero, List.getElem_cons_succ, List.setIfInBounds_toArray, List.set_cons_zero, List.set_cons_succ]
  refine AnyG.step (i := 6) (by kernel_rfl) rfl (fun K hK => ?_)
  go_simp
  go_at_call 82
  refine (KC3.out _).mono ?_
  rintro e w19 ⟨rfl, hb⟩
  have B_w19 := Lib.hid (reg_next (w0 := w18) (by repeat (first | with_reducible exact Below.refl _ _ | with_reducible apply below_drew | with_reducible apply below_new)) hb)
  have K_w19 := KK.out _ B_w19.out
  clear hb
  refine hK.out _ _ (fun _ => K_w19) (fun hHeld => ?_)
  replace hHeld := hHeld (by decide)
  clear hK
  try simp only [Act.put, List.getElem_toArray, List.getElem_cons_zero, List.getElem_cons_succ, List.setIfInBounds_toArray, List.set_cons_zero, List.set_cons_succ]
  refine AnyG.step (i := 7) (by kernel_rfl) rfl (fun K hK => ?_)
  go_simp
  go_at_call 117
  refine (M3.out _).mono ?_
  rintro e w20 ⟨ph, pl, rfl, hb, hp⟩
  have B_w20 := Lib.hid (below_next B_w19.out hb)
  have K_w20 := KK.out _ B_w20.out
  clear hb
  refine hK.out _ _ (fun _ => K_w20) (fun hHeld => ?_)
  replace hHeld := hHeld (by decide)
  clear hK
  try simp only [Act.put, List.getElem_toArray, List.getElem_cons_zero, List.getElem_cons_succ, List.setIfInBounds_toArray, List.set_cons_zero, List.set_cons_succ]
  refine AnyG.step (i := 8) (by kernel_rfl) rfl (fun K hK => ?_)
  go_simp
  go_at_call 91
  refine (A3.out _ _ _ _ _ hs2.out hp).mono ?_
  rintro e w21 ⟨sh3, sl3, ok, rfl, hb, hs3⟩
  have B_w21 := Lib.hid (below_next B_w20.out hb)
  have K_w21 := KK.out _ B_w21.out
  obtain ⟨rc_sum0, rc_sum1, rf_sum0, rf_sum1⟩ := reads2 (r_sum.out.keep B_w21.out)
  have rl_sum := (r_sum.out.keep B_w21.out).lt
  clear hb
  refine hK.out _ _ (fun _ => K_w21) (fun hHeld => ?_)
  replace hHeld := hHeld (by decide)
  clear hK
  try simp only [Act.put, List.getElem_toArray, List.getElem_cons_zero, List.getElem_cons_succ, List.setIfInBounds_toArray, List.set_cons_zero, List.set_cons_succ]
  refine AnyG.take (i := 9) (v := ?_) rfl (by kernel_rfl) (by kernel_rfl) (by kernel_rfl) (fun _ _ _ h => h) (by kernel_rfl) (by kernel_rfl) (Or.inl ⟨by rfl, ?_⟩) (by assumption) ?_
  rotate_left
  · intro w9 hSw; (try dsimp only at hSw); go_simp <;> with_reducible rfl
  try simp only [Act.put, List.getElem_toArray, List.getElem_cons_zero, List.getElem_cons_succ, List.setIfInBounds_toArray, List.set_cons_zero, List.set_cons_succ]
  refine AnyG.take (i := 10) (v := ?_) rfl (by kernel_rfl) (by kernel_rfl) (by kernel_rfl) (fun _ _ _ h => h) (by kernel_rfl) (by kernel_rfl) (Or.inl ⟨by rfl, ?_⟩) (by assumption) ?_
  rotate_left
  · intro w9 hSw; (try dsimp only at hSw); go_simp <;> with_reducible rfl
  try simp only [Act.put, List.getElem_toArray, List.getElem_cons_zero, List.getElem_cons_succ, List.setIfInBounds_toArray, List.set_cons_zero, List.set_cons_succ]
  refine AnyG.take0 (i := 11) (v := ?_) rfl (by kernel_rfl) (by kernel_rfl) (by kernel_rfl) (fun _ _ _ h => h) (by decide) (Or.inl ⟨by rfl, ?_⟩) (by assumption) ?_
  rotate_left
  · intro w9 hSw; clear hSw; go_simp <;> with_reducible rfl
  try simp only [Act.put, List.getElem_toArray, List.getElem_cons_zero, List.getElem_cons_succ, List.setIfInBounds_toArray, List.set_cons_zero, List.set_cons_succ]
  refine AnyG.step (i := 12) (by kernel_rfl) rfl (fun K hK => ?_)
  go_simp
  refine hK.out _ _ (fun h => absurd h (by decide)) (fun _ => ?_)
  clear hK
  try simp only [Act.put, List.getElem_toArray, List.getElem_cons_zero, List.getElem_cons_succ, List.setIfInBounds_toArray, List.set_cons_zero, List.set_cons_succ]
  refine AnyG.done (by kernel_rfl) ?_ _
  clear KK K0 KD K_w19 K_w20 K_w21
  replace r_sum := Lib.hid (r_sum.out.keep B_w21.out)
  replace r_c3 := Lib.hid (r_c3.out.keep B_w21.out)
  replace BB := Lib.hid (below_next BB.out B_w21.out)
  clear B_w19 B_w20 B_w21
  replace hs3 := Lib.hid (hs3.of_room R.out.2.2.2)
  clear hp
  replace r_sum := Lib.hid (r_sum.out.set2 (.int .i64 sh3) (.int .u64 sl3))
  replace r_c3 := Lib.hid (r_c3.out.far2 (p := g_sum) (by have dd_c3 := d_c3.out; have dd_sum := d_sum.out; omega) (.int .i64 sh3) (.int .u64 sl3))
  replace BB := Lib.hid (below_far2 BB.out (p := g_sum) (by have dd := d_sum.out; omega) (.int .i64 sh3) (.int .u64 sl3))
  generalize ((w21.setCell ⟨g_sum, 0, none⟩ (.int .i64 sh3)).setCell ⟨g_sum, 1, none⟩ (.int .u64 sl3)) = w22 at *
  obtain ⟨c_c30, c_c31, c_c32, f_c30, f_c31, f_c32⟩ := reads3 r_c3.out
  have l_c3 := r_c3.out.lt
  go_wp2_with fail
  clear r_c3
  rw [rounds_succ]
  obtain ⟨c_sum0, c_sum1, f_sum0, f_sum1⟩ := reads2 r_sum.out
  have l_sum := r_sum.out.lt
  go_wp2_with fail
  refine (CQ.out _ _ _ (by rw [hZ.out]; exact hs3.out)).mono ?_
  rintro e w23 ⟨qh, ql, rr, ok, rfl, hb, hq⟩
  clear c_c30 c_c31 c_c32 f_c30 f_c31 f_c32 l_c3 c_sum0 c_sum1 f_sum0 f_sum1 l_sum
  replace r_sum := Lib.hid (r_sum.out.keep hb)
  replace BB := Lib.hid (below_next BB.out hb)
  clear hb
  have hq1 : Hid (W128 (Z.fdiv t4) qh ql) := by
    rcases hq with ⟨-, -, -, h, -⟩ | ⟨h, -⟩
    · exact h
    · rcases h with h | h
      · exact absurd h hn
      · exact absurd HQ.out h
  clear hq
  go_upto_region 10 with fail
  have d_q := Lib.hid (And.intro BB.out.size (And.intro r_sum.out.lt (True.intro)))
  obtain ⟨hb, r_q⟩ := laid w23 #[.int .i64 qh, .int .u64 ql] WT5
  replace r_sum := Lib.hid (r_sum.out.keep hb)
  replace BB := Lib.hid (below_next BB.out hb)
  replace r_q := Lib.hid r_q
  clear hb
  generalize w23.alloc (.cells #[.int .i64 qh, .int .u64 ql] WT5) = w24 at *
  generalize w23.heap.size = g_q at *
  obtain ⟨c_q0, c_q1, f_q0, f_q1⟩ := reads2 r_q.out
  have l_q := r_q.out.lt
  go_wp2_with fail
  refine (CC.out _ _ _ hq1.out _).mono ?_
  rintro e w25 ⟨rfl, hb⟩
  clear c_q0 c_q1 f_q0 f_q1 l_q
  replace r_sum := Lib.hid (r_sum.out.keep hb)
  replace r_q := Lib.hid (r_q.out.keep hb)
  replace BB := Lib.hid (below_next BB.out hb)
  clear hb
  go_wp2_with fail
  go_ret
  exact ⟨rfl, BB.out⟩
set_option maxRecDepth 100000 in
set_option maxHeartbeats 8000000 in
theorem mmix_y (x0 y0 b0 x1 y1 b1 x2 y2 b2 x3 y3 b3 : Int) (h0 : 0 ≤ b0 ∧ b0 ≤ 268435456) (h1 : 0 ≤ b1 ∧ b1 ≤ 268435456) (h2 : 0 ≤ b2 ∧ b2 ≤ 268435456) (h3 : 0 ≤ b3 ∧ b3 ≤ 268435456) (hb : b0 + b1 + b2 + b3 ≠ 0) (f0 : I64 y0) (f1 : I64 y1) (f2 : I64 y2) (f3 : I64 y3) (w : World) :
    Calls Try.prog 81 #[.agg #[.int .i64 x0, .int .i64 y0, .int .i64 b0, .int .i64 x1, .int .i64 y1, .int .i64 b1, .int .i64 x2, .int .i64 y2, .int .i64 b2, .int .i64 x3, .int .i64 y3, .int .i64 b3], .func (.func 83) #[] #[]] w fun e w' => e = .returned (.int .i64 (cutI ((mixS b0 y0 b1 y1 b2 y2 b3 y3).fdiv (b0 + b1 + b2 + b3)))) ∧ Below w.heap.size w w' := by
  have KC0 := Lib.hid (fun w => mkrow x0 y0 w)
  have KC1 := Lib.hid (fun w => mkrow x1 y1 w)
  have KC2 := Lib.hid (fun w => mkrow x2 y2 w)
  have KC3 := Lib.hid (fun w => mkrow x3 y3 w)
  have M0 := Lib.hid (fun w => wmul b0 y0 (by unfold I64; omega) f0 w)
  have M1 := Lib.hid (fun w => wmul b1 y1 (by unfold I64; omega) f1 w)
  have M2 := Lib.hid (fun w => wmul b2 y2 (by unfold I64; omega) f2 w)
  have M3 := Lib.hid (fun w => wmul b3 y3 (by unfold I64; omega) f3 w)
  have p0 := mix_rng h0 f0
  have p1 := mix_rng h1 f1
  have p2 := mix_rng h2 f2
  have p3 := mix_rng h3 f3
  unfold mixS
  generalize b0 * y0 = q0 at *
  generalize b1 * y1 = q1 at *
  generalize b2 * y2 = q2 at *
  generalize b3 * y3 = q3 at *
  have R := Lib.hid (show I128 (0 + q0) ∧ I128 (0 + q0 + q1) ∧ I128 (0 + q0 + q1 + q2) ∧ I128 (0 + q0 + q1 + q2 + q3) by unfold I128; refine ⟨?_, ?_, ?_, ?_⟩ <;> omega)
  have A0 := Lib.hid (fun w xh xl yh yl hx hy => wadd 0 q0 xh xl yh yl hx hy w)
  have A1 := Lib.hid (fun w xh xl yh yl hx hy => wadd (0 + q0) q1 xh xl yh yl hx hy w)
  have A2 := Lib.hid (fun w xh xl yh yl hx hy => wadd (0 + q0 + q1) q2 xh xl yh yl hx hy w)
  have A3 := Lib.hid (fun w xh xl yh yl hx hy => wadd (0 + q0 + q1 + q2) q3 xh xl yh yl hx hy w)
  have CQ := Lib.hid (fun w xh xl hx => qwide (0 + q0 + q1 + q2 + q3) xh xl (b0 + b1 + b2 + b3) hx (by unfold I64; omega) w)
  have CC := Lib.hid (fun z xh xl hx w => qcut z xh xl hx w)
  have HQ : Hid (I128 ((0 + q0 + q1 + q2 + q3).fdiv (b0 + b1 + b2 + b3))) := fdiv_128 R.out.2.2.2 (by omega)
  obtain ⟨t1, ht1⟩ : ∃ v, v = 0 + b0 := ⟨_, rfl⟩
  obtain ⟨t2, ht2⟩ : ∃ v, v = t1 + b1 := ⟨_, rfl⟩
  obtain ⟨t3, ht3⟩ : ∃ v, v = t2 + b2 := ⟨_, rfl⟩
  obtain ⟨t4, ht4⟩ : ∃ v, v = t3 + b3 := ⟨_, rfl⟩
  have e1 : IntKind.i64.wrap (0 + b0) = t1 := by rw [ht1]; exact iw ⟨by omega, by omega⟩
  have e1' : IntKind.i64.wrap b0 = t1 := by rw [ht1]; rw [Int.zero_add]; exact iw ⟨by omega, by omega⟩
  have e2 : IntKind.i64.wrap (t1 + b1) = t2 := by rw [ht2]; exact iw ⟨by omega, by omega⟩
  have e3 : IntKind.i64.wrap (t2 + b2) = t3 := by rw [ht3]; exact iw ⟨by omega, by omega⟩
  have e4 : IntKind.i64.wrap (t3 + b3) = t4 := by rw [ht4]; exact iw ⟨by omega, by omega⟩
  rw [show b0 + b1 + b2 + b3 = t4 by omega] at CQ HQ ⊢
  have hn : t4 ≠ 0 := by omega
  clear p0 p1 p2 p3 h0 h1 h2 h3 ht1 ht2 ht3 ht4 f0 f1 f2 f3 hb
  obtain ⟨Z, hZ⟩ : ∃ v, v = 0 + q0 + q1 + q2 + q3 := ⟨_, rfl⟩
  rw [← hZ] at CQ HQ ⊢
  replace hZ := Lib.hid hZ
  have u0 : ∀ w, (Instr.index C4T (.agg #[.int .i64 x0, .int .i64 y0, .int .i64 b0, .int .i64 x1, .int .i64 y1, .int .i64 b1, .int .i64 x2, .int .i64 y2, .int .i64 b2, .int .i64 x3, .int .i64 y3, .int .i64 b3]) (.int .i64 0)).run Try.prog w = .ok (.agg #[.int .i64 x0, .int .i64 y0, .int .i64 b0]) w := by intro w; kernel_rfl
  have u1 : ∀ w, (Instr.index C4T (.agg #[.int .i64 x0, .int .i64 y0, .int .i64 b0, .int .i64 x1, .int .i64 y1, .int .i64 b1, .int .i64 x2, .int .i64 y2, .int .i64 b2, .int .i64 x3, .int .i64 y3, .int .i64 b3]) (.int .i64 1)).run Try.prog w = .ok (.agg #[.int .i64 x1, .int .i64 y1, .int .i64 b1]) w := by intro w; kernel_rfl
  have u2 : ∀ w, (Instr.index C4T (.agg #[.int .i64 x0, .int .i64 y0, .int .i64 b0, .int .i64 x1, .int .i64 y1, .int .i64 b1, .int .i64 x2, .int .i64 y2, .int .i64 b2, .int .i64 x3, .int .i64 y3, .int .i64 b3]) (.int .i64 2)).run Try.prog w = .ok (.agg #[.int .i64 x2, .int .i64 y2, .int .i64 b2]) w := by intro w; kernel_rfl
  have u3 : ∀ w, (Instr.index C4T (.agg #[.int .i64 x0, .int .i64 y0, .int .i64 b0, .int .i64 x1, .int .i64 y1, .int .i64 b1, .int .i64 x2, .int .i64 y2, .int .i64 b2, .int .i64 x3, .int .i64 y3, .int .i64 b3]) (.int .i64 3)).run Try.prog w = .ok (.agg #[.int .i64 x3, .int .i64 y3, .int .i64 b3]) w := by intro w; kernel_rfl
  go_enter Try.func81, Try.ntmps81
  go_upto_region 1 with fail
  have BB := start1 w #[.int .i64 x0, .int .i64 y0, .int .i64 b0, .int .i64 x1, .int .i64 y1, .int .i64 b1, .int .i64 x2, .int .i64 y2, .int .i64 b2, .int .i64 x3, .int .i64 y3, .int .i64 b3] C4T
  obtain ⟨BB, hsz, r_l⟩ := BB
  generalize (w.alloc (.cells #[.int .i64 x0, .int .i64 y0, .int .i64 b0, .int .i64 x1, .int .i64 y1, .int .i64 b1, .int .i64 x2, .int .i64 y2, .int .i64 b2, .int .i64 x3, .int .i64 y3, .int .i64 b3] C4T)) = w0 at *
  replace BB := Lib.hid BB
  replace r_l := Lib.hid r_l
  clear hsz
  go_upto_region 2 with fail
  have d_sum := Lib.hid (And.intro BB.out.size (And.intro r_l.out.lt (True.intro)))
  obtain ⟨hb, r_sum⟩ := laid w0 #[.int .i64 0, .int .u64 0] WT5
  replace r_l := Lib.hid (r_l.out.keep hb)
  replace BB := Lib.hid (below_next BB.out hb)
  replace r_sum := Lib.hid r_sum
  clear hb
  generalize w0.alloc (.cells #[.int .i64 0, .int .u64 0] WT5) = w1 at *
  generalize w0.heap.size = g_sum at *
  obtain ⟨c_l0, c_l1, c_l2, c_l3, c_l4, c_l5, c_l6, c_l7, c_l8, c_l9, c_l10, c_l11, f_l0, f_l1, f_l2, f_l3, f_l4, f_l5, f_l6, f_l7, f_l8, f_l9, f_l10, f_l11⟩ := reads12 r_l.out
  have l_l := r_l.out.lt
  go_wp2_with fail
  clear r_l
  refine wp_loop_rounds 5 ?_
  rw [rounds_succ]
  go_wp2_with fail
  clear c_l0 c_l1 c_l2 c_l3 c_l4 c_l5 c_l6 c_l7 c_l8 c_l9 c_l10 c_l11 f_l0 f_l1 f_l2 f_l3 f_l4 f_l5 f_l6 f_l7 f_l8 f_l9 f_l10 f_l11 l_l
  have d_c0 := Lib.hid (And.intro BB.out.size (And.intro r_sum.out.lt (True.intro)))
  obtain ⟨hb, r_c0⟩ := laid w1 #[.int .i64 x0, .int .i64 y0, .int .i64 b0] CRT
  replace r_sum := Lib.hid (r_sum.out.keep hb)
  replace BB := Lib.hid (below_next BB.out hb)
  replace r_c0 := Lib.hid r_c0
  clear hb
  generalize w1.alloc (.cells #[.int .i64 x0, .int .i64 y0, .int .i64 b0] CRT) = w2 at *
  generalize w1.heap.size = g_c0 at *
  go_wp2_with fail
  have KK := Lib.hid (fun (w9 : World) (h : Below w2.heap.size w2 w9) => (⟨cells2 (r_sum.out.keep h), cells3 (r_c0.out.keep h)⟩ : (w9.cell? ⟨g_sum, 0, none⟩ = some (.int .i64 0) ∧ w9.cell? ⟨g_sum, 1, none⟩ = some (.int .u64 0)) ∧ (w9.cell? ⟨g_c0, 0, none⟩ = some (.int .i64 x0) ∧ w9.cell? ⟨g_c0, 1, none⟩ = some (.int .i64 y0) ∧ w9.cell? ⟨g_c0, 2, none⟩ = some (.int .i64 b0))))
  have K0 := KK.out w2 (Below.refl _ _)
  have KD := KK.out w2.drew (below_drew (Below.refl _ _))
  refine AnyG.begin_ (fun w9 => (w9.cell? ⟨g_sum, 0, none⟩ = some (.int .i64 0) ∧ w9.cell? ⟨g_sum, 1, none⟩ = some (.int .u64 0)) ∧ (w9.cell? ⟨g_c0, 0, none⟩ = some (.int .i64 x0) ∧ w9.cell? ⟨g_c0, 1, none⟩ = some (.int .i64 y0) ∧ w9.cell? ⟨g_c0, 2, none⟩ = some (.int .i64 b0))) 12 (by kernel_rfl) ?_
  refine AnyG.take (i := 0) (v := ?_) rfl (by kernel_rfl) (by kernel_rfl) (by kernel_rfl) (fun _ _ _ h => h) (by kernel_rfl) (by kernel_rfl) (Or.inl ⟨by rfl, ?_⟩) (by assumption) ?_
  rotate_left
  · intro w9 hSw; (try dsimp only at hSw); go_simp <;> with_reducible rfl
  try simp only [Act.put, List.getElem_toArray, List.getElem_cons_zero, List.getElem_cons_succ, List.setIfInBounds_toArray, List.set_cons_zero, List.set_cons_succ]
  refine AnyG.take (i := 1) (v := ?_) rfl (by kernel_rfl) (by kernel_rfl) (by kernel_rfl) (fun _ _ _ h => h) (by kernel_rfl) (by kernel_rfl) (Or.inl ⟨by rfl, ?_⟩) (by assumption) ?_
  rotate_left
  · intro w9 hSw; (try dsimp only at hSw); go_simp <;> with_reducible rfl
  try simp only [Act.put, List.getElem_toArray, List.getElem_cons_zero, List.getElem_cons_succ, List.setIfInBounds_toArray, List.set_cons_zero, List.set_cons_succ]
  refine AnyG.take (i := 2) (v := ?_) rfl (by kernel_rfl) (by kernel_rfl) (by kernel_rfl) (fun _ _ _ h => h) (by kernel_rfl) (by kernel_rfl) (Or.inl ⟨by rfl, ?_⟩) (by assumption) ?_
  rotate_left
  · intro w9 hSw; (try dsimp only at hSw); go_simp <;> with_reducible rfl
  try simp only [Act.put, List.getElem_toArray, List.getElem_cons_zero, List.getElem_cons_succ, List.setIfInBounds_toArray, List.set_cons_zero, List.set_cons_succ]
  refine AnyG.take (i := 3) (v := ?_) rfl (by kernel_rfl) (by kernel_rfl) (by kernel_rfl) (fun _ _ _ h => h) (by kernel_rfl) (by kernel_rfl) (Or.inl ⟨by rfl, ?_⟩) (by assumption) ?_
  rotate_left
  · intro w9 hSw; (try dsimp only at hSw); go_simp <;> with_reducible rfl
  try simp only [Act.put, List.getElem_toArray, List.getElem_cons_zero, List.getElem_cons_succ, List.setIfInBounds_toArray, List.set_cons_zero, List.set_cons_succ]
  refine AnyG.take (i := 4) (v := ?_) rfl (by kernel_rfl) (by kernel_rfl) (by kernel_rfl) (fun _ _ _ h => h) (by kernel_rfl) (by kernel_rfl) (Or.inl ⟨by rfl, ?_⟩) (by assumption) ?_
  rotate_left
  · intro w9 hSw; (try dsimp only at hSw); go_simp <;> with_reducible rfl
  try simp only [Act.put, List.getElem_toArray, List.getElem_cons_zero, List.getElem_cons_succ, List.setIfInBounds_toArray, List.set_cons_zero, List.set_cons_succ]
  refine AnyG.take (i := 5) (v := ?_) rfl (by kernel_rfl) (by kernel_rfl) (by kernel_rfl) (fun _ _ _ h => h) (by kernel_rfl) (by kernel_rfl) (Or.inl ⟨by rfl, ?_⟩) (by assumption) ?_
  rotate_left
  · intro w9 hSw; (try dsimp only at hSw); go_simp <;> with_reducible rfl
  try simp only [Act.put, List.getElem_toArray, List.getElem_cons_zero, List.getElem_cons_succ, List.setIfInBounds_toArray, List.set_cons_zero, List.set_cons_succ]
  refine AnyG.step (i := 6) (by kernel_rfl) rfl (fun K hK => ?_)
  go_simp
  go_at_call 83
  refine (KC0.out _).mono ?_
  rintro e w3 ⟨rfl, hb⟩
  have B_w3 := Lib.hid (reg_next (w0 := w2) (by repeat (first | with_reducible exact Below.refl _ _ | with_reducible apply below_drew | with_reducible apply below_new)) hb)
  have K_w3 := KK.out _ B_w3.out
  clear hb
  refine hK.out _ _ (fun _ => K_w3) (fun hHeld => ?_)
  replace hHeld := hHeld (by decide)
  clear hK
  try simp only [Act.put, List.getElem_toArray, List.getElem_cons_zero, List.getElem_cons_succ, List.setIfInBounds_toArray, List.set_cons_zero, List.set_cons_succ]
  refine AnyG.step (i := 7) (by kernel_rfl) rfl (fun K hK => ?_)
  go_simp
  go_at_call 117
  refine (M0.out _).mono ?_
  rintro e w4 ⟨ph, pl, rfl, hb, hp⟩
  have B_w4 := Lib.hid (below_next B_w3.out hb)
  have K_w4 := KK.out _ B_w4.out
  clear hb
  refine hK.out _ _ (fun _ => K_w4) (fun hHeld => ?_)
  replace hHeld := hHeld (by decide)
  clear hK
  try simp only [Act.put, List.getElem_toArray, List.getElem_cons_zero, List.getElem_cons_succ, List.setIfInBounds_toArray, List.set_cons_zero, List.set_cons_succ]
  refine AnyG.step (i := 8) (by kernel_rfl) rfl (fun K hK => ?_)
  go_simp
  go_at_call 91
  refine (A0.out _ _ _ _ _ W128.zero hp).mono ?_
  rintro e w5 ⟨sh0, sl0, ok, rfl, hb, hs0⟩
  have B_w5 := Lib.hid (below_next B_w4.out hb)
  have K_w5 := KK.out _ B_w5.out
  obtain ⟨rc_sum0, rc_sum1, rf_sum0, rf_sum1⟩ := reads2 (r_sum.out.keep B_w5.out)
  have rl_sum := (r_sum.out.keep B_w5.out).lt
  clear hb
  refine hK.out _ _ (fun _ => K_w5) (fun hHeld => ?_)
  replace hHeld := hHeld (by decide)
  clear hK
  try simp only [Act.put, List.getElem_toArray, List.getElem_cons_zero, List.getElem_cons_succ, List.setIfInBounds_toArray, List.set_cons_zero, List.set_cons_succ]
  refine AnyG.take (i := 9) (v := ?_) rfl (by kernel_rfl) (by kernel_rfl) (by kernel_rfl) (fun _ _ _ h => h) (by kernel_rfl) (by kernel_rfl) (Or.inl ⟨by rfl, ?_⟩) (by assumption) ?_
  rotate_left
  · intro w9 hSw; (try dsimp only at hSw); go_simp <;> with_reducible rfl
  try simp only [Act.put, List.getElem_toArray, List.getElem_cons_zero, List.getElem_cons_succ, List.setIfInBounds_toArray, List.set_cons_zero, List.set_cons_succ]
  refine AnyG.take (i := 10) (v := ?_) rfl (by kernel_rfl) (by kernel_rfl) (by kernel_rfl) (fun _ _ _ h => h) (by kernel_rfl) (by kernel_rfl) (Or.inl ⟨by rfl, ?_⟩) (by assumption) ?_
  rotate_left
  · intro w9 hSw; (try dsimp only at hSw); go_simp <;> with_reducible rfl
  try simp only [Act.put, List.getElem_toArray, List.getElem_cons_zero, List.getElem_cons_succ, List.setIfInBounds_toArray, List.set_cons_zero, List.set_cons_succ]
  refine AnyG.take0 (i := 11) (v := ?_) rfl (by kernel_rfl) (by kernel_rfl) (by kernel_rfl) (fun _ _ _ h => h) (by decide) (Or.inl ⟨by rfl, ?_⟩) (by assumption) ?_
  rotate_left
  · intro w9 hSw; clear hSw; go_simp <;> with_reducible rfl
  try simp only [Act.put, List.getElem_toArray, List.getElem_cons_zero, List.getElem_cons_succ, List.setIfInBounds_toArray, List.set_cons_zero, List.set_cons_succ]
  refine AnyG.step (i := 12) (by kernel_rfl) rfl (fun K hK => ?_)
  go_simp
  refine hK.out _ _ (fun h => absurd h (by decide)) (fun _ => ?_)
  clear hK
  try simp only [Act.put, List.getElem_toArray, List.getElem_cons_zero, List.getElem_cons_succ, List.setIfInBounds_toArray, List.set_cons_zero, List.set_cons_succ]
  refine AnyG.done (by kernel_rfl) ?_ _
  clear KK K0 KD K_w3 K_w4 K_w5
  replace r_sum := Lib.hid (r_sum.out.keep B_w5.out)
  replace r_c0 := Lib.hid (r_c0.out.keep B_w5.out)
  replace BB := Lib.hid (below_next BB.out B_w5.out)
  clear B_w3 B_w4 B_w5
  replace hs0 := Lib.hid (hs0.of_room R.out.1)
  clear hp
  replace r_sum := Lib.hid (r_sum.out.set2 (.int .i64 sh0) (.int .u64 sl0))
  replace r_c0 := Lib.hid (r_c0.out.far2 (p := g_sum) (by have dd_c0 := d_c0.out; have dd_sum := d_sum.out; omega) (.int .i64 sh0) (.int .u64 sl0))
  replace BB := Lib.hid (below_far2 BB.out (p := g_sum) (by have dd := d_sum.out; omega) (.int .i64 sh0) (.int .u64 sl0))
  generalize ((w5.setCell ⟨g_sum, 0, none⟩ (.int .i64 sh0)).setCell ⟨g_sum, 1, none⟩ (.int .u64 sl0)) = w6 at *
  obtain ⟨c_c00, c_c01, c_c02, f_c00, f_c01, f_c02⟩ := reads3 r_c0.out
  have l_c0 := r_c0.out.lt
  go_wp2_with fail
  clear r_c0
  rw [rounds_succ]
  go_wp2_with fail
  clear c_c00 c_c01 c_c02 f_c00 f_c01 f_c02 l_c0
  have d_c1 := Lib.hid (And.intro BB.out.size (And.intro r_sum.out.lt (True.intro)))
  obtain ⟨hb, r_c1⟩ := laid w6 #[.int .i64 x1, .int .i64 y1, .int .i64 b1] CRT
  replace r_sum := Lib.hid (r_sum.out.keep hb)
  replace BB := Lib.hid (below_next BB.out hb)
  replace r_c1 := Lib.hid r_c1
  clear hb
  generalize w6.alloc (.cells #[.int .i64 x1, .int .i64 y1, .int .i64 b1] CRT) = w7 at *
  generalize w6.heap.size = g_c1 at *
  go_wp2_with fail
  have KK := Lib.hid (fun (w9 : World) (h : Below w7.heap.size w7 w9) => (⟨cells2 (r_sum.out.keep h), cells3 (r_c1.out.keep h)⟩ : (w9.cell? ⟨g_sum, 0, none⟩ = some (.int .i64 sh0) ∧ w9.cell? ⟨g_sum, 1, none⟩ = some (.int .u64 sl0)) ∧ (w9.cell? ⟨g_c1, 0, none⟩ = some (.int .i64 x1) ∧ w9.cell? ⟨g_c1, 1, none⟩ = some (.int .i64 y1) ∧ w9.cell? ⟨g_c1, 2, none⟩ = some (.int .i64 b1))))
  have K0 := KK.out w7 (Below.refl _ _)
  have KD := KK.out w7.drew (below_drew (Below.refl _ _))
  refine AnyG.begin_ (fun w9 => (w9.cell? ⟨g_sum, 0, none⟩ = some (.int .i64 sh0) ∧ w9.cell? ⟨g_sum, 1, none⟩ = some (.int .u64 sl0)) ∧ (w9.cell? ⟨g_c1, 0, none⟩ = some (.int .i64 x1) ∧ w9.cell? ⟨g_c1, 1, none⟩ = some (.int .i64 y1) ∧ w9.cell? ⟨g_c1, 2, none⟩ = some (.int .i64 b1))) 12 (by kernel_rfl) ?_
  refine AnyG.take (i := 0) (v := ?_) rfl (by kernel_rfl) (by kernel_rfl) (by kernel_rfl) (fun _ _ _ h => h) (by kernel_rfl) (by kernel_rfl) (Or.inl ⟨by rfl, ?_⟩) (by assumption) ?_
  rotate_left
  · intro w9 hSw; (try dsimp only at hSw); go_simp <;> with_reducible rfl
  try simp only [Act.put, List.getElem_toArray, List.getElem_cons_zero, List.getElem_cons_succ, List.setIfInBounds_toArray, List.set_cons_zero, List.set_cons_succ]
  refine AnyG.take (i := 1) (v := ?_) rfl (by kernel_rfl) (by kernel_rfl) (by kernel_rfl) (fun _ _ _ h => h) (by kernel_rfl) (by kernel_rfl) (Or.inl ⟨by rfl, ?_⟩) (by assumption) ?_
  rotate_left
  · intro w9 hSw; (try dsimp only at hSw); go_simp <;> with_reducible rfl
  try simp only [Act.put, List.getElem_toArray, List.getElem_cons_zero, List.getElem_cons_succ, List.setIfInBounds_toArray, List.set_cons_zero, List.set_cons_succ]
  refine AnyG.take (i := 2) (v := ?_) rfl (by kernel_rfl) (by kernel_rfl) (by kernel_rfl) (fun _ _ _ h => h) (by kernel_rfl) (by kernel_rfl) (Or.inl ⟨by rfl, ?_⟩) (by assumption) ?_
  rotate_left
  · intro w9 hSw; (try dsimp only at hSw); go_simp <;> with_reducible rfl
  try simp only [Act.put, List.getElem_toArray, List.getElem_cons_zero, List.getElem_cons_succ, List.setIfInBounds_toArray, List.set_cons_zero, List.set_cons_succ]
  refine AnyG.take (i := 3) (v := ?_) rfl (by kernel_rfl) (by kernel_rfl) (by kernel_rfl) (fun _ _ _ h => h) (by kernel_rfl) (by kernel_rfl) (Or.inl ⟨by rfl, ?_⟩) (by assumption) ?_
  rotate_left
  · intro w9 hSw; (try dsimp only at hSw); go_simp <;> with_reducible rfl
  try simp only [Act.put, List.getElem_toArray, List.getElem_cons_zero, List.getElem_cons_succ, List.setIfInBounds_toArray, List.set_cons_zero, List.set_cons_succ]
  refine AnyG.take (i := 4) (v := ?_) rfl (by kernel_rfl) (by kernel_rfl) (by kernel_rfl) (fun _ _ _ h => h) (by kernel_rfl) (by kernel_rfl) (Or.inl ⟨by rfl, ?_⟩) (by assumption) ?_
  rotate_left
  · intro w9 hSw; (try dsimp only at hSw); go_simp <;> with_reducible rfl
  try simp only [Act.put, List.getElem_toArray, List.getElem_cons_zero, List.getElem_cons_succ, List.setIfInBounds_toArray, List.set_cons_zero, List.set_cons_succ]
  refine AnyG.take (i := 5) (v := ?_) rfl (by kernel_rfl) (by kernel_rfl) (by kernel_rfl) (fun _ _ _ h => h) (by kernel_rfl) (by kernel_rfl) (Or.inl ⟨by rfl, ?_⟩) (by assumption) ?_
  rotate_left
  · intro w9 hSw; (try dsimp only at hSw); go_simp <;> with_reducible rfl
  try simp only [Act.put, List.getElem_toArray, List.getElem_cons_zero, List.getElem_cons_succ, List.setIfInBounds_toArray, List.set_cons_zero, List.set_cons_succ]
  refine AnyG.step (i := 6) (by kernel_rfl) rfl (fun K hK => ?_)
  go_simp
  go_at_call 83
  refine (KC1.out _).mono ?_
  rintro e w8 ⟨rfl, hb⟩
  have B_w8 := Lib.hid (reg_next (w0 := w7) (by repeat (first | with_reducible exact Below.refl _ _ | with_reducible apply below_drew | with_reducible apply below_new)) hb)
  have K_w8 := KK.out _ B_w8.out
  clear hb
  refine hK.out _ _ (fun _ => K_w8) (fun hHeld => ?_)
  replace hHeld := hHeld (by decide)
  clear hK
  try simp only [Act.put, List.getElem_toArray, List.getElem_cons_zero, List.getElem_cons_succ, List.setIfInBounds_toArray, List.set_cons_zero, List.set_cons_succ]
  refine AnyG.step (i := 7) (by kernel_rfl) rfl (fun K hK => ?_)
  go_simp
  go_at_call 117
  refine (M1.out _).mono ?_
  rintro e w10 ⟨ph, pl, rfl, hb, hp⟩
  have B_w10 := Lib.hid (below_next B_w8.out hb)
  have K_w10 := KK.out _ B_w10.out
  clear hb
  refine hK.out _ _ (fun _ => K_w10) (fun hHeld => ?_)
  replace hHeld := hHeld (by decide)
  clear hK
  try simp only [Act.put, List.getElem_toArray, List.getElem_cons_zero, List.getElem_cons_succ, List.setIfInBounds_toArray, List.set_cons_zero, List.set_cons_succ]
  refine AnyG.step (i := 8) (by kernel_rfl) rfl (fun K hK => ?_)
  go_simp
  go_at_call 91
  refine (A1.out _ _ _ _ _ hs0.out hp).mono ?_
  rintro e w11 ⟨sh1, sl1, ok, rfl, hb, hs1⟩
  have B_w11 := Lib.hid (below_next B_w10.out hb)
  have K_w11 := KK.out _ B_w11.out
  obtain ⟨rc_sum0, rc_sum1, rf_sum0, rf_sum1⟩ := reads2 (r_sum.out.keep B_w11.out)
  have rl_sum := (r_sum.out.keep B_w11.out).lt
  clear hb
  refine hK.out _ _ (fun _ => K_w11) (fun hHeld => ?_)
  replace hHeld := hHeld (by decide)
  clear hK
  try simp only [Act.put, List.getElem_toArray, List.getElem_cons_zero, List.getElem_cons_succ, List.setIfInBounds_toArray, List.set_cons_zero, List.set_cons_succ]
  refine AnyG.take (i := 9) (v := ?_) rfl (by kernel_rfl) (by kernel_rfl) (by kernel_rfl) (fun _ _ _ h => h) (by kernel_rfl) (by kernel_rfl) (Or.inl ⟨by rfl, ?_⟩) (by assumption) ?_
  rotate_left
  · intro w9 hSw; (try dsimp only at hSw); go_simp <;> with_reducible rfl
  try simp only [Act.put, List.getElem_toArray, List.getElem_cons_zero, List.getElem_cons_succ, List.setIfInBounds_toArray, List.set_cons_zero, List.set_cons_succ]
  refine AnyG.take (i := 10) (v := ?_) rfl (by kernel_rfl) (by kernel_rfl) (by kernel_rfl) (fun _ _ _ h => h) (by kernel_rfl) (by kernel_rfl) (Or.inl ⟨by rfl, ?_⟩) (by assumption) ?_
  rotate_left
  · intro w9 hSw; (try dsimp only at hSw); go_simp <;> with_reducible rfl
  try simp only [Act.put, List.getElem_toArray, List.getElem_cons_zero, List.getElem_cons_succ, List.setIfInBounds_toArray, List.set_cons_zero, List.set_cons_succ]
  refine AnyG.take0 (i := 11) (v := ?_) rfl (by kernel_rfl) (by kernel_rfl) (by kernel_rfl) (fun _ _ _ h => h) (by decide) (Or.inl ⟨by rfl, ?_⟩) (by assumption) ?_
  rotate_left
  · intro w9 hSw; clear hSw; go_simp <;> with_reducible rfl
  try simp only [Act.put, List.getElem_toArray, List.getElem_cons_zero, List.getElem_cons_succ, List.setIfInBounds_toArray, List.set_cons_zero, List.set_cons_succ]
  refine AnyG.step (i := 12) (by kernel_rfl) rfl (fun K hK => ?_)
  go_simp
  refine hK.out _ _ (fun h => absurd h (by decide)) (fun _ => ?_)
  clear hK
  try simp only [Act.put, List.getElem_toArray, List.getElem_cons_zero, List.getElem_cons_succ, List.setIfInBounds_toArray, List.set_cons_zero, List.set_cons_succ]
  refine AnyG.done (by kernel_rfl) ?_ _
  clear KK K0 KD K_w8 K_w10 K_w11
  replace r_sum := Lib.hid (r_sum.out.keep B_w11.out)
  replace r_c1 := Lib.hid (r_c1.out.keep B_w11.out)
  replace BB := Lib.hid (below_next BB.out B_w11.out)
  clear B_w8 B_w10 B_w11
  replace hs1 := Lib.hid (hs1.of_room R.out.2.1)
  clear hp
  replace r_sum := Lib.hid (r_sum.out.set2 (.int .i64 sh1) (.int .u64 sl1))
  replace r_c1 := Lib.hid (r_c1.out.far2 (p := g_sum) (by have dd_c1 := d_c1.out; have dd_sum := d_sum.out; omega) (.int .i64 sh1) (.int .u64 sl1))
  replace BB := Lib.hid (below_far2 BB.out (p := g_sum) (by have dd := d_sum.out; omega) (.int .i64 sh1) (.int .u64 sl1))
  generalize ((w11.setCell ⟨g_sum, 0, none⟩ (.int .i64 sh1)).setCell ⟨g_sum, 1, none⟩ (.int .u64 sl1)) = w12 at *
  obtain ⟨c_c10, c_c11, c_c12, f_c10, f_c11, f_c12⟩ := reads3 r_c1.out
  have l_c1 := r_c1.out.lt
  go_wp2_with fail
  clear r_c1
  rw [rounds_succ]
  go_wp2_with fail
  clear c_c10 c_c11 c_c12 f_c10 f_c11 f_c12 l_c1
  have d_c2 := Lib.hid (And.intro BB.out.size (And.intro r_sum.out.lt (True.intro)))
  obtain ⟨hb, r_c2⟩ := laid w12 #[.int .i64 x2, .int .i64 y2, .int .i64 b2] CRT
  replace r_sum := Lib.hid (r_sum.out.keep hb)
  replace BB := Lib.hid (below_next BB.out hb)
  replace r_c2 := Lib.hid r_c2
  clear hb
  generalize w12.alloc (.cells #[.int .i64 x2, .int .i64 y2, .int .i64 b2] CRT) = w13 at *
  generalize w12.heap.size = g_c2 at *
  go_wp2_with fail
  have KK := Lib.hid (fun (w9 : World) (h : Below w13.heap.size w13 w9) => (⟨cells2 (r_sum.out.keep h), cells3 (r_c2.out.keep h)⟩ : (w9.cell? ⟨g_sum, 0, none⟩ = some (.int .i64 sh1) ∧ w9.cell? ⟨g_sum, 1, none⟩ = some (.int .u64 sl1)) ∧ (w9.cell? ⟨g_c2, 0, none⟩ = some (.int .i64 x2) ∧ w9.cell? ⟨g_c2, 1, none⟩ = some (.int .i64 y2) ∧ w9.cell? ⟨g_c2, 2, none⟩ = some (.int .i64 b2))))
  have K0 := KK.out w13 (Below.refl _ _)
  have KD := KK.out w13.drew (below_drew (Below.refl _ _))
  refine AnyG.begin_ (fun w9 => (w9.cell? ⟨g_sum, 0, none⟩ = some (.int .i64 sh1) ∧ w9.cell? ⟨g_sum, 1, none⟩ = some (.int .u64 sl1)) ∧ (w9.cell? ⟨g_c2, 0, none⟩ = some (.int .i64 x2) ∧ w9.cell? ⟨g_c2, 1, none⟩ = some (.int .i64 y2) ∧ w9.cell? ⟨g_c2, 2, none⟩ = some (.int .i64 b2))) 12 (by kernel_rfl) ?_
  refine AnyG.take (i := 0) (v := ?_) rfl (by kernel_rfl) (by kernel_rfl) (by kernel_rfl) (fun _ _ _ h => h) (by kernel_rfl) (by kernel_rfl) (Or.inl ⟨by rfl, ?_⟩) (by assumption) ?_
  rotate_left
  · intro w9 hSw; (try dsimp only at hSw); go_simp <;> with_reducible rfl
  try simp only [Act.put, List.getElem_toArray, List.getElem_cons_zero, List.getElem_cons_succ, List.setIfInBounds_toArray, List.set_cons_zero, List.set_cons_succ]
  refine AnyG.take (i := 1) (v := ?_) rfl (by kernel_rfl) (by kernel_rfl) (by kernel_rfl) (fun _ _ _ h => h) (by kernel_rfl) (by kernel_rfl) (Or.inl ⟨by rfl, ?_⟩) (by assumption) ?_
  rotate_left
  · intro w9 hSw; (try dsimp only at hSw); go_simp <;> with_reducible rfl
  try simp only [Act.put, List.getElem_toArray, List.getElem_cons_zero, List.getElem_cons_succ, List.setIfInBounds_toArray, List.set_cons_zero, List.set_cons_succ]
  refine AnyG.take (i := 2) (v := ?_) rfl (by kernel_rfl) (by kernel_rfl) (by kernel_rfl) (fun _ _ _ h => h) (by kernel_rfl) (by kernel_rfl) (Or.inl ⟨by rfl, ?_⟩) (by assumption) ?_
  rotate_left
  · intro w9 hSw; (try dsimp only at hSw); go_simp <;> with_reducible rfl
  try simp only [Act.put, List.getElem_toArray, List.getElem_cons_zero, List.getElem_cons_succ, List.setIfInBounds_toArray, List.set_cons_zero, List.set_cons_succ]
  refine AnyG.take (i := 3) (v := ?_) rfl (by kernel_rfl) (by kernel_rfl) (by kernel_rfl) (fun _ _ _ h => h) (by kernel_rfl) (by kernel_rfl) (Or.inl ⟨by rfl, ?_⟩) (by assumption) ?_
  rotate_left
  · intro w9 hSw; (try dsimp only at hSw); go_simp <;> with_reducible rfl
  try simp only [Act.put, List.getElem_toArray, List.getElem_cons_zero, List.getElem_cons_succ, List.setIfInBounds_toArray, List.set_cons_zero, List.set_cons_succ]
  refine AnyG.take (i := 4) (v := ?_) rfl (by kernel_rfl) (by kernel_rfl) (by kernel_rfl) (fun _ _ _ h => h) (by kernel_rfl) (by kernel_rfl) (Or.inl ⟨by rfl, ?_⟩) (by assumption) ?_
  rotate_left
  · intro w9 hSw; (try dsimp only at hSw); go_simp <;> with_reducible rfl
  try simp only [Act.put, List.getElem_toArray, List.getElem_cons_zero, List.getElem_cons_succ, List.setIfInBounds_toArray, List.set_cons_zero, List.set_cons_succ]
  refine AnyG.take (i := 5) (v := ?_) rfl (by kernel_rfl) (by kernel_rfl) (by kernel_rfl) (fun _ _ _ h => h) (by kernel_rfl) (by kernel_rfl) (Or.inl ⟨by rfl, ?_⟩) (by assumption) ?_
  rotate_left
  · intro w9 hSw; (try dsimp only at hSw); go_simp <;> with_reducible rfl
  try simp only [Act.put, List.getElem_toArray, List.getElem_cons_zero, List.getElem_cons_succ, List.setIfInBounds_toArray, List.set_cons_zero, List.set_cons_succ]
  refine AnyG.step (i := 6) (by kernel_rfl) rfl (fun K hK => ?_)
  go_simp
  go_at_call 83
  refine (KC2.out _).mono ?_
  rintro e w14 ⟨rfl, hb⟩
  have B_w14 := Lib.hid (reg_next (w0 := w13) (by repeat (first | with_reducible exact Below.refl _ _ | with_reducible apply below_drew | with_reducible apply below_new)) hb)
  have K_w14 := KK.out _ B_w14.out
  clear hb
  refine hK.out _ _ (fun _ => K_w14) (fun hHeld => ?_)
  replace hHeld := hHeld (by decide)
  clear hK
  try simp only [Act.put, List.getElem_toArray, List.getElem_cons_zero, List.getElem_cons_succ, List.setIfInBounds_toArray, List.set_cons_zero, List.set_cons_succ]
  refine AnyG.step (i := 7) (by kernel_rfl) rfl (fun K hK => ?_)
  go_simp
  go_at_call 117
  refine (M2.out _).mono ?_
  rintro e w15 ⟨ph, pl, rfl, hb, hp⟩
  have B_w15 := Lib.hid (below_next B_w14.out hb)
  have K_w15 := KK.out _ B_w15.out
  clear hb
  refine hK.out _ _ (fun _ => K_w15) (fun hHeld => ?_)
  replace hHeld := hHeld (by decide)
  clear hK
  try simp only [Act.put, List.getElem_toArray, List.getElem_cons_zero, List.getElem_cons_succ, List.setIfInBounds_toArray, List.set_cons_zero, List.set_cons_succ]
  refine AnyG.step (i := 8) (by kernel_rfl) rfl (fun K hK => ?_)
  go_simp
  go_at_call 91
  refine (A2.out _ _ _ _ _ hs1.out hp).mono ?_
  rintro e w16 ⟨sh2, sl2, ok, rfl, hb, hs2⟩
  have B_w16 := Lib.hid (below_next B_w15.out hb)
  have K_w16 := KK.out _ B_w16.out
  obtain ⟨rc_sum0, rc_sum1, rf_sum0, rf_sum1⟩ := reads2 (r_sum.out.keep B_w16.out)
  have rl_sum := (r_sum.out.keep B_w16.out).lt
  clear hb
  refine hK.out _ _ (fun _ => K_w16) (fun hHeld => ?_)
  replace hHeld := hHeld (by decide)
  clear hK
  try simp only [Act.put, List.getElem_toArray, List.getElem_cons_zero, List.getElem_cons_succ, List.setIfInBounds_toArray, List.set_cons_zero, List.set_cons_succ]
  refine AnyG.take (i := 9) (v := ?_) rfl (by kernel_rfl) (by kernel_rfl) (by kernel_rfl) (fun _ _ _ h => h) (by kernel_rfl) (by kernel_rfl) (Or.inl ⟨by rfl, ?_⟩) (by assumption) ?_
  rotate_left
  · intro w9 hSw; (try dsimp only at hSw); go_simp <;> with_reducible rfl
  try simp only [Act.put, List.getElem_toArray, List.getElem_cons_zero, List.getElem_cons_succ, List.setIfInBounds_toArray, List.set_cons_zero, List.set_cons_succ]
  refine AnyG.take (i := 10) (v := ?_) rfl (by kernel_rfl) (by kernel_rfl) (by kernel_rfl) (fun _ _ _ h => h) (by kernel_rfl) (by kernel_rfl) (Or.inl ⟨by rfl, ?_⟩) (by assumption) ?_
  rotate_left
  · intro w9 hSw; (try dsimp only at hSw); go_simp <;> with_reducible rfl
  try simp only [Act.put, List.getElem_toArray, List.getElem_cons_zero, List.getElem_cons_succ, List.setIfInBounds_toArray, List.set_cons_zero, List.set_cons_succ]
  refine AnyG.take0 (i := 11) (v := ?_) rfl (by kernel_rfl) (by kernel_rfl) (by kernel_rfl) (fun _ _ _ h => h) (by decide) (Or.inl ⟨by rfl, ?_⟩) (by assumption) ?_
  rotate_left
  · intro w9 hSw; clear hSw; go_simp <;> with_reducible rfl
  try simp only [Act.put, List.getElem_toArray, List.getElem_cons_zero, List.getElem_cons_succ, List.setIfInBounds_toArray, List.set_cons_zero, List.set_cons_succ]
  refine AnyG.step (i := 12) (by kernel_rfl) rfl (fun K hK => ?_)
  go_simp
  refine hK.out _ _ (fun h => absurd h (by decide)) (fun _ => ?_)
  clear hK
  try simp only [Act.put, List.getElem_toArray, List.getElem_cons_zero, List.getElem_cons_succ, List.setIfInBounds_toArray, List.set_cons_zero, List.set_cons_succ]
  refine AnyG.done (by kernel_rfl) ?_ _
  clear KK K0 KD K_w14 K_w15 K_w16
  replace r_sum := Lib.hid (r_sum.out.keep B_w16.out)
  replace r_c2 := Lib.hid (r_c2.out.keep B_w16.out)
  replace BB := Lib.hid (below_next BB.out B_w16.out)
  clear B_w14 B_w15 B_w16
  replace hs2 := Lib.hid (hs2.of_room R.out.2.2.1)
  clear hp
  replace r_sum := Lib.hid (r_sum.out.set2 (.int .i64 sh2) (.int .u64 sl2))
  replace r_c2 := Lib.hid (r_c2.out.far2 (p := g_sum) (by have dd_c2 := d_c2.out; have dd_sum := d_sum.out; omega) (.int .i64 sh2) (.int .u64 sl2))
  replace BB := Lib.hid (below_far2 BB.out (p := g_sum) (by have dd := d_sum.out; omega) (.int .i64 sh2) (.int .u64 sl2))
  generalize ((w16.setCell ⟨g_sum, 0, none⟩ (.int .i64 sh2)).setCell ⟨g_sum, 1, none⟩ (.int .u64 sl2)) = w17 at *
  obtain ⟨c_c20, c_c21, c_c22, f_c20, f_c21, f_c22⟩ := reads3 r_c2.out
  have l_c2 := r_c2.out.lt
  go_wp2_with fail
  clear r_c2
  rw [rounds_succ]
  go_wp2_with fail
  clear c_c20 c_c21 c_c22 f_c20 f_c21 f_c22 l_c2
  have d_c3 := Lib.hid (And.intro BB.out.size (And.intro r_sum.out.lt (True.intro)))
  obtain ⟨hb, r_c3⟩ := laid w17 #[.int .i64 x3, .int .i64 y3, .int .i64 b3] CRT
  replace r_sum := Lib.hid (r_sum.out.keep hb)
  replace BB := Lib.hid (below_next BB.out hb)
  replace r_c3 := Lib.hid r_c3
  clear hb
  generalize w17.alloc (.cells #[.int .i64 x3, .int .i64 y3, .int .i64 b3] CRT) = w18 at *
  generalize w17.heap.size = g_c3 at *
  go_wp2_with fail
  have KK := Lib.hid (fun (w9 : World) (h : Below w18.heap.size w18 w9) => (⟨cells2 (r_sum.out.keep h), cells3 (r_c3.out.keep h)⟩ : (w9.cell? ⟨g_sum, 0, none⟩ = some (.int .i64 sh2) ∧ w9.cell? ⟨g_sum, 1, none⟩ = some (.int .u64 sl2)) ∧ (w9.cell? ⟨g_c3, 0, none⟩ = some (.int .i64 x3) ∧ w9.cell? ⟨g_c3, 1, none⟩ = some (.int .i64 y3) ∧ w9.cell? ⟨g_c3, 2, none⟩ = some (.int .i64 b3))))
  have K0 := KK.out w18 (Below.refl _ _)
  have KD := KK.out w18.drew (below_drew (Below.refl _ _))
  refine AnyG.begin_ (fun w9 => (w9.cell? ⟨g_sum, 0, none⟩ = some (.int .i64 sh2) ∧ w9.cell? ⟨g_sum, 1, none⟩ = some (.int .u64 sl2)) ∧ (w9.cell? ⟨g_c3, 0, none⟩ = some (.int .i64 x3) ∧ w9.cell? ⟨g_c3, 1, none⟩ = some (.int .i64 y3) ∧ w9.cell? ⟨g_c3, 2, none⟩ = some (.int .i64 b3))) 12 (by kernel_rfl) ?_
  refine AnyG.take (i := 0) (v := ?_) rfl (by kernel_rfl) (by kernel_rfl) (by kernel_rfl) (fun _ _ _ h => h) (by kernel_rfl) (by kernel_rfl) (Or.inl ⟨by rfl, ?_⟩) (by assumption) ?_
  rotate_left
  · intro w9 hSw; (try dsimp only at hSw); go_simp <;> with_reducible rfl
  try simp only [Act.put, List.getElem_toArray, List.getElem_cons_zero, List.getElem_cons_succ, List.setIfInBounds_toArray, List.set_cons_zero, List.set_cons_succ]
  refine AnyG.take (i := 1) (v := ?_) rfl (by kernel_rfl) (by kernel_rfl) (by kernel_rfl) (fun _ _ _ h => h) (by kernel_rfl) (by kernel_rfl) (Or.inl ⟨by rfl, ?_⟩) (by assumption) ?_
  rotate_left
  · intro w9 hSw; (try dsimp only at hSw); go_simp <;> with_reducible rfl
  try simp only [Act.put, List.getElem_toArray, List.getElem_cons_zero, List.getElem_cons_succ, List.setIfInBounds_toArray, List.set_cons_zero, List.set_cons_succ]
  refine AnyG.take (i := 2) (v := ?_) rfl (by kernel_rfl) (by kernel_rfl) (by kernel_rfl) (fun _ _ _ h => h) (by kernel_rfl) (by kernel_rfl) (Or.inl ⟨by rfl, ?_⟩) (by assumption) ?_
  rotate_left
  · intro w9 hSw; (try dsimp only at hSw); go_simp <;> with_reducible rfl
  try simp only [Act.put, List.getElem_toArray, List.getElem_cons_zero, List.getElem_cons_succ, List.setIfInBounds_toArray, List.set_cons_zero, List.set_cons_succ]
  refine AnyG.take (i := 3) (v := ?_) rfl (by kernel_rfl) (by kernel_rfl) (by kernel_rfl) (fun _ _ _ h => h) (by kernel_rfl) (by kernel_rfl) (Or.inl ⟨by rfl, ?_⟩) (by assumption) ?_
  rotate_left
  · intro w9 hSw; (try dsimp only at hSw); go_simp <;> with_reducible rfl
  try simp only [Act.put, List.getElem_toArray, List.getElem_cons_zero, List.getElem_cons_succ, List.setIfInBounds_toArray, List.set_cons_zero, List.set_cons_succ]
  refine AnyG.take (i := 4) (v := ?_) rfl (by kernel_rfl) (by kernel_rfl) (by kernel_rfl) (fun _ _ _ h => h) (by kernel_rfl) (by kernel_rfl) (Or.inl ⟨by rfl, ?_⟩) (by assumption) ?_
  rotate_left
  · intro w9 hSw; (try dsimp only at hSw); go_simp <;> with_reducible rfl
  try simp only [Act.put, List.getElem_toArray, List.getElem_cons_zero, List.getElem_cons_succ, List.setIfInBounds_toArray, List.set_cons_zero, List.set_cons_succ]
  refine AnyG.take (i := 5) (v := ?_) rfl (by kernel_rfl) (by kernel_rfl) (by kernel_rfl) (fun _ _ _ h => h) (by kernel_rfl) (by kernel_rfl) (Or.inl ⟨by rfl, ?_⟩) (by assumption) ?_
  rotate_left
  · intro w9 hSw; (try dsimp only at hSw); go_simp <;> with_reducible rfl
  try simp only [Act.put, List.getElem_toArray, List.getElem_cons_zero, List.getElem_cons_succ, List.setIfInBounds_toArray, List.set_cons_zero, List.set_cons_succ]
  refine AnyG.step (i := 6) (by kernel_rfl) rfl (fun K hK => ?_)
  go_simp
  go_at_call 83
  refine (KC3.out _).mono ?_
  rintro e w19 ⟨rfl, hb⟩
  have B_w19 := Lib.hid (reg_next (w0 := w18) (by repeat (first | with_reducible exact Below.refl _ _ | with_reducible apply below_drew | with_reducible apply below_new)) hb)
  have K_w19 := KK.out _ B_w19.out
  clear hb
  refine hK.out _ _ (fun _ => K_w19) (fun hHeld => ?_)
  replace hHeld := hHeld (by decide)
  clear hK
  try simp only [Act.put, List.getElem_toArray, List.getElem_cons_zero, List.getElem_cons_succ, List.setIfInBounds_toArray, List.set_cons_zero, List.set_cons_succ]
  refine AnyG.step (i := 7) (by kernel_rfl) rfl (fun K hK => ?_)
  go_simp
  go_at_call 117
  refine (M3.out _).mono ?_
  rintro e w20 ⟨ph, pl, rfl, hb, hp⟩
  have B_w20 := Lib.hid (below_next B_w19.out hb)
  have K_w20 := KK.out _ B_w20.out
  clear hb
  refine hK.out _ _ (fun _ => K_w20) (fun hHeld => ?_)
  replace hHeld := hHeld (by decide)
  clear hK
  try simp only [Act.put, List.getElem_toArray, List.getElem_cons_zero, List.getElem_cons_succ, List.setIfInBounds_toArray, List.set_cons_zero, List.set_cons_succ]
  refine AnyG.step (i := 8) (by kernel_rfl) rfl (fun K hK => ?_)
  go_simp
  go_at_call 91
  refine (A3.out _ _ _ _ _ hs2.out hp).mono ?_
  rintro e w21 ⟨sh3, sl3, ok, rfl, hb, hs3⟩
  have B_w21 := Lib.hid (below_next B_w20.out hb)
  have K_w21 := KK.out _ B_w21.out
  obtain ⟨rc_sum0, rc_sum1, rf_sum0, rf_sum1⟩ := reads2 (r_sum.out.keep B_w21.out)
  have rl_sum := (r_sum.out.keep B_w21.out).lt
  clear hb
  refine hK.out _ _ (fun _ => K_w21) (fun hHeld => ?_)
  replace hHeld := hHeld (by decide)
  clear hK
  try simp only [Act.put, List.getElem_toArray, List.getElem_cons_zero, List.getElem_cons_succ, List.setIfInBounds_toArray, List.set_cons_zero, List.set_cons_succ]
  refine AnyG.take (i := 9) (v := ?_) rfl (by kernel_rfl) (by kernel_rfl) (by kernel_rfl) (fun _ _ _ h => h) (by kernel_rfl) (by kernel_rfl) (Or.inl ⟨by rfl, ?_⟩) (by assumption) ?_
  rotate_left
  · intro w9 hSw; (try dsimp only at hSw); go_simp <;> with_reducible rfl
  try simp only [Act.put, List.getElem_toArray, List.getElem_cons_zero, List.getElem_cons_succ, List.setIfInBounds_toArray, List.set_cons_zero, List.set_cons_succ]
  refine AnyG.take (i := 10) (v := ?_) rfl (by kernel_rfl) (by kernel_rfl) (by kernel_rfl) (fun _ _ _ h => h) (by kernel_rfl) (by kernel_rfl) (Or.inl ⟨by rfl, ?_⟩) (by assumption) ?_
  rotate_left
  · intro w9 hSw; (try dsimp only at hSw); go_simp <;> with_reducible rfl
  try simp only [Act.put, List.getElem_toArray, List.getElem_cons_zero, List.getElem_cons_succ, List.setIfInBounds_toArray, List.set_cons_zero, List.set_cons_succ]
  refine AnyG.take0 (i := 11) (v := ?_) rfl (by kernel_rfl) (by kernel_rfl) (by kernel_rfl) (fun _ _ _ h => h) (by decide) (Or.inl ⟨by rfl, ?_⟩) (by assumption) ?_
  rotate_left
  · intro w9 hSw; clear hSw; go_simp <;> with_reducible rfl
  try simp only [Act.put, List.getElem_toArray, List.getElem_cons_zero, List.getElem_cons_succ, List.setIfInBounds_toArray, List.set_cons_zero, List.set_cons_succ]
  refine AnyG.step (i := 12) (by kernel_rfl) rfl (fun K hK => ?_)
  go_simp
  refine hK.out _ _ (fun h => absurd h (by decide)) (fun _ => ?_)
  clear hK
  try simp only [Act.put, List.getElem_toArray, List.getElem_cons_zero, List.getElem_cons_succ, List.setIfInBounds_toArray, List.set_cons_zero, List.set_cons_succ]
  refine AnyG.done (by kernel_rfl) ?_ _
  clear KK K0 KD K_w19 K_w20 K_w21
  replace r_sum := Lib.hid (r_sum.out.keep B_w21.out)
  replace r_c3 := Lib.hid (r_c3.out.keep B_w21.out)
  replace BB := Lib.hid (below_next BB.out B_w21.out)
  clear B_w19 B_w20 B_w21
  replace hs3 := Lib.hid (hs3.of_room R.out.2.2.2)
  clear hp
  replace r_sum := Lib.hid (r_sum.out.set2 (.int .i64 sh3) (.int .u64 sl3))
  replace r_c3 := Lib.hid (r_c3.out.far2 (p := g_sum) (by have dd_c3 := d_c3.out; have dd_sum := d_sum.out; omega) (.int .i64 sh3) (.int .u64 sl3))
  replace BB := Lib.hid (below_far2 BB.out (p := g_sum) (by have dd := d_sum.out; omega) (.int .i64 sh3) (.int .u64 sl3))
  generalize ((w21.setCell ⟨g_sum, 0, none⟩ (.int .i64 sh3)).setCell ⟨g_sum, 1, none⟩ (.int .u64 sl3)) = w22 at *
  obtain ⟨c_c30, c_c31, c_c32, f_c30, f_c31, f_c32⟩ := reads3 r_c3.out
  have l_c3 := r_c3.out.lt
  go_wp2_with fail
  clear r_c3
  rw [rounds_succ]
  obtain ⟨c_sum0, c_sum1, f_sum0, f_sum1⟩ := reads2 r_sum.out
  have l_sum := r_sum.out.lt
  go_wp2_with fail
  refine (CQ.out _ _ _ (by rw [hZ.out]; exact hs3.out)).mono ?_
  rintro e w23 ⟨qh, ql, rr, ok, rfl, hb, hq⟩
  clear c_c30 c_c31 c_c32 f_c30 f_c31 f_c32 l_c3 c_sum0 c_sum1 f_sum0 f_sum1 l_sum
  replace r_sum := Lib.hid (r_sum.out.keep hb)
  replace BB := Lib.hid (below_next BB.out hb)
  clear hb
  have hq1 : Hid (W128 (Z.fdiv t4) qh ql) := by
    rcases hq with ⟨-, -, -, h, -⟩ | ⟨h, -⟩
    · exact h
    · rcases h with h | h
      · exact absurd h hn
      · exact absurd HQ.out h
  clear hq
  go_upto_region 10 with fail
  have d_q := Lib.hid (And.intro BB.out.size (And.intro r_sum.out.lt (True.intro)))
  obtain ⟨hb, r_q⟩ := laid w23 #[.int .i64 qh, .int .u64 ql] WT5
  replace r_sum := Lib.hid (r_sum.out.keep hb)
  replace BB := Lib.hid (below_next BB.out hb)
  replace r_q := Lib.hid r_q
  clear hb
  generalize w23.alloc (.cells #[.int .i64 qh, .int .u64 ql] WT5) = w24 at *
  generalize w23.heap.size = g_q at *
  obtain ⟨c_q0, c_q1, f_q0, f_q1⟩ := reads2 r_q.out
  have l_q := r_q.out.lt
  go_wp2_with fail
  refine (CC.out _ _ _ hq1.out _).mono ?_
  rintro e w25 ⟨rfl, hb⟩
  clear c_q0 c_q1 f_q0 f_q1 l_q
  replace r_sum := Lib.hid (r_sum.out.keep hb)
  replace r_q := Lib.hid (r_q.out.keep hb)
  replace BB := Lib.hid (below_next BB.out hb)
  clear hb
  go_wp2_with fail
  go_ret
  exact ⟨rfl, BB.out⟩
end Go.Proofs.Ythoakbjnofhpbaa
