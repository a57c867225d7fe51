/- Contract of a channel of a curve. -/
import Derived.Test.YtnklbnphiokpiaaCu0
set_option linter.unusedVariables false
set_option linter.unusedSimpArgs false
namespace Go.Proofs.Ytnklbnphiokpiaa
open Go.RowKit
theorem crmix_v (S0 S1 S2 S3 : Value) (k : Nat) (L0 L1 L2 L3 : List Int) (x0 x1 x2 x3 : Int) (w : World)
    (h0 : BS w S0 L0) (h1 : BS w S1 L1) (h2 : BS w S2 L2) (h3 : BS w S3 L3) (hw : CW x0 x1 x2 x3) (hk1 : k ≤ 1000) :
    Calls Try.prog 104 #[.agg #[S0, S1, S2, S3], .agg #[.int .i64 x0, .int .i64 x1, .int .i64 x2, .int .i64 x3], .int .i64 (k : Int)] w fun e w' =>
      e = .returned (.int .i64 (x0 * L0.getD k 0 + x1 * L1.getD k 0 + x2 * L2.getD k 0 + x3 * L3.getD k 0)) ∧ Below w.heap.size w w' := by
  obtain ⟨A0, p0, rfl⟩ := h0.form
  obtain ⟨A1, p1, rfl⟩ := h1.form
  obtain ⟨A2, p2, rfl⟩ := h2.form
  obtain ⟨A3, p3, rfl⟩ := h3.form
  exact crmix A0 A1 A2 A3 _ _ _ _ p0 p1 p2 p3 k L0 L1 L2 L3 x0 x1 x2 x3 w h0 h1 h2 h3 rfl rfl rfl rfl hw hk1
theorem mul_ab {x m A B : Int} (hx : -A ≤ x ∧ x ≤ A) (hm : -B ≤ m ∧ m ≤ B) : -(A * B) ≤ x * m ∧ x * m ≤ A * B := by
  have h1 : x.natAbs ≤ A.toNat := by omega
  have h2 : m.natAbs ≤ B.toNat := by omega
  have h3 := Nat.mul_le_mul h1 h2
  rw [← Int.natAbs_mul] at h3
  have h4 : ((A.toNat * B.toNat : Nat) : Int) = A * B := by rw [Int.natCast_mul, Int.toNat_of_nonneg (by omega), Int.toNat_of_nonneg (by omega)]
  omega
theorem reads24 {w : World} {g : Nat} {v0 v1 v2 v3 v4 v5 v6 v7 v8 v9 v10 v11 v12 v13 v14 v15 v16 v17 v18 v19 v20 v21 v22 v23 : Value} {T : TypeId} (h : AtB w g #[v0, v1, v2, v3, v4, v5, v6, v7, v8, v9, v10, v11, v12, v13, v14, v15, v16, v17, v18, v19, v20, v21, v22, v23] T) : w.cell? ⟨g, 0, none⟩ = some v0 ∧ w.cell? ⟨g, 1, none⟩ = some v1 ∧ w.cell? ⟨g, 2, none⟩ = some v2 ∧ w.cell? ⟨g, 3, none⟩ = some v3 ∧ w.cell? ⟨g, 4, none⟩ = some v4 ∧ w.cell? ⟨g, 5, none⟩ = some v5 ∧ w.cell? ⟨g, 6, none⟩ = some v6 ∧ w.cell? ⟨g, 7, none⟩ = some v7 ∧ w.cell? ⟨g, 8, none⟩ = some v8 ∧ w.cell? ⟨g, 9, none⟩ = some v9 ∧ w.cell? ⟨g, 10, none⟩ = some v10 ∧ w.cell? ⟨g, 11, none⟩ = some v11 ∧ w.cell? ⟨g, 12, none⟩ = some v12 ∧ w.cell? ⟨g, 13, none⟩ = some v13 ∧ w.cell? ⟨g, 14, none⟩ = some v14 ∧ w.cell? ⟨g, 15, none⟩ = some v15 ∧ w.cell? ⟨g, 16, none⟩ = some v16 ∧ w.cell? ⟨g, 17, none⟩ = some v17 ∧ w.cell? ⟨g, 18, none⟩ = some v18 ∧ w.cell? ⟨g, 19, none⟩ = some v19 ∧ w.cell? ⟨g, 20, none⟩ = some v20 ∧ w.cell? ⟨g, 21, none⟩ = some v21 ∧ w.cell? ⟨g, 22, none⟩ = some v22 ∧ w.cell? ⟨g, 23, none⟩ = some v23 ∧ w.frozen? ⟨g, 0, none⟩ = false ∧ w.frozen? ⟨g, 1, none⟩ = false ∧ w.frozen? ⟨g, 2, none⟩ = false ∧ w.frozen? ⟨g, 3, none⟩ = false ∧ w.frozen? ⟨g, 4, none⟩ = false ∧ w.frozen? ⟨g, 5, none⟩ = false ∧ w.frozen? ⟨g, 6, none⟩ = false ∧ w.frozen? ⟨g, 7, none⟩ = false ∧ w.frozen? ⟨g, 8, none⟩ = false ∧ w.frozen? ⟨g, 9, none⟩ = false ∧ w.frozen? ⟨g, 10, none⟩ = false ∧ w.frozen? ⟨g, 11, none⟩ = false ∧ w.frozen? ⟨g, 12, none⟩ = false ∧ w.frozen? ⟨g, 13, none⟩ = false ∧ w.frozen? ⟨g, 14, none⟩ = false ∧ w.frozen? ⟨g, 15, none⟩ = false ∧ w.frozen? ⟨g, 16, none⟩ = false ∧ w.frozen? ⟨g, 17, none⟩ = false ∧ w.frozen? ⟨g, 18, none⟩ = false ∧ w.frozen? ⟨g, 19, none⟩ = false ∧ w.frozen? ⟨g, 20, none⟩ = false ∧ w.frozen? ⟨g, 21, none⟩ = false ∧ w.frozen? ⟨g, 22, none⟩ = false ∧ w.frozen? ⟨g, 23, none⟩ = false :=
  ⟨h.cell 0 rfl, h.cell 1 rfl, h.cell 2 rfl, h.cell 3 rfl, h.cell 4 rfl, h.cell 5 rfl, h.cell 6 rfl, h.cell 7 rfl, h.cell 8 rfl, h.cell 9 rfl, h.cell 10 rfl, h.cell 11 rfl, h.cell 12 rfl, h.cell 13 rfl, h.cell 14 rfl, h.cell 15 rfl, h.cell 16 rfl, h.cell 17 rfl, h.cell 18 rfl, h.cell 19 rfl, h.cell 20 rfl, h.cell 21 rfl, h.cell 22 rfl, h.cell 23 rfl, h.fr 0, h.fr 1, h.fr 2, h.fr 3, h.fr 4, h.fr 5, h.fr 6, h.fr 7, h.fr 8, h.fr 9, h.fr 10, h.fr 11, h.fr 12, h.fr 13, h.fr 14, h.fr 15, h.fr 16, h.fr 17, h.fr 18, h.fr 19, h.fr 20, h.fr 21, h.fr 22, h.fr 23⟩
theorem cells24 {w : World} {g : Nat} {v0 v1 v2 v3 v4 v5 v6 v7 v8 v9 v10 v11 v12 v13 v14 v15 v16 v17 v18 v19 v20 v21 v22 v23 : Value} {T : TypeId} (h : AtB w g #[v0, v1, v2, v3, v4, v5, v6, v7, v8, v9, v10, v11, v12, v13, v14, v15, v16, v17, v18, v19, v20, v21, v22, v23] T) : w.cell? ⟨g, 0, none⟩ = some v0 ∧ w.cell? ⟨g, 1, none⟩ = some v1 ∧ w.cell? ⟨g, 2, none⟩ = some v2 ∧ w.cell? ⟨g, 3, none⟩ = some v3 ∧ w.cell? ⟨g, 4, none⟩ = some v4 ∧ w.cell? ⟨g, 5, none⟩ = some v5 ∧ w.cell? ⟨g, 6, none⟩ = some v6 ∧ w.cell? ⟨g, 7, none⟩ = some v7 ∧ w.cell? ⟨g, 8, none⟩ = some v8 ∧ w.cell? ⟨g, 9, none⟩ = some v9 ∧ w.cell? ⟨g, 10, none⟩ = some v10 ∧ w.cell? ⟨g, 11, none⟩ = some v11 ∧ w.cell? ⟨g, 12, none⟩ = some v12 ∧ w.cell? ⟨g, 13, none⟩ = some v13 ∧ w.cell? ⟨g, 14, none⟩ = some v14 ∧ w.cell? ⟨g, 15, none⟩ = some v15 ∧ w.cell? ⟨g, 16, none⟩ = some v16 ∧ w.cell? ⟨g, 17, none⟩ = some v17 ∧ w.cell? ⟨g, 18, none⟩ = some v18 ∧ w.cell? ⟨g, 19, none⟩ = some v19 ∧ w.cell? ⟨g, 20, none⟩ = some v20 ∧ w.cell? ⟨g, 21, none⟩ = some v21 ∧ w.cell? ⟨g, 22, none⟩ = some v22 ∧ w.cell? ⟨g, 23, none⟩ = some v23 :=
  ⟨h.cell 0 rfl, h.cell 1 rfl, h.cell 2 rfl, h.cell 3 rfl, h.cell 4 rfl, h.cell 5 rfl, h.cell 6 rfl, h.cell 7 rfl, h.cell 8 rfl, h.cell 9 rfl, h.cell 10 rfl, h.cell 11 rfl, h.cell 12 rfl, h.cell 13 rfl, h.cell 14 rfl, h.cell 15 rfl, h.cell 16 rfl, h.cell 17 rfl, h.cell 18 rfl, h.cell 19 rfl, h.cell 20 rfl, h.cell 21 rfl, h.cell 22 rfl, h.cell 23 rfl⟩
theorem crows_at0 (S0 S1 S2 S3 S4 S5 S6 S7 S8 S9 S10 S11 S12 S13 S14 S15 : Value) (w : World) : (Instr.index 108 (.agg #[S0, S1, S2, S3, S4, S5, S6, S7, S8, S9, S10, S11, S12, S13, S14, S15]) (.int .i64 0)).run Try.prog w = .ok (.agg #[S0, S1, S2, S3]) w := by kernel_rfl
theorem crows_at1 (S0 S1 S2 S3 S4 S5 S6 S7 S8 S9 S10 S11 S12 S13 S14 S15 : Value) (w : World) : (Instr.index 108 (.agg #[S0, S1, S2, S3, S4, S5, S6, S7, S8, S9, S10, S11, S12, S13, S14, S15]) (.int .i64 1)).run Try.prog w = .ok (.agg #[S4, S5, S6, S7]) w := by kernel_rfl
theorem crows_at2 (S0 S1 S2 S3 S4 S5 S6 S7 S8 S9 S10 S11 S12 S13 S14 S15 : Value) (w : World) : (Instr.index 108 (.agg #[S0, S1, S2, S3, S4, S5, S6, S7, S8, S9, S10, S11, S12, S13, S14, S15]) (.int .i64 2)).run Try.prog w = .ok (.agg #[S8, S9, S10, S11]) w := by kernel_rfl
theorem crows_at3 (S0 S1 S2 S3 S4 S5 S6 S7 S8 S9 S10 S11 S12 S13 S14 S15 : Value) (w : World) : (Instr.index 108 (.agg #[S0, S1, S2, S3, S4, S5, S6, S7, S8, S9, S10, S11, S12, S13, S14, S15]) (.int .i64 3)).run Try.prog w = .ok (.agg #[S12, S13, S14, S15]) w := by kernel_rfl
/-- What a curve tells in a channel. -/
def cubAt (Lf : Nat → List Int) (x0 x1 x2 x3 y0 y1 y2 y3 : Int) (k : Nat) : Int := byteI (y0 * (x0 * (Lf 0).getD k 0 + x1 * (Lf 1).getD k 0 + x2 * (Lf 2).getD k 0 + x3 * (Lf 3).getD k 0) + y1 * (x0 * (Lf 4).getD k 0 + x1 * (Lf 5).getD k 0 + x2 * (Lf 6).getD k 0 + x3 * (Lf 7).getD k 0) + y2 * (x0 * (Lf 8).getD k 0 + x1 * (Lf 9).getD k 0 + x2 * (Lf 10).getD k 0 + x3 * (Lf 11).getD k 0) + y3 * (x0 * (Lf 12).getD k 0 + x1 * (Lf 13).getD k 0 + x2 * (Lf 14).getD k 0 + x3 * (Lf 15).getD k 0)) 1125899906842624
set_option maxRecDepth 100000 in
set_option maxHeartbeats 16000000 in
theorem cchannel (A0 A1 A2 A3 A4 A5 A6 A7 A8 A9 A10 A11 A12 A13 A14 A15 : Option Addr) (n0 n1 n2 n3 n4 n5 n6 n7 n8 n9 n10 n11 n12 n13 n14 n15 p0 p1 p2 p3 p4 p5 p6 p7 p8 p9 p10 p11 p12 p13 p14 p15 : Nat) (Lf : Nat → List Int) (x0 x1 x2 x3 y0 y1 y2 y3 : Int) (k : Nat) (W0 : World) (h0 : BS W0 (.slice A0 n0 p0) (Lf 0)) (h1 : BS W0 (.slice A1 n1 p1) (Lf 1)) (h2 : BS W0 (.slice A2 n2 p2) (Lf 2)) (h3 : BS W0 (.slice A3 n3 p3) (Lf 3)) (h4 : BS W0 (.slice A4 n4 p4) (Lf 4)) (h5 : BS W0 (.slice A5 n5 p5) (Lf 5)) (h6 : BS W0 (.slice A6 n6 p6) (Lf 6)) (h7 : BS W0 (.slice A7 n7 p7) (Lf 7)) (h8 : BS W0 (.slice A8 n8 p8) (Lf 8)) (h9 : BS W0 (.slice A9 n9 p9) (Lf 9)) (h10 : BS W0 (.slice A10 n10 p10) (Lf 10)) (h11 : BS W0 (.slice A11 n11 p11) (Lf 11)) (h12 : BS W0 (.slice A12 n12 p12) (Lf 12)) (h13 : BS W0 (.slice A13 n13 p13) (Lf 13)) (h14 : BS W0 (.slice A14 n14 p14) (Lf 14)) (h15 : BS W0 (.slice A15 n15 p15) (Lf 15)) (hx : CW x0 x1 x2 x3) (hy : CW y0 y1 y2 y3) (hk : k ≤ 1000) (w : World) (hW : Below W0.heap.size W0 w) :
    Calls Try.prog 84 #[.agg #[.slice A0 n0 p0, .slice A1 n1 p1, .slice A2 n2 p2, .slice A3 n3 p3, .slice A4 n4 p4, .slice A5 n5 p5, .slice A6 n6 p6, .slice A7 n7 p7, .slice A8 n8 p8, .slice A9 n9 p9, .slice A10 n10 p10, .slice A11 n11 p11, .slice A12 n12 p12, .slice A13 n13 p13, .slice A14 n14 p14, .slice A15 n15 p15, .int .i64 x0, .int .i64 x1, .int .i64 x2, .int .i64 x3, .int .i64 y0, .int .i64 y1, .int .i64 y2, .int .i64 y3], .int .i64 (k : Int)] w fun e w' => e = .returned (.int .u8 (cubAt Lf x0 x1 x2 x3 y0 y1 y2 y3 k)) ∧ Below w.heap.size w w' := by
  have d0 := cw_dot hx (h0.bytes k) (h1.bytes k) (h2.bytes k) (h3.bytes k)
  have C0 := Lib.hid (fun w9 (hb : Below w.heap.size w w9) => crmix_v (.slice A0 n0 p0) (.slice A1 n1 p1) (.slice A2 n2 p2) (.slice A3 n3 p3) k (Lf 0) (Lf 1) (Lf 2) (Lf 3) x0 x1 x2 x3 w9 (h0.below (hW.trans (Below.less hb hW.size))) (h1.below (hW.trans (Below.less hb hW.size))) (h2.below (hW.trans (Below.less hb hW.size))) (h3.below (hW.trans (Below.less hb hW.size))) hx hk)
  have d1 := cw_dot hx (h4.bytes k) (h5.bytes k) (h6.bytes k) (h7.bytes k)
  have C1 := Lib.hid (fun w9 (hb : Below w.heap.size w w9) => crmix_v (.slice A4 n4 p4) (.slice A5 n5 p5) (.slice A6 n6 p6) (.slice A7 n7 p7) k (Lf 4) (Lf 5) (Lf 6) (Lf 7) x0 x1 x2 x3 w9 (h4.below (hW.trans (Below.less hb hW.size))) (h5.below (hW.trans (Below.less hb hW.size))) (h6.below (hW.trans (Below.less hb hW.size))) (h7.below (hW.trans (Below.less hb hW.size))) hx hk)
  have d2 := cw_dot hx (h8.bytes k) (h9.bytes k) (h10.bytes k) (h11.bytes k)
  have C2 := Lib.hid (fun w9 (hb : Below w.heap.size w w9) => crmix_v (.slice A8 n8 p8) (.slice A9 n9 p9) (.slice A10 n10 p10) (.slice A11 n11 p11) k (Lf 8) (Lf 9) (Lf 10) (Lf 11) x0 x1 x2 x3 w9 (h8.below (hW.trans (Below.less hb hW.size))) (h9.below (hW.trans (Below.less hb hW.size))) (h10.below (hW.trans (Below.less hb hW.size))) (h11.below (hW.trans (Below.less hb hW.size))) hx hk)
  have d3 := cw_dot hx (h12.bytes k) (h13.bytes k) (h14.bytes k) (h15.bytes k)
  have C3 := Lib.hid (fun w9 (hb : Below w.heap.size w w9) => crmix_v (.slice A12 n12 p12) (.slice A13 n13 p13) (.slice A14 n14 p14) (.slice A15 n15 p15) k (Lf 12) (Lf 13) (Lf 14) (Lf 15) x0 x1 x2 x3 w9 (h12.below (hW.trans (Below.less hb hW.size))) (h13.below (hW.trans (Below.less hb hW.size))) (h14.below (hW.trans (Below.less hb hW.size))) (h15.below (hW.trans (Below.less hb hW.size))) hx hk)
  unfold cubAt
  clear h0 h1 h2 h3 h4 h5 h6 h7 h8 h9 h10 h11 h12 h13 h14 h15 hW
  generalize x0 * (Lf 0).getD k 0 + x1 * (Lf 1).getD k 0 + x2 * (Lf 2).getD k 0 + x3 * (Lf 3).getD k 0 = M0 at *
  generalize x0 * (Lf 4).getD k 0 + x1 * (Lf 5).getD k 0 + x2 * (Lf 6).getD k 0 + x3 * (Lf 7).getD k 0 = M1 at *
  generalize x0 * (Lf 8).getD k 0 + x1 * (Lf 9).getD k 0 + x2 * (Lf 10).getD k 0 + x3 * (Lf 11).getD k 0 = M2 at *
  generalize x0 * (Lf 12).getD k 0 + x1 * (Lf 13).getD k 0 + x2 * (Lf 14).getD k 0 + x3 * (Lf 15).getD k 0 = M3 at *
  have q0 := mul_ab hy.1 d0
  have q1 := mul_ab hy.2.1 d1
  have q2 := mul_ab hy.2.2.1 d2
  have q3 := mul_ab hy.2.2.2 d3
  clear d0 d1 d2 d3 hx hy
  obtain ⟨P0, hP0⟩ : ∃ P, P = y0 * M0 := ⟨_, rfl⟩
  rw [← hP0] at q0 ⊢
  have e0 : IntKind.i64.wrap (y0 * M0) = P0 := by rw [← hP0]; exact iw ⟨by omega, by omega⟩
  obtain ⟨P1, hP1⟩ : ∃ P, P = y1 * M1 := ⟨_, rfl⟩
  rw [← hP1] at q1 ⊢
  have e1 : IntKind.i64.wrap (y1 * M1) = P1 := by rw [← hP1]; exact iw ⟨by omega, by omega⟩
  obtain ⟨P2, hP2⟩ : ∃ P, P = y2 * M2 := ⟨_, rfl⟩
  rw [← hP2] at q2 ⊢
  have e2 : IntKind.i64.wrap (y2 * M2) = P2 := by rw [← hP2]; exact iw ⟨by omega, by omega⟩
  obtain ⟨P3, hP3⟩ : ∃ P, P = y3 * M3 := ⟨_, rfl⟩
  rw [← hP3] at q3 ⊢
  have e3 : IntKind.i64.wrap (y3 * M3) = P3 := by rw [← hP3]; exact iw ⟨by omega, by omega⟩
  obtain ⟨D1, hD1⟩ : ∃ D, D = P0 + P1 := ⟨_, rfl⟩
  have z1 : IntKind.i64.wrap (P0 + P1) = D1 := by rw [← hD1]; exact iw ⟨by omega, by omega⟩
  obtain ⟨D2, hD2⟩ : ∃ D, D = D1 + P2 := ⟨_, rfl⟩
  have z2 : IntKind.i64.wrap (D1 + P2) = D2 := by rw [← hD2]; exact iw ⟨by omega, by omega⟩
  obtain ⟨D3, hD3⟩ : ∃ D, D = D2 + P3 := ⟨_, rfl⟩
  have z3 : IntKind.i64.wrap (D2 + P3) = D3 := by rw [← hD3]; exact iw ⟨by omega, by omega⟩
  rw [← hD1, ← hD2, ← hD3]
  have z0 : IntKind.i64.wrap P0 = P0 := iw ⟨by omega, by omega⟩
  have CB := Lib.hid (fun w => wbyte D3 1125899906842624 ⟨by omega, by omega⟩ ⟨by omega, by omega⟩ w)
  clear q0 q1 q2 q3 hP0 hP1 hP2 hP3 hD1 hD2 hD3
  have J0 := crows_at0 (.slice A0 n0 p0) (.slice A1 n1 p1) (.slice A2 n2 p2) (.slice A3 n3 p3) (.slice A4 n4 p4) (.slice A5 n5 p5) (.slice A6 n6 p6) (.slice A7 n7 p7) (.slice A8 n8 p8) (.slice A9 n9 p9) (.slice A10 n10 p10) (.slice A11 n11 p11) (.slice A12 n12 p12) (.slice A13 n13 p13) (.slice A14 n14 p14) (.slice A15 n15 p15)
  have J1 := crows_at1 (.slice A0 n0 p0) (.slice A1 n1 p1) (.slice A2 n2 p2) (.slice A3 n3 p3) (.slice A4 n4 p4) (.slice A5 n5 p5) (.slice A6 n6 p6) (.slice A7 n7 p7) (.slice A8 n8 p8) (.slice A9 n9 p9) (.slice A10 n10 p10) (.slice A11 n11 p11) (.slice A12 n12 p12) (.slice A13 n13 p13) (.slice A14 n14 p14) (.slice A15 n15 p15)
  have J2 := crows_at2 (.slice A0 n0 p0) (.slice A1 n1 p1) (.slice A2 n2 p2) (.slice A3 n3 p3) (.slice A4 n4 p4) (.slice A5 n5 p5) (.slice A6 n6 p6) (.slice A7 n7 p7) (.slice A8 n8 p8) (.slice A9 n9 p9) (.slice A10 n10 p10) (.slice A11 n11 p11) (.slice A12 n12 p12) (.slice A13 n13 p13) (.slice A14 n14 p14) (.slice A15 n15 p15)
  have J3 := crows_at3 (.slice A0 n0 p0) (.slice A1 n1 p1) (.slice A2 n2 p2) (.slice A3 n3 p3) (.slice A4 n4 p4) (.slice A5 n5 p5) (.slice A6 n6 p6) (.slice A7 n7 p7) (.slice A8 n8 p8) (.slice A9 n9 p9) (.slice A10 n10 p10) (.slice A11 n11 p11) (.slice A12 n12 p12) (.slice A13 n13 p13) (.slice A14 n14 p14) (.slice A15 n15 p15)
  go_enter Try.func84, Try.ntmps84
  go_wp2_with fail
  have BB := start1 w #[.slice A0 n0 p0, .slice A1 n1 p1, .slice A2 n2 p2, .slice A3 n3 p3, .slice A4 n4 p4, .slice A5 n5 p5, .slice A6 n6 p6, .slice A7 n7 p7, .slice A8 n8 p8, .slice A9 n9 p9, .slice A10 n10 p10, .slice A11 n11 p11, .slice A12 n12 p12, .slice A13 n13 p13, .slice A14 n14 p14, .slice A15 n15 p15, .int .i64 x0, .int .i64 x1, .int .i64 x2, .int .i64 x3, .int .i64 y0, .int .i64 y1, .int .i64 y2, .int .i64 y3] CAT
  obtain ⟨BB, hsz, r_a⟩ := BB
  generalize (w.alloc (.cells #[.slice A0 n0 p0, .slice A1 n1 p1, .slice A2 n2 p2, .slice A3 n3 p3, .slice A4 n4 p4, .slice A5 n5 p5, .slice A6 n6 p6, .slice A7 n7 p7, .slice A8 n8 p8, .slice A9 n9 p9, .slice A10 n10 p10, .slice A11 n11 p11, .slice A12 n12 p12, .slice A13 n13 p13, .slice A14 n14 p14, .slice A15 n15 p15, .int .i64 x0, .int .i64 x1, .int .i64 x2, .int .i64 x3, .int .i64 y0, .int .i64 y1, .int .i64 y2, .int .i64 y3] CAT)) = w0 at *
  replace BB := Lib.hid BB
  replace r_a := Lib.hid r_a
  clear hsz
  obtain ⟨c_a0, c_a1, c_a2, c_a3, c_a4, c_a5, c_a6, c_a7, c_a8, c_a9, c_a10, c_a11, c_a12, c_a13, c_a14, c_a15, c_a16, c_a17, c_a18, c_a19, c_a20, c_a21, c_a22, c_a23, f_a0, f_a1, f_a2, f_a3, f_a4, f_a5, f_a6, f_a7, f_a8, f_a9, f_a10, f_a11, f_a12, f_a13, f_a14, f_a15, f_a16, f_a17, f_a18, f_a19, f_a20, f_a21, f_a22, f_a23⟩ := reads24 r_a.out
  have l_a := r_a.out.lt
  go_wp2_with fail
  clear c_a0 c_a1 c_a2 c_a3 c_a4 c_a5 c_a6 c_a7 c_a8 c_a9 c_a10 c_a11 c_a12 c_a13 c_a14 c_a15 c_a16 c_a17 c_a18 c_a19 c_a20 c_a21 c_a22 c_a23 f_a0 f_a1 f_a2 f_a3 f_a4 f_a5 f_a6 f_a7 f_a8 f_a9 f_a10 f_a11 f_a12 f_a13 f_a14 f_a15 f_a16 f_a17 f_a18 f_a19 f_a20 f_a21 f_a22 f_a23 l_a
  refine wp_loop_rounds 5 ?_
  rw [rounds_succ]
  go_upto_region 6 with fail
  have d_r0 := Lib.hid (And.intro BB.out.size (And.intro r_a.out.lt (True.intro)))
  obtain ⟨hb, r_r0⟩ := laid w0 #[.slice A0 n0 p0, .slice A1 n1 p1, .slice A2 n2 p2, .slice A3 n3 p3] CRT
  replace r_a := Lib.hid (r_a.out.keep hb)
  replace BB := Lib.hid (below_next BB.out hb)
  replace r_r0 := Lib.hid r_r0
  clear hb
  generalize w0.alloc (.cells #[.slice A0 n0 p0, .slice A1 n1 p1, .slice A2 n2 p2, .slice A3 n3 p3] CRT) = w1 at *
  generalize w0.heap.size = g_r0 at *
  have KK := Lib.hid (fun (w9 : World) (h : Below w1.heap.size w1 w9) => (⟨cells24 (r_a.out.keep h), cells4 (r_r0.out.keep h)⟩ : (w9.cell? ⟨w.heap.size, 0, none⟩ = some (.slice A0 n0 p0) ∧ w9.cell? ⟨w.heap.size, 1, none⟩ = some (.slice A1 n1 p1) ∧ w9.cell? ⟨w.heap.size, 2, none⟩ = some (.slice A2 n2 p2) ∧ w9.cell? ⟨w.heap.size, 3, none⟩ = some (.slice A3 n3 p3) ∧ w9.cell? ⟨w.heap.size, 4, none⟩ = some (.slice A4 n4 p4) ∧ w9.cell? ⟨w.heap.size, 5, none⟩ = some (.slice A5 n5 p5) ∧ w9.cell? ⟨w.heap.size, 6, none⟩ = some (.slice A6 n6 p6) ∧ w9.cell? ⟨w.heap.size, 7, none⟩ = some (.slice A7 n7 p7) ∧ w9.cell? ⟨w.heap.size, 8, none⟩ = some (.slice A8 n8 p8) ∧ w9.cell? ⟨w.heap.size, 9, none⟩ = some (.slice A9 n9 p9) ∧ w9.cell? ⟨w.heap.size, 10, none⟩ = some (.slice A10 n10 p10) ∧ w9.cell? ⟨w.heap.size, 11, none⟩ = some (.slice A11 n11 p11) ∧ w9.cell? ⟨w.heap.size, 12, none⟩ = some (.slice A12 n12 p12) ∧ w9.cell? ⟨w.heap.size, 13, none⟩ = some (.slice A13 n13 p13) ∧ w9.cell? ⟨w.heap.size, 14, none⟩ = some (.slice A14 n14 p14) ∧ w9.cell? ⟨w.heap.size, 15, none⟩ = some (.slice A15 n15 p15) ∧ w9.cell? ⟨w.heap.size, 16, none⟩ = some (.int .i64 x0) ∧ w9.cell? ⟨w.heap.size, 17, none⟩ = some (.int .i64 x1) ∧ w9.cell? ⟨w.heap.size, 18, none⟩ = some (.int .i64 x2) ∧ w9.cell? ⟨w.heap.size, 19, none⟩ = some (.int .i64 x3) ∧ w9.cell? ⟨w.heap.size, 20, none⟩ = some (.int .i64 y0) ∧ w9.cell? ⟨w.heap.size, 21, none⟩ = some (.int .i64 y1) ∧ w9.cell? ⟨w.heap.size, 22, none⟩ = some (.int .i64 y2) ∧ w9.cell? ⟨w.heap.size, 23, none⟩ = some (.int .i64 y3)) ∧ (w9.cell? ⟨g_r0, 0, none⟩ = some (.slice A0 n0 p0) ∧ w9.cell? ⟨g_r0, 1, none⟩ = some (.slice A1 n1 p1) ∧ w9.cell? ⟨g_r0, 2, none⟩ = some (.slice A2 n2 p2) ∧ w9.cell? ⟨g_r0, 3, none⟩ = some (.slice A3 n3 p3))))
  have K0 := KK.out w1 (Below.refl _ _)
  have KD := KK.out w1.drew (below_drew (Below.refl _ _))
  go_region_held3 (fun w9 => (w9.cell? ⟨w.heap.size, 0, none⟩ = some (.slice A0 n0 p0) ∧ w9.cell? ⟨w.heap.size, 1, none⟩ = some (.slice A1 n1 p1) ∧ w9.cell? ⟨w.heap.size, 2, none⟩ = some (.slice A2 n2 p2) ∧ w9.cell? ⟨w.heap.size, 3, none⟩ = some (.slice A3 n3 p3) ∧ w9.cell? ⟨w.heap.size, 4, none⟩ = some (.slice A4 n4 p4) ∧ w9.cell? ⟨w.heap.size, 5, none⟩ = some (.slice A5 n5 p5) ∧ w9.cell? ⟨w.heap.size, 6, none⟩ = some (.slice A6 n6 p6) ∧ w9.cell? ⟨w.heap.size, 7, none⟩ = some (.slice A7 n7 p7) ∧ w9.cell? ⟨w.heap.size, 8, none⟩ = some (.slice A8 n8 p8) ∧ w9.cell? ⟨w.heap.size, 9, none⟩ = some (.slice A9 n9 p9) ∧ w9.cell? ⟨w.heap.size, 10, none⟩ = some (.slice A10 n10 p10) ∧ w9.cell? ⟨w.heap.size, 11, none⟩ = some (.slice A11 n11 p11) ∧ w9.cell? ⟨w.heap.size, 12, none⟩ = some (.slice A12 n12 p12) ∧ w9.cell? ⟨w.heap.size, 13, none⟩ = some (.slice A13 n13 p13) ∧ w9.cell? ⟨w.heap.size, 14, none⟩ = some (.slice A14 n14 p14) ∧ w9.cell? ⟨w.heap.size, 15, none⟩ = some (.slice A15 n15 p15) ∧ w9.cell? ⟨w.heap.size, 16, none⟩ = some (.int .i64 x0) ∧ w9.cell? ⟨w.heap.size, 17, none⟩ = some (.int .i64 x1) ∧ w9.cell? ⟨w.heap.size, 18, none⟩ = some (.int .i64 x2) ∧ w9.cell? ⟨w.heap.size, 19, none⟩ = some (.int .i64 x3) ∧ w9.cell? ⟨w.heap.size, 20, none⟩ = some (.int .i64 y0) ∧ w9.cell? ⟨w.heap.size, 21, none⟩ = some (.int .i64 y1) ∧ w9.cell? ⟨w.heap.size, 22, none⟩ = some (.int .i64 y2) ∧ w9.cell? ⟨w.heap.size, 23, none⟩ = some (.int .i64 y3)) ∧ (w9.cell? ⟨g_r0, 0, none⟩ = some (.slice A0 n0 p0) ∧ w9.cell? ⟨g_r0, 1, none⟩ = some (.slice A1 n1 p1) ∧ w9.cell? ⟨g_r0, 2, none⟩ = some (.slice A2 n2 p2) ∧ w9.cell? ⟨g_r0, 3, none⟩ = some (.slice A3 n3 p3)))
      (first | with_reducible exact KD | with_reducible exact K0 | with_reducible exact K_w2)
      (first
        | (go_at_call 104
           refine (C0.out _ (below_next BB.out ?_)).mono ?_
           · repeat (first | with_reducible exact Below.refl _ _ | with_reducible apply below_drew | with_reducible apply below_new)
           rintro e w2 ⟨rfl, hb⟩
           have B_w2 := Lib.hid (reg_next (w0 := w1) (by repeat (first | with_reducible exact Below.refl _ _ | with_reducible apply below_drew | with_reducible apply below_new)) hb)
           have K_w2 := KK.out _ B_w2.out
           clear hb))
  clear KK K0 KD K_w2
  replace r_a := Lib.hid (r_a.out.keep B_w2.out)
  replace r_r0 := Lib.hid (r_r0.out.keep B_w2.out)
  replace BB := Lib.hid (below_next BB.out B_w2.out)
  clear B_w2
  go_wp2_with fail
  rw [rounds_succ]
  go_upto_region 6 with fail
  have d_r1 := Lib.hid (And.intro BB.out.size (And.intro r_a.out.lt (And.intro r_r0.out.lt (True.intro))))
  obtain ⟨hb, r_r1⟩ := laid w2 #[.slice A4 n4 p4, .slice A5 n5 p5, .slice A6 n6 p6, .slice A7 n7 p7] CRT
  replace r_a := Lib.hid (r_a.out.keep hb)
  replace r_r0 := Lib.hid (r_r0.out.keep hb)
  replace BB := Lib.hid (below_next BB.out hb)
  replace r_r1 := Lib.hid r_r1
  clear hb
  generalize w2.alloc (.cells #[.slice A4 n4 p4, .slice A5 n5 p5, .slice A6 n6 p6, .slice A7 n7 p7] CRT) = w3 at *
  generalize w2.heap.size = g_r1 at *
  have KK := Lib.hid (fun (w9 : World) (h : Below w3.heap.size w3 w9) => (⟨cells24 (r_a.out.keep h), cells4 (r_r1.out.keep h)⟩ : (w9.cell? ⟨w.heap.size, 0, none⟩ = some (.slice A0 n0 p0) ∧ w9.cell? ⟨w.heap.size, 1, none⟩ = some (.slice A1 n1 p1) ∧ w9.cell? ⟨w.heap.size, 2, none⟩ = some (.slice A2 n2 p2) ∧ w9.cell? ⟨w.heap.size, 3, none⟩ = some (.slice A3 n3 p3) ∧ w9.cell? ⟨w.heap.size, 4, none⟩ = some (.slice A4 n4 p4) ∧ w9.cell? ⟨w.heap.size, 5, none⟩ = some (.slice A5 n5 p5) ∧ w9.cell? ⟨w.heap.size, 6, none⟩ = some (.slice A6 n6 p6) ∧ w9.cell? ⟨w.heap.size, 7, none⟩ = some (.slice A7 n7 p7) ∧ w9.cell? ⟨w.heap.size, 8, none⟩ = some (.slice A8 n8 p8) ∧ w9.cell? ⟨w.heap.size, 9, none⟩ = some (.slice A9 n9 p9) ∧ w9.cell? ⟨w.heap.size, 10, none⟩ = some (.slice A10 n10 p10) ∧ w9.cell? ⟨w.heap.size, 11, none⟩ = some (.slice A11 n11 p11) ∧ w9.cell? ⟨w.heap.size, 12, none⟩ = some (.slice A12 n12 p12) ∧ w9.cell? ⟨w.heap.size, 13, none⟩ = some (.slice A13 n13 p13) ∧ w9.cell? ⟨w.heap.size, 14, none⟩ = some (.slice A14 n14 p14) ∧ w9.cell? ⟨w.heap.size, 15, none⟩ = some (.slice A15 n15 p15) ∧ w9.cell? ⟨w.heap.size, 16, none⟩ = some (.int .i64 x0) ∧ w9.cell? ⟨w.heap.size, 17, none⟩ = some (.int .i64 x1) ∧ w9.cell? ⟨w.heap.size, 18, none⟩ = some (.int .i64 x2) ∧ w9.cell? ⟨w.heap.size, 19, none⟩ = some (.int .i64 x3) ∧ w9.cell? ⟨w.heap.size, 20, none⟩ = some (.int .i64 y0) ∧ w9.cell? ⟨w.heap.size, 21, none⟩ = some (.int .i64 y1) ∧ w9.cell? ⟨w.heap.size, 22, none⟩ = some (.int .i64 y2) ∧ w9.cell? ⟨w.heap.size, 23, none⟩ = some (.int .i64 y3)) ∧ (w9.cell? ⟨g_r1, 0, none⟩ = some (.slice A4 n4 p4) ∧ w9.cell? ⟨g_r1, 1, none⟩ = some (.slice A5 n5 p5) ∧ w9.cell? ⟨g_r1, 2, none⟩ = some (.slice A6 n6 p6) ∧ w9.cell? ⟨g_r1, 3, none⟩ = some (.slice A7 n7 p7))))
  have K0 := KK.out w3 (Below.refl _ _)
  have KD := KK.out w3.drew (below_drew (Below.refl _ _))
  go_region_held3 (fun w9 => (w9.cell? ⟨w.heap.size, 0, none⟩ = some (.slice A0 n0 p0) ∧ w9.cell? ⟨w.heap.size, 1, none⟩ = some (.slice A1 n1 p1) ∧ w9.cell? ⟨w.heap.size, 2, none⟩ = some (.slice A2 n2 p2) ∧ w9.cell? ⟨w.heap.size, 3, none⟩ = some (.slice A3 n3 p3) ∧ w9.cell? ⟨w.heap.size, 4, none⟩ = some (.slice A4 n4 p4) ∧ w9.cell? ⟨w.heap.size, 5, none⟩ = some (.slice A5 n5 p5) ∧ w9.cell? ⟨w.heap.size, 6, none⟩ = some (.slice A6 n6 p6) ∧ w9.cell? ⟨w.heap.size, 7, none⟩ = some (.slice A7 n7 p7) ∧ w9.cell? ⟨w.heap.size, 8, none⟩ = some (.slice A8 n8 p8) ∧ w9.cell? ⟨w.heap.size, 9, none⟩ = some (.slice A9 n9 p9) ∧ w9.cell? ⟨w.heap.size, 10, none⟩ = some (.slice A10 n10 p10) ∧ w9.cell? ⟨w.heap.size, 11, none⟩ = some (.slice A11 n11 p11) ∧ w9.cell? ⟨w.heap.size, 12, none⟩ = some (.slice A12 n12 p12) ∧ w9.cell? ⟨w.heap.size, 13, none⟩ = some (.slice A13 n13 p13) ∧ w9.cell? ⟨w.heap.size, 14, none⟩ = some (.slice A14 n14 p14) ∧ w9.cell? ⟨w.heap.size, 15, none⟩ = some (.slice A15 n15 p15) ∧ w9.cell? ⟨w.heap.size, 16, none⟩ = some (.int .i64 x0) ∧ w9.cell? ⟨w.heap.size, 17, none⟩ = some (.int .i64 x1) ∧ w9.cell? ⟨w.heap.size, 18, none⟩ = some (.int .i64 x2) ∧ w9.cell? ⟨w.heap.size, 19, none⟩ = some (.int .i64 x3) ∧ w9.cell? ⟨w.heap.size, 20, none⟩ = some (.int .i64 y0) ∧ w9.cell? ⟨w.heap.size, 21, none⟩ = some (.int .i64 y1) ∧ w9.cell? ⟨w.heap.size, 22, none⟩ = some (.int .i64 y2) ∧ w9.cell? ⟨w.heap.size, 23, none⟩ = some (.int .i64 y3)) ∧ (w9.cell? ⟨g_r1, 0, none⟩ = some (.slice A4 n4 p4) ∧ w9.cell? ⟨g_r1, 1, none⟩ = some (.slice A5 n5 p5) ∧ w9.cell? ⟨g_r1, 2, none⟩ = some (.slice A6 n6 p6) ∧ w9.cell? ⟨g_r1, 3, none⟩ = some (.slice A7 n7 p7)))
      (first | with_reducible exact KD | with_reducible exact K0 | with_reducible exact K_w4)
      (first
        | (go_at_call 104
           refine (C1.out _ (below_next BB.out ?_)).mono ?_
           · repeat (first | with_reducible exact Below.refl _ _ | with_reducible apply below_drew | with_reducible apply below_new)
           rintro e w4 ⟨rfl, hb⟩
           have B_w4 := Lib.hid (reg_next (w0 := w3) (by repeat (first | with_reducible exact Below.refl _ _ | with_reducible apply below_drew | with_reducible apply below_new)) hb)
           have K_w4 := KK.out _ B_w4.out
           clear hb))
  clear KK K0 KD K_w4
  replace r_a := Lib.hid (r_a.out.keep B_w4.out)
  replace r_r0 := Lib.hid (r_r0.out.keep B_w4.out)
  replace r_r1 := Lib.hid (r_r1.out.keep B_w4.out)
  replace BB := Lib.hid (below_next BB.out B_w4.out)
  clear B_w4
  go_wp2_with fail
  rw [rounds_succ]
  go_upto_region 6 with fail
  have d_r2 := Lib.hid (And.intro BB.out.size (And.intro r_a.out.lt (And.intro r_r0.out.lt (And.intro r_r1.out.lt (True.intro)))))
  obtain ⟨hb, r_r2⟩ := laid w4 #[.slice A8 n8 p8, .slice A9 n9 p9, .slice A10 n10 p10, .slice A11 n11 p11] CRT
  replace r_a := Lib.hid (r_a.out.keep hb)
  replace r_r0 := Lib.hid (r_r0.out.keep hb)
  replace r_r1 := Lib.hid (r_r1.out.keep hb)
  replace BB := Lib.hid (below_next BB.out hb)
  replace r_r2 := Lib.hid r_r2
  clear hb
  generalize w4.alloc (.cells #[.slice A8 n8 p8, .slice A9 n9 p9, .slice A10 n10 p10, .slice A11 n11 p11] CRT) = w5 at *
  generalize w4.heap.size = g_r2 at *
  have KK := Lib.hid (fun (w9 : World) (h : Below w5.heap.size w5 w9) => (⟨cells24 (r_a.out.keep h), cells4 (r_r2.out.keep h)⟩ : (w9.cell? ⟨w.heap.size, 0, none⟩ = some (.slice A0 n0 p0) ∧ w9.cell? ⟨w.heap.size, 1, none⟩ = some (.slice A1 n1 p1) ∧ w9.cell? ⟨w.heap.size, 2, none⟩ = some (.slice A2 n2 p2) ∧ w9.cell? ⟨w.heap.size, 3, none⟩ = some (.slice A3 n3 p3) ∧ w9.cell? ⟨w.heap.size, 4, none⟩ = some (.slice A4 n4 p4) ∧ w9.cell? ⟨w.heap.size, 5, none⟩ = some (.slice A5 n5 p5) ∧ w9.cell? ⟨w.heap.size, 6, none⟩ = some (.slice A6 n6 p6) ∧ w9.cell? ⟨w.heap.size, 7, none⟩ = some (.slice A7 n7 p7) ∧ w9.cell? ⟨w.heap.size, 8, none⟩ = some (.slice A8 n8 p8) ∧ w9.cell? ⟨w.heap.size, 9, none⟩ = some (.slice A9 n9 p9) ∧ w9.cell? ⟨w.heap.size, 10, none⟩ = some (.slice A10 n10 p10) ∧ w9.cell? ⟨w.heap.size, 11, none⟩ = some (.slice A11 n11 p11) ∧ w9.cell? ⟨w.heap.size, 12, none⟩ = some (.slice A12 n12 p12) ∧ w9.cell? ⟨w.heap.size, 13, none⟩ = some (.slice A13 n13 p13) ∧ w9.cell? ⟨w.heap.size, 14, none⟩ = some (.slice A14 n14 p14) ∧ w9.cell? ⟨w.heap.size, 15, none⟩ = some (.slice A15 n15 p15) ∧ w9.cell? ⟨w.heap.size, 16, none⟩ = some (.int .i64 x0) ∧ w9.cell? ⟨w.heap.size, 17, none⟩ = some (.int .i64 x1) ∧ w9.cell? ⟨w.heap.size, 18, none⟩ = some (.int .i64 x2) ∧ w9.cell? ⟨w.heap.size, 19, none⟩ = some (.int .i64 x3) ∧ w9.cell? ⟨w.heap.size, 20, none⟩ = some (.int .i64 y0) ∧ w9.cell? ⟨w.heap.size, 21, none⟩ = some (.int .i64 y1) ∧ w9.cell? ⟨w.heap.size, 22, none⟩ = some (.int .i64 y2) ∧ w9.cell? ⟨w.heap.size, 23, none⟩ = some (.int .i64 y3)) ∧ (w9.cell? ⟨g_r2, 0, none⟩ = some (.slice A8 n8 p8) ∧ w9.cell? ⟨g_r2, 1, none⟩ = some (.slice A9 n9 p9) ∧ w9.cell? ⟨g_r2, 2, none⟩ = some (.slice A10 n10 p10) ∧ w9.cell? ⟨g_r2, 3, none⟩ = some (.slice A11 n11 p11))))
  have K0 := KK.out w5 (Below.refl _ _)
  have KD := KK.out w5.drew (below_drew (Below.refl _ _))
  go_region_held3 (fun w9 => (w9.cell? ⟨w.heap.size, 0, none⟩ = some (.slice A0 n0 p0) ∧ w9.cell? ⟨w.heap.size, 1, none⟩ = some (.slice A1 n1 p1) ∧ w9.cell? ⟨w.heap.size, 2, none⟩ = some (.slice A2 n2 p2) ∧ w9.cell? ⟨w.heap.size, 3, none⟩ = some (.slice A3 n3 p3) ∧ w9.cell? ⟨w.heap.size, 4, none⟩ = some (.slice A4 n4 p4) ∧ w9.cell? ⟨w.heap.size, 5, none⟩ = some (.slice A5 n5 p5) ∧ w9.cell? ⟨w.heap.size, 6, none⟩ = some (.slice A6 n6 p6) ∧ w9.cell? ⟨w.heap.size, 7, none⟩ = some (.slice A7 n7 p7) ∧ w9.cell? ⟨w.heap.size, 8, none⟩ = some (.slice A8 n8 p8) ∧ w9.cell? ⟨w.heap.size, 9, none⟩ = some (.slice A9 n9 p9) ∧ w9.cell? ⟨w.heap.size, 10, none⟩ = some (.slice A10 n10 p10) ∧ w9.cell? ⟨w.heap.size, 11, none⟩ = some (.slice A11 n11 p11) ∧ w9.cell? ⟨w.heap.size, 12, none⟩ = some (.slice A12 n12 p12) ∧ w9.cell? ⟨w.heap.size, 13, none⟩ = some (.slice A13 n13 p13) ∧ w9.cell? ⟨w.heap.size, 14, none⟩ = some (.slice A14 n14 p14) ∧ w9.cell? ⟨w.heap.size, 15, none⟩ = some (.slice A15 n15 p15) ∧ w9.cell? ⟨w.heap.size, 16, none⟩ = some (.int .i64 x0) ∧ w9.cell? ⟨w.heap.size, 17, none⟩ = some (.int .i64 x1) ∧ w9.cell? ⟨w.heap.size, 18, none⟩ = some (.int .i64 x2) ∧ w9.cell? ⟨w.heap.size, 19, none⟩ = some (.int .i64 x3) ∧ w9.cell? ⟨w.heap.size, 20, none⟩ = some (.int .i64 y0) ∧ w9.cell? ⟨w.heap.size, 21, none⟩ = some (.int .i64 y1) ∧ w9.cell? ⟨w.heap.size, 22, none⟩ = some (.int .i64 y2) ∧ w9.cell? ⟨w.heap.size, 23, none⟩ = some (.int .i64 y3)) ∧ (w9.cell? ⟨g_r2, 0, none⟩ = some (.slice A8 n8 p8) ∧ w9.cell? ⟨g_r2, 1, none⟩ = some (.slice A9 n9 p9) ∧ w9.cell? ⟨g_r2, 2, none⟩ = some (.slice A10 n10 p10) ∧ w9.cell? ⟨g_r2, 3, none⟩ = some (.slice A11 n11 p11)))
      (first | with_reducible exact KD | with_reducible exact K0 | with_reducible exact K_w6)
      (first
        | (go_at_call 104
           refine (C2.out _ (below_next BB.out ?_)).mono ?_
           · repeat (first | with_reducible exact Below.refl _ _ | with_reducible apply below_drew | with_reducible apply below_new)
           rintro e w6 ⟨rfl, hb⟩
           have B_w6 := Lib.hid (reg_next (w0 := w5) (by repeat (first | with_reducible exact Below.refl _ _ | with_reducible apply below_drew | with_reducible apply below_new)) hb)
           have K_w6 := KK.out _ B_w6.out
           clear hb))
  clear KK K0 KD K_w6
  replace r_a := Lib.hid (r_a.out.keep B_w6.out)
  replace r_r0 := Lib.hid (r_r0.out.keep B_w6.out)
  replace r_r1 := Lib.hid (r_r1.out.keep B_w6.out)
  replace r_r2 := Lib.hid (r_r2.out.keep B_w6.out)
  replace BB := Lib.hid (below_next BB.out B_w6.out)
  clear B_w6
  go_wp2_with fail
  rw [rounds_succ]
  go_upto_region 6 with fail
  have d_r3 := Lib.hid (And.intro BB.out.size (And.intro r_a.out.lt (And.intro r_r0.out.lt (And.intro r_r1.out.lt (And.intro r_r2.out.lt (True.intro))))))
  obtain ⟨hb, r_r3⟩ := laid w6 #[.slice A12 n12 p12, .slice A13 n13 p13, .slice A14 n14 p14, .slice A15 n15 p15] CRT
  replace r_a := Lib.hid (r_a.out.keep hb)
  replace r_r0 := Lib.hid (r_r0.out.keep hb)
  replace r_r1 := Lib.hid (r_r1.out.keep hb)
  replace r_r2 := Lib.hid (r_r2.out.keep hb)
  replace BB := Lib.hid (below_next BB.out hb)
  replace r_r3 := Lib.hid r_r3
  clear hb
  generalize w6.alloc (.cells #[.slice A12 n12 p12, .slice A13 n13 p13, .slice A14 n14 p14, .slice A15 n15 p15] CRT) = w7 at *
  generalize w6.heap.size = g_r3 at *
  have KK := Lib.hid (fun (w9 : World) (h : Below w7.heap.size w7 w9) => (⟨cells24 (r_a.out.keep h), cells4 (r_r3.out.keep h)⟩ : (w9.cell? ⟨w.heap.size, 0, none⟩ = some (.slice A0 n0 p0) ∧ w9.cell? ⟨w.heap.size, 1, none⟩ = some (.slice A1 n1 p1) ∧ w9.cell? ⟨w.heap.size, 2, none⟩ = some (.slice A2 n2 p2) ∧ w9.cell? ⟨w.heap.size, 3, none⟩ = some (.slice A3 n3 p3) ∧ w9.cell? ⟨w.heap.size, 4, none⟩ = some (.slice A4 n4 p4) ∧ w9.cell? ⟨w.heap.size, 5, none⟩ = some (.slice A5 n5 p5) ∧ w9.cell? ⟨w.heap.size, 6, none⟩ = some (.slice A6 n6 p6) ∧ w9.cell? ⟨w.heap.size, 7, none⟩ = some (.slice A7 n7 p7) ∧ w9.cell? ⟨w.heap.size, 8, none⟩ = some (.slice A8 n8 p8) ∧ w9.cell? ⟨w.heap.size, 9, none⟩ = some (.slice A9 n9 p9) ∧ w9.cell? ⟨w.heap.size, 10, none⟩ = some (.slice A10 n10 p10) ∧ w9.cell? ⟨w.heap.size, 11, none⟩ = some (.slice A11 n11 p11) ∧ w9.cell? ⟨w.heap.size, 12, none⟩ = some (.slice A12 n12 p12) ∧ w9.cell? ⟨w.heap.size, 13, none⟩ = some (.slice A13 n13 p13) ∧ w9.cell? ⟨w.heap.size, 14, none⟩ = some (.slice A14 n14 p14) ∧ w9.cell? ⟨w.heap.size, 15, none⟩ = some (.slice A15 n15 p15) ∧ w9.cell? ⟨w.heap.size, 16, none⟩ = some (.int .i64 x0) ∧ w9.cell? ⟨w.heap.size, 17, none⟩ = some (.int .i64 x1) ∧ w9.cell? ⟨w.heap.size, 18, none⟩ = some (.int .i64 x2) ∧ w9.cell? ⟨w.heap.size, 19, none⟩ = some (.int .i64 x3) ∧ w9.cell? ⟨w.heap.size, 20, none⟩ = some (.int .i64 y0) ∧ w9.cell? ⟨w.heap.size, 21, none⟩ = some (.int .i64 y1) ∧ w9.cell? ⟨w.heap.size, 22, none⟩ = some (.int .i64 y2) ∧ w9.cell? ⟨w.heap.size, 23, none⟩ = some (.int .i64 y3)) ∧ (w9.cell? ⟨g_r3, 0, none⟩ = some (.slice A12 n12 p12) ∧ w9.cell? ⟨g_r3, 1, none⟩ = some (.slice A13 n13 p13) ∧ w9.cell? ⟨g_r3, 2, none⟩ = some (.slice A14 n14 p14) ∧ w9.cell? ⟨g_r3, 3, none⟩ = some (.slice A15 n15 p15))))
  have K0 := KK.out w7 (Below.refl _ _)
  have KD := KK.out w7.drew (below_drew (Below.refl _ _))
  go_region_held3 (fun w9 => (w9.cell? ⟨w.heap.size, 0, none⟩ = some (.slice A0 n0 p0) ∧ w9.cell? ⟨w.heap.size, 1, none⟩ = some (.slice A1 n1 p1) ∧ w9.cell? ⟨w.heap.size, 2, none⟩ = some (.slice A2 n2 p2) ∧ w9.cell? ⟨w.heap.size, 3, none⟩ = some (.slice A3 n3 p3) ∧ w9.cell? ⟨w.heap.size, 4, none⟩ = some (.slice A4 n4 p4) ∧ w9.cell? ⟨w.heap.size, 5, none⟩ = some (.slice A5 n5 p5) ∧ w9.cell? ⟨w.heap.size, 6, none⟩ = some (.slice A6 n6 p6) ∧ w9.cell? ⟨w.heap.size, 7, none⟩ = some (.slice A7 n7 p7) ∧ w9.cell? ⟨w.heap.size, 8, none⟩ = some (.slice A8 n8 p8) ∧ w9.cell? ⟨w.heap.size, 9, none⟩ = some (.slice A9 n9 p9) ∧ w9.cell? ⟨w.heap.size, 10, none⟩ = some (.slice A10 n10 p10) ∧ w9.cell? ⟨w.heap.size, 11, none⟩ = some (.slice A11 n11 p11) ∧ w9.cell? ⟨w.heap.size, 12, none⟩ = some (.slice A12 n12 p12) ∧ w9.cell? ⟨w.heap.size, 13, none⟩ = some (.slice A13 n13 p13) ∧ w9.cell? ⟨w.heap.size, 14, none⟩ = some (.slice A14 n14 p14) ∧ w9.cell? ⟨w.heap.size, 15, none⟩ = some (.slice A15 n15 p15) ∧ w9.cell? ⟨w.heap.size, 16, none⟩ = some (.int .i64 x0) ∧ w9.cell? ⟨w.heap.size, 17, none⟩ = some (.int .i64 x1) ∧ w9.cell? ⟨w.heap.size, 18, none⟩ = some (.int .i64 x2) ∧ w9.cell? ⟨w.heap.size, 19, none⟩ = some (.int .i64 x3) ∧ w9.cell? ⟨w.heap.size, 20, none⟩ = some (.int .i64 y0) ∧ w9.cell? ⟨w.heap.size, 21, none⟩ = some (.int .i64 y1) ∧ w9.cell? ⟨w.heap.size, 22, none⟩ = some (.int .i64 y2) ∧ w9.cell? ⟨w.heap.size, 23, none⟩ = some (.int .i64 y3)) ∧ (w9.cell? ⟨g_r3, 0, none⟩ = some (.slice A12 n12 p12) ∧ w9.cell? ⟨g_r3, 1, none⟩ = some (.slice A13 n13 p13) ∧ w9.cell? ⟨g_r3, 2, none⟩ = some (.slice A14 n14 p14) ∧ w9.cell? ⟨g_r3, 3, none⟩ = some (.slice A15 n15 p15)))
      (first | with_reducible exact KD | with_reducible exact K0 | with_reducible exact K_w8)
      (first
        | (go_at_call 104
           refine (C3.out _ (below_next BB.out ?_)).mono ?_
           · repeat (first | with_reducible exact Below.refl _ _ | with_reducible apply below_drew | with_reducible apply below_new)
           rintro e w8 ⟨rfl, hb⟩
           have B_w8 := Lib.hid (reg_next (w0 := w7) (by repeat (first | with_reducible exact Below.refl _ _ | with_reducible apply below_drew | with_reducible apply below_new)) hb)
           have K_w8 := KK.out _ B_w8.out
           clear hb))
  clear KK K0 KD K_w8
  replace r_a := Lib.hid (r_a.out.keep B_w8.out)
  replace r_r0 := Lib.hid (r_r0.out.keep B_w8.out)
  replace r_r1 := Lib.hid (r_r1.out.keep B_w8.out)
  replace r_r2 := Lib.hid (r_r2.out.keep B_w8.out)
  replace r_r3 := Lib.hid (r_r3.out.keep B_w8.out)
  replace BB := Lib.hid (below_next BB.out B_w8.out)
  clear B_w8
  go_wp2_with fail
  rw [rounds_succ]
  go_wp2_with fail
  refine (CB.out _).mono ?_
  rintro e w10 ⟨rfl, hb⟩
  replace r_a := Lib.hid (r_a.out.keep hb)
  replace r_r0 := Lib.hid (r_r0.out.keep hb)
  replace r_r1 := Lib.hid (r_r1.out.keep hb)
  replace r_r2 := Lib.hid (r_r2.out.keep hb)
  replace r_r3 := Lib.hid (r_r3.out.keep hb)
  replace BB := Lib.hid (below_next BB.out hb)
  clear hb
  go_wp2_with fail
  go_ret
  exact ⟨rfl, BB.out⟩
theorem cchannel_v (S0 S1 S2 S3 S4 S5 S6 S7 S8 S9 S10 S11 S12 S13 S14 S15 : Value) (Lf : Nat → List Int) (x0 x1 x2 x3 y0 y1 y2 y3 : Int) (k : Nat) (W0 : World) (hS : BS W0 S0 (Lf 0) ∧ BS W0 S1 (Lf 1) ∧ BS W0 S2 (Lf 2) ∧ BS W0 S3 (Lf 3) ∧ BS W0 S4 (Lf 4) ∧ BS W0 S5 (Lf 5) ∧ BS W0 S6 (Lf 6) ∧ BS W0 S7 (Lf 7) ∧ BS W0 S8 (Lf 8) ∧ BS W0 S9 (Lf 9) ∧ BS W0 S10 (Lf 10) ∧ BS W0 S11 (Lf 11) ∧ BS W0 S12 (Lf 12) ∧ BS W0 S13 (Lf 13) ∧ BS W0 S14 (Lf 14) ∧ BS W0 S15 (Lf 15)) (hx : CW x0 x1 x2 x3) (hy : CW y0 y1 y2 y3) (hk : k ≤ 1000) (w : World) (hW : Below W0.heap.size W0 w) :
    Calls Try.prog 84 #[.agg #[S0, S1, S2, S3, S4, S5, S6, S7, S8, S9, S10, S11, S12, S13, S14, S15, .int .i64 x0, .int .i64 x1, .int .i64 x2, .int .i64 x3, .int .i64 y0, .int .i64 y1, .int .i64 y2, .int .i64 y3], .int .i64 (k : Int)] w fun e w' => e = .returned (.int .u8 (cubAt Lf x0 x1 x2 x3 y0 y1 y2 y3 k)) ∧ Below w.heap.size w w' := by
  obtain ⟨h0, h1, h2, h3, h4, h5, h6, h7, h8, h9, h10, h11, h12, h13, h14, h15⟩ := hS
  obtain ⟨A0, p0, rfl⟩ := h0.form
  obtain ⟨A1, p1, rfl⟩ := h1.form
  obtain ⟨A2, p2, rfl⟩ := h2.form
  obtain ⟨A3, p3, rfl⟩ := h3.form
  obtain ⟨A4, p4, rfl⟩ := h4.form
  obtain ⟨A5, p5, rfl⟩ := h5.form
  obtain ⟨A6, p6, rfl⟩ := h6.form
  obtain ⟨A7, p7, rfl⟩ := h7.form
  obtain ⟨A8, p8, rfl⟩ := h8.form
  obtain ⟨A9, p9, rfl⟩ := h9.form
  obtain ⟨A10, p10, rfl⟩ := h10.form
  obtain ⟨A11, p11, rfl⟩ := h11.form
  obtain ⟨A12, p12, rfl⟩ := h12.form
  obtain ⟨A13, p13, rfl⟩ := h13.form
  obtain ⟨A14, p14, rfl⟩ := h14.form
  obtain ⟨A15, p15, rfl⟩ := h15.form
  exact cchannel A0 A1 A2 A3 A4 A5 A6 A7 A8 A9 A10 A11 A12 A13 A14 A15 _ _ _ _ _ _ _ _ _ _ _ _ _ _ _ _ p0 p1 p2 p3 p4 p5 p6 p7 p8 p9 p10 p11 p12 p13 p14 p15 Lf x0 x1 x2 x3 y0 y1 y2 y3 k W0 h0 h1 h2 h3 h4 h5 h6 h7 h8 h9 h10 h11 h12 h13 h14 h15 hx hy hk w hW
end Go.Proofs.Ytnklbnphiokpiaa
