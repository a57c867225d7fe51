/- Contract of the document's exact lens. (glny.py printed it.) -/
import Derived.Test.YthdbchghhpoadaaLnS
import Derived.Test.YthdbchghhpoadaaOwn
import Derived.Test.YthdbchghhpoadaaLens6
set_option linter.unusedVariables false
set_option linter.unusedSimpArgs false
namespace Go.Proofs.Ythdbchghhpoadaa
open Go.RowKit
def GiveEx (cx cy f k1 k2 p1 p2 px py d : Int) (w : World) (e : Ending) (w' : World) : Prop := ∃ P Q X Y, GiveRR P Q X Y w e w' ∧ (Wd 846 P ∧ Wd 799 Q ∧ Wd 846 X ∧ Wd 799 Y) ∧
  (latU cx f k1 k2 p1 p2 (axI px d cx f) (axI py d cy f) * Q - P < 12000 * f * Q ∧ P - latU cx f k1 k2 p1 p2 (axI px d cx f) (axI py d cy f) * Q < 12000 * f * Q) ∧
  (latU cy f k1 k2 p2 p1 (axI py d cy f) (axI px d cx f) * Y - X < 12000 * f * Y ∧ X - latU cy f k1 k2 p2 p1 (axI py d cy f) (axI px d cx f) * Y < 12000 * f * Y)
theorem le_ln {B : Nat} {w w1 : World} (h : B ≤ w.heap.size) (hb : Below w.heap.size w w1) : B ≤ w1.heap.size := Nat.le_trans h hb.size
set_option maxRecDepth 100000 in
set_option maxHeartbeats 40000000 in
theorem lexact (v : Value) (cx cy f k1 k2 p1 p2 px py d : Int) (hM : LM cx cy f k1 k2 p1 p2) (hp : rightI px py d = true) (hf : farI cx cy f px py d = false) (w : World) (hv : IS w v [cx, cy, f, k1, k2, p1, p2]) :
    Calls Try.prog 22 #[v, .int .i64 px, .int .i64 py, .int .i64 d] w (GiveEx cx cy f k1 k2 p1 p2 px py d w) := by
  obtain ⟨i0, hi0, hz0, hz1, hz2⟩ := info_parts info_rat
  obtain ⟨hx0, hy0, hd1, hd2⟩ := rightI_iff.1 hp
  obtain ⟨b, off, cap, rfl, h1, h2, hlt, hc⟩ := hv.some (by simp)
  have s0 := hc 0 (by simp); have s1 := hc 1 (by simp); have s2 := hc 2 (by simp); have s3 := hc 3 (by simp); have s4 := hc 4 (by simp); have s5 := hc 5 (by simp); have s6 := hc 6 (by simp)
  simp only [List.getD_cons_zero, List.getD_cons_succ, Nat.add_zero] at s0 s1 s2 s3 s4 s5 s6
  have KS := Lib.hid (fun (w9 : World) (hb : Below w.heap.size w w9) => (⟨(hb.cell (p := ⟨b, off, none⟩) hlt).trans s0, (hb.cell (p := ⟨b, off + 1, none⟩) hlt).trans s1, (hb.cell (p := ⟨b, off + 2, none⟩) hlt).trans s2, (hb.cell (p := ⟨b, off + 3, none⟩) hlt).trans s3, (hb.cell (p := ⟨b, off + 4, none⟩) hlt).trans s4, (hb.cell (p := ⟨b, off + 5, none⟩) hlt).trans s5, (hb.cell (p := ⟨b, off + 6, none⟩) hlt).trans s6⟩ : S7 b off cx cy f k1 k2 p1 p2 w9))
  simp only [List.length_cons, List.length_nil, Nat.zero_add, Nat.reduceAdd] at h1 ⊢
  obtain ⟨mx, my, mf, mk1, mk2, mp1, mp2⟩ := id hM
  obtain ⟨pS1, hpS1⟩ : ∃ z, z = px * 65536 + -cx * d := ⟨_, rfl⟩
  obtain ⟨qS1, hqS1⟩ : ∃ z, z = d * 65536 := ⟨_, rfl⟩
  obtain ⟨pX, hpX⟩ : ∃ z, z = pS1 * 1 := ⟨_, rfl⟩
  obtain ⟨qX, hqX⟩ : ∃ z, z = qS1 * f := ⟨_, rfl⟩
  obtain ⟨pS2, hpS2⟩ : ∃ z, z = py * 65536 + -cy * d := ⟨_, rfl⟩
  obtain ⟨qS2, hqS2⟩ : ∃ z, z = d * 65536 := ⟨_, rfl⟩
  obtain ⟨pY, hpY⟩ : ∃ z, z = pS2 * 1 := ⟨_, rfl⟩
  obtain ⟨qY, hqY⟩ : ∃ z, z = qS2 * f := ⟨_, rfl⟩
  obtain ⟨pXX, hpXX⟩ : ∃ z, z = pX * pX := ⟨_, rfl⟩
  obtain ⟨qXX, hqXX⟩ : ∃ z, z = qX * qX := ⟨_, rfl⟩
  obtain ⟨pYY, hpYY⟩ : ∃ z, z = pY * pY := ⟨_, rfl⟩
  obtain ⟨qYY, hqYY⟩ : ∃ z, z = qY * qY := ⟨_, rfl⟩
  obtain ⟨pT1, hpT1⟩ : ∃ z, z = pX * pY := ⟨_, rfl⟩
  obtain ⟨qT1, hqT1⟩ : ∃ z, z = qX * qY := ⟨_, rfl⟩
  obtain ⟨pXY, hpXY⟩ : ∃ z, z = 2 * pT1 := ⟨_, rfl⟩
  obtain ⟨qXY, hqXY⟩ : ∃ z, z = 1 * qT1 := ⟨_, rfl⟩
  obtain ⟨pR, hpR⟩ : ∃ z, z = pXX * qYY + pYY * qXX := ⟨_, rfl⟩
  obtain ⟨qR, hqR⟩ : ∃ z, z = qXX * qYY := ⟨_, rfl⟩
  obtain ⟨pT2, hpT2⟩ : ∃ z, z = k1 * pR := ⟨_, rfl⟩
  obtain ⟨qT2, hqT2⟩ : ∃ z, z = 65536 * qR := ⟨_, rfl⟩
  obtain ⟨pT3, hpT3⟩ : ∃ z, z = pR * pR := ⟨_, rfl⟩
  obtain ⟨qT3, hqT3⟩ : ∃ z, z = qR * qR := ⟨_, rfl⟩
  obtain ⟨pT4, hpT4⟩ : ∃ z, z = k2 * pT3 := ⟨_, rfl⟩
  obtain ⟨qT4, hqT4⟩ : ∃ z, z = 65536 * qT3 := ⟨_, rfl⟩
  obtain ⟨pT5, hpT5⟩ : ∃ z, z = pT2 * qT4 + pT4 * qT2 := ⟨_, rfl⟩
  obtain ⟨qT5, hqT5⟩ : ∃ z, z = qT2 * qT4 := ⟨_, rfl⟩
  obtain ⟨pG, hpG⟩ : ∃ z, z = 1 * qT5 + pT5 * 1 := ⟨_, rfl⟩
  obtain ⟨qG, hqG⟩ : ∃ z, z = 1 * qT5 := ⟨_, rfl⟩
  obtain ⟨pT6, hpT6⟩ : ∃ z, z = pX * pG := ⟨_, rfl⟩
  obtain ⟨qT6, hqT6⟩ : ∃ z, z = qX * qG := ⟨_, rfl⟩
  obtain ⟨pT7, hpT7⟩ : ∃ z, z = p1 * pXY := ⟨_, rfl⟩
  obtain ⟨qT7, hqT7⟩ : ∃ z, z = 65536 * qXY := ⟨_, rfl⟩
  obtain ⟨pT8, hpT8⟩ : ∃ z, z = 2 * pXX := ⟨_, rfl⟩
  obtain ⟨qT8, hqT8⟩ : ∃ z, z = 1 * qXX := ⟨_, rfl⟩
  obtain ⟨pT9, hpT9⟩ : ∃ z, z = pR * qT8 + pT8 * qR := ⟨_, rfl⟩
  obtain ⟨qT9, hqT9⟩ : ∃ z, z = qR * qT8 := ⟨_, rfl⟩
  obtain ⟨pT10, hpT10⟩ : ∃ z, z = p2 * pT9 := ⟨_, rfl⟩
  obtain ⟨qT10, hqT10⟩ : ∃ z, z = 65536 * qT9 := ⟨_, rfl⟩
  obtain ⟨pT11, hpT11⟩ : ∃ z, z = pT7 * qT10 + pT10 * qT7 := ⟨_, rfl⟩
  obtain ⟨qT11, hqT11⟩ : ∃ z, z = qT7 * qT10 := ⟨_, rfl⟩
  obtain ⟨pU, hpU⟩ : ∃ z, z = pT6 * qT11 + pT11 * qT6 := ⟨_, rfl⟩
  obtain ⟨qU, hqU⟩ : ∃ z, z = qT6 * qT11 := ⟨_, rfl⟩
  obtain ⟨pT12, hpT12⟩ : ∃ z, z = pY * pG := ⟨_, rfl⟩
  obtain ⟨qT12, hqT12⟩ : ∃ z, z = qY * qG := ⟨_, rfl⟩
  obtain ⟨pT13, hpT13⟩ : ∃ z, z = 2 * pYY := ⟨_, rfl⟩
  obtain ⟨qT13, hqT13⟩ : ∃ z, z = 1 * qYY := ⟨_, rfl⟩
  obtain ⟨pT14, hpT14⟩ : ∃ z, z = pR * qT13 + pT13 * qR := ⟨_, rfl⟩
  obtain ⟨qT14, hqT14⟩ : ∃ z, z = qR * qT13 := ⟨_, rfl⟩
  obtain ⟨pT15, hpT15⟩ : ∃ z, z = p1 * pT14 := ⟨_, rfl⟩
  obtain ⟨qT15, hqT15⟩ : ∃ z, z = 65536 * qT14 := ⟨_, rfl⟩
  obtain ⟨pT16, hpT16⟩ : ∃ z, z = p2 * pXY := ⟨_, rfl⟩
  obtain ⟨qT16, hqT16⟩ : ∃ z, z = 65536 * qXY := ⟨_, rfl⟩
  obtain ⟨pT17, hpT17⟩ : ∃ z, z = pT15 * qT16 + pT16 * qT15 := ⟨_, rfl⟩
  obtain ⟨qT17, hqT17⟩ : ∃ z, z = qT15 * qT16 := ⟨_, rfl⟩
  obtain ⟨pV, hpV⟩ : ∃ z, z = pT12 * qT17 + pT17 * qT12 := ⟨_, rfl⟩
  obtain ⟨qV, hqV⟩ : ∃ z, z = qT12 * qT17 := ⟨_, rfl⟩
  obtain ⟨pZ1, hpZ1⟩ : ∃ z, z = (65536 * f) * pU := ⟨_, rfl⟩
  obtain ⟨qZ1, hqZ1⟩ : ∃ z, z = 1 * qU := ⟨_, rfl⟩
  obtain ⟨pE1, hpE1⟩ : ∃ z, z = cx * qZ1 + pZ1 * 1 := ⟨_, rfl⟩
  obtain ⟨qE1, hqE1⟩ : ∃ z, z = 1 * qZ1 := ⟨_, rfl⟩
  obtain ⟨pZ2, hpZ2⟩ : ∃ z, z = (65536 * f) * pV := ⟨_, rfl⟩
  obtain ⟨qZ2, hqZ2⟩ : ∃ z, z = 1 * qV := ⟨_, rfl⟩
  obtain ⟨pE2, hpE2⟩ : ∃ z, z = cy * qZ2 + pZ2 * 1 := ⟨_, rfl⟩
  obtain ⟨qE2, hqE2⟩ : ∃ z, z = 1 * qZ2 := ⟨_, rfl⟩
  have F := lens_facts hM hp hf hpS1 hqS1 hpX hqX hpS2 hqS2 hpY hqY hpXX hqXX hpYY hqYY hpT1 hqT1 hpXY hqXY hpR hqR hpT2 hqT2 hpT3 hqT3 hpT4 hqT4 hpT5 hqT5 hpG hqG hpT6 hqT6 hpT7 hqT7 hpT8 hqT8 hpT9 hqT9 hpT10 hqT10 hpT11 hqT11 hpU hqU hpT12 hqT12 hpT13 hqT13 hpT14 hqT14 hpT15 hqT15 hpT16 hqT16 hpT17 hqT17 hpV hqV hpZ1 hqZ1 hpE1 hqE1 hpZ2 hqZ2 hpE2 hqE2
  have wpON : Wd 0 (1) := wd_lit 0 (1) ⟨by omega, by omega⟩
  have wqON : Wd 0 (1) := wd_lit 0 (1) ⟨by omega, by omega⟩
  have O_ON := Lib.hid (fun w => rof (1) (1) ⟨by omega, by omega⟩ ⟨by omega, by omega⟩ w)
  have wpK0 : Wd 31 (cx) := wd_lit 31 (cx) ⟨by omega, by omega⟩
  have wqK0 : Wd 16 (65536) := wd_lit 16 (65536) ⟨by omega, by omega⟩
  have O_K0 := Lib.hid (fun w => rof (cx) (65536) ⟨by omega, by omega⟩ ⟨by omega, by omega⟩ w)
  have wpK1 : Wd 31 (cy) := wd_lit 31 (cy) ⟨by omega, by omega⟩
  have wqK1 : Wd 16 (65536) := wd_lit 16 (65536) ⟨by omega, by omega⟩
  have O_K1 := Lib.hid (fun w => rof (cy) (65536) ⟨by omega, by omega⟩ ⟨by omega, by omega⟩ w)
  have wpK2 : Wd 15 (f) := wd_lit 15 (f) ⟨by omega, by omega⟩
  have wqK2 : Wd 16 (65536) := wd_lit 16 (65536) ⟨by omega, by omega⟩
  have O_K2 := Lib.hid (fun w => rof (f) (65536) ⟨by omega, by omega⟩ ⟨by omega, by omega⟩ w)
  have wpK3 : Wd 16 (k1) := wd_lit 16 (k1) ⟨by omega, by omega⟩
  have wqK3 : Wd 16 (65536) := wd_lit 16 (65536) ⟨by omega, by omega⟩
  have O_K3 := Lib.hid (fun w => rof (k1) (65536) ⟨by omega, by omega⟩ ⟨by omega, by omega⟩ w)
  have wpK4 : Wd 16 (k2) := wd_lit 16 (k2) ⟨by omega, by omega⟩
  have wqK4 : Wd 16 (65536) := wd_lit 16 (65536) ⟨by omega, by omega⟩
  have O_K4 := Lib.hid (fun w => rof (k2) (65536) ⟨by omega, by omega⟩ ⟨by omega, by omega⟩ w)
  have wpK5 : Wd 16 (p1) := wd_lit 16 (p1) ⟨by omega, by omega⟩
  have wqK5 : Wd 16 (65536) := wd_lit 16 (65536) ⟨by omega, by omega⟩
  have O_K5 := Lib.hid (fun w => rof (p1) (65536) ⟨by omega, by omega⟩ ⟨by omega, by omega⟩ w)
  have wpK6 : Wd 16 (p2) := wd_lit 16 (p2) ⟨by omega, by omega⟩
  have wqK6 : Wd 16 (65536) := wd_lit 16 (65536) ⟨by omega, by omega⟩
  have O_K6 := Lib.hid (fun w => rof (p2) (65536) ⟨by omega, by omega⟩ ⟨by omega, by omega⟩ w)
  have wpFO : Wd 0 (1) := wd_lit 0 (1) ⟨by omega, by omega⟩
  have wqFO : Wd 15 (f) := wd_lit 15 (f) ⟨by omega, by omega⟩
  have O_FO := Lib.hid (fun w => rof (1) (f) ⟨by omega, by omega⟩ ⟨by omega, by omega⟩ w)
  have wpPX : Wd 20 (px) := wd_lit 20 (px) ⟨by omega, by omega⟩
  have wqPX : Wd 4 (d) := wd_lit 4 (d) ⟨by omega, by omega⟩
  have O_PX := Lib.hid (fun w => rof (px) (d) ⟨by omega, by omega⟩ ⟨by omega, by omega⟩ w)
  have wpPY : Wd 20 (py) := wd_lit 20 (py) ⟨by omega, by omega⟩
  have wqPY : Wd 4 (d) := wd_lit 4 (d) ⟨by omega, by omega⟩
  have O_PY := Lib.hid (fun w => rof (py) (d) ⟨by omega, by omega⟩ ⟨by omega, by omega⟩ w)
  have wpTW : Wd 1 (2) := wd_lit 1 (2) ⟨by omega, by omega⟩
  have wqTW : Wd 0 (1) := wd_lit 0 (1) ⟨by omega, by omega⟩
  have O_TW := Lib.hid (fun w => rof (2) (1) ⟨by omega, by omega⟩ ⟨by omega, by omega⟩ w)
  have wpPA : Wd 31 (65536 * f) := wd_lit 31 (65536 * f) ⟨by omega, by omega⟩
  have wqPA : Wd 0 (1) := wd_lit 0 (1) ⟨by omega, by omega⟩
  have O_PA := Lib.hid (fun w => rof (65536 * f) (1) ⟨by omega, by omega⟩ ⟨by omega, by omega⟩ w)
  have wpC0 : Wd 31 (cx) := wd_lit 31 (cx) ⟨by omega, by omega⟩
  have wqC0 : Wd 0 (1) := wd_lit 0 (1) ⟨by omega, by omega⟩
  have O_C0 := Lib.hid (fun w => rof (cx) (1) ⟨by omega, by omega⟩ ⟨by omega, by omega⟩ w)
  have wpC1 : Wd 31 (cy) := wd_lit 31 (cy) ⟨by omega, by omega⟩
  have wqC1 : Wd 0 (1) := wd_lit 0 (1) ⟨by omega, by omega⟩
  have O_C1 := Lib.hid (fun w => rof (cy) (1) ⟨by omega, by omega⟩ ⟨by omega, by omega⟩ w)
  have C_S1 := Lib.hid (fun (u v : Value) w hu hv => rsub u v (px) (d) (cx) (65536) wpPX wqPX wpK0 wqK0 (by omega) w hu hv)
  rw [← hpS1, ← hqS1] at C_S1
  have C_X := Lib.hid (fun (u v : Value) w hu hv => rmul u v (pS1) (qS1) (1) (f) F.wpS1 F.wqS1 wpFO wqFO (by omega) w hu hv)
  rw [← hpX, ← hqX] at C_X
  have C_S2 := Lib.hid (fun (u v : Value) w hu hv => rsub u v (py) (d) (cy) (65536) wpPY wqPY wpK1 wqK1 (by omega) w hu hv)
  rw [← hpS2, ← hqS2] at C_S2
  have C_Y := Lib.hid (fun (u v : Value) w hu hv => rmul u v (pS2) (qS2) (1) (f) F.wpS2 F.wqS2 wpFO wqFO (by omega) w hu hv)
  rw [← hpY, ← hqY] at C_Y
  have C_XX := Lib.hid (fun (u v : Value) w hu hv => rmul u v (pX) (qX) (pX) (qX) F.wpX F.wqX F.wpX F.wqX (by omega) w hu hv)
  rw [← hpXX, ← hqXX] at C_XX
  have C_YY := Lib.hid (fun (u v : Value) w hu hv => rmul u v (pY) (qY) (pY) (qY) F.wpY F.wqY F.wpY F.wqY (by omega) w hu hv)
  rw [← hpYY, ← hqYY] at C_YY
  have C_T1 := Lib.hid (fun (u v : Value) w hu hv => rmul u v (pX) (qX) (pY) (qY) F.wpX F.wqX F.wpY F.wqY (by omega) w hu hv)
  rw [← hpT1, ← hqT1] at C_T1
  have C_XY := Lib.hid (fun (u v : Value) w hu hv => rmul u v (2) (1) (pT1) (qT1) wpTW wqTW F.wpT1 F.wqT1 (by omega) w hu hv)
  rw [← hpXY, ← hqXY] at C_XY
  have C_R := Lib.hid (fun (u v : Value) w hu hv => radd u v (pXX) (qXX) (pYY) (qYY) F.wpXX F.wqXX F.wpYY F.wqYY (by omega) w hu hv)
  rw [← hpR, ← hqR] at C_R
  have C_T2 := Lib.hid (fun (u v : Value) w hu hv => rmul u v (k1) (65536) (pR) (qR) wpK3 wqK3 F.wpR F.wqR (by omega) w hu hv)
  rw [← hpT2, ← hqT2] at C_T2
  have C_T3 := Lib.hid (fun (u v : Value) w hu hv => rmul u v (pR) (qR) (pR) (qR) F.wpR F.wqR F.wpR F.wqR (by omega) w hu hv)
  rw [← hpT3, ← hqT3] at C_T3
  have C_T4 := Lib.hid (fun (u v : Value) w hu hv => rmul u v (k2) (65536) (pT3) (qT3) wpK4 wqK4 F.wpT3 F.wqT3 (by omega) w hu hv)
  rw [← hpT4, ← hqT4] at C_T4
  have C_T5 := Lib.hid (fun (u v : Value) w hu hv => radd u v (pT2) (qT2) (pT4) (qT4) F.wpT2 F.wqT2 F.wpT4 F.wqT4 (by omega) w hu hv)
  rw [← hpT5, ← hqT5] at C_T5
  have C_G := Lib.hid (fun (u v : Value) w hu hv => radd u v (1) (1) (pT5) (qT5) wpON wqON F.wpT5 F.wqT5 (by omega) w hu hv)
  rw [← hpG, ← hqG] at C_G
  have C_T6 := Lib.hid (fun (u v : Value) w hu hv => rmul u v (pX) (qX) (pG) (qG) F.wpX F.wqX F.wpG F.wqG (by omega) w hu hv)
  rw [← hpT6, ← hqT6] at C_T6
  have C_T7 := Lib.hid (fun (u v : Value) w hu hv => rmul u v (p1) (65536) (pXY) (qXY) wpK5 wqK5 F.wpXY F.wqXY (by omega) w hu hv)
  rw [← hpT7, ← hqT7] at C_T7
  have C_T8 := Lib.hid (fun (u v : Value) w hu hv => rmul u v (2) (1) (pXX) (qXX) wpTW wqTW F.wpXX F.wqXX (by omega) w hu hv)
  rw [← hpT8, ← hqT8] at C_T8
  have C_T9 := Lib.hid (fun (u v : Value) w hu hv => radd u v (pR) (qR) (pT8) (qT8) F.wpR F.wqR F.wpT8 F.wqT8 (by omega) w hu hv)
  rw [← hpT9, ← hqT9] at C_T9
  have C_T10 := Lib.hid (fun (u v : Value) w hu hv => rmul u v (p2) (65536) (pT9) (qT9) wpK6 wqK6 F.wpT9 F.wqT9 (by omega) w hu hv)
  rw [← hpT10, ← hqT10] at C_T10
  have C_T11 := Lib.hid (fun (u v : Value) w hu hv => radd u v (pT7) (qT7) (pT10) (qT10) F.wpT7 F.wqT7 F.wpT10 F.wqT10 (by omega) w hu hv)
  rw [← hpT11, ← hqT11] at C_T11
  have C_U := Lib.hid (fun (u v : Value) w hu hv => radd u v (pT6) (qT6) (pT11) (qT11) F.wpT6 F.wqT6 F.wpT11 F.wqT11 (by omega) w hu hv)
  rw [← hpU, ← hqU] at C_U
  have C_T12 := Lib.hid (fun (u v : Value) w hu hv => rmul u v (pY) (qY) (pG) (qG) F.wpY F.wqY F.wpG F.wqG (by omega) w hu hv)
  rw [← hpT12, ← hqT12] at C_T12
  have C_T13 := Lib.hid (fun (u v : Value) w hu hv => rmul u v (2) (1) (pYY) (qYY) wpTW wqTW F.wpYY F.wqYY (by omega) w hu hv)
  rw [← hpT13, ← hqT13] at C_T13
  have C_T14 := Lib.hid (fun (u v : Value) w hu hv => radd u v (pR) (qR) (pT13) (qT13) F.wpR F.wqR F.wpT13 F.wqT13 (by omega) w hu hv)
  rw [← hpT14, ← hqT14] at C_T14
  have C_T15 := Lib.hid (fun (u v : Value) w hu hv => rmul u v (p1) (65536) (pT14) (qT14) wpK5 wqK5 F.wpT14 F.wqT14 (by omega) w hu hv)
  rw [← hpT15, ← hqT15] at C_T15
  have C_T16 := Lib.hid (fun (u v : Value) w hu hv => rmul u v (p2) (65536) (pXY) (qXY) wpK6 wqK6 F.wpXY F.wqXY (by omega) w hu hv)
  rw [← hpT16, ← hqT16] at C_T16
  have C_T17 := Lib.hid (fun (u v : Value) w hu hv => radd u v (pT15) (qT15) (pT16) (qT16) F.wpT15 F.wqT15 F.wpT16 F.wqT16 (by omega) w hu hv)
  rw [← hpT17, ← hqT17] at C_T17
  have C_V := Lib.hid (fun (u v : Value) w hu hv => radd u v (pT12) (qT12) (pT17) (qT17) F.wpT12 F.wqT12 F.wpT17 F.wqT17 (by omega) w hu hv)
  rw [← hpV, ← hqV] at C_V
  have C_Z1 := Lib.hid (fun (u v : Value) w hu hv => rmul u v (65536 * f) (1) (pU) (qU) wpPA wqPA F.wpU F.wqU (by omega) w hu hv)
  rw [← hpZ1, ← hqZ1] at C_Z1
  have C_E1 := Lib.hid (fun (u v : Value) w hu hv => radd u v (cx) (1) (pZ1) (qZ1) wpC0 wqC0 F.wpZ1 F.wqZ1 (by omega) w hu hv)
  rw [← hpE1, ← hqE1] at C_E1
  have C_Z2 := Lib.hid (fun (u v : Value) w hu hv => rmul u v (65536 * f) (1) (pV) (qV) wpPA wqPA F.wpV F.wqV (by omega) w hu hv)
  rw [← hpZ2, ← hqZ2] at C_Z2
  have C_E2 := Lib.hid (fun (u v : Value) w hu hv => radd u v (cy) (1) (pZ2) (qZ2) wpC1 wqC1 F.wpZ2 F.wqZ2 (by omega) w hu hv)
  rw [← hpE2, ← hqE2] at C_E2
  have HE := Lib.hid (And.intro (And.intro F.wpE1 (And.intro F.wqE1 (And.intro F.wpE2 F.wqE2))) (And.intro (And.intro F.u1 F.u2) (And.intro F.v1 F.v2)))
  have ef : IntKind.i64.wrap (65536 * f) = 65536 * f := iw ⟨by omega, by omega⟩
  clear F hx0 hy0 hd1 hd2 hc h2 mx my mf mk1 mk2 mp1 mp2 hM hp hf hv hpS1 hqS1 hpX hqX hpS2 hqS2 hpY hqY hpXX hqXX hpYY hqYY hpT1 hqT1 hpXY hqXY hpR hqR hpT2 hqT2 hpT3 hqT3 hpT4 hqT4 hpT5 hqT5 hpG hqG hpT6 hqT6 hpT7 hqT7 hpT8 hqT8 hpT9 hqT9 hpT10 hqT10 hpT11 hqT11 hpU hqU hpT12 hqT12 hpT13 hqT13 hpT14 hqT14 hpT15 hqT15 hpT16 hqT16 hpT17 hqT17 hpV hqV hpZ1 hqZ1 hpE1 hqE1 hpZ2 hqZ2 hpE2 hqE2 wpON wqON wpK0 wqK0 wpK1 wqK1 wpK2 wqK2 wpK3 wqK3 wpK4 wqK4 wpK5 wqK5 wpK6 wqK6 wpFO wqFO wpPX wqPX wpPY wqPY wpTW wqTW wpPA wqPA wpC0 wqC0 wpC1 wqC1
  clear s0 s1 s2 s3 s4 s5 s6
  have KS0 := KS.out w (Below.refl _ _)
  clear KS0
  go_enter Try.func22, Try.ntmps22
  go_upto_region 1 with fail
  have BB := start2 w #[.bool false, .slice none 0 0, .bool false, .slice none 0 0] RT #[.bool false, .slice none 0 0, .bool false, .slice none 0 0] RT
  obtain ⟨BB, hsz, r_r1, r_r2⟩ := BB
  generalize ((w.alloc (.cells #[.bool false, .slice none 0 0, .bool false, .slice none 0 0] RT)).alloc (.cells #[.bool false, .slice none 0 0, .bool false, .slice none 0 0] RT)) = w0 at *
  replace BB := Lib.hid BB
  replace r_r1 := Lib.hid r_r1
  replace r_r2 := Lib.hid r_r2
  clear hsz
  go_wp2_with fail
  refine (O_ON.out _).mono ?_
  rintro e w1 ⟨v_ON, rfl, hb, h_ON⟩
  obtain ⟨A_ON, n_ON, cap_ON, B_ON, m_ON, cup_ON, rfl, -, -⟩ := id h_ON.form
  replace h_ON := Lib.hid h_ON
  replace r_r1 := Lib.hid (r_r1.out.keep hb)
  replace r_r2 := Lib.hid (r_r2.out.keep hb)
  replace BB := Lib.hid (below_next BB.out hb)
  clear hb
  go_wp2_with fail
  have d_ON := Lib.hid (And.intro BB.out.size (And.intro r_r1.out.lt (And.intro r_r2.out.lt (True.intro))))
  obtain ⟨hb, r_ON⟩ := laid w1 #[.bool (sgn (1)), .slice A_ON n_ON cap_ON, .bool (sgn (1)), .slice B_ON m_ON cup_ON] 54
  replace r_r1 := Lib.hid (r_r1.out.keep hb)
  replace r_r2 := Lib.hid (r_r2.out.keep hb)
  replace h_ON := Lib.hid (h_ON.out.below hb)
  replace BB := Lib.hid (below_next BB.out hb)
  replace r_ON := Lib.hid r_ON
  clear hb
  generalize w1.alloc (.cells #[.bool (sgn (1)), .slice A_ON n_ON cap_ON, .bool (sgn (1)), .slice B_ON m_ON cup_ON] 54) = w2 at *
  generalize w1.heap.size = g_ON at *
  obtain ⟨B, hB⟩ : ∃ B, B = w2.heap.size := ⟨_, rfl⟩
  have hgB := Lib.hid (show w.heap.size ≤ B ∧ g_ON < B ∧ w.heap.size < B ∧ w.heap.size + 1 < B ∧ B ≤ B from ⟨by rw [hB]; exact BB.out.size, by rw [hB]; exact r_ON.out.lt, by rw [hB]; exact r_r1.out.lt, by rw [hB]; exact r_r2.out.lt, by omega⟩)
  have h_s := Lib.hid (show B ≤ w2.heap.size by omega)
  have h_o : Hid (World.ownsRow w2 B RT 4 (.slice none 0 0) 0 []) := World.ownsRow_nil _ _ _ _
  clear hB
  refine wp_loop_rounds 8 ?_
  rw [rounds_succ]
  obtain ⟨s0, s1, s2, s3, s4, s5, s6⟩ := KS.out _ BB.out
  have kl := Nat.lt_of_lt_of_le hlt BB.out.size
  go_wp2_with fail
  clear s0 s1 s2 s3 s4 s5 s6 kl
  refine (O_K0.out _).mono ?_
  rintro e w3 ⟨v_K0, rfl, hb, h_K0⟩
  obtain ⟨A_K0, n_K0, cap_K0, B_K0, m_K0, cup_K0, rfl, -, -⟩ := id h_K0.form
  replace h_K0 := Lib.hid h_K0
  replace r_r1 := Lib.hid (r_r1.out.keep hb)
  replace r_r2 := Lib.hid (r_r2.out.keep hb)
  replace r_ON := Lib.hid (r_ON.out.keep hb)
  replace h_ON := Lib.hid (h_ON.out.below hb)
  replace h_s := Lib.hid (le_ln h_s.out hb)
  replace h_o := Lib.hid (own_keep2 h_o.out hb)
  replace BB := Lib.hid (below_next BB.out hb)
  clear hb
  have ho' := h_o.out
  have hsz' := h_s.out
  go_wp2_with (first | (at_builtin; refine wpList_append_own _ rfl (.tmp 30) (.tmp 36) 84 rfl B RT i0 (.agg #[.bool false, .slice none 0 0, .bool false, .slice none 0 0]) 4 64 Try.underlying84 hi0 hz0 hz1 hz2 rfl (by decide) _ _ _ rfl (ho'.alloc _) ⟨w3.heap.size, 0, none⟩ 1 1 [.bool (sgn (cx)), .slice A_K0 n_K0 cap_K0, .bool (sgn (65536)), .slice B_K0 m_K0 cup_K0] rfl rfl (four_new_r _ _ _ _ _ _) (four_rat _ _ _ _ _ _ _ _) (by unfold maxLen; omega) (by omega) (by simp; omega) ?_))
  intro v0 x0 hown' hgrow _
  replace BB := Lib.hid (below_app' BB.out hgB.out.1 BB.out.size ho' hgrow)
  replace r_r1 := Lib.hid (r_r1.out.app hgB.out.2.2.1 ho' hgrow)
  replace r_r2 := Lib.hid (r_r2.out.app hgB.out.2.2.2.1 ho' hgrow)
  replace r_ON := Lib.hid (r_ON.out.app hgB.out.2.1 ho' hgrow)
  replace h_ON := Lib.hid (h_ON.out.app ho' (by decide) hgrow)
  replace h_K0 := Lib.hid (h_K0.out.app ho' (by decide) hgrow)
  replace h_o := Lib.hid (show World.ownsRow x0 B RT 4 v0 1 [.bool (sgn (cx)), .slice A_K0 n_K0 cap_K0, .bool (sgn (65536)), .slice B_K0 m_K0 cup_K0] from hown')
  replace h_s := Lib.hid (show B ≤ x0.heap.size from by have := hgrow.size; simp at this; omega)
  clear hown' hgrow ho' hsz' O_K0
  go_wp2_with fail
  rw [rounds_succ]
  obtain ⟨s0, s1, s2, s3, s4, s5, s6⟩ := KS.out _ BB.out
  have kl := Nat.lt_of_lt_of_le hlt BB.out.size
  go_wp2_with fail
  clear s0 s1 s2 s3 s4 s5 s6 kl
  refine (O_K1.out _).mono ?_
  rintro e w4 ⟨v_K1, rfl, hb, h_K1⟩
  obtain ⟨A_K1, n_K1, cap_K1, B_K1, m_K1, cup_K1, rfl, -, -⟩ := id h_K1.form
  replace h_K1 := Lib.hid h_K1
  replace r_r1 := Lib.hid (r_r1.out.keep hb)
  replace r_r2 := Lib.hid (r_r2.out.keep hb)
  replace r_ON := Lib.hid (r_ON.out.keep hb)
  replace h_ON := Lib.hid (h_ON.out.below hb)
  replace h_K0 := Lib.hid (h_K0.out.below hb)
  replace h_s := Lib.hid (le_ln h_s.out hb)
  replace h_o := Lib.hid (own_keep2 h_o.out hb)
  replace BB := Lib.hid (below_next BB.out hb)
  clear hb
  have ho' := h_o.out
  have hsz' := h_s.out
  go_wp2_with (first | (at_builtin; refine wpList_append_own _ rfl (.tmp 30) (.tmp 36) 84 rfl B RT i0 (.agg #[.bool false, .slice none 0 0, .bool false, .slice none 0 0]) 4 64 Try.underlying84 hi0 hz0 hz1 hz2 rfl (by decide) _ _ _ rfl (ho'.alloc _) ⟨w4.heap.size, 0, none⟩ 1 1 [.bool (sgn (cy)), .slice A_K1 n_K1 cap_K1, .bool (sgn (65536)), .slice B_K1 m_K1 cup_K1] rfl rfl (four_new_r _ _ _ _ _ _) (four_rat _ _ _ _ _ _ _ _) (by unfold maxLen; omega) (by omega) (by simp; omega) ?_))
  intro v1 x1 hown' hgrow _
  replace BB := Lib.hid (below_app' BB.out hgB.out.1 BB.out.size ho' hgrow)
  replace r_r1 := Lib.hid (r_r1.out.app hgB.out.2.2.1 ho' hgrow)
  replace r_r2 := Lib.hid (r_r2.out.app hgB.out.2.2.2.1 ho' hgrow)
  replace r_ON := Lib.hid (r_ON.out.app hgB.out.2.1 ho' hgrow)
  replace h_ON := Lib.hid (h_ON.out.app ho' (by decide) hgrow)
  replace h_K0 := Lib.hid (h_K0.out.app ho' (by decide) hgrow)
  replace h_K1 := Lib.hid (h_K1.out.app ho' (by decide) hgrow)
  replace h_o := Lib.hid (show World.ownsRow x1 B RT 4 v1 2 [.bool (sgn (cx)), .slice A_K0 n_K0 cap_K0, .bool (sgn (65536)), .slice B_K0 m_K0 cup_K0, .bool (sgn (cy)), .slice A_K1 n_K1 cap_K1, .bool (sgn (65536)), .slice B_K1 m_K1 cup_K1] from hown')
  replace h_s := Lib.hid (show B ≤ x1.heap.size from by have := hgrow.size; simp at this; omega)
  clear hown' hgrow ho' hsz' O_K1
  go_wp2_with fail
  rw [rounds_succ]
  obtain ⟨s0, s1, s2, s3, s4, s5, s6⟩ := KS.out _ BB.out
  have kl := Nat.lt_of_lt_of_le hlt BB.out.size
  go_wp2_with fail
  clear s0 s1 s2 s3 s4 s5 s6 kl
  refine (O_K2.out _).mono ?_
  rintro e w5 ⟨v_K2, rfl, hb, h_K2⟩
  obtain ⟨A_K2, n_K2, cap_K2, B_K2, m_K2, cup_K2, rfl, -, -⟩ := id h_K2.form
  replace h_K2 := Lib.hid h_K2
  replace r_r1 := Lib.hid (r_r1.out.keep hb)
  replace r_r2 := Lib.hid (r_r2.out.keep hb)
  replace r_ON := Lib.hid (r_ON.out.keep hb)
  replace h_ON := Lib.hid (h_ON.out.below hb)
  replace h_K0 := Lib.hid (h_K0.out.below hb)
  replace h_K1 := Lib.hid (h_K1.out.below hb)
  replace h_s := Lib.hid (le_ln h_s.out hb)
  replace h_o := Lib.hid (own_keep2 h_o.out hb)
  replace BB := Lib.hid (below_next BB.out hb)
  clear hb
  have ho' := h_o.out
  have hsz' := h_s.out
  go_wp2_with (first | (at_builtin; refine wpList_append_own _ rfl (.tmp 30) (.tmp 36) 84 rfl B RT i0 (.agg #[.bool false, .slice none 0 0, .bool false, .slice none 0 0]) 4 64 Try.underlying84 hi0 hz0 hz1 hz2 rfl (by decide) _ _ _ rfl (ho'.alloc _) ⟨w5.heap.size, 0, none⟩ 1 1 [.bool (sgn (f)), .slice A_K2 n_K2 cap_K2, .bool (sgn (65536)), .slice B_K2 m_K2 cup_K2] rfl rfl (four_new_r _ _ _ _ _ _) (four_rat _ _ _ _ _ _ _ _) (by unfold maxLen; omega) (by omega) (by simp; omega) ?_))
  intro v2 x2 hown' hgrow _
  replace BB := Lib.hid (below_app' BB.out hgB.out.1 BB.out.size ho' hgrow)
  replace r_r1 := Lib.hid (r_r1.out.app hgB.out.2.2.1 ho' hgrow)
  replace r_r2 := Lib.hid (r_r2.out.app hgB.out.2.2.2.1 ho' hgrow)
  replace r_ON := Lib.hid (r_ON.out.app hgB.out.2.1 ho' hgrow)
  replace h_ON := Lib.hid (h_ON.out.app ho' (by decide) hgrow)
  replace h_K0 := Lib.hid (h_K0.out.app ho' (by decide) hgrow)
  replace h_K1 := Lib.hid (h_K1.out.app ho' (by decide) hgrow)
  replace h_K2 := Lib.hid (h_K2.out.app ho' (by decide) hgrow)
  replace h_o := Lib.hid (show World.ownsRow x2 B RT 4 v2 3 [.bool (sgn (cx)), .slice A_K0 n_K0 cap_K0, .bool (sgn (65536)), .slice B_K0 m_K0 cup_K0, .bool (sgn (cy)), .slice A_K1 n_K1 cap_K1, .bool (sgn (65536)), .slice B_K1 m_K1 cup_K1, .bool (sgn (f)), .slice A_K2 n_K2 cap_K2, .bool (sgn (65536)), .slice B_K2 m_K2 cup_K2] from hown')
  replace h_s := Lib.hid (show B ≤ x2.heap.size from by have := hgrow.size; simp at this; omega)
  clear hown' hgrow ho' hsz' O_K2
  go_wp2_with fail
  rw [rounds_succ]
  obtain ⟨s0, s1, s2, s3, s4, s5, s6⟩ := KS.out _ BB.out
  have kl := Nat.lt_of_lt_of_le hlt BB.out.size
  go_wp2_with fail
  clear s0 s1 s2 s3 s4 s5 s6 kl
  refine (O_K3.out _).mono ?_
  rintro e w6 ⟨v_K3, rfl, hb, h_K3⟩
  obtain ⟨A_K3, n_K3, cap_K3, B_K3, m_K3, cup_K3, rfl, -, -⟩ := id h_K3.form
  replace h_K3 := Lib.hid h_K3
  replace r_r1 := Lib.hid (r_r1.out.keep hb)
  replace r_r2 := Lib.hid (r_r2.out.keep hb)
  replace r_ON := Lib.hid (r_ON.out.keep hb)
  replace h_ON := Lib.hid (h_ON.out.below hb)
  replace h_K0 := Lib.hid (h_K0.out.below hb)
  replace h_K1 := Lib.hid (h_K1.out.below hb)
  replace h_K2 := Lib.hid (h_K2.out.below hb)
  replace h_s := Lib.hid (le_ln h_s.out hb)
  replace h_o := Lib.hid (own_keep2 h_o.out hb)
  replace BB := Lib.hid (below_next BB.out hb)
  clear hb
  have ho' := h_o.out
  have hsz' := h_s.out
  go_wp2_with (first | (at_builtin; refine wpList_append_own _ rfl (.tmp 30) (.tmp 36) 84 rfl B RT i0 (.agg #[.bool false, .slice none 0 0, .bool false, .slice none 0 0]) 4 64 Try.underlying84 hi0 hz0 hz1 hz2 rfl (by decide) _ _ _ rfl (ho'.alloc _) ⟨w6.heap.size, 0, none⟩ 1 1 [.bool (sgn (k1)), .slice A_K3 n_K3 cap_K3, .bool (sgn (65536)), .slice B_K3 m_K3 cup_K3] rfl rfl (four_new_r _ _ _ _ _ _) (four_rat _ _ _ _ _ _ _ _) (by unfold maxLen; omega) (by omega) (by simp; omega) ?_))
  intro v3 x3 hown' hgrow _
  replace BB := Lib.hid (below_app' BB.out hgB.out.1 BB.out.size ho' hgrow)
  replace r_r1 := Lib.hid (r_r1.out.app hgB.out.2.2.1 ho' hgrow)
  replace r_r2 := Lib.hid (r_r2.out.app hgB.out.2.2.2.1 ho' hgrow)
  replace r_ON := Lib.hid (r_ON.out.app hgB.out.2.1 ho' hgrow)
  replace h_ON := Lib.hid (h_ON.out.app ho' (by decide) hgrow)
  replace h_K0 := Lib.hid (h_K0.out.app ho' (by decide) hgrow)
  replace h_K1 := Lib.hid (h_K1.out.app ho' (by decide) hgrow)
  replace h_K2 := Lib.hid (h_K2.out.app ho' (by decide) hgrow)
  replace h_K3 := Lib.hid (h_K3.out.app ho' (by decide) hgrow)
  replace h_o := Lib.hid (show World.ownsRow x3 B RT 4 v3 4 [.bool (sgn (cx)), .slice A_K0 n_K0 cap_K0, .bool (sgn (65536)), .slice B_K0 m_K0 cup_K0, .bool (sgn (cy)), .slice A_K1 n_K1 cap_K1, .bool (sgn (65536)), .slice B_K1 m_K1 cup_K1, .bool (sgn (f)), .slice A_K2 n_K2 cap_K2, .bool (sgn (65536)), .slice B_K2 m_K2 cup_K2, .bool (sgn (k1)), .slice A_K3 n_K3 cap_K3, .bool (sgn (65536)), .slice B_K3 m_K3 cup_K3] from hown')
  replace h_s := Lib.hid (show B ≤ x3.heap.size from by have := hgrow.size; simp at this; omega)
  clear hown' hgrow ho' hsz' O_K3
  go_wp2_with fail
  rw [rounds_succ]
  obtain ⟨s0, s1, s2, s3, s4, s5, s6⟩ := KS.out _ BB.out
  have kl := Nat.lt_of_lt_of_le hlt BB.out.size
  go_wp2_with fail
  clear s0 s1 s2 s3 s4 s5 s6 kl
  refine (O_K4.out _).mono ?_
  rintro e w7 ⟨v_K4, rfl, hb, h_K4⟩
  obtain ⟨A_K4, n_K4, cap_K4, B_K4, m_K4, cup_K4, rfl, -, -⟩ := id h_K4.form
  replace h_K4 := Lib.hid h_K4
  replace r_r1 := Lib.hid (r_r1.out.keep hb)
  replace r_r2 := Lib.hid (r_r2.out.keep hb)
  replace r_ON := Lib.hid (r_ON.out.keep hb)
  replace h_ON := Lib.hid (h_ON.out.below hb)
  replace h_K0 := Lib.hid (h_K0.out.below hb)
  replace h_K1 := Lib.hid (h_K1.out.below hb)
  replace h_K2 := Lib.hid (h_K2.out.below hb)
  replace h_K3 := Lib.hid (h_K3.out.below hb)
  replace h_s := Lib.hid (le_ln h_s.out hb)
  replace h_o := Lib.hid (own_keep2 h_o.out hb)
  replace BB := Lib.hid (below_next BB.out hb)
  clear hb
  have ho' := h_o.out
  have hsz' := h_s.out
  go_wp2_with (first | (at_builtin; refine wpList_append_own _ rfl (.tmp 30) (.tmp 36) 84 rfl B RT i0 (.agg #[.bool false, .slice none 0 0, .bool false, .slice none 0 0]) 4 64 Try.underlying84 hi0 hz0 hz1 hz2 rfl (by decide) _ _ _ rfl (ho'.alloc _) ⟨w7.heap.size, 0, none⟩ 1 1 [.bool (sgn (k2)), .slice A_K4 n_K4 cap_K4, .bool (sgn (65536)), .slice B_K4 m_K4 cup_K4] rfl rfl (four_new_r _ _ _ _ _ _) (four_rat _ _ _ _ _ _ _ _) (by unfold maxLen; omega) (by omega) (by simp; omega) ?_))
  intro v4 x4 hown' hgrow _
  replace BB := Lib.hid (below_app' BB.out hgB.out.1 BB.out.size ho' hgrow)
  replace r_r1 := Lib.hid (r_r1.out.app hgB.out.2.2.1 ho' hgrow)
  replace r_r2 := Lib.hid (r_r2.out.app hgB.out.2.2.2.1 ho' hgrow)
  replace r_ON := Lib.hid (r_ON.out.app hgB.out.2.1 ho' hgrow)
  replace h_ON := Lib.hid (h_ON.out.app ho' (by decide) hgrow)
  replace h_K0 := Lib.hid (h_K0.out.app ho' (by decide) hgrow)
  replace h_K1 := Lib.hid (h_K1.out.app ho' (by decide) hgrow)
  replace h_K2 := Lib.hid (h_K2.out.app ho' (by decide) hgrow)
  replace h_K3 := Lib.hid (h_K3.out.app ho' (by decide) hgrow)
  replace h_K4 := Lib.hid (h_K4.out.app ho' (by decide) hgrow)
  replace h_o := Lib.hid (show World.ownsRow x4 B RT 4 v4 5 [.bool (sgn (cx)), .slice A_K0 n_K0 cap_K0, .bool (sgn (65536)), .slice B_K0 m_K0 cup_K0, .bool (sgn (cy)), .slice A_K1 n_K1 cap_K1, .bool (sgn (65536)), .slice B_K1 m_K1 cup_K1, .bool (sgn (f)), .slice A_K2 n_K2 cap_K2, .bool (sgn (65536)), .slice B_K2 m_K2 cup_K2, .bool (sgn (k1)), .slice A_K3 n_K3 cap_K3, .bool (sgn (65536)), .slice B_K3 m_K3 cup_K3, .bool (sgn (k2)), .slice A_K4 n_K4 cap_K4, .bool (sgn (65536)), .slice B_K4 m_K4 cup_K4] from hown')
  replace h_s := Lib.hid (show B ≤ x4.heap.size from by have := hgrow.size; simp at this; omega)
  clear hown' hgrow ho' hsz' O_K4
  go_wp2_with fail
  rw [rounds_succ]
  obtain ⟨s0, s1, s2, s3, s4, s5, s6⟩ := KS.out _ BB.out
  have kl := Nat.lt_of_lt_of_le hlt BB.out.size
  go_wp2_with fail
  clear s0 s1 s2 s3 s4 s5 s6 kl
  refine (O_K5.out _).mono ?_
  rintro e w8 ⟨v_K5, rfl, hb, h_K5⟩
  obtain ⟨A_K5, n_K5, cap_K5, B_K5, m_K5, cup_K5, rfl, -, -⟩ := id h_K5.form
  replace h_K5 := Lib.hid h_K5
  replace r_r1 := Lib.hid (r_r1.out.keep hb)
  replace r_r2 := Lib.hid (r_r2.out.keep hb)
  replace r_ON := Lib.hid (r_ON.out.keep hb)
  replace h_ON := Lib.hid (h_ON.out.below hb)
  replace h_K0 := Lib.hid (h_K0.out.below hb)
  replace h_K1 := Lib.hid (h_K1.out.below hb)
  replace h_K2 := Lib.hid (h_K2.out.below hb)
  replace h_K3 := Lib.hid (h_K3.out.below hb)
  replace h_K4 := Lib.hid (h_K4.out.below hb)
  replace h_s := Lib.hid (le_ln h_s.out hb)
  replace h_o := Lib.hid (own_keep2 h_o.out hb)
  replace BB := Lib.hid (below_next BB.out hb)
  clear hb
  have ho' := h_o.out
  have hsz' := h_s.out
  go_wp2_with (first | (at_builtin; refine wpList_append_own _ rfl (.tmp 30) (.tmp 36) 84 rfl B RT i0 (.agg #[.bool false, .slice none 0 0, .bool false, .slice none 0 0]) 4 64 Try.underlying84 hi0 hz0 hz1 hz2 rfl (by decide) _ _ _ rfl (ho'.alloc _) ⟨w8.heap.size, 0, none⟩ 1 1 [.bool (sgn (p1)), .slice A_K5 n_K5 cap_K5, .bool (sgn (65536)), .slice B_K5 m_K5 cup_K5] rfl rfl (four_new_r _ _ _ _ _ _) (four_rat _ _ _ _ _ _ _ _) (by unfold maxLen; omega) (by omega) (by simp; omega) ?_))
  intro v5 x5 hown' hgrow _
  replace BB := Lib.hid (below_app' BB.out hgB.out.1 BB.out.size ho' hgrow)
  replace r_r1 := Lib.hid (r_r1.out.app hgB.out.2.2.1 ho' hgrow)
  replace r_r2 := Lib.hid (r_r2.out.app hgB.out.2.2.2.1 ho' hgrow)
  replace r_ON := Lib.hid (r_ON.out.app hgB.out.2.1 ho' hgrow)
  replace h_ON := Lib.hid (h_ON.out.app ho' (by decide) hgrow)
  replace h_K0 := Lib.hid (h_K0.out.app ho' (by decide) hgrow)
  replace h_K1 := Lib.hid (h_K1.out.app ho' (by decide) hgrow)
  replace h_K2 := Lib.hid (h_K2.out.app ho' (by decide) hgrow)
  replace h_K3 := Lib.hid (h_K3.out.app ho' (by decide) hgrow)
  replace h_K4 := Lib.hid (h_K4.out.app ho' (by decide) hgrow)
  replace h_K5 := Lib.hid (h_K5.out.app ho' (by decide) hgrow)
  replace h_o := Lib.hid (show World.ownsRow x5 B RT 4 v5 6 [.bool (sgn (cx)), .slice A_K0 n_K0 cap_K0, .bool (sgn (65536)), .slice B_K0 m_K0 cup_K0, .bool (sgn (cy)), .slice A_K1 n_K1 cap_K1, .bool (sgn (65536)), .slice B_K1 m_K1 cup_K1, .bool (sgn (f)), .slice A_K2 n_K2 cap_K2, .bool (sgn (65536)), .slice B_K2 m_K2 cup_K2, .bool (sgn (k1)), .slice A_K3 n_K3 cap_K3, .bool (sgn (65536)), .slice B_K3 m_K3 cup_K3, .bool (sgn (k2)), .slice A_K4 n_K4 cap_K4, .bool (sgn (65536)), .slice B_K4 m_K4 cup_K4, .bool (sgn (p1)), .slice A_K5 n_K5 cap_K5, .bool (sgn (65536)), .slice B_K5 m_K5 cup_K5] from hown')
  replace h_s := Lib.hid (show B ≤ x5.heap.size from by have := hgrow.size; simp at this; omega)
  clear hown' hgrow ho' hsz' O_K5
  go_wp2_with fail
  rw [rounds_succ]
  obtain ⟨s0, s1, s2, s3, s4, s5, s6⟩ := KS.out _ BB.out
  have kl := Nat.lt_of_lt_of_le hlt BB.out.size
  go_wp2_with fail
  clear s0 s1 s2 s3 s4 s5 s6 kl
  refine (O_K6.out _).mono ?_
  rintro e w10 ⟨v_K6, rfl, hb, h_K6⟩
  obtain ⟨A_K6, n_K6, cap_K6, B_K6, m_K6, cup_K6, rfl, -, -⟩ := id h_K6.form
  replace h_K6 := Lib.hid h_K6
  replace r_r1 := Lib.hid (r_r1.out.keep hb)
  replace r_r2 := Lib.hid (r_r2.out.keep hb)
  replace r_ON := Lib.hid (r_ON.out.keep hb)
  replace h_ON := Lib.hid (h_ON.out.below hb)
  replace h_K0 := Lib.hid (h_K0.out.below hb)
  replace h_K1 := Lib.hid (h_K1.out.below hb)
  replace h_K2 := Lib.hid (h_K2.out.below hb)
  replace h_K3 := Lib.hid (h_K3.out.below hb)
  replace h_K4 := Lib.hid (h_K4.out.below hb)
  replace h_K5 := Lib.hid (h_K5.out.below hb)
  replace h_s := Lib.hid (le_ln h_s.out hb)
  replace h_o := Lib.hid (own_keep2 h_o.out hb)
  replace BB := Lib.hid (below_next BB.out hb)
  clear hb
  have ho' := h_o.out
  have hsz' := h_s.out
  go_wp2_with (first | (at_builtin; refine wpList_append_own _ rfl (.tmp 30) (.tmp 36) 84 rfl B RT i0 (.agg #[.bool false, .slice none 0 0, .bool false, .slice none 0 0]) 4 64 Try.underlying84 hi0 hz0 hz1 hz2 rfl (by decide) _ _ _ rfl (ho'.alloc _) ⟨w10.heap.size, 0, none⟩ 1 1 [.bool (sgn (p2)), .slice A_K6 n_K6 cap_K6, .bool (sgn (65536)), .slice B_K6 m_K6 cup_K6] rfl rfl (four_new_r _ _ _ _ _ _) (four_rat _ _ _ _ _ _ _ _) (by unfold maxLen; omega) (by omega) (by simp; omega) ?_))
  intro v6 x6 hown' hgrow _
  replace BB := Lib.hid (below_app' BB.out hgB.out.1 BB.out.size ho' hgrow)
  replace r_r1 := Lib.hid (r_r1.out.app hgB.out.2.2.1 ho' hgrow)
  replace r_r2 := Lib.hid (r_r2.out.app hgB.out.2.2.2.1 ho' hgrow)
  replace r_ON := Lib.hid (r_ON.out.app hgB.out.2.1 ho' hgrow)
  replace h_ON := Lib.hid (h_ON.out.app ho' (by decide) hgrow)
  replace h_K0 := Lib.hid (h_K0.out.app ho' (by decide) hgrow)
  replace h_K1 := Lib.hid (h_K1.out.app ho' (by decide) hgrow)
  replace h_K2 := Lib.hid (h_K2.out.app ho' (by decide) hgrow)
  replace h_K3 := Lib.hid (h_K3.out.app ho' (by decide) hgrow)
  replace h_K4 := Lib.hid (h_K4.out.app ho' (by decide) hgrow)
  replace h_K5 := Lib.hid (h_K5.out.app ho' (by decide) hgrow)
  replace h_K6 := Lib.hid (h_K6.out.app ho' (by decide) hgrow)
  replace h_o := Lib.hid (show World.ownsRow x6 B RT 4 v6 7 [.bool (sgn (cx)), .slice A_K0 n_K0 cap_K0, .bool (sgn (65536)), .slice B_K0 m_K0 cup_K0, .bool (sgn (cy)), .slice A_K1 n_K1 cap_K1, .bool (sgn (65536)), .slice B_K1 m_K1 cup_K1, .bool (sgn (f)), .slice A_K2 n_K2 cap_K2, .bool (sgn (65536)), .slice B_K2 m_K2 cup_K2, .bool (sgn (k1)), .slice A_K3 n_K3 cap_K3, .bool (sgn (65536)), .slice B_K3 m_K3 cup_K3, .bool (sgn (k2)), .slice A_K4 n_K4 cap_K4, .bool (sgn (65536)), .slice B_K4 m_K4 cup_K4, .bool (sgn (p1)), .slice A_K5 n_K5 cap_K5, .bool (sgn (65536)), .slice B_K5 m_K5 cup_K5, .bool (sgn (p2)), .slice A_K6 n_K6 cap_K6, .bool (sgn (65536)), .slice B_K6 m_K6 cup_K6] from hown')
  replace h_s := Lib.hid (show B ≤ x6.heap.size from by have := hgrow.size; simp at this; omega)
  clear hown' hgrow ho' hsz' O_K6
  go_wp2_with fail
  obtain ⟨g_k, capk, rfl, hck, hck', h_kc⟩ := row_own h_o.out (by omega) (by simp)
  replace h_kc := Lib.hid h_kc
  clear h_o h_s
  rw [rounds_succ]
  obtain ⟨s0, s1, s2, s3, s4, s5, s6⟩ := KS.out _ BB.out
  have kl := Nat.lt_of_lt_of_le hlt BB.out.size
  go_wp2_with fail
  clear s0 s1 s2 s3 s4 s5 s6 kl
  refine (O_FO.out _).mono ?_
  rintro e w11 ⟨v_FO, rfl, hb, h_FO⟩
  obtain ⟨A_FO, n_FO, cap_FO, B_FO, m_FO, cup_FO, rfl, -, -⟩ := id h_FO.form
  replace h_FO := Lib.hid h_FO
  replace r_r1 := Lib.hid (r_r1.out.keep hb)
  replace r_r2 := Lib.hid (r_r2.out.keep hb)
  replace r_ON := Lib.hid (r_ON.out.keep hb)
  replace h_ON := Lib.hid (h_ON.out.below hb)
  replace h_K0 := Lib.hid (h_K0.out.below hb)
  replace h_K1 := Lib.hid (h_K1.out.below hb)
  replace h_K2 := Lib.hid (h_K2.out.below hb)
  replace h_K3 := Lib.hid (h_K3.out.below hb)
  replace h_K4 := Lib.hid (h_K4.out.below hb)
  replace h_K5 := Lib.hid (h_K5.out.below hb)
  replace h_K6 := Lib.hid (h_K6.out.below hb)
  replace h_kc := Lib.hid (KC.below h_kc.out hb)
  replace BB := Lib.hid (below_next BB.out hb)
  clear hb
  go_wp2_with fail
  have d_FO := Lib.hid (And.intro BB.out.size (And.intro r_r1.out.lt (And.intro r_r2.out.lt (And.intro r_ON.out.lt (True.intro)))))
  obtain ⟨hb, r_FO⟩ := laid w11 #[.bool (sgn (1)), .slice A_FO n_FO cap_FO, .bool (sgn (f)), .slice B_FO m_FO cup_FO] 54
  replace r_r1 := Lib.hid (r_r1.out.keep hb)
  replace r_r2 := Lib.hid (r_r2.out.keep hb)
  replace r_ON := Lib.hid (r_ON.out.keep hb)
  replace h_ON := Lib.hid (h_ON.out.below hb)
  replace h_K0 := Lib.hid (h_K0.out.below hb)
  replace h_K1 := Lib.hid (h_K1.out.below hb)
  replace h_K2 := Lib.hid (h_K2.out.below hb)
  replace h_K3 := Lib.hid (h_K3.out.below hb)
  replace h_K4 := Lib.hid (h_K4.out.below hb)
  replace h_K5 := Lib.hid (h_K5.out.below hb)
  replace h_K6 := Lib.hid (h_K6.out.below hb)
  replace h_FO := Lib.hid (h_FO.out.below hb)
  replace h_kc := Lib.hid (KC.below h_kc.out hb)
  replace BB := Lib.hid (below_next BB.out hb)
  replace r_FO := Lib.hid r_FO
  clear hb
  generalize w11.alloc (.cells #[.bool (sgn (1)), .slice A_FO n_FO cap_FO, .bool (sgn (f)), .slice B_FO m_FO cup_FO] 54) = w12 at *
  generalize w11.heap.size = g_FO at *
  go_cut [14] (fun s5 wc1 => ∃ gp A3 n3 c3 B3 m3 d3, s5 = .pointer (some ⟨gp, 0, none⟩) ∧ Hid (AtB wc1 gp #[.bool (sgn (pX)), .slice A3 n3 c3, .bool (sgn (qX)), .slice B3 m3 d3] 54 ∧ RR wc1 (.agg #[.bool (sgn (pX)), .slice A3 n3 c3, .bool (sgn (qX)), .slice B3 m3 d3]) (pX) (qX) ∧ Below w12.heap.size w12 wc1 ∧ w12.heap.size ≤ gp))
  case first =>
    as_aux_lemma =>
      clear HE O_PY O_TW O_PA O_C0 O_C1 C_S2 C_Y C_XX C_YY C_T1 C_XY C_R C_T2 C_T3 C_T4 C_T5 C_G C_T6 C_T7 C_T8 C_T9 C_T10 C_T11 C_U C_T12 C_T13 C_T14 C_T15 C_T16 C_T17 C_V C_Z1 C_E1 C_Z2 C_E2
      have HK1 := Lib.hid (fun (w9 : World) (h9 : Below w12.heap.size w12 w9) => (⟨(h_kc.out.below h9).2 0 _ rfl, (h_kc.out.below h9).2 1 _ rfl, (h_kc.out.below h9).2 2 _ rfl, (h_kc.out.below h9).2 3 _ rfl⟩ : w9.cell? ⟨g_k, 0, none⟩ = some (.bool (sgn (cx))) ∧ w9.cell? ⟨g_k, 1, none⟩ = some (.slice A_K0 n_K0 cap_K0) ∧ w9.cell? ⟨g_k, 2, none⟩ = some (.bool (sgn (65536))) ∧ w9.cell? ⟨g_k, 3, none⟩ = some (.slice B_K0 m_K0 cup_K0)))
      have KK := Lib.hid (fun (w9 : World) (h : Below w12.heap.size w12 w9) => (⟨HK1.out _ h, cells4 (r_FO.out.keep h)⟩ : (w9.cell? ⟨g_k, 0, none⟩ = some (.bool (sgn (cx))) ∧ w9.cell? ⟨g_k, 1, none⟩ = some (.slice A_K0 n_K0 cap_K0) ∧ w9.cell? ⟨g_k, 2, none⟩ = some (.bool (sgn (65536))) ∧ w9.cell? ⟨g_k, 3, none⟩ = some (.slice B_K0 m_K0 cup_K0)) ∧ (w9.cell? ⟨g_FO, 0, none⟩ = some (.bool (sgn (1))) ∧ w9.cell? ⟨g_FO, 1, none⟩ = some (.slice A_FO n_FO cap_FO) ∧ w9.cell? ⟨g_FO, 2, none⟩ = some (.bool (sgn (f))) ∧ w9.cell? ⟨g_FO, 3, none⟩ = some (.slice B_FO m_FO cup_FO))))
      have K0 := KK.out w12 (Below.refl _ _)
      have KD := KK.out w12.drew (below_drew (Below.refl _ _))
      go_region_held3 (fun w9 => (w9.cell? ⟨g_k, 0, none⟩ = some (.bool (sgn (cx))) ∧ w9.cell? ⟨g_k, 1, none⟩ = some (.slice A_K0 n_K0 cap_K0) ∧ w9.cell? ⟨g_k, 2, none⟩ = some (.bool (sgn (65536))) ∧ w9.cell? ⟨g_k, 3, none⟩ = some (.slice B_K0 m_K0 cup_K0)) ∧ (w9.cell? ⟨g_FO, 0, none⟩ = some (.bool (sgn (1))) ∧ w9.cell? ⟨g_FO, 1, none⟩ = some (.slice A_FO n_FO cap_FO) ∧ w9.cell? ⟨g_FO, 2, none⟩ = some (.bool (sgn (f))) ∧ w9.cell? ⟨g_FO, 3, none⟩ = some (.slice B_FO m_FO cup_FO)))
          (first | with_reducible exact KD | with_reducible exact K0 | with_reducible exact K_w13 | with_reducible exact K_w14 | with_reducible exact K_w15 | (refine KK.out _ ?_; repeat' (first | with_reducible exact Below.refl _ _ | with_reducible exact B_w13.out | with_reducible exact B_w14.out | with_reducible exact B_w15.out | with_reducible apply below_new | with_reducible apply below_drew | with_reducible apply below_set | omega)))
          (first
            | (go_at_call 44
               refine (O_PX.out _).mono ?_
               rintro e w13 ⟨v_PX, rfl, hb, h_PX⟩
               obtain ⟨A_PX, n_PX, cap_PX, B_PX, m_PX, cup_PX, rfl, -, -⟩ := id h_PX.form
               replace h_PX := Lib.hid h_PX
               have B_w13 := Lib.hid (reg_next (w0 := w12) (by repeat (first | with_reducible exact Below.refl _ _ | with_reducible apply below_drew | with_reducible apply below_new)) hb)
               have K_w13 := KK.out _ B_w13.out
               obtain ⟨hc_w13, hf_w13⟩ := below_reads hb
               have hz_w13 := hb.size
               try simp at hz_w13
               try (have z1_w13 := Nat.lt_of_succ_le hz_w13)
               try (have z2_w13 := Nat.lt_of_succ_lt z1_w13)
               have HB_w13 := Lib.hid hb
               clear hb)
            | (go_at_call 46
               refine (C_S1.out _ _ _ (h_PX.out.below ?_) (h_K0.out.below ?_)).mono ?_
               · repeat (first | with_reducible exact Below.refl _ _ | with_reducible exact B_w13.out | with_reducible apply below_drew | with_reducible apply below_new)
               · repeat (first | with_reducible exact Below.refl _ _ | with_reducible exact B_w13.out | with_reducible apply below_drew | with_reducible apply below_new)
               rintro e w14 ⟨v_S1, rfl, hb, h_S1⟩
               obtain ⟨A_S1, n_S1, cap_S1, B_S1, m_S1, cup_S1, rfl, -, -⟩ := id h_S1.form
               replace h_S1 := Lib.hid h_S1
               replace h_PX := Lib.hid (h_PX.out.below (below_next (by repeat (first | with_reducible exact Below.refl _ _ | with_reducible apply below_new | with_reducible apply below_drew)) hb))
               have B_w14 := Lib.hid (below_next (by repeat (first | with_reducible exact B_w13.out | with_reducible apply below_new | with_reducible apply below_drew)) hb)
               have K_w14 := KK.out _ B_w14.out
               obtain ⟨hc_w14, hf_w14⟩ := below_reads hb
               have hz_w14 := hb.size
               try simp at hz_w14
               try (have z1_w14 := Nat.lt_of_succ_le hz_w14)
               try (have z2_w14 := Nat.lt_of_succ_lt z1_w14)
               have HB_w14 := Lib.hid hb
               have y_w14_w13 := Nat.le_trans HB_w13.out.size (Nat.le_trans (by (try simp only [World.size_alloc]); omega) hb.size)
               try simp at y_w14_w13
               try (have z3_w14_w13 := Nat.lt_of_succ_le y_w14_w13)
               try (have z4_w14_w13 := Nat.lt_of_succ_lt z3_w14_w13)
               clear hb)
            | (go_at_call 45
               refine (C_X.out _ _ _ (h_S1.out.below ?_) (h_FO.out.below ?_)).mono ?_
               · repeat (first | with_reducible exact Below.refl _ _ | with_reducible exact B_w14.out | with_reducible apply below_drew | with_reducible apply below_new)
               · repeat (first | with_reducible exact Below.refl _ _ | with_reducible exact B_w14.out | with_reducible apply below_drew | with_reducible apply below_new)
               rintro e w15 ⟨v_X, rfl, hb, h_X⟩
               obtain ⟨A_X, n_X, cap_X, B_X, m_X, cup_X, rfl, -, -⟩ := id h_X.form
               replace h_X := Lib.hid h_X
               replace h_PX := Lib.hid (h_PX.out.below (below_next (by repeat (first | with_reducible exact Below.refl _ _ | with_reducible apply below_new | with_reducible apply below_drew)) hb))
               replace h_S1 := Lib.hid (h_S1.out.below (below_next (by repeat (first | with_reducible exact Below.refl _ _ | with_reducible apply below_new | with_reducible apply below_drew)) hb))
               have B_w15 := Lib.hid (below_next (by repeat (first | with_reducible exact B_w14.out | with_reducible apply below_new | with_reducible apply below_drew)) hb)
               have K_w15 := KK.out _ B_w15.out
               obtain ⟨hc_w15, hf_w15⟩ := below_reads hb
               have hz_w15 := hb.size
               try simp at hz_w15
               try (have z1_w15 := Nat.lt_of_succ_le hz_w15)
               try (have z2_w15 := Nat.lt_of_succ_lt z1_w15)
               have HB_w15 := Lib.hid hb
               have y_w15_w13 := Nat.le_trans HB_w13.out.size (Nat.le_trans (by (try simp only [World.size_alloc]); omega) hb.size)
               try simp at y_w15_w13
               try (have z3_w15_w13 := Nat.lt_of_succ_le y_w15_w13)
               try (have z4_w15_w13 := Nat.lt_of_succ_lt z3_w15_w13)
               have y_w15_w14 := Nat.le_trans HB_w14.out.size (Nat.le_trans (by (try simp only [World.size_alloc]); omega) hb.size)
               try simp at y_w15_w14
               try (have z3_w15_w14 := Nat.lt_of_succ_le y_w15_w14)
               try (have z4_w15_w14 := Nat.lt_of_succ_lt z3_w15_w14)
               clear hb))
      all_goals clear KK K0 KD K_w13 K_w14 K_w15
      all_goals go_wp2_with fail
      all_goals go_meet
      all_goals refine ⟨_, A_X, n_X, cap_X, B_X, m_X, cup_X, rfl, ⟨?_, ?_, ?_, ?_⟩⟩
      all_goals repeat' (first | with_reducible exact h_X.out | with_reducible exact B_w13.out | with_reducible exact B_w14.out | with_reducible exact B_w15.out | (with_reducible refine AtB.set4 (a := .bool false) (b := .slice none 0 0) (c := .bool false) (d := .slice none 0 0) (T := 54) ?_ _ _ _ _) | (with_reducible refine RR.alloc ?_ _) | (with_reducible refine RR.far4 (cs := #[.bool false, .slice none 0 0, .bool false, .slice none 0 0]) ?_ ?_ _ _ _ _) | with_reducible exact Below.refl _ _ | with_reducible apply below_new | with_reducible apply below_drew | (with_reducible refine below_set ?_ ?_ _) | (with_reducible refine AtB.set2 (a := .bool false) (b := .slice none 0 0) (T := 52) ?_ _ _) | (with_reducible refine AtB.set2 (a := .int .i64 0) (b := .int .u64 0) (T := 113) ?_ _ _) | (with_reducible refine AtB.far2 ?_ ?_ _ _) | (with_reducible refine BR.alloc ?_ _) | (with_reducible refine BR.far2 (a := .bool false) (b := .slice none 0 0) (T := 52) ?_ ?_ (by decide) _ _) | (with_reducible refine new_at_eq ?_ _ _; first | rfl | (simp; done)) | (with_reducible refine AtB.alloc ?_ _) | with_reducible apply AtB.drew | (with_reducible refine AtB.keep ?_ HB_w15.out) | (with_reducible refine AtB.keep ?_ HB_w14.out) | (with_reducible refine AtB.keep ?_ HB_w13.out) | omega)
  clear O_PX C_S1 C_X
  obtain ⟨wc1, rfl⟩ : ∃ wo : World, wo = wc := ⟨_, rfl⟩
  obtain ⟨g_X, A_X, n_X, cap_X, B_X, m_X, cup_X, rfl, hcut⟩ := hcut
  obtain ⟨r_X, h_X, hb, hge⟩ := hcut.out
  clear hcut
  replace r_X := Lib.hid r_X; replace h_X := Lib.hid h_X
  have d_X := Lib.hid (And.intro (Nat.le_trans BB.out.size hge) (And.intro (Nat.lt_of_lt_of_le r_r1.out.lt hge) (And.intro (Nat.lt_of_lt_of_le r_r2.out.lt hge) (And.intro (Nat.lt_of_lt_of_le r_ON.out.lt hge) (And.intro (Nat.lt_of_lt_of_le r_FO.out.lt hge) (True.intro))))))
  clear h_K0
  replace r_r1 := Lib.hid (r_r1.out.keep hb)
  replace r_r2 := Lib.hid (r_r2.out.keep hb)
  replace r_ON := Lib.hid (r_ON.out.keep hb)
  replace r_FO := Lib.hid (r_FO.out.keep hb)
  replace h_ON := Lib.hid (h_ON.out.below hb)
  replace h_K1 := Lib.hid (h_K1.out.below hb)
  replace h_K2 := Lib.hid (h_K2.out.below hb)
  replace h_K3 := Lib.hid (h_K3.out.below hb)
  replace h_K4 := Lib.hid (h_K4.out.below hb)
  replace h_K5 := Lib.hid (h_K5.out.below hb)
  replace h_K6 := Lib.hid (h_K6.out.below hb)
  replace h_FO := Lib.hid (h_FO.out.below hb)
  replace h_kc := Lib.hid (KC.below h_kc.out hb)
  replace BB := Lib.hid (below_next BB.out hb)
  clear hb hge
  go_wp2_with fail
  go_cut [15] (fun s5 wc2 => ∃ gp A3 n3 c3 B3 m3 d3, s5 = .pointer (some ⟨gp, 0, none⟩) ∧ Hid (AtB wc2 gp #[.bool (sgn (pY)), .slice A3 n3 c3, .bool (sgn (qY)), .slice B3 m3 d3] 54 ∧ RR wc2 (.agg #[.bool (sgn (pY)), .slice A3 n3 c3, .bool (sgn (qY)), .slice B3 m3 d3]) (pY) (qY) ∧ Below wc1.heap.size wc1 wc2 ∧ wc1.heap.size ≤ gp))
  case first =>
    as_aux_lemma =>
      clear HE O_TW O_PA O_C0 O_C1 C_XX C_YY C_T1 C_XY C_R C_T2 C_T3 C_T4 C_T5 C_G C_T6 C_T7 C_T8 C_T9 C_T10 C_T11 C_U C_T12 C_T13 C_T14 C_T15 C_T16 C_T17 C_V C_Z1 C_E1 C_Z2 C_E2
      have HK2 := Lib.hid (fun (w9 : World) (h9 : Below wc1.heap.size wc1 w9) => (⟨(h_kc.out.below h9).2 4 _ rfl, (h_kc.out.below h9).2 5 _ rfl, (h_kc.out.below h9).2 6 _ rfl, (h_kc.out.below h9).2 7 _ rfl⟩ : w9.cell? ⟨g_k, 4, none⟩ = some (.bool (sgn (cy))) ∧ w9.cell? ⟨g_k, 5, none⟩ = some (.slice A_K1 n_K1 cap_K1) ∧ w9.cell? ⟨g_k, 6, none⟩ = some (.bool (sgn (65536))) ∧ w9.cell? ⟨g_k, 7, none⟩ = some (.slice B_K1 m_K1 cup_K1)))
      have KK := Lib.hid (fun (w9 : World) (h : Below wc1.heap.size wc1 w9) => (⟨HK2.out _ h, cells4 (r_FO.out.keep h)⟩ : (w9.cell? ⟨g_k, 4, none⟩ = some (.bool (sgn (cy))) ∧ w9.cell? ⟨g_k, 5, none⟩ = some (.slice A_K1 n_K1 cap_K1) ∧ w9.cell? ⟨g_k, 6, none⟩ = some (.bool (sgn (65536))) ∧ w9.cell? ⟨g_k, 7, none⟩ = some (.slice B_K1 m_K1 cup_K1)) ∧ (w9.cell? ⟨g_FO, 0, none⟩ = some (.bool (sgn (1))) ∧ w9.cell? ⟨g_FO, 1, none⟩ = some (.slice A_FO n_FO cap_FO) ∧ w9.cell? ⟨g_FO, 2, none⟩ = some (.bool (sgn (f))) ∧ w9.cell? ⟨g_FO, 3, none⟩ = some (.slice B_FO m_FO cup_FO))))
      have K0 := KK.out wc1 (Below.refl _ _)
      have KD := KK.out wc1.drew (below_drew (Below.refl _ _))
      go_region_held3 (fun w9 => (w9.cell? ⟨g_k, 4, none⟩ = some (.bool (sgn (cy))) ∧ w9.cell? ⟨g_k, 5, none⟩ = some (.slice A_K1 n_K1 cap_K1) ∧ w9.cell? ⟨g_k, 6, none⟩ = some (.bool (sgn (65536))) ∧ w9.cell? ⟨g_k, 7, none⟩ = some (.slice B_K1 m_K1 cup_K1)) ∧ (w9.cell? ⟨g_FO, 0, none⟩ = some (.bool (sgn (1))) ∧ w9.cell? ⟨g_FO, 1, none⟩ = some (.slice A_FO n_FO cap_FO) ∧ w9.cell? ⟨g_FO, 2, none⟩ = some (.bool (sgn (f))) ∧ w9.cell? ⟨g_FO, 3, none⟩ = some (.slice B_FO m_FO cup_FO)))
          (first | with_reducible exact KD | with_reducible exact K0 | with_reducible exact K_w16 | with_reducible exact K_w17 | with_reducible exact K_w18 | (refine KK.out _ ?_; repeat' (first | with_reducible exact Below.refl _ _ | with_reducible exact B_w16.out | with_reducible exact B_w17.out | with_reducible exact B_w18.out | with_reducible apply below_new | with_reducible apply below_drew | with_reducible apply below_set | omega)))
          (first
            | (go_at_call 44
               refine (O_PY.out _).mono ?_
               rintro e w16 ⟨v_PY, rfl, hb, h_PY⟩
               obtain ⟨A_PY, n_PY, cap_PY, B_PY, m_PY, cup_PY, rfl, -, -⟩ := id h_PY.form
               replace h_PY := Lib.hid h_PY
               have B_w16 := Lib.hid (reg_next (w0 := wc1) (by repeat (first | with_reducible exact Below.refl _ _ | with_reducible apply below_drew | with_reducible apply below_new)) hb)
               have K_w16 := KK.out _ B_w16.out
               obtain ⟨hc_w16, hf_w16⟩ := below_reads hb
               have hz_w16 := hb.size
               try simp at hz_w16
               try (have z1_w16 := Nat.lt_of_succ_le hz_w16)
               try (have z2_w16 := Nat.lt_of_succ_lt z1_w16)
               have HB_w16 := Lib.hid hb
               clear hb)
            | (go_at_call 46
               refine (C_S2.out _ _ _ (h_PY.out.below ?_) (h_K1.out.below ?_)).mono ?_
               · repeat (first | with_reducible exact Below.refl _ _ | with_reducible exact B_w16.out | with_reducible apply below_drew | with_reducible apply below_new)
               · repeat (first | with_reducible exact Below.refl _ _ | with_reducible exact B_w16.out | with_reducible apply below_drew | with_reducible apply below_new)
               rintro e w17 ⟨v_S2, rfl, hb, h_S2⟩
               obtain ⟨A_S2, n_S2, cap_S2, B_S2, m_S2, cup_S2, rfl, -, -⟩ := id h_S2.form
               replace h_S2 := Lib.hid h_S2
               replace h_PY := Lib.hid (h_PY.out.below (below_next (by repeat (first | with_reducible exact Below.refl _ _ | with_reducible apply below_new | with_reducible apply below_drew)) hb))
               have B_w17 := Lib.hid (below_next (by repeat (first | with_reducible exact B_w16.out | with_reducible apply below_new | with_reducible apply below_drew)) hb)
               have K_w17 := KK.out _ B_w17.out
               obtain ⟨hc_w17, hf_w17⟩ := below_reads hb
               have hz_w17 := hb.size
               try simp at hz_w17
               try (have z1_w17 := Nat.lt_of_succ_le hz_w17)
               try (have z2_w17 := Nat.lt_of_succ_lt z1_w17)
               have HB_w17 := Lib.hid hb
               have y_w17_w16 := Nat.le_trans HB_w16.out.size (Nat.le_trans (by (try simp only [World.size_alloc]); omega) hb.size)
               try simp at y_w17_w16
               try (have z3_w17_w16 := Nat.lt_of_succ_le y_w17_w16)
               try (have z4_w17_w16 := Nat.lt_of_succ_lt z3_w17_w16)
               clear hb)
            | (go_at_call 45
               refine (C_Y.out _ _ _ (h_S2.out.below ?_) (h_FO.out.below ?_)).mono ?_
               · repeat (first | with_reducible exact Below.refl _ _ | with_reducible exact B_w17.out | with_reducible apply below_drew | with_reducible apply below_new)
               · repeat (first | with_reducible exact Below.refl _ _ | with_reducible exact B_w17.out | with_reducible apply below_drew | with_reducible apply below_new)
               rintro e w18 ⟨v_Y, rfl, hb, h_Y⟩
               obtain ⟨A_Y, n_Y, cap_Y, B_Y, m_Y, cup_Y, rfl, -, -⟩ := id h_Y.form
               replace h_Y := Lib.hid h_Y
               replace h_PY := Lib.hid (h_PY.out.below (below_next (by repeat (first | with_reducible exact Below.refl _ _ | with_reducible apply below_new | with_reducible apply below_drew)) hb))
               replace h_S2 := Lib.hid (h_S2.out.below (below_next (by repeat (first | with_reducible exact Below.refl _ _ | with_reducible apply below_new | with_reducible apply below_drew)) hb))
               have B_w18 := Lib.hid (below_next (by repeat (first | with_reducible exact B_w17.out | with_reducible apply below_new | with_reducible apply below_drew)) hb)
               have K_w18 := KK.out _ B_w18.out
               obtain ⟨hc_w18, hf_w18⟩ := below_reads hb
               have hz_w18 := hb.size
               try simp at hz_w18
               try (have z1_w18 := Nat.lt_of_succ_le hz_w18)
               try (have z2_w18 := Nat.lt_of_succ_lt z1_w18)
               have HB_w18 := Lib.hid hb
               have y_w18_w16 := Nat.le_trans HB_w16.out.size (Nat.le_trans (by (try simp only [World.size_alloc]); omega) hb.size)
               try simp at y_w18_w16
               try (have z3_w18_w16 := Nat.lt_of_succ_le y_w18_w16)
               try (have z4_w18_w16 := Nat.lt_of_succ_lt z3_w18_w16)
               have y_w18_w17 := Nat.le_trans HB_w17.out.size (Nat.le_trans (by (try simp only [World.size_alloc]); omega) hb.size)
               try simp at y_w18_w17
               try (have z3_w18_w17 := Nat.lt_of_succ_le y_w18_w17)
               try (have z4_w18_w17 := Nat.lt_of_succ_lt z3_w18_w17)
               clear hb))
      all_goals clear KK K0 KD K_w16 K_w17 K_w18
      all_goals go_wp2_with fail
      all_goals go_meet
      all_goals refine ⟨_, A_Y, n_Y, cap_Y, B_Y, m_Y, cup_Y, rfl, ⟨?_, ?_, ?_, ?_⟩⟩
      all_goals repeat' (first | with_reducible exact h_Y.out | with_reducible exact B_w16.out | with_reducible exact B_w17.out | with_reducible exact B_w18.out | (with_reducible refine AtB.set4 (a := .bool false) (b := .slice none 0 0) (c := .bool false) (d := .slice none 0 0) (T := 54) ?_ _ _ _ _) | (with_reducible refine RR.alloc ?_ _) | (with_reducible refine RR.far4 (cs := #[.bool false, .slice none 0 0, .bool false, .slice none 0 0]) ?_ ?_ _ _ _ _) | with_reducible exact Below.refl _ _ | with_reducible apply below_new | with_reducible apply below_drew | (with_reducible refine below_set ?_ ?_ _) | (with_reducible refine AtB.set2 (a := .bool false) (b := .slice none 0 0) (T := 52) ?_ _ _) | (with_reducible refine AtB.set2 (a := .int .i64 0) (b := .int .u64 0) (T := 113) ?_ _ _) | (with_reducible refine AtB.far2 ?_ ?_ _ _) | (with_reducible refine BR.alloc ?_ _) | (with_reducible refine BR.far2 (a := .bool false) (b := .slice none 0 0) (T := 52) ?_ ?_ (by decide) _ _) | (with_reducible refine new_at_eq ?_ _ _; first | rfl | (simp; done)) | (with_reducible refine AtB.alloc ?_ _) | with_reducible apply AtB.drew | (with_reducible refine AtB.keep ?_ HB_w18.out) | (with_reducible refine AtB.keep ?_ HB_w17.out) | (with_reducible refine AtB.keep ?_ HB_w16.out) | omega)
  clear O_PY C_S2 C_Y
  obtain ⟨wc2, rfl⟩ : ∃ wo : World, wo = wc := ⟨_, rfl⟩
  obtain ⟨g_Y, A_Y, n_Y, cap_Y, B_Y, m_Y, cup_Y, rfl, hcut⟩ := hcut
  obtain ⟨r_Y, h_Y, hb, hge⟩ := hcut.out
  clear hcut
  replace r_Y := Lib.hid r_Y; replace h_Y := Lib.hid h_Y
  have d_Y := Lib.hid (And.intro (Nat.le_trans BB.out.size hge) (And.intro (Nat.lt_of_lt_of_le r_r1.out.lt hge) (And.intro (Nat.lt_of_lt_of_le r_r2.out.lt hge) (And.intro (Nat.lt_of_lt_of_le r_ON.out.lt hge) (And.intro (Nat.lt_of_lt_of_le r_FO.out.lt hge) (And.intro (Nat.lt_of_lt_of_le r_X.out.lt hge) (True.intro)))))))
  clear h_K1
  clear r_FO
  clear h_FO
  clear h_K2
  replace r_r1 := Lib.hid (r_r1.out.keep hb)
  replace r_r2 := Lib.hid (r_r2.out.keep hb)
  replace r_ON := Lib.hid (r_ON.out.keep hb)
  replace r_X := Lib.hid (r_X.out.keep hb)
  replace h_ON := Lib.hid (h_ON.out.below hb)
  replace h_K3 := Lib.hid (h_K3.out.below hb)
  replace h_K4 := Lib.hid (h_K4.out.below hb)
  replace h_K5 := Lib.hid (h_K5.out.below hb)
  replace h_K6 := Lib.hid (h_K6.out.below hb)
  replace h_X := Lib.hid (h_X.out.below hb)
  replace h_kc := Lib.hid (KC.below h_kc.out hb)
  replace BB := Lib.hid (below_next BB.out hb)
  clear hb hge
  obtain ⟨c_X0, c_X1, c_X2, c_X3, f_X0, f_X1, f_X2, f_X3⟩ := reads4 r_X.out
  have l_X := r_X.out.lt
  go_wp2_with fail
  refine (C_XX.out _ _ _ h_X.out h_X.out).mono ?_
  rintro e w19 ⟨v_XX, rfl, hb, h_XX⟩
  obtain ⟨A_XX, n_XX, cap_XX, B_XX, m_XX, cup_XX, rfl, -, -⟩ := id h_XX.form
  replace h_XX := Lib.hid h_XX
  clear c_X0 c_X1 c_X2 c_X3 f_X0 f_X1 f_X2 f_X3 l_X
  replace r_r1 := Lib.hid (r_r1.out.keep hb)
  replace r_r2 := Lib.hid (r_r2.out.keep hb)
  replace r_ON := Lib.hid (r_ON.out.keep hb)
  replace r_X := Lib.hid (r_X.out.keep hb)
  replace r_Y := Lib.hid (r_Y.out.keep hb)
  replace h_ON := Lib.hid (h_ON.out.below hb)
  replace h_K3 := Lib.hid (h_K3.out.below hb)
  replace h_K4 := Lib.hid (h_K4.out.below hb)
  replace h_K5 := Lib.hid (h_K5.out.below hb)
  replace h_K6 := Lib.hid (h_K6.out.below hb)
  replace h_X := Lib.hid (h_X.out.below hb)
  replace h_Y := Lib.hid (h_Y.out.below hb)
  replace h_kc := Lib.hid (KC.below h_kc.out hb)
  replace BB := Lib.hid (below_next BB.out hb)
  clear hb
  obtain ⟨c_Y0, c_Y1, c_Y2, c_Y3, f_Y0, f_Y1, f_Y2, f_Y3⟩ := reads4 r_Y.out
  have l_Y := r_Y.out.lt
  go_wp2_with fail
  clear c_Y0 c_Y1 c_Y2 c_Y3 f_Y0 f_Y1 f_Y2 f_Y3 l_Y
  have d_XX := Lib.hid (And.intro BB.out.size (And.intro r_r1.out.lt (And.intro r_r2.out.lt (And.intro r_ON.out.lt (And.intro r_X.out.lt (And.intro r_Y.out.lt (True.intro)))))))
  obtain ⟨hb, r_XX⟩ := laid w19 #[.bool (sgn (pXX)), .slice A_XX n_XX cap_XX, .bool (sgn (qXX)), .slice B_XX m_XX cup_XX] 54
  replace r_r1 := Lib.hid (r_r1.out.keep hb)
  replace r_r2 := Lib.hid (r_r2.out.keep hb)
  replace r_ON := Lib.hid (r_ON.out.keep hb)
  replace r_X := Lib.hid (r_X.out.keep hb)
  replace r_Y := Lib.hid (r_Y.out.keep hb)
  replace h_ON := Lib.hid (h_ON.out.below hb)
  replace h_K3 := Lib.hid (h_K3.out.below hb)
  replace h_K4 := Lib.hid (h_K4.out.below hb)
  replace h_K5 := Lib.hid (h_K5.out.below hb)
  replace h_K6 := Lib.hid (h_K6.out.below hb)
  replace h_X := Lib.hid (h_X.out.below hb)
  replace h_Y := Lib.hid (h_Y.out.below hb)
  replace h_XX := Lib.hid (h_XX.out.below hb)
  replace h_kc := Lib.hid (KC.below h_kc.out hb)
  replace BB := Lib.hid (below_next BB.out hb)
  replace r_XX := Lib.hid r_XX
  clear hb
  generalize w19.alloc (.cells #[.bool (sgn (pXX)), .slice A_XX n_XX cap_XX, .bool (sgn (qXX)), .slice B_XX m_XX cup_XX] 54) = w20 at *
  generalize w19.heap.size = g_XX at *
  refine (C_YY.out _ _ _ h_Y.out h_Y.out).mono ?_
  rintro e w21 ⟨v_YY, rfl, hb, h_YY⟩
  obtain ⟨A_YY, n_YY, cap_YY, B_YY, m_YY, cup_YY, rfl, -, -⟩ := id h_YY.form
  replace h_YY := Lib.hid h_YY
  replace r_r1 := Lib.hid (r_r1.out.keep hb)
  replace r_r2 := Lib.hid (r_r2.out.keep hb)
  replace r_ON := Lib.hid (r_ON.out.keep hb)
  replace r_X := Lib.hid (r_X.out.keep hb)
  replace r_Y := Lib.hid (r_Y.out.keep hb)
  replace r_XX := Lib.hid (r_XX.out.keep hb)
  replace h_ON := Lib.hid (h_ON.out.below hb)
  replace h_K3 := Lib.hid (h_K3.out.below hb)
  replace h_K4 := Lib.hid (h_K4.out.below hb)
  replace h_K5 := Lib.hid (h_K5.out.below hb)
  replace h_K6 := Lib.hid (h_K6.out.below hb)
  replace h_X := Lib.hid (h_X.out.below hb)
  replace h_Y := Lib.hid (h_Y.out.below hb)
  replace h_XX := Lib.hid (h_XX.out.below hb)
  replace h_kc := Lib.hid (KC.below h_kc.out hb)
  replace BB := Lib.hid (below_next BB.out hb)
  clear hb
  go_wp2_with fail
  have d_YY := Lib.hid (And.intro BB.out.size (And.intro r_r1.out.lt (And.intro r_r2.out.lt (And.intro r_ON.out.lt (And.intro r_X.out.lt (And.intro r_Y.out.lt (And.intro r_XX.out.lt (True.intro))))))))
  obtain ⟨hb, r_YY⟩ := laid w21 #[.bool (sgn (pYY)), .slice A_YY n_YY cap_YY, .bool (sgn (qYY)), .slice B_YY m_YY cup_YY] 54
  replace r_r1 := Lib.hid (r_r1.out.keep hb)
  replace r_r2 := Lib.hid (r_r2.out.keep hb)
  replace r_ON := Lib.hid (r_ON.out.keep hb)
  replace r_X := Lib.hid (r_X.out.keep hb)
  replace r_Y := Lib.hid (r_Y.out.keep hb)
  replace r_XX := Lib.hid (r_XX.out.keep hb)
  replace h_ON := Lib.hid (h_ON.out.below hb)
  replace h_K3 := Lib.hid (h_K3.out.below hb)
  replace h_K4 := Lib.hid (h_K4.out.below hb)
  replace h_K5 := Lib.hid (h_K5.out.below hb)
  replace h_K6 := Lib.hid (h_K6.out.below hb)
  replace h_X := Lib.hid (h_X.out.below hb)
  replace h_Y := Lib.hid (h_Y.out.below hb)
  replace h_XX := Lib.hid (h_XX.out.below hb)
  replace h_YY := Lib.hid (h_YY.out.below hb)
  replace h_kc := Lib.hid (KC.below h_kc.out hb)
  replace BB := Lib.hid (below_next BB.out hb)
  replace r_YY := Lib.hid r_YY
  clear hb
  generalize w21.alloc (.cells #[.bool (sgn (pYY)), .slice A_YY n_YY cap_YY, .bool (sgn (qYY)), .slice B_YY m_YY cup_YY] 54) = w22 at *
  generalize w21.heap.size = g_YY at *
  clear C_XX C_YY
  go_cut [18] (fun s5 wc3 => ∃ gp A3 n3 c3 B3 m3 d3, s5 = .pointer (some ⟨gp, 0, none⟩) ∧ Hid (AtB wc3 gp #[.bool (sgn (pXY)), .slice A3 n3 c3, .bool (sgn (qXY)), .slice B3 m3 d3] 54 ∧ RR wc3 (.agg #[.bool (sgn (pXY)), .slice A3 n3 c3, .bool (sgn (qXY)), .slice B3 m3 d3]) (pXY) (qXY) ∧ Below w22.heap.size w22 wc3 ∧ w22.heap.size ≤ gp))
  case first =>
    as_aux_lemma =>
      clear HE O_PA O_C0 O_C1 C_R C_T2 C_T3 C_T4 C_T5 C_G C_T6 C_T7 C_T8 C_T9 C_T10 C_T11 C_U C_T12 C_T13 C_T14 C_T15 C_T16 C_T17 C_V C_Z1 C_E1 C_Z2 C_E2
      have KK := Lib.hid (fun (w9 : World) (h : Below w22.heap.size w22 w9) => (⟨cells4 (r_X.out.keep h), cells4 (r_Y.out.keep h)⟩ : (w9.cell? ⟨g_X, 0, none⟩ = some (.bool (sgn (pX))) ∧ w9.cell? ⟨g_X, 1, none⟩ = some (.slice A_X n_X cap_X) ∧ w9.cell? ⟨g_X, 2, none⟩ = some (.bool (sgn (qX))) ∧ w9.cell? ⟨g_X, 3, none⟩ = some (.slice B_X m_X cup_X)) ∧ (w9.cell? ⟨g_Y, 0, none⟩ = some (.bool (sgn (pY))) ∧ w9.cell? ⟨g_Y, 1, none⟩ = some (.slice A_Y n_Y cap_Y) ∧ w9.cell? ⟨g_Y, 2, none⟩ = some (.bool (sgn (qY))) ∧ w9.cell? ⟨g_Y, 3, none⟩ = some (.slice B_Y m_Y cup_Y))))
      have K0 := KK.out w22 (Below.refl _ _)
      have KD := KK.out w22.drew (below_drew (Below.refl _ _))
      have tok1 : Hid True := trivial
      have tok2 : Hid True := trivial
      go_region_held3 (fun w9 => (w9.cell? ⟨g_X, 0, none⟩ = some (.bool (sgn (pX))) ∧ w9.cell? ⟨g_X, 1, none⟩ = some (.slice A_X n_X cap_X) ∧ w9.cell? ⟨g_X, 2, none⟩ = some (.bool (sgn (qX))) ∧ w9.cell? ⟨g_X, 3, none⟩ = some (.slice B_X m_X cup_X)) ∧ (w9.cell? ⟨g_Y, 0, none⟩ = some (.bool (sgn (pY))) ∧ w9.cell? ⟨g_Y, 1, none⟩ = some (.slice A_Y n_Y cap_Y) ∧ w9.cell? ⟨g_Y, 2, none⟩ = some (.bool (sgn (qY))) ∧ w9.cell? ⟨g_Y, 3, none⟩ = some (.slice B_Y m_Y cup_Y)))
          (first | with_reducible exact KD | with_reducible exact K0 | with_reducible exact K_w23 | with_reducible exact K_w24 | with_reducible exact K_w25 | (refine KK.out _ ?_; repeat' (first | with_reducible exact Below.refl _ _ | with_reducible exact B_w23.out | with_reducible exact B_w24.out | with_reducible exact B_w25.out | with_reducible apply below_new | with_reducible apply below_drew | with_reducible apply below_set | omega)))
          (first
            | (go_at_call 44
               refine (O_TW.out _).mono ?_
               rintro e w23 ⟨v_TW, rfl, hb, h_TW⟩
               obtain ⟨A_TW, n_TW, cap_TW, B_TW, m_TW, cup_TW, rfl, -, -⟩ := id h_TW.form
               replace h_TW := Lib.hid h_TW
               have B_w23 := Lib.hid (reg_next (w0 := w22) (by repeat (first | with_reducible exact Below.refl _ _ | with_reducible apply below_drew | with_reducible apply below_new)) hb)
               have K_w23 := KK.out _ B_w23.out
               obtain ⟨hc_w23, hf_w23⟩ := below_reads hb
               have hz_w23 := hb.size
               try simp at hz_w23
               try (have z1_w23 := Nat.lt_of_succ_le hz_w23)
               try (have z2_w23 := Nat.lt_of_succ_lt z1_w23)
               have HB_w23 := Lib.hid hb
               clear hb)
            | (go_at_call 45
               have t_k := tok1
               refine (C_T1.out _ _ _ (h_X.out.below ?_) (h_Y.out.below ?_)).mono ?_
               · repeat (first | with_reducible exact Below.refl _ _ | with_reducible exact B_w23.out | with_reducible apply below_drew | with_reducible apply below_new)
               · repeat (first | with_reducible exact Below.refl _ _ | with_reducible exact B_w23.out | with_reducible apply below_drew | with_reducible apply below_new)
               rintro e w24 ⟨v_T1, rfl, hb, h_T1⟩
               obtain ⟨A_T1, n_T1, cap_T1, B_T1, m_T1, cup_T1, rfl, -, -⟩ := id h_T1.form
               replace h_T1 := Lib.hid h_T1
               replace h_TW := Lib.hid (h_TW.out.below (below_next (by repeat (first | with_reducible exact Below.refl _ _ | with_reducible apply below_new | with_reducible apply below_drew)) hb))
               have B_w24 := Lib.hid (below_next (by repeat (first | with_reducible exact B_w23.out | with_reducible apply below_new | with_reducible apply below_drew)) hb)
               have K_w24 := KK.out _ B_w24.out
               obtain ⟨hc_w24, hf_w24⟩ := below_reads hb
               have hz_w24 := hb.size
               try simp at hz_w24
               try (have z1_w24 := Nat.lt_of_succ_le hz_w24)
               try (have z2_w24 := Nat.lt_of_succ_lt z1_w24)
               have HB_w24 := Lib.hid hb
               have y_w24_w23 := Nat.le_trans HB_w23.out.size (Nat.le_trans (by (try simp only [World.size_alloc]); omega) hb.size)
               try simp at y_w24_w23
               try (have z3_w24_w23 := Nat.lt_of_succ_le y_w24_w23)
               try (have z4_w24_w23 := Nat.lt_of_succ_lt z3_w24_w23)
               clear hb
               clear t_k tok1)
            | (go_at_call 45
               have t_k := tok2
               refine (C_XY.out _ _ _ (h_TW.out.below ?_) (h_T1.out.below ?_)).mono ?_
               · repeat (first | with_reducible exact Below.refl _ _ | with_reducible exact B_w24.out | with_reducible apply below_drew | with_reducible apply below_new)
               · repeat (first | with_reducible exact Below.refl _ _ | with_reducible exact B_w24.out | with_reducible apply below_drew | with_reducible apply below_new)
               rintro e w25 ⟨v_XY, rfl, hb, h_XY⟩
               obtain ⟨A_XY, n_XY, cap_XY, B_XY, m_XY, cup_XY, rfl, -, -⟩ := id h_XY.form
               replace h_XY := Lib.hid h_XY
               replace h_TW := Lib.hid (h_TW.out.below (below_next (by repeat (first | with_reducible exact Below.refl _ _ | with_reducible apply below_new | with_reducible apply below_drew)) hb))
               replace h_T1 := Lib.hid (h_T1.out.below (below_next (by repeat (first | with_reducible exact Below.refl _ _ | with_reducible apply below_new | with_reducible apply below_drew)) hb))
               have B_w25 := Lib.hid (below_next (by repeat (first | with_reducible exact B_w24.out | with_reducible apply below_new | with_reducible apply below_drew)) hb)
               have K_w25 := KK.out _ B_w25.out
               obtain ⟨hc_w25, hf_w25⟩ := below_reads hb
               have hz_w25 := hb.size
               try simp at hz_w25
               try (have z1_w25 := Nat.lt_of_succ_le hz_w25)
               try (have z2_w25 := Nat.lt_of_succ_lt z1_w25)
               have HB_w25 := Lib.hid hb
               have y_w25_w23 := Nat.le_trans HB_w23.out.size (Nat.le_trans (by (try simp only [World.size_alloc]); omega) hb.size)
               try simp at y_w25_w23
               try (have z3_w25_w23 := Nat.lt_of_succ_le y_w25_w23)
               try (have z4_w25_w23 := Nat.lt_of_succ_lt z3_w25_w23)
               have y_w25_w24 := Nat.le_trans HB_w24.out.size (Nat.le_trans (by (try simp only [World.size_alloc]); omega) hb.size)
               try simp at y_w25_w24
               try (have z3_w25_w24 := Nat.lt_of_succ_le y_w25_w24)
               try (have z4_w25_w24 := Nat.lt_of_succ_lt z3_w25_w24)
               clear hb
               clear t_k tok2))
      all_goals clear KK K0 KD K_w23 K_w24 K_w25
      all_goals go_wp2_with fail
      all_goals go_meet
      all_goals refine ⟨_, A_XY, n_XY, cap_XY, B_XY, m_XY, cup_XY, rfl, ⟨?_, ?_, ?_, ?_⟩⟩
      all_goals repeat' (first | with_reducible exact h_XY.out | with_reducible exact B_w23.out | with_reducible exact B_w24.out | with_reducible exact B_w25.out | (with_reducible refine AtB.set4 (a := .bool false) (b := .slice none 0 0) (c := .bool false) (d := .slice none 0 0) (T := 54) ?_ _ _ _ _) | (with_reducible refine RR.alloc ?_ _) | (with_reducible refine RR.far4 (cs := #[.bool false, .slice none 0 0, .bool false, .slice none 0 0]) ?_ ?_ _ _ _ _) | with_reducible exact Below.refl _ _ | with_reducible apply below_new | with_reducible apply below_drew | (with_reducible refine below_set ?_ ?_ _) | (with_reducible refine AtB.set2 (a := .bool false) (b := .slice none 0 0) (T := 52) ?_ _ _) | (with_reducible refine AtB.set2 (a := .int .i64 0) (b := .int .u64 0) (T := 113) ?_ _ _) | (with_reducible refine AtB.far2 ?_ ?_ _ _) | (with_reducible refine BR.alloc ?_ _) | (with_reducible refine BR.far2 (a := .bool false) (b := .slice none 0 0) (T := 52) ?_ ?_ (by decide) _ _) | (with_reducible refine new_at_eq ?_ _ _; first | rfl | (simp; done)) | (with_reducible refine AtB.alloc ?_ _) | with_reducible apply AtB.drew | (with_reducible refine AtB.keep ?_ HB_w25.out) | (with_reducible refine AtB.keep ?_ HB_w24.out) | (with_reducible refine AtB.keep ?_ HB_w23.out) | omega)
  clear C_T1 C_XY
  obtain ⟨wc3, rfl⟩ : ∃ wo : World, wo = wc := ⟨_, rfl⟩
  obtain ⟨g_XY, A_XY, n_XY, cap_XY, B_XY, m_XY, cup_XY, rfl, hcut⟩ := hcut
  obtain ⟨r_XY, h_XY, hb, hge⟩ := hcut.out
  clear hcut
  replace r_XY := Lib.hid r_XY; replace h_XY := Lib.hid h_XY
  have d_XY := Lib.hid (And.intro (Nat.le_trans BB.out.size hge) (And.intro (Nat.lt_of_lt_of_le r_r1.out.lt hge) (And.intro (Nat.lt_of_lt_of_le r_r2.out.lt hge) (And.intro (Nat.lt_of_lt_of_le r_ON.out.lt hge) (And.intro (Nat.lt_of_lt_of_le r_X.out.lt hge) (And.intro (Nat.lt_of_lt_of_le r_Y.out.lt hge) (And.intro (Nat.lt_of_lt_of_le r_XX.out.lt hge) (And.intro (Nat.lt_of_lt_of_le r_YY.out.lt hge) (True.intro)))))))))
  replace r_r1 := Lib.hid (r_r1.out.keep hb)
  replace r_r2 := Lib.hid (r_r2.out.keep hb)
  replace r_ON := Lib.hid (r_ON.out.keep hb)
  replace r_X := Lib.hid (r_X.out.keep hb)
  replace r_Y := Lib.hid (r_Y.out.keep hb)
  replace r_XX := Lib.hid (r_XX.out.keep hb)
  replace r_YY := Lib.hid (r_YY.out.keep hb)
  replace h_ON := Lib.hid (h_ON.out.below hb)
  replace h_K3 := Lib.hid (h_K3.out.below hb)
  replace h_K4 := Lib.hid (h_K4.out.below hb)
  replace h_K5 := Lib.hid (h_K5.out.below hb)
  replace h_K6 := Lib.hid (h_K6.out.below hb)
  replace h_X := Lib.hid (h_X.out.below hb)
  replace h_Y := Lib.hid (h_Y.out.below hb)
  replace h_XX := Lib.hid (h_XX.out.below hb)
  replace h_YY := Lib.hid (h_YY.out.below hb)
  replace h_kc := Lib.hid (KC.below h_kc.out hb)
  replace BB := Lib.hid (below_next BB.out hb)
  clear hb hge
  obtain ⟨c_XX0, c_XX1, c_XX2, c_XX3, f_XX0, f_XX1, f_XX2, f_XX3⟩ := reads4 r_XX.out
  have l_XX := r_XX.out.lt
  obtain ⟨c_YY0, c_YY1, c_YY2, c_YY3, f_YY0, f_YY1, f_YY2, f_YY3⟩ := reads4 r_YY.out
  have l_YY := r_YY.out.lt
  go_wp2_with fail
  refine (C_R.out _ _ _ h_XX.out h_YY.out).mono ?_
  rintro e w26 ⟨v_R, rfl, hb, h_R⟩
  obtain ⟨A_R, n_R, cap_R, B_R, m_R, cup_R, rfl, -, -⟩ := id h_R.form
  replace h_R := Lib.hid h_R
  clear c_XX0 c_XX1 c_XX2 c_XX3 f_XX0 f_XX1 f_XX2 f_XX3 l_XX c_YY0 c_YY1 c_YY2 c_YY3 f_YY0 f_YY1 f_YY2 f_YY3 l_YY
  replace r_r1 := Lib.hid (r_r1.out.keep hb)
  replace r_r2 := Lib.hid (r_r2.out.keep hb)
  replace r_ON := Lib.hid (r_ON.out.keep hb)
  replace r_X := Lib.hid (r_X.out.keep hb)
  replace r_Y := Lib.hid (r_Y.out.keep hb)
  replace r_XX := Lib.hid (r_XX.out.keep hb)
  replace r_YY := Lib.hid (r_YY.out.keep hb)
  replace r_XY := Lib.hid (r_XY.out.keep hb)
  replace h_ON := Lib.hid (h_ON.out.below hb)
  replace h_K3 := Lib.hid (h_K3.out.below hb)
  replace h_K4 := Lib.hid (h_K4.out.below hb)
  replace h_K5 := Lib.hid (h_K5.out.below hb)
  replace h_K6 := Lib.hid (h_K6.out.below hb)
  replace h_X := Lib.hid (h_X.out.below hb)
  replace h_Y := Lib.hid (h_Y.out.below hb)
  replace h_XX := Lib.hid (h_XX.out.below hb)
  replace h_YY := Lib.hid (h_YY.out.below hb)
  replace h_XY := Lib.hid (h_XY.out.below hb)
  replace h_kc := Lib.hid (KC.below h_kc.out hb)
  replace BB := Lib.hid (below_next BB.out hb)
  clear hb
  go_wp2_with fail
  have d_R := Lib.hid (And.intro BB.out.size (And.intro r_r1.out.lt (And.intro r_r2.out.lt (And.intro r_ON.out.lt (And.intro r_X.out.lt (And.intro r_Y.out.lt (And.intro r_XX.out.lt (And.intro r_YY.out.lt (And.intro r_XY.out.lt (True.intro))))))))))
  obtain ⟨hb, r_R⟩ := laid w26 #[.bool (sgn (pR)), .slice A_R n_R cap_R, .bool (sgn (qR)), .slice B_R m_R cup_R] 54
  replace r_r1 := Lib.hid (r_r1.out.keep hb)
  replace r_r2 := Lib.hid (r_r2.out.keep hb)
  replace r_ON := Lib.hid (r_ON.out.keep hb)
  replace r_X := Lib.hid (r_X.out.keep hb)
  replace r_Y := Lib.hid (r_Y.out.keep hb)
  replace r_XX := Lib.hid (r_XX.out.keep hb)
  replace r_YY := Lib.hid (r_YY.out.keep hb)
  replace r_XY := Lib.hid (r_XY.out.keep hb)
  replace h_ON := Lib.hid (h_ON.out.below hb)
  replace h_K3 := Lib.hid (h_K3.out.below hb)
  replace h_K4 := Lib.hid (h_K4.out.below hb)
  replace h_K5 := Lib.hid (h_K5.out.below hb)
  replace h_K6 := Lib.hid (h_K6.out.below hb)
  replace h_X := Lib.hid (h_X.out.below hb)
  replace h_Y := Lib.hid (h_Y.out.below hb)
  replace h_XX := Lib.hid (h_XX.out.below hb)
  replace h_YY := Lib.hid (h_YY.out.below hb)
  replace h_XY := Lib.hid (h_XY.out.below hb)
  replace h_R := Lib.hid (h_R.out.below hb)
  replace h_kc := Lib.hid (KC.below h_kc.out hb)
  replace BB := Lib.hid (below_next BB.out hb)
  replace r_R := Lib.hid r_R
  clear hb
  generalize w26.alloc (.cells #[.bool (sgn (pR)), .slice A_R n_R cap_R, .bool (sgn (qR)), .slice B_R m_R cup_R] 54) = w27 at *
  generalize w26.heap.size = g_R at *
  clear C_R
  go_cut [20] (fun s5 wc4 => ∃ gp A3 n3 c3 B3 m3 d3, s5 = .pointer (some ⟨gp, 0, none⟩) ∧ Hid (AtB wc4 gp #[.bool (sgn (pG)), .slice A3 n3 c3, .bool (sgn (qG)), .slice B3 m3 d3] 54 ∧ RR wc4 (.agg #[.bool (sgn (pG)), .slice A3 n3 c3, .bool (sgn (qG)), .slice B3 m3 d3]) (pG) (qG) ∧ Below w27.heap.size w27 wc4 ∧ w27.heap.size ≤ gp))
  case first =>
    as_aux_lemma =>
      clear HE O_TW O_PA O_C0 O_C1 C_T6 C_T7 C_T8 C_T9 C_T10 C_T11 C_U C_T12 C_T13 C_T14 C_T15 C_T16 C_T17 C_V C_Z1 C_E1 C_Z2 C_E2
      have HK3 := Lib.hid (fun (w9 : World) (h9 : Below w27.heap.size w27 w9) => (⟨(h_kc.out.below h9).2 12 _ rfl, (h_kc.out.below h9).2 13 _ rfl, (h_kc.out.below h9).2 14 _ rfl, (h_kc.out.below h9).2 15 _ rfl, (h_kc.out.below h9).2 16 _ rfl, (h_kc.out.below h9).2 17 _ rfl, (h_kc.out.below h9).2 18 _ rfl, (h_kc.out.below h9).2 19 _ rfl⟩ : w9.cell? ⟨g_k, 12, none⟩ = some (.bool (sgn (k1))) ∧ w9.cell? ⟨g_k, 13, none⟩ = some (.slice A_K3 n_K3 cap_K3) ∧ w9.cell? ⟨g_k, 14, none⟩ = some (.bool (sgn (65536))) ∧ w9.cell? ⟨g_k, 15, none⟩ = some (.slice B_K3 m_K3 cup_K3) ∧ w9.cell? ⟨g_k, 16, none⟩ = some (.bool (sgn (k2))) ∧ w9.cell? ⟨g_k, 17, none⟩ = some (.slice A_K4 n_K4 cap_K4) ∧ w9.cell? ⟨g_k, 18, none⟩ = some (.bool (sgn (65536))) ∧ w9.cell? ⟨g_k, 19, none⟩ = some (.slice B_K4 m_K4 cup_K4)))
      have KK := Lib.hid (fun (w9 : World) (h : Below w27.heap.size w27 w9) => (⟨HK3.out _ h, cells4 (r_ON.out.keep h), cells4 (r_R.out.keep h)⟩ : (w9.cell? ⟨g_k, 12, none⟩ = some (.bool (sgn (k1))) ∧ w9.cell? ⟨g_k, 13, none⟩ = some (.slice A_K3 n_K3 cap_K3) ∧ w9.cell? ⟨g_k, 14, none⟩ = some (.bool (sgn (65536))) ∧ w9.cell? ⟨g_k, 15, none⟩ = some (.slice B_K3 m_K3 cup_K3) ∧ w9.cell? ⟨g_k, 16, none⟩ = some (.bool (sgn (k2))) ∧ w9.cell? ⟨g_k, 17, none⟩ = some (.slice A_K4 n_K4 cap_K4) ∧ w9.cell? ⟨g_k, 18, none⟩ = some (.bool (sgn (65536))) ∧ w9.cell? ⟨g_k, 19, none⟩ = some (.slice B_K4 m_K4 cup_K4)) ∧ (w9.cell? ⟨g_ON, 0, none⟩ = some (.bool (sgn (1))) ∧ w9.cell? ⟨g_ON, 1, none⟩ = some (.slice A_ON n_ON cap_ON) ∧ w9.cell? ⟨g_ON, 2, none⟩ = some (.bool (sgn (1))) ∧ w9.cell? ⟨g_ON, 3, none⟩ = some (.slice B_ON m_ON cup_ON)) ∧ (w9.cell? ⟨g_R, 0, none⟩ = some (.bool (sgn (pR))) ∧ w9.cell? ⟨g_R, 1, none⟩ = some (.slice A_R n_R cap_R) ∧ w9.cell? ⟨g_R, 2, none⟩ = some (.bool (sgn (qR))) ∧ w9.cell? ⟨g_R, 3, none⟩ = some (.slice B_R m_R cup_R))))
      have K0 := KK.out w27 (Below.refl _ _)
      have KD := KK.out w27.drew (below_drew (Below.refl _ _))
      have tok0 : Hid True := trivial
      have tok1 : Hid True := trivial
      have tok2 : Hid True := trivial
      have tok3 : Hid True := trivial
      have tok4 : Hid True := trivial
      go_region_held3 (fun w9 => (w9.cell? ⟨g_k, 12, none⟩ = some (.bool (sgn (k1))) ∧ w9.cell? ⟨g_k, 13, none⟩ = some (.slice A_K3 n_K3 cap_K3) ∧ w9.cell? ⟨g_k, 14, none⟩ = some (.bool (sgn (65536))) ∧ w9.cell? ⟨g_k, 15, none⟩ = some (.slice B_K3 m_K3 cup_K3) ∧ w9.cell? ⟨g_k, 16, none⟩ = some (.bool (sgn (k2))) ∧ w9.cell? ⟨g_k, 17, none⟩ = some (.slice A_K4 n_K4 cap_K4) ∧ w9.cell? ⟨g_k, 18, none⟩ = some (.bool (sgn (65536))) ∧ w9.cell? ⟨g_k, 19, none⟩ = some (.slice B_K4 m_K4 cup_K4)) ∧ (w9.cell? ⟨g_ON, 0, none⟩ = some (.bool (sgn (1))) ∧ w9.cell? ⟨g_ON, 1, none⟩ = some (.slice A_ON n_ON cap_ON) ∧ w9.cell? ⟨g_ON, 2, none⟩ = some (.bool (sgn (1))) ∧ w9.cell? ⟨g_ON, 3, none⟩ = some (.slice B_ON m_ON cup_ON)) ∧ (w9.cell? ⟨g_R, 0, none⟩ = some (.bool (sgn (pR))) ∧ w9.cell? ⟨g_R, 1, none⟩ = some (.slice A_R n_R cap_R) ∧ w9.cell? ⟨g_R, 2, none⟩ = some (.bool (sgn (qR))) ∧ w9.cell? ⟨g_R, 3, none⟩ = some (.slice B_R m_R cup_R)))
          (first | with_reducible exact KD | with_reducible exact K0 | with_reducible exact K_w28 | with_reducible exact K_w29 | with_reducible exact K_w30 | with_reducible exact K_w31 | with_reducible exact K_w32 | (refine KK.out _ ?_; repeat' (first | with_reducible exact Below.refl _ _ | with_reducible exact B_w28.out | with_reducible exact B_w29.out | with_reducible exact B_w30.out | with_reducible exact B_w31.out | with_reducible exact B_w32.out | with_reducible apply below_new | with_reducible apply below_drew | with_reducible apply below_set | omega)))
          (first
            | (go_at_call 45
               have t_k := tok0
               refine (C_T2.out _ _ _ (h_K3.out.below ?_) (h_R.out.below ?_)).mono ?_
               · repeat (first | with_reducible exact Below.refl _ _ | with_reducible apply below_drew | with_reducible apply below_new)
               · repeat (first | with_reducible exact Below.refl _ _ | with_reducible apply below_drew | with_reducible apply below_new)
               rintro e w28 ⟨v_T2, rfl, hb, h_T2⟩
               obtain ⟨A_T2, n_T2, cap_T2, B_T2, m_T2, cup_T2, rfl, -, -⟩ := id h_T2.form
               replace h_T2 := Lib.hid h_T2
               have B_w28 := Lib.hid (reg_next (w0 := w27) (by repeat (first | with_reducible exact Below.refl _ _ | with_reducible apply below_drew | with_reducible apply below_new)) hb)
               have K_w28 := KK.out _ B_w28.out
               obtain ⟨hc_w28, hf_w28⟩ := below_reads hb
               have hz_w28 := hb.size
               try simp at hz_w28
               try (have z1_w28 := Nat.lt_of_succ_le hz_w28)
               try (have z2_w28 := Nat.lt_of_succ_lt z1_w28)
               have HB_w28 := Lib.hid hb
               clear hb
               clear t_k tok0)
            | (go_at_call 45
               have t_k := tok1
               refine (C_T3.out _ _ _ (h_R.out.below ?_) (h_R.out.below ?_)).mono ?_
               · repeat (first | with_reducible exact Below.refl _ _ | with_reducible exact B_w28.out | with_reducible apply below_drew | with_reducible apply below_new)
               · repeat (first | with_reducible exact Below.refl _ _ | with_reducible exact B_w28.out | with_reducible apply below_drew | with_reducible apply below_new)
               rintro e w29 ⟨v_T3, rfl, hb, h_T3⟩
               obtain ⟨A_T3, n_T3, cap_T3, B_T3, m_T3, cup_T3, rfl, -, -⟩ := id h_T3.form
               replace h_T3 := Lib.hid h_T3
               replace h_T2 := Lib.hid (h_T2.out.below (below_next (by repeat (first | with_reducible exact Below.refl _ _ | with_reducible apply below_new | with_reducible apply below_drew)) hb))
               have B_w29 := Lib.hid (below_next (by repeat (first | with_reducible exact B_w28.out | with_reducible apply below_new | with_reducible apply below_drew)) hb)
               have K_w29 := KK.out _ B_w29.out
               obtain ⟨hc_w29, hf_w29⟩ := below_reads hb
               have hz_w29 := hb.size
               try simp at hz_w29
               try (have z1_w29 := Nat.lt_of_succ_le hz_w29)
               try (have z2_w29 := Nat.lt_of_succ_lt z1_w29)
               have HB_w29 := Lib.hid hb
               have y_w29_w28 := Nat.le_trans HB_w28.out.size (Nat.le_trans (by (try simp only [World.size_alloc]); omega) hb.size)
               try simp at y_w29_w28
               try (have z3_w29_w28 := Nat.lt_of_succ_le y_w29_w28)
               try (have z4_w29_w28 := Nat.lt_of_succ_lt z3_w29_w28)
               clear hb
               clear t_k tok1)
            | (go_at_call 45
               have t_k := tok2
               refine (C_T4.out _ _ _ (h_K4.out.below ?_) (h_T3.out.below ?_)).mono ?_
               · repeat (first | with_reducible exact Below.refl _ _ | with_reducible exact B_w29.out | with_reducible apply below_drew | with_reducible apply below_new)
               · repeat (first | with_reducible exact Below.refl _ _ | with_reducible exact B_w29.out | with_reducible apply below_drew | with_reducible apply below_new)
               rintro e w30 ⟨v_T4, rfl, hb, h_T4⟩
               obtain ⟨A_T4, n_T4, cap_T4, B_T4, m_T4, cup_T4, rfl, -, -⟩ := id h_T4.form
               replace h_T4 := Lib.hid h_T4
               replace h_T2 := Lib.hid (h_T2.out.below (below_next (by repeat (first | with_reducible exact Below.refl _ _ | with_reducible apply below_new | with_reducible apply below_drew)) hb))
               replace h_T3 := Lib.hid (h_T3.out.below (below_next (by repeat (first | with_reducible exact Below.refl _ _ | with_reducible apply below_new | with_reducible apply below_drew)) hb))
               have B_w30 := Lib.hid (below_next (by repeat (first | with_reducible exact B_w29.out | with_reducible apply below_new | with_reducible apply below_drew)) hb)
               have K_w30 := KK.out _ B_w30.out
               obtain ⟨hc_w30, hf_w30⟩ := below_reads hb
               have hz_w30 := hb.size
               try simp at hz_w30
               try (have z1_w30 := Nat.lt_of_succ_le hz_w30)
               try (have z2_w30 := Nat.lt_of_succ_lt z1_w30)
               have HB_w30 := Lib.hid hb
               have y_w30_w28 := Nat.le_trans HB_w28.out.size (Nat.le_trans (by (try simp only [World.size_alloc]); omega) hb.size)
               try simp at y_w30_w28
               try (have z3_w30_w28 := Nat.lt_of_succ_le y_w30_w28)
               try (have z4_w30_w28 := Nat.lt_of_succ_lt z3_w30_w28)
               have y_w30_w29 := Nat.le_trans HB_w29.out.size (Nat.le_trans (by (try simp only [World.size_alloc]); omega) hb.size)
               try simp at y_w30_w29
               try (have z3_w30_w29 := Nat.lt_of_succ_le y_w30_w29)
               try (have z4_w30_w29 := Nat.lt_of_succ_lt z3_w30_w29)
               clear hb
               clear t_k tok2)
            | (go_at_call 47
               have t_k := tok3
               refine (C_T5.out _ _ _ (h_T2.out.below ?_) (h_T4.out.below ?_)).mono ?_
               · repeat (first | with_reducible exact Below.refl _ _ | with_reducible exact B_w30.out | with_reducible apply below_drew | with_reducible apply below_new)
               · repeat (first | with_reducible exact Below.refl _ _ | with_reducible exact B_w30.out | with_reducible apply below_drew | with_reducible apply below_new)
               rintro e w31 ⟨v_T5, rfl, hb, h_T5⟩
               obtain ⟨A_T5, n_T5, cap_T5, B_T5, m_T5, cup_T5, rfl, -, -⟩ := id h_T5.form
               replace h_T5 := Lib.hid h_T5
               replace h_T2 := Lib.hid (h_T2.out.below (below_next (by repeat (first | with_reducible exact Below.refl _ _ | with_reducible apply below_new | with_reducible apply below_drew)) hb))
               replace h_T3 := Lib.hid (h_T3.out.below (below_next (by repeat (first | with_reducible exact Below.refl _ _ | with_reducible apply below_new | with_reducible apply below_drew)) hb))
               replace h_T4 := Lib.hid (h_T4.out.below (below_next (by repeat (first | with_reducible exact Below.refl _ _ | with_reducible apply below_new | with_reducible apply below_drew)) hb))
               have B_w31 := Lib.hid (below_next (by repeat (first | with_reducible exact B_w30.out | with_reducible apply below_new | with_reducible apply below_drew)) hb)
               have K_w31 := KK.out _ B_w31.out
               obtain ⟨hc_w31, hf_w31⟩ := below_reads hb
               have hz_w31 := hb.size
               try simp at hz_w31
               try (have z1_w31 := Nat.lt_of_succ_le hz_w31)
               try (have z2_w31 := Nat.lt_of_succ_lt z1_w31)
               have HB_w31 := Lib.hid hb
               have y_w31_w28 := Nat.le_trans HB_w28.out.size (Nat.le_trans (by (try simp only [World.size_alloc]); omega) hb.size)
               try simp at y_w31_w28
               try (have z3_w31_w28 := Nat.lt_of_succ_le y_w31_w28)
               try (have z4_w31_w28 := Nat.lt_of_succ_lt z3_w31_w28)
               have y_w31_w29 := Nat.le_trans HB_w29.out.size (Nat.le_trans (by (try simp only [World.size_alloc]); omega) hb.size)
               try simp at y_w31_w29
               try (have z3_w31_w29 := Nat.lt_of_succ_le y_w31_w29)
               try (have z4_w31_w29 := Nat.lt_of_succ_lt z3_w31_w29)
               have y_w31_w30 := Nat.le_trans HB_w30.out.size (Nat.le_trans (by (try simp only [World.size_alloc]); omega) hb.size)
               try simp at y_w31_w30
               try (have z3_w31_w30 := Nat.lt_of_succ_le y_w31_w30)
               try (have z4_w31_w30 := Nat.lt_of_succ_lt z3_w31_w30)
               clear hb
               clear t_k tok3)
            | (go_at_call 47
               have t_k := tok4
               refine (C_G.out _ _ _ (h_ON.out.below ?_) (h_T5.out.below ?_)).mono ?_
               · repeat (first | with_reducible exact Below.refl _ _ | with_reducible exact B_w31.out | with_reducible apply below_drew | with_reducible apply below_new)
               · repeat (first | with_reducible exact Below.refl _ _ | with_reducible exact B_w31.out | with_reducible apply below_drew | with_reducible apply below_new)
               rintro e w32 ⟨v_G, rfl, hb, h_G⟩
               obtain ⟨A_G, n_G, cap_G, B_G, m_G, cup_G, rfl, -, -⟩ := id h_G.form
               replace h_G := Lib.hid h_G
               replace h_T2 := Lib.hid (h_T2.out.below (below_next (by repeat (first | with_reducible exact Below.refl _ _ | with_reducible apply below_new | with_reducible apply below_drew)) hb))
               replace h_T3 := Lib.hid (h_T3.out.below (below_next (by repeat (first | with_reducible exact Below.refl _ _ | with_reducible apply below_new | with_reducible apply below_drew)) hb))
               replace h_T4 := Lib.hid (h_T4.out.below (below_next (by repeat (first | with_reducible exact Below.refl _ _ | with_reducible apply below_new | with_reducible apply below_drew)) hb))
               replace h_T5 := Lib.hid (h_T5.out.below (below_next (by repeat (first | with_reducible exact Below.refl _ _ | with_reducible apply below_new | with_reducible apply below_drew)) hb))
               have B_w32 := Lib.hid (below_next (by repeat (first | with_reducible exact B_w31.out | with_reducible apply below_new | with_reducible apply below_drew)) hb)
               have K_w32 := KK.out _ B_w32.out
               obtain ⟨hc_w32, hf_w32⟩ := below_reads hb
               have hz_w32 := hb.size
               try simp at hz_w32
               try (have z1_w32 := Nat.lt_of_succ_le hz_w32)
               try (have z2_w32 := Nat.lt_of_succ_lt z1_w32)
               have HB_w32 := Lib.hid hb
               have y_w32_w28 := Nat.le_trans HB_w28.out.size (Nat.le_trans (by (try simp only [World.size_alloc]); omega) hb.size)
               try simp at y_w32_w28
               try (have z3_w32_w28 := Nat.lt_of_succ_le y_w32_w28)
               try (have z4_w32_w28 := Nat.lt_of_succ_lt z3_w32_w28)
               have y_w32_w29 := Nat.le_trans HB_w29.out.size (Nat.le_trans (by (try simp only [World.size_alloc]); omega) hb.size)
               try simp at y_w32_w29
               try (have z3_w32_w29 := Nat.lt_of_succ_le y_w32_w29)
               try (have z4_w32_w29 := Nat.lt_of_succ_lt z3_w32_w29)
               have y_w32_w30 := Nat.le_trans HB_w30.out.size (Nat.le_trans (by (try simp only [World.size_alloc]); omega) hb.size)
               try simp at y_w32_w30
               try (have z3_w32_w30 := Nat.lt_of_succ_le y_w32_w30)
               try (have z4_w32_w30 := Nat.lt_of_succ_lt z3_w32_w30)
               have y_w32_w31 := Nat.le_trans HB_w31.out.size (Nat.le_trans (by (try simp only [World.size_alloc]); omega) hb.size)
               try simp at y_w32_w31
               try (have z3_w32_w31 := Nat.lt_of_succ_le y_w32_w31)
               try (have z4_w32_w31 := Nat.lt_of_succ_lt z3_w32_w31)
               clear hb
               clear t_k tok4))
      all_goals clear KK K0 KD K_w28 K_w29 K_w30 K_w31 K_w32
      all_goals go_wp2_with fail
      all_goals go_meet
      all_goals refine ⟨_, A_G, n_G, cap_G, B_G, m_G, cup_G, rfl, ⟨?_, ?_, ?_, ?_⟩⟩
      all_goals repeat' (first | with_reducible exact h_G.out | with_reducible exact B_w28.out | with_reducible exact B_w29.out | with_reducible exact B_w30.out | with_reducible exact B_w31.out | with_reducible exact B_w32.out | (with_reducible refine AtB.set4 (a := .bool false) (b := .slice none 0 0) (c := .bool false) (d := .slice none 0 0) (T := 54) ?_ _ _ _ _) | (with_reducible refine RR.alloc ?_ _) | (with_reducible refine RR.far4 (cs := #[.bool false, .slice none 0 0, .bool false, .slice none 0 0]) ?_ ?_ _ _ _ _) | with_reducible exact Below.refl _ _ | with_reducible apply below_new | with_reducible apply below_drew | (with_reducible refine below_set ?_ ?_ _) | (with_reducible refine AtB.set2 (a := .bool false) (b := .slice none 0 0) (T := 52) ?_ _ _) | (with_reducible refine AtB.set2 (a := .int .i64 0) (b := .int .u64 0) (T := 113) ?_ _ _) | (with_reducible refine AtB.far2 ?_ ?_ _ _) | (with_reducible refine BR.alloc ?_ _) | (with_reducible refine BR.far2 (a := .bool false) (b := .slice none 0 0) (T := 52) ?_ ?_ (by decide) _ _) | (with_reducible refine new_at_eq ?_ _ _; first | rfl | (simp; done)) | (with_reducible refine AtB.alloc ?_ _) | with_reducible apply AtB.drew | (with_reducible refine AtB.keep ?_ HB_w32.out) | (with_reducible refine AtB.keep ?_ HB_w31.out) | (with_reducible refine AtB.keep ?_ HB_w30.out) | (with_reducible refine AtB.keep ?_ HB_w29.out) | (with_reducible refine AtB.keep ?_ HB_w28.out) | omega)
  clear C_T2 C_T3 C_T4 C_T5 C_G
  obtain ⟨wc4, rfl⟩ : ∃ wo : World, wo = wc := ⟨_, rfl⟩
  obtain ⟨g_G, A_G, n_G, cap_G, B_G, m_G, cup_G, rfl, hcut⟩ := hcut
  obtain ⟨r_G, h_G, hb, hge⟩ := hcut.out
  clear hcut
  replace r_G := Lib.hid r_G; replace h_G := Lib.hid h_G
  have d_G := Lib.hid (And.intro (Nat.le_trans BB.out.size hge) (And.intro (Nat.lt_of_lt_of_le r_r1.out.lt hge) (And.intro (Nat.lt_of_lt_of_le r_r2.out.lt hge) (And.intro (Nat.lt_of_lt_of_le r_ON.out.lt hge) (And.intro (Nat.lt_of_lt_of_le r_X.out.lt hge) (And.intro (Nat.lt_of_lt_of_le r_Y.out.lt hge) (And.intro (Nat.lt_of_lt_of_le r_XX.out.lt hge) (And.intro (Nat.lt_of_lt_of_le r_YY.out.lt hge) (And.intro (Nat.lt_of_lt_of_le r_XY.out.lt hge) (And.intro (Nat.lt_of_lt_of_le r_R.out.lt hge) (True.intro)))))))))))
  clear r_ON
  clear h_ON
  clear h_K3
  clear h_K4
  replace r_r1 := Lib.hid (r_r1.out.keep hb)
  replace r_r2 := Lib.hid (r_r2.out.keep hb)
  replace r_X := Lib.hid (r_X.out.keep hb)
  replace r_Y := Lib.hid (r_Y.out.keep hb)
  replace r_XX := Lib.hid (r_XX.out.keep hb)
  replace r_YY := Lib.hid (r_YY.out.keep hb)
  replace r_XY := Lib.hid (r_XY.out.keep hb)
  replace r_R := Lib.hid (r_R.out.keep hb)
  replace h_K5 := Lib.hid (h_K5.out.below hb)
  replace h_K6 := Lib.hid (h_K6.out.below hb)
  replace h_X := Lib.hid (h_X.out.below hb)
  replace h_Y := Lib.hid (h_Y.out.below hb)
  replace h_XX := Lib.hid (h_XX.out.below hb)
  replace h_YY := Lib.hid (h_YY.out.below hb)
  replace h_XY := Lib.hid (h_XY.out.below hb)
  replace h_R := Lib.hid (h_R.out.below hb)
  replace h_kc := Lib.hid (KC.below h_kc.out hb)
  replace BB := Lib.hid (below_next BB.out hb)
  clear hb hge
  go_wp2_with fail
  refine (O_TW.out _).mono ?_
  rintro e w33 ⟨v_TW, rfl, hb, h_TW⟩
  obtain ⟨A_TW, n_TW, cap_TW, B_TW, m_TW, cup_TW, rfl, -, -⟩ := id h_TW.form
  replace h_TW := Lib.hid h_TW
  replace r_r1 := Lib.hid (r_r1.out.keep hb)
  replace r_r2 := Lib.hid (r_r2.out.keep hb)
  replace r_X := Lib.hid (r_X.out.keep hb)
  replace r_Y := Lib.hid (r_Y.out.keep hb)
  replace r_XX := Lib.hid (r_XX.out.keep hb)
  replace r_YY := Lib.hid (r_YY.out.keep hb)
  replace r_XY := Lib.hid (r_XY.out.keep hb)
  replace r_R := Lib.hid (r_R.out.keep hb)
  replace r_G := Lib.hid (r_G.out.keep hb)
  replace h_K5 := Lib.hid (h_K5.out.below hb)
  replace h_K6 := Lib.hid (h_K6.out.below hb)
  replace h_X := Lib.hid (h_X.out.below hb)
  replace h_Y := Lib.hid (h_Y.out.below hb)
  replace h_XX := Lib.hid (h_XX.out.below hb)
  replace h_YY := Lib.hid (h_YY.out.below hb)
  replace h_XY := Lib.hid (h_XY.out.below hb)
  replace h_R := Lib.hid (h_R.out.below hb)
  replace h_G := Lib.hid (h_G.out.below hb)
  replace h_kc := Lib.hid (KC.below h_kc.out hb)
  replace BB := Lib.hid (below_next BB.out hb)
  clear hb
  go_wp2_with fail
  have d_TW := Lib.hid (And.intro BB.out.size (And.intro r_r1.out.lt (And.intro r_r2.out.lt (And.intro r_X.out.lt (And.intro r_Y.out.lt (And.intro r_XX.out.lt (And.intro r_YY.out.lt (And.intro r_XY.out.lt (And.intro r_R.out.lt (And.intro r_G.out.lt (True.intro)))))))))))
  obtain ⟨hb, r_TW⟩ := laid w33 #[.bool (sgn (2)), .slice A_TW n_TW cap_TW, .bool (sgn (1)), .slice B_TW m_TW cup_TW] 54
  replace r_r1 := Lib.hid (r_r1.out.keep hb)
  replace r_r2 := Lib.hid (r_r2.out.keep hb)
  replace r_X := Lib.hid (r_X.out.keep hb)
  replace r_Y := Lib.hid (r_Y.out.keep hb)
  replace r_XX := Lib.hid (r_XX.out.keep hb)
  replace r_YY := Lib.hid (r_YY.out.keep hb)
  replace r_XY := Lib.hid (r_XY.out.keep hb)
  replace r_R := Lib.hid (r_R.out.keep hb)
  replace r_G := Lib.hid (r_G.out.keep hb)
  replace h_K5 := Lib.hid (h_K5.out.below hb)
  replace h_K6 := Lib.hid (h_K6.out.below hb)
  replace h_X := Lib.hid (h_X.out.below hb)
  replace h_Y := Lib.hid (h_Y.out.below hb)
  replace h_XX := Lib.hid (h_XX.out.below hb)
  replace h_YY := Lib.hid (h_YY.out.below hb)
  replace h_XY := Lib.hid (h_XY.out.below hb)
  replace h_R := Lib.hid (h_R.out.below hb)
  replace h_G := Lib.hid (h_G.out.below hb)
  replace h_TW := Lib.hid (h_TW.out.below hb)
  replace h_kc := Lib.hid (KC.below h_kc.out hb)
  replace BB := Lib.hid (below_next BB.out hb)
  replace r_TW := Lib.hid r_TW
  clear hb
  generalize w33.alloc (.cells #[.bool (sgn (2)), .slice A_TW n_TW cap_TW, .bool (sgn (1)), .slice B_TW m_TW cup_TW] 54) = w34 at *
  generalize w33.heap.size = g_TW at *
  clear O_TW
  go_cut [22] (fun s5 wc5 => ∃ gp A3 n3 c3 B3 m3 d3, s5 = .pointer (some ⟨gp, 0, none⟩) ∧ Hid (AtB wc5 gp #[.bool (sgn (pU)), .slice A3 n3 c3, .bool (sgn (qU)), .slice B3 m3 d3] 54 ∧ RR wc5 (.agg #[.bool (sgn (pU)), .slice A3 n3 c3, .bool (sgn (qU)), .slice B3 m3 d3]) (pU) (qU) ∧ Below w34.heap.size w34 wc5 ∧ w34.heap.size ≤ gp))
  case first =>
    as_aux_lemma =>
      clear HE O_PA O_C0 O_C1 C_T12 C_T13 C_T14 C_T15 C_T16 C_T17 C_V C_Z1 C_E1 C_Z2 C_E2
      have HK4 := Lib.hid (fun (w9 : World) (h9 : Below w34.heap.size w34 w9) => (⟨(h_kc.out.below h9).2 20 _ rfl, (h_kc.out.below h9).2 21 _ rfl, (h_kc.out.below h9).2 22 _ rfl, (h_kc.out.below h9).2 23 _ rfl, (h_kc.out.below h9).2 24 _ rfl, (h_kc.out.below h9).2 25 _ rfl, (h_kc.out.below h9).2 26 _ rfl, (h_kc.out.below h9).2 27 _ rfl⟩ : w9.cell? ⟨g_k, 20, none⟩ = some (.bool (sgn (p1))) ∧ w9.cell? ⟨g_k, 21, none⟩ = some (.slice A_K5 n_K5 cap_K5) ∧ w9.cell? ⟨g_k, 22, none⟩ = some (.bool (sgn (65536))) ∧ w9.cell? ⟨g_k, 23, none⟩ = some (.slice B_K5 m_K5 cup_K5) ∧ w9.cell? ⟨g_k, 24, none⟩ = some (.bool (sgn (p2))) ∧ w9.cell? ⟨g_k, 25, none⟩ = some (.slice A_K6 n_K6 cap_K6) ∧ w9.cell? ⟨g_k, 26, none⟩ = some (.bool (sgn (65536))) ∧ w9.cell? ⟨g_k, 27, none⟩ = some (.slice B_K6 m_K6 cup_K6)))
      have KK := Lib.hid (fun (w9 : World) (h : Below w34.heap.size w34 w9) => (⟨HK4.out _ h, cells4 (r_X.out.keep h), cells4 (r_G.out.keep h), cells4 (r_XY.out.keep h), cells4 (r_R.out.keep h), cells4 (r_TW.out.keep h), cells4 (r_XX.out.keep h)⟩ : (w9.cell? ⟨g_k, 20, none⟩ = some (.bool (sgn (p1))) ∧ w9.cell? ⟨g_k, 21, none⟩ = some (.slice A_K5 n_K5 cap_K5) ∧ w9.cell? ⟨g_k, 22, none⟩ = some (.bool (sgn (65536))) ∧ w9.cell? ⟨g_k, 23, none⟩ = some (.slice B_K5 m_K5 cup_K5) ∧ w9.cell? ⟨g_k, 24, none⟩ = some (.bool (sgn (p2))) ∧ w9.cell? ⟨g_k, 25, none⟩ = some (.slice A_K6 n_K6 cap_K6) ∧ w9.cell? ⟨g_k, 26, none⟩ = some (.bool (sgn (65536))) ∧ w9.cell? ⟨g_k, 27, none⟩ = some (.slice B_K6 m_K6 cup_K6)) ∧ (w9.cell? ⟨g_X, 0, none⟩ = some (.bool (sgn (pX))) ∧ w9.cell? ⟨g_X, 1, none⟩ = some (.slice A_X n_X cap_X) ∧ w9.cell? ⟨g_X, 2, none⟩ = some (.bool (sgn (qX))) ∧ w9.cell? ⟨g_X, 3, none⟩ = some (.slice B_X m_X cup_X)) ∧ (w9.cell? ⟨g_G, 0, none⟩ = some (.bool (sgn (pG))) ∧ w9.cell? ⟨g_G, 1, none⟩ = some (.slice A_G n_G cap_G) ∧ w9.cell? ⟨g_G, 2, none⟩ = some (.bool (sgn (qG))) ∧ w9.cell? ⟨g_G, 3, none⟩ = some (.slice B_G m_G cup_G)) ∧ (w9.cell? ⟨g_XY, 0, none⟩ = some (.bool (sgn (pXY))) ∧ w9.cell? ⟨g_XY, 1, none⟩ = some (.slice A_XY n_XY cap_XY) ∧ w9.cell? ⟨g_XY, 2, none⟩ = some (.bool (sgn (qXY))) ∧ w9.cell? ⟨g_XY, 3, none⟩ = some (.slice B_XY m_XY cup_XY)) ∧ (w9.cell? ⟨g_R, 0, none⟩ = some (.bool (sgn (pR))) ∧ w9.cell? ⟨g_R, 1, none⟩ = some (.slice A_R n_R cap_R) ∧ w9.cell? ⟨g_R, 2, none⟩ = some (.bool (sgn (qR))) ∧ w9.cell? ⟨g_R, 3, none⟩ = some (.slice B_R m_R cup_R)) ∧ (w9.cell? ⟨g_TW, 0, none⟩ = some (.bool (sgn (2))) ∧ w9.cell? ⟨g_TW, 1, none⟩ = some (.slice A_TW n_TW cap_TW) ∧ w9.cell? ⟨g_TW, 2, none⟩ = some (.bool (sgn (1))) ∧ w9.cell? ⟨g_TW, 3, none⟩ = some (.slice B_TW m_TW cup_TW)) ∧ (w9.cell? ⟨g_XX, 0, none⟩ = some (.bool (sgn (pXX))) ∧ w9.cell? ⟨g_XX, 1, none⟩ = some (.slice A_XX n_XX cap_XX) ∧ w9.cell? ⟨g_XX, 2, none⟩ = some (.bool (sgn (qXX))) ∧ w9.cell? ⟨g_XX, 3, none⟩ = some (.slice B_XX m_XX cup_XX))))
      have K0 := KK.out w34 (Below.refl _ _)
      have KD := KK.out w34.drew (below_drew (Below.refl _ _))
      have tok0 : Hid True := trivial
      have tok1 : Hid True := trivial
      have tok2 : Hid True := trivial
      have tok3 : Hid True := trivial
      have tok4 : Hid True := trivial
      have tok5 : Hid True := trivial
      have tok6 : Hid True := trivial
      go_region_held3 (fun w9 => (w9.cell? ⟨g_k, 20, none⟩ = some (.bool (sgn (p1))) ∧ w9.cell? ⟨g_k, 21, none⟩ = some (.slice A_K5 n_K5 cap_K5) ∧ w9.cell? ⟨g_k, 22, none⟩ = some (.bool (sgn (65536))) ∧ w9.cell? ⟨g_k, 23, none⟩ = some (.slice B_K5 m_K5 cup_K5) ∧ w9.cell? ⟨g_k, 24, none⟩ = some (.bool (sgn (p2))) ∧ w9.cell? ⟨g_k, 25, none⟩ = some (.slice A_K6 n_K6 cap_K6) ∧ w9.cell? ⟨g_k, 26, none⟩ = some (.bool (sgn (65536))) ∧ w9.cell? ⟨g_k, 27, none⟩ = some (.slice B_K6 m_K6 cup_K6)) ∧ (w9.cell? ⟨g_X, 0, none⟩ = some (.bool (sgn (pX))) ∧ w9.cell? ⟨g_X, 1, none⟩ = some (.slice A_X n_X cap_X) ∧ w9.cell? ⟨g_X, 2, none⟩ = some (.bool (sgn (qX))) ∧ w9.cell? ⟨g_X, 3, none⟩ = some (.slice B_X m_X cup_X)) ∧ (w9.cell? ⟨g_G, 0, none⟩ = some (.bool (sgn (pG))) ∧ w9.cell? ⟨g_G, 1, none⟩ = some (.slice A_G n_G cap_G) ∧ w9.cell? ⟨g_G, 2, none⟩ = some (.bool (sgn (qG))) ∧ w9.cell? ⟨g_G, 3, none⟩ = some (.slice B_G m_G cup_G)) ∧ (w9.cell? ⟨g_XY, 0, none⟩ = some (.bool (sgn (pXY))) ∧ w9.cell? ⟨g_XY, 1, none⟩ = some (.slice A_XY n_XY cap_XY) ∧ w9.cell? ⟨g_XY, 2, none⟩ = some (.bool (sgn (qXY))) ∧ w9.cell? ⟨g_XY, 3, none⟩ = some (.slice B_XY m_XY cup_XY)) ∧ (w9.cell? ⟨g_R, 0, none⟩ = some (.bool (sgn (pR))) ∧ w9.cell? ⟨g_R, 1, none⟩ = some (.slice A_R n_R cap_R) ∧ w9.cell? ⟨g_R, 2, none⟩ = some (.bool (sgn (qR))) ∧ w9.cell? ⟨g_R, 3, none⟩ = some (.slice B_R m_R cup_R)) ∧ (w9.cell? ⟨g_TW, 0, none⟩ = some (.bool (sgn (2))) ∧ w9.cell? ⟨g_TW, 1, none⟩ = some (.slice A_TW n_TW cap_TW) ∧ w9.cell? ⟨g_TW, 2, none⟩ = some (.bool (sgn (1))) ∧ w9.cell? ⟨g_TW, 3, none⟩ = some (.slice B_TW m_TW cup_TW)) ∧ (w9.cell? ⟨g_XX, 0, none⟩ = some (.bool (sgn (pXX))) ∧ w9.cell? ⟨g_XX, 1, none⟩ = some (.slice A_XX n_XX cap_XX) ∧ w9.cell? ⟨g_XX, 2, none⟩ = some (.bool (sgn (qXX))) ∧ w9.cell? ⟨g_XX, 3, none⟩ = some (.slice B_XX m_XX cup_XX)))
          (first | with_reducible exact KD | with_reducible exact K0 | with_reducible exact K_w35 | with_reducible exact K_w36 | with_reducible exact K_w37 | with_reducible exact K_w38 | with_reducible exact K_w39 | with_reducible exact K_w40 | with_reducible exact K_w41 | (refine KK.out _ ?_; repeat' (first | with_reducible exact Below.refl _ _ | with_reducible exact B_w35.out | with_reducible exact B_w36.out | with_reducible exact B_w37.out | with_reducible exact B_w38.out | with_reducible exact B_w39.out | with_reducible exact B_w40.out | with_reducible exact B_w41.out | with_reducible apply below_new | with_reducible apply below_drew | with_reducible apply below_set | omega)))
          (first
            | (go_at_call 45
               have t_k := tok0
               refine (C_T6.out _ _ _ (h_X.out.below ?_) (h_G.out.below ?_)).mono ?_
               · repeat (first | with_reducible exact Below.refl _ _ | with_reducible apply below_drew | with_reducible apply below_new)
               · repeat (first | with_reducible exact Below.refl _ _ | with_reducible apply below_drew | with_reducible apply below_new)
               rintro e w35 ⟨v_T6, rfl, hb, h_T6⟩
               obtain ⟨A_T6, n_T6, cap_T6, B_T6, m_T6, cup_T6, rfl, -, -⟩ := id h_T6.form
               replace h_T6 := Lib.hid h_T6
               have B_w35 := Lib.hid (reg_next (w0 := w34) (by repeat (first | with_reducible exact Below.refl _ _ | with_reducible apply below_drew | with_reducible apply below_new)) hb)
               have K_w35 := KK.out _ B_w35.out
               obtain ⟨hc_w35, hf_w35⟩ := below_reads hb
               have hz_w35 := hb.size
               try simp at hz_w35
               try (have z1_w35 := Nat.lt_of_succ_le hz_w35)
               try (have z2_w35 := Nat.lt_of_succ_lt z1_w35)
               have HB_w35 := Lib.hid hb
               clear hb
               clear t_k tok0)
            | (go_at_call 45
               have t_k := tok1
               refine (C_T7.out _ _ _ (h_K5.out.below ?_) (h_XY.out.below ?_)).mono ?_
               · repeat (first | with_reducible exact Below.refl _ _ | with_reducible exact B_w35.out | with_reducible apply below_drew | with_reducible apply below_new)
               · repeat (first | with_reducible exact Below.refl _ _ | with_reducible exact B_w35.out | with_reducible apply below_drew | with_reducible apply below_new)
               rintro e w36 ⟨v_T7, rfl, hb, h_T7⟩
               obtain ⟨A_T7, n_T7, cap_T7, B_T7, m_T7, cup_T7, rfl, -, -⟩ := id h_T7.form
               replace h_T7 := Lib.hid h_T7
               replace h_T6 := Lib.hid (h_T6.out.below (below_next (by repeat (first | with_reducible exact Below.refl _ _ | with_reducible apply below_new | with_reducible apply below_drew)) hb))
               have B_w36 := Lib.hid (below_next (by repeat (first | with_reducible exact B_w35.out | with_reducible apply below_new | with_reducible apply below_drew)) hb)
               have K_w36 := KK.out _ B_w36.out
               obtain ⟨hc_w36, hf_w36⟩ := below_reads hb
               have hz_w36 := hb.size
               try simp at hz_w36
               try (have z1_w36 := Nat.lt_of_succ_le hz_w36)
               try (have z2_w36 := Nat.lt_of_succ_lt z1_w36)
               have HB_w36 := Lib.hid hb
               have y_w36_w35 := Nat.le_trans HB_w35.out.size (Nat.le_trans (by (try simp only [World.size_alloc]); omega) hb.size)
               try simp at y_w36_w35
               try (have z3_w36_w35 := Nat.lt_of_succ_le y_w36_w35)
               try (have z4_w36_w35 := Nat.lt_of_succ_lt z3_w36_w35)
               clear hb
               clear t_k tok1)
            | (go_at_call 45
               have t_k := tok2
               refine (C_T8.out _ _ _ (h_TW.out.below ?_) (h_XX.out.below ?_)).mono ?_
               · repeat (first | with_reducible exact Below.refl _ _ | with_reducible exact B_w36.out | with_reducible apply below_drew | with_reducible apply below_new)
               · repeat (first | with_reducible exact Below.refl _ _ | with_reducible exact B_w36.out | with_reducible apply below_drew | with_reducible apply below_new)
               rintro e w37 ⟨v_T8, rfl, hb, h_T8⟩
               obtain ⟨A_T8, n_T8, cap_T8, B_T8, m_T8, cup_T8, rfl, -, -⟩ := id h_T8.form
               replace h_T8 := Lib.hid h_T8
               replace h_T6 := Lib.hid (h_T6.out.below (below_next (by repeat (first | with_reducible exact Below.refl _ _ | with_reducible apply below_new | with_reducible apply below_drew)) hb))
               replace h_T7 := Lib.hid (h_T7.out.below (below_next (by repeat (first | with_reducible exact Below.refl _ _ | with_reducible apply below_new | with_reducible apply below_drew)) hb))
               have B_w37 := Lib.hid (below_next (by repeat (first | with_reducible exact B_w36.out | with_reducible apply below_new | with_reducible apply below_drew)) hb)
               have K_w37 := KK.out _ B_w37.out
               obtain ⟨hc_w37, hf_w37⟩ := below_reads hb
               have hz_w37 := hb.size
               try simp at hz_w37
               try (have z1_w37 := Nat.lt_of_succ_le hz_w37)
               try (have z2_w37 := Nat.lt_of_succ_lt z1_w37)
               have HB_w37 := Lib.hid hb
               have y_w37_w35 := Nat.le_trans HB_w35.out.size (Nat.le_trans (by (try simp only [World.size_alloc]); omega) hb.size)
               try simp at y_w37_w35
               try (have z3_w37_w35 := Nat.lt_of_succ_le y_w37_w35)
               try (have z4_w37_w35 := Nat.lt_of_succ_lt z3_w37_w35)
               have y_w37_w36 := Nat.le_trans HB_w36.out.size (Nat.le_trans (by (try simp only [World.size_alloc]); omega) hb.size)
               try simp at y_w37_w36
               try (have z3_w37_w36 := Nat.lt_of_succ_le y_w37_w36)
               try (have z4_w37_w36 := Nat.lt_of_succ_lt z3_w37_w36)
               clear hb
               clear t_k tok2)
            | (go_at_call 47
               have t_k := tok3
               refine (C_T9.out _ _ _ (h_R.out.below ?_) (h_T8.out.below ?_)).mono ?_
               · repeat (first | with_reducible exact Below.refl _ _ | with_reducible exact B_w37.out | with_reducible apply below_drew | with_reducible apply below_new)
               · repeat (first | with_reducible exact Below.refl _ _ | with_reducible exact B_w37.out | with_reducible apply below_drew | with_reducible apply below_new)
               rintro e w38 ⟨v_T9, rfl, hb, h_T9⟩
               obtain ⟨A_T9, n_T9, cap_T9, B_T9, m_T9, cup_T9, rfl, -, -⟩ := id h_T9.form
               replace h_T9 := Lib.hid h_T9
               replace h_T6 := Lib.hid (h_T6.out.below (below_next (by repeat (first | with_reducible exact Below.refl _ _ | with_reducible apply below_new | with_reducible apply below_drew)) hb))
               replace h_T7 := Lib.hid (h_T7.out.below (below_next (by repeat (first | with_reducible exact Below.refl _ _ | with_reducible apply below_new | with_reducible apply below_drew)) hb))
               replace h_T8 := Lib.hid (h_T8.out.below (below_next (by repeat (first | with_reducible exact Below.refl _ _ | with_reducible apply below_new | with_reducible apply below_drew)) hb))
               have B_w38 := Lib.hid (below_next (by repeat (first | with_reducible exact B_w37.out | with_reducible apply below_new | with_reducible apply below_drew)) hb)
               have K_w38 := KK.out _ B_w38.out
               obtain ⟨hc_w38, hf_w38⟩ := below_reads hb
               have hz_w38 := hb.size
               try simp at hz_w38
               try (have z1_w38 := Nat.lt_of_succ_le hz_w38)
               try (have z2_w38 := Nat.lt_of_succ_lt z1_w38)
               have HB_w38 := Lib.hid hb
               have y_w38_w35 := Nat.le_trans HB_w35.out.size (Nat.le_trans (by (try simp only [World.size_alloc]); omega) hb.size)
               try simp at y_w38_w35
               try (have z3_w38_w35 := Nat.lt_of_succ_le y_w38_w35)
               try (have z4_w38_w35 := Nat.lt_of_succ_lt z3_w38_w35)
               have y_w38_w36 := Nat.le_trans HB_w36.out.size (Nat.le_trans (by (try simp only [World.size_alloc]); omega) hb.size)
               try simp at y_w38_w36
               try (have z3_w38_w36 := Nat.lt_of_succ_le y_w38_w36)
               try (have z4_w38_w36 := Nat.lt_of_succ_lt z3_w38_w36)
               have y_w38_w37 := Nat.le_trans HB_w37.out.size (Nat.le_trans (by (try simp only [World.size_alloc]); omega) hb.size)
               try simp at y_w38_w37
               try (have z3_w38_w37 := Nat.lt_of_succ_le y_w38_w37)
               try (have z4_w38_w37 := Nat.lt_of_succ_lt z3_w38_w37)
               clear hb
               clear t_k tok3)
            | (go_at_call 45
               have t_k := tok4
               refine (C_T10.out _ _ _ (h_K6.out.below ?_) (h_T9.out.below ?_)).mono ?_
               · repeat (first | with_reducible exact Below.refl _ _ | with_reducible exact B_w38.out | with_reducible apply below_drew | with_reducible apply below_new)
               · repeat (first | with_reducible exact Below.refl _ _ | with_reducible exact B_w38.out | with_reducible apply below_drew | with_reducible apply below_new)
               rintro e w39 ⟨v_T10, rfl, hb, h_T10⟩
               obtain ⟨A_T10, n_T10, cap_T10, B_T10, m_T10, cup_T10, rfl, -, -⟩ := id h_T10.form
               replace h_T10 := Lib.hid h_T10
               replace h_T6 := Lib.hid (h_T6.out.below (below_next (by repeat (first | with_reducible exact Below.refl _ _ | with_reducible apply below_new | with_reducible apply below_drew)) hb))
               replace h_T7 := Lib.hid (h_T7.out.below (below_next (by repeat (first | with_reducible exact Below.refl _ _ | with_reducible apply below_new | with_reducible apply below_drew)) hb))
               replace h_T8 := Lib.hid (h_T8.out.below (below_next (by repeat (first | with_reducible exact Below.refl _ _ | with_reducible apply below_new | with_reducible apply below_drew)) hb))
               replace h_T9 := Lib.hid (h_T9.out.below (below_next (by repeat (first | with_reducible exact Below.refl _ _ | with_reducible apply below_new | with_reducible apply below_drew)) hb))
               have B_w39 := Lib.hid (below_next (by repeat (first | with_reducible exact B_w38.out | with_reducible apply below_new | with_reducible apply below_drew)) hb)
               have K_w39 := KK.out _ B_w39.out
               obtain ⟨hc_w39, hf_w39⟩ := below_reads hb
               have hz_w39 := hb.size
               try simp at hz_w39
               try (have z1_w39 := Nat.lt_of_succ_le hz_w39)
               try (have z2_w39 := Nat.lt_of_succ_lt z1_w39)
               have HB_w39 := Lib.hid hb
               have y_w39_w35 := Nat.le_trans HB_w35.out.size (Nat.le_trans (by (try simp only [World.size_alloc]); omega) hb.size)
               try simp at y_w39_w35
               try (have z3_w39_w35 := Nat.lt_of_succ_le y_w39_w35)
               try (have z4_w39_w35 := Nat.lt_of_succ_lt z3_w39_w35)
               have y_w39_w36 := Nat.le_trans HB_w36.out.size (Nat.le_trans (by (try simp only [World.size_alloc]); omega) hb.size)
               try simp at y_w39_w36
               try (have z3_w39_w36 := Nat.lt_of_succ_le y_w39_w36)
               try (have z4_w39_w36 := Nat.lt_of_succ_lt z3_w39_w36)
               have y_w39_w37 := Nat.le_trans HB_w37.out.size (Nat.le_trans (by (try simp only [World.size_alloc]); omega) hb.size)
               try simp at y_w39_w37
               try (have z3_w39_w37 := Nat.lt_of_succ_le y_w39_w37)
               try (have z4_w39_w37 := Nat.lt_of_succ_lt z3_w39_w37)
               have y_w39_w38 := Nat.le_trans HB_w38.out.size (Nat.le_trans (by (try simp only [World.size_alloc]); omega) hb.size)
               try simp at y_w39_w38
               try (have z3_w39_w38 := Nat.lt_of_succ_le y_w39_w38)
               try (have z4_w39_w38 := Nat.lt_of_succ_lt z3_w39_w38)
               clear hb
               clear t_k tok4)
            | (go_at_call 47
               have t_k := tok5
               refine (C_T11.out _ _ _ (h_T7.out.below ?_) (h_T10.out.below ?_)).mono ?_
               · repeat (first | with_reducible exact Below.refl _ _ | with_reducible exact B_w39.out | with_reducible apply below_drew | with_reducible apply below_new)
               · repeat (first | with_reducible exact Below.refl _ _ | with_reducible exact B_w39.out | with_reducible apply below_drew | with_reducible apply below_new)
               rintro e w40 ⟨v_T11, rfl, hb, h_T11⟩
               obtain ⟨A_T11, n_T11, cap_T11, B_T11, m_T11, cup_T11, rfl, -, -⟩ := id h_T11.form
               replace h_T11 := Lib.hid h_T11
               replace h_T6 := Lib.hid (h_T6.out.below (below_next (by repeat (first | with_reducible exact Below.refl _ _ | with_reducible apply below_new | with_reducible apply below_drew)) hb))
               replace h_T7 := Lib.hid (h_T7.out.below (below_next (by repeat (first | with_reducible exact Below.refl _ _ | with_reducible apply below_new | with_reducible apply below_drew)) hb))
               replace h_T8 := Lib.hid (h_T8.out.below (below_next (by repeat (first | with_reducible exact Below.refl _ _ | with_reducible apply below_new | with_reducible apply below_drew)) hb))
               replace h_T9 := Lib.hid (h_T9.out.below (below_next (by repeat (first | with_reducible exact Below.refl _ _ | with_reducible apply below_new | with_reducible apply below_drew)) hb))
               replace h_T10 := Lib.hid (h_T10.out.below (below_next (by repeat (first | with_reducible exact Below.refl _ _ | with_reducible apply below_new | with_reducible apply below_drew)) hb))
               have B_w40 := Lib.hid (below_next (by repeat (first | with_reducible exact B_w39.out | with_reducible apply below_new | with_reducible apply below_drew)) hb)
               have K_w40 := KK.out _ B_w40.out
               obtain ⟨hc_w40, hf_w40⟩ := below_reads hb
               have hz_w40 := hb.size
               try simp at hz_w40
               try (have z1_w40 := Nat.lt_of_succ_le hz_w40)
               try (have z2_w40 := Nat.lt_of_succ_lt z1_w40)
               have HB_w40 := Lib.hid hb
               have y_w40_w35 := Nat.le_trans HB_w35.out.size (Nat.le_trans (by (try simp only [World.size_alloc]); omega) hb.size)
               try simp at y_w40_w35
               try (have z3_w40_w35 := Nat.lt_of_succ_le y_w40_w35)
               try (have z4_w40_w35 := Nat.lt_of_succ_lt z3_w40_w35)
               have y_w40_w36 := Nat.le_trans HB_w36.out.size (Nat.le_trans (by (try simp only [World.size_alloc]); omega) hb.size)
               try simp at y_w40_w36
               try (have z3_w40_w36 := Nat.lt_of_succ_le y_w40_w36)
               try (have z4_w40_w36 := Nat.lt_of_succ_lt z3_w40_w36)
               have y_w40_w37 := Nat.le_trans HB_w37.out.size (Nat.le_trans (by (try simp only [World.size_alloc]); omega) hb.size)
               try simp at y_w40_w37
               try (have z3_w40_w37 := Nat.lt_of_succ_le y_w40_w37)
               try (have z4_w40_w37 := Nat.lt_of_succ_lt z3_w40_w37)
               have y_w40_w38 := Nat.le_trans HB_w38.out.size (Nat.le_trans (by (try simp only [World.size_alloc]); omega) hb.size)
               try simp at y_w40_w38
               try (have z3_w40_w38 := Nat.lt_of_succ_le y_w40_w38)
               try (have z4_w40_w38 := Nat.lt_of_succ_lt z3_w40_w38)
               have y_w40_w39 := Nat.le_trans HB_w39.out.size (Nat.le_trans (by (try simp only [World.size_alloc]); omega) hb.size)
               try simp at y_w40_w39
               try (have z3_w40_w39 := Nat.lt_of_succ_le y_w40_w39)
               try (have z4_w40_w39 := Nat.lt_of_succ_lt z3_w40_w39)
               clear hb
               clear t_k tok5)
            | (go_at_call 47
               have t_k := tok6
               refine (C_U.out _ _ _ (h_T6.out.below ?_) (h_T11.out.below ?_)).mono ?_
               · repeat (first | with_reducible exact Below.refl _ _ | with_reducible exact B_w40.out | with_reducible apply below_drew | with_reducible apply below_new)
               · repeat (first | with_reducible exact Below.refl _ _ | with_reducible exact B_w40.out | with_reducible apply below_drew | with_reducible apply below_new)
               rintro e w41 ⟨v_U, rfl, hb, h_U⟩
               obtain ⟨A_U, n_U, cap_U, B_U, m_U, cup_U, rfl, -, -⟩ := id h_U.form
               replace h_U := Lib.hid h_U
               replace h_T6 := Lib.hid (h_T6.out.below (below_next (by repeat (first | with_reducible exact Below.refl _ _ | with_reducible apply below_new | with_reducible apply below_drew)) hb))
               replace h_T7 := Lib.hid (h_T7.out.below (below_next (by repeat (first | with_reducible exact Below.refl _ _ | with_reducible apply below_new | with_reducible apply below_drew)) hb))
               replace h_T8 := Lib.hid (h_T8.out.below (below_next (by repeat (first | with_reducible exact Below.refl _ _ | with_reducible apply below_new | with_reducible apply below_drew)) hb))
               replace h_T9 := Lib.hid (h_T9.out.below (below_next (by repeat (first | with_reducible exact Below.refl _ _ | with_reducible apply below_new | with_reducible apply below_drew)) hb))
               replace h_T10 := Lib.hid (h_T10.out.below (below_next (by repeat (first | with_reducible exact Below.refl _ _ | with_reducible apply below_new | with_reducible apply below_drew)) hb))
               replace h_T11 := Lib.hid (h_T11.out.below (below_next (by repeat (first | with_reducible exact Below.refl _ _ | with_reducible apply below_new | with_reducible apply below_drew)) hb))
               have B_w41 := Lib.hid (below_next (by repeat (first | with_reducible exact B_w40.out | with_reducible apply below_new | with_reducible apply below_drew)) hb)
               have K_w41 := KK.out _ B_w41.out
               obtain ⟨hc_w41, hf_w41⟩ := below_reads hb
               have hz_w41 := hb.size
               try simp at hz_w41
               try (have z1_w41 := Nat.lt_of_succ_le hz_w41)
               try (have z2_w41 := Nat.lt_of_succ_lt z1_w41)
               have HB_w41 := Lib.hid hb
               have y_w41_w35 := Nat.le_trans HB_w35.out.size (Nat.le_trans (by (try simp only [World.size_alloc]); omega) hb.size)
               try simp at y_w41_w35
               try (have z3_w41_w35 := Nat.lt_of_succ_le y_w41_w35)
               try (have z4_w41_w35 := Nat.lt_of_succ_lt z3_w41_w35)
               have y_w41_w36 := Nat.le_trans HB_w36.out.size (Nat.le_trans (by (try simp only [World.size_alloc]); omega) hb.size)
               try simp at y_w41_w36
               try (have z3_w41_w36 := Nat.lt_of_succ_le y_w41_w36)
               try (have z4_w41_w36 := Nat.lt_of_succ_lt z3_w41_w36)
               have y_w41_w37 := Nat.le_trans HB_w37.out.size (Nat.le_trans (by (try simp only [World.size_alloc]); omega) hb.size)
               try simp at y_w41_w37
               try (have z3_w41_w37 := Nat.lt_of_succ_le y_w41_w37)
               try (have z4_w41_w37 := Nat.lt_of_succ_lt z3_w41_w37)
               have y_w41_w38 := Nat.le_trans HB_w38.out.size (Nat.le_trans (by (try simp only [World.size_alloc]); omega) hb.size)
               try simp at y_w41_w38
               try (have z3_w41_w38 := Nat.lt_of_succ_le y_w41_w38)
               try (have z4_w41_w38 := Nat.lt_of_succ_lt z3_w41_w38)
               have y_w41_w39 := Nat.le_trans HB_w39.out.size (Nat.le_trans (by (try simp only [World.size_alloc]); omega) hb.size)
               try simp at y_w41_w39
               try (have z3_w41_w39 := Nat.lt_of_succ_le y_w41_w39)
               try (have z4_w41_w39 := Nat.lt_of_succ_lt z3_w41_w39)
               have y_w41_w40 := Nat.le_trans HB_w40.out.size (Nat.le_trans (by (try simp only [World.size_alloc]); omega) hb.size)
               try simp at y_w41_w40
               try (have z3_w41_w40 := Nat.lt_of_succ_le y_w41_w40)
               try (have z4_w41_w40 := Nat.lt_of_succ_lt z3_w41_w40)
               clear hb
               clear t_k tok6))
      all_goals clear KK K0 KD K_w35 K_w36 K_w37 K_w38 K_w39 K_w40 K_w41
      all_goals go_wp2_with fail
      all_goals go_meet
      all_goals refine ⟨_, A_U, n_U, cap_U, B_U, m_U, cup_U, rfl, ⟨?_, ?_, ?_, ?_⟩⟩
      all_goals repeat' (first | with_reducible exact h_U.out | with_reducible exact B_w35.out | with_reducible exact B_w36.out | with_reducible exact B_w37.out | with_reducible exact B_w38.out | with_reducible exact B_w39.out | with_reducible exact B_w40.out | with_reducible exact B_w41.out | (with_reducible refine AtB.set4 (a := .bool false) (b := .slice none 0 0) (c := .bool false) (d := .slice none 0 0) (T := 54) ?_ _ _ _ _) | (with_reducible refine RR.alloc ?_ _) | (with_reducible refine RR.far4 (cs := #[.bool false, .slice none 0 0, .bool false, .slice none 0 0]) ?_ ?_ _ _ _ _) | with_reducible exact Below.refl _ _ | with_reducible apply below_new | with_reducible apply below_drew | (with_reducible refine below_set ?_ ?_ _) | (with_reducible refine AtB.set2 (a := .bool false) (b := .slice none 0 0) (T := 52) ?_ _ _) | (with_reducible refine AtB.set2 (a := .int .i64 0) (b := .int .u64 0) (T := 113) ?_ _ _) | (with_reducible refine AtB.far2 ?_ ?_ _ _) | (with_reducible refine BR.alloc ?_ _) | (with_reducible refine BR.far2 (a := .bool false) (b := .slice none 0 0) (T := 52) ?_ ?_ (by decide) _ _) | (with_reducible refine new_at_eq ?_ _ _; first | rfl | (simp; done)) | (with_reducible refine AtB.alloc ?_ _) | with_reducible apply AtB.drew | (with_reducible refine AtB.keep ?_ HB_w41.out) | (with_reducible refine AtB.keep ?_ HB_w40.out) | (with_reducible refine AtB.keep ?_ HB_w39.out) | (with_reducible refine AtB.keep ?_ HB_w38.out) | (with_reducible refine AtB.keep ?_ HB_w37.out) | (with_reducible refine AtB.keep ?_ HB_w36.out) | (with_reducible refine AtB.keep ?_ HB_w35.out) | omega)
  clear C_T6 C_T7 C_T8 C_T9 C_T10 C_T11 C_U
  obtain ⟨wc5, rfl⟩ : ∃ wo : World, wo = wc := ⟨_, rfl⟩
  obtain ⟨g_U, A_U, n_U, cap_U, B_U, m_U, cup_U, rfl, hcut⟩ := hcut
  obtain ⟨r_U, h_U, hb, hge⟩ := hcut.out
  clear hcut
  replace r_U := Lib.hid r_U; replace h_U := Lib.hid h_U
  have d_U := Lib.hid (And.intro (Nat.le_trans BB.out.size hge) (And.intro (Nat.lt_of_lt_of_le r_r1.out.lt hge) (And.intro (Nat.lt_of_lt_of_le r_r2.out.lt hge) (And.intro (Nat.lt_of_lt_of_le r_X.out.lt hge) (And.intro (Nat.lt_of_lt_of_le r_Y.out.lt hge) (And.intro (Nat.lt_of_lt_of_le r_XX.out.lt hge) (And.intro (Nat.lt_of_lt_of_le r_YY.out.lt hge) (And.intro (Nat.lt_of_lt_of_le r_XY.out.lt hge) (And.intro (Nat.lt_of_lt_of_le r_R.out.lt hge) (And.intro (Nat.lt_of_lt_of_le r_G.out.lt hge) (And.intro (Nat.lt_of_lt_of_le r_TW.out.lt hge) (True.intro))))))))))))
  clear r_X
  clear h_X
  clear r_XX
  clear h_XX
  replace r_r1 := Lib.hid (r_r1.out.keep hb)
  replace r_r2 := Lib.hid (r_r2.out.keep hb)
  replace r_Y := Lib.hid (r_Y.out.keep hb)
  replace r_YY := Lib.hid (r_YY.out.keep hb)
  replace r_XY := Lib.hid (r_XY.out.keep hb)
  replace r_R := Lib.hid (r_R.out.keep hb)
  replace r_G := Lib.hid (r_G.out.keep hb)
  replace r_TW := Lib.hid (r_TW.out.keep hb)
  replace h_K5 := Lib.hid (h_K5.out.below hb)
  replace h_K6 := Lib.hid (h_K6.out.below hb)
  replace h_Y := Lib.hid (h_Y.out.below hb)
  replace h_YY := Lib.hid (h_YY.out.below hb)
  replace h_XY := Lib.hid (h_XY.out.below hb)
  replace h_R := Lib.hid (h_R.out.below hb)
  replace h_G := Lib.hid (h_G.out.below hb)
  replace h_TW := Lib.hid (h_TW.out.below hb)
  replace h_kc := Lib.hid (KC.below h_kc.out hb)
  replace BB := Lib.hid (below_next BB.out hb)
  clear hb hge
  go_wp2_with fail
  go_cut [23] (fun s5 wc6 => ∃ gp A3 n3 c3 B3 m3 d3, s5 = .pointer (some ⟨gp, 0, none⟩) ∧ Hid (AtB wc6 gp #[.bool (sgn (pV)), .slice A3 n3 c3, .bool (sgn (qV)), .slice B3 m3 d3] 54 ∧ RR wc6 (.agg #[.bool (sgn (pV)), .slice A3 n3 c3, .bool (sgn (qV)), .slice B3 m3 d3]) (pV) (qV) ∧ Below wc5.heap.size wc5 wc6 ∧ wc5.heap.size ≤ gp))
  case first =>
    as_aux_lemma =>
      clear HE O_PA O_C0 O_C1 C_Z1 C_E1 C_Z2 C_E2
      have HK5 := Lib.hid (fun (w9 : World) (h9 : Below wc5.heap.size wc5 w9) => (⟨(h_kc.out.below h9).2 20 _ rfl, (h_kc.out.below h9).2 21 _ rfl, (h_kc.out.below h9).2 22 _ rfl, (h_kc.out.below h9).2 23 _ rfl, (h_kc.out.below h9).2 24 _ rfl, (h_kc.out.below h9).2 25 _ rfl, (h_kc.out.below h9).2 26 _ rfl, (h_kc.out.below h9).2 27 _ rfl⟩ : w9.cell? ⟨g_k, 20, none⟩ = some (.bool (sgn (p1))) ∧ w9.cell? ⟨g_k, 21, none⟩ = some (.slice A_K5 n_K5 cap_K5) ∧ w9.cell? ⟨g_k, 22, none⟩ = some (.bool (sgn (65536))) ∧ w9.cell? ⟨g_k, 23, none⟩ = some (.slice B_K5 m_K5 cup_K5) ∧ w9.cell? ⟨g_k, 24, none⟩ = some (.bool (sgn (p2))) ∧ w9.cell? ⟨g_k, 25, none⟩ = some (.slice A_K6 n_K6 cap_K6) ∧ w9.cell? ⟨g_k, 26, none⟩ = some (.bool (sgn (65536))) ∧ w9.cell? ⟨g_k, 27, none⟩ = some (.slice B_K6 m_K6 cup_K6)))
      have KK := Lib.hid (fun (w9 : World) (h : Below wc5.heap.size wc5 w9) => (⟨HK5.out _ h, cells4 (r_Y.out.keep h), cells4 (r_G.out.keep h), cells4 (r_R.out.keep h), cells4 (r_TW.out.keep h), cells4 (r_YY.out.keep h), cells4 (r_XY.out.keep h)⟩ : (w9.cell? ⟨g_k, 20, none⟩ = some (.bool (sgn (p1))) ∧ w9.cell? ⟨g_k, 21, none⟩ = some (.slice A_K5 n_K5 cap_K5) ∧ w9.cell? ⟨g_k, 22, none⟩ = some (.bool (sgn (65536))) ∧ w9.cell? ⟨g_k, 23, none⟩ = some (.slice B_K5 m_K5 cup_K5) ∧ w9.cell? ⟨g_k, 24, none⟩ = some (.bool (sgn (p2))) ∧ w9.cell? ⟨g_k, 25, none⟩ = some (.slice A_K6 n_K6 cap_K6) ∧ w9.cell? ⟨g_k, 26, none⟩ = some (.bool (sgn (65536))) ∧ w9.cell? ⟨g_k, 27, none⟩ = some (.slice B_K6 m_K6 cup_K6)) ∧ (w9.cell? ⟨g_Y, 0, none⟩ = some (.bool (sgn (pY))) ∧ w9.cell? ⟨g_Y, 1, none⟩ = some (.slice A_Y n_Y cap_Y) ∧ w9.cell? ⟨g_Y, 2, none⟩ = some (.bool (sgn (qY))) ∧ w9.cell? ⟨g_Y, 3, none⟩ = some (.slice B_Y m_Y cup_Y)) ∧ (w9.cell? ⟨g_G, 0, none⟩ = some (.bool (sgn (pG))) ∧ w9.cell? ⟨g_G, 1, none⟩ = some (.slice A_G n_G cap_G) ∧ w9.cell? ⟨g_G, 2, none⟩ = some (.bool (sgn (qG))) ∧ w9.cell? ⟨g_G, 3, none⟩ = some (.slice B_G m_G cup_G)) ∧ (w9.cell? ⟨g_R, 0, none⟩ = some (.bool (sgn (pR))) ∧ w9.cell? ⟨g_R, 1, none⟩ = some (.slice A_R n_R cap_R) ∧ w9.cell? ⟨g_R, 2, none⟩ = some (.bool (sgn (qR))) ∧ w9.cell? ⟨g_R, 3, none⟩ = some (.slice B_R m_R cup_R)) ∧ (w9.cell? ⟨g_TW, 0, none⟩ = some (.bool (sgn (2))) ∧ w9.cell? ⟨g_TW, 1, none⟩ = some (.slice A_TW n_TW cap_TW) ∧ w9.cell? ⟨g_TW, 2, none⟩ = some (.bool (sgn (1))) ∧ w9.cell? ⟨g_TW, 3, none⟩ = some (.slice B_TW m_TW cup_TW)) ∧ (w9.cell? ⟨g_YY, 0, none⟩ = some (.bool (sgn (pYY))) ∧ w9.cell? ⟨g_YY, 1, none⟩ = some (.slice A_YY n_YY cap_YY) ∧ w9.cell? ⟨g_YY, 2, none⟩ = some (.bool (sgn (qYY))) ∧ w9.cell? ⟨g_YY, 3, none⟩ = some (.slice B_YY m_YY cup_YY)) ∧ (w9.cell? ⟨g_XY, 0, none⟩ = some (.bool (sgn (pXY))) ∧ w9.cell? ⟨g_XY, 1, none⟩ = some (.slice A_XY n_XY cap_XY) ∧ w9.cell? ⟨g_XY, 2, none⟩ = some (.bool (sgn (qXY))) ∧ w9.cell? ⟨g_XY, 3, none⟩ = some (.slice B_XY m_XY cup_XY))))
      have K0 := KK.out wc5 (Below.refl _ _)
      have KD := KK.out wc5.drew (below_drew (Below.refl _ _))
      have tok0 : Hid True := trivial
      have tok1 : Hid True := trivial
      have tok2 : Hid True := trivial
      have tok3 : Hid True := trivial
      have tok4 : Hid True := trivial
      have tok5 : Hid True := trivial
      have tok6 : Hid True := trivial
      go_region_held3 (fun w9 => (w9.cell? ⟨g_k, 20, none⟩ = some (.bool (sgn (p1))) ∧ w9.cell? ⟨g_k, 21, none⟩ = some (.slice A_K5 n_K5 cap_K5) ∧ w9.cell? ⟨g_k, 22, none⟩ = some (.bool (sgn (65536))) ∧ w9.cell? ⟨g_k, 23, none⟩ = some (.slice B_K5 m_K5 cup_K5) ∧ w9.cell? ⟨g_k, 24, none⟩ = some (.bool (sgn (p2))) ∧ w9.cell? ⟨g_k, 25, none⟩ = some (.slice A_K6 n_K6 cap_K6) ∧ w9.cell? ⟨g_k, 26, none⟩ = some (.bool (sgn (65536))) ∧ w9.cell? ⟨g_k, 27, none⟩ = some (.slice B_K6 m_K6 cup_K6)) ∧ (w9.cell? ⟨g_Y, 0, none⟩ = some (.bool (sgn (pY))) ∧ w9.cell? ⟨g_Y, 1, none⟩ = some (.slice A_Y n_Y cap_Y) ∧ w9.cell? ⟨g_Y, 2, none⟩ = some (.bool (sgn (qY))) ∧ w9.cell? ⟨g_Y, 3, none⟩ = some (.slice B_Y m_Y cup_Y)) ∧ (w9.cell? ⟨g_G, 0, none⟩ = some (.bool (sgn (pG))) ∧ w9.cell? ⟨g_G, 1, none⟩ = some (.slice A_G n_G cap_G) ∧ w9.cell? ⟨g_G, 2, none⟩ = some (.bool (sgn (qG))) ∧ w9.cell? ⟨g_G, 3, none⟩ = some (.slice B_G m_G cup_G)) ∧ (w9.cell? ⟨g_R, 0, none⟩ = some (.bool (sgn (pR))) ∧ w9.cell? ⟨g_R, 1, none⟩ = some (.slice A_R n_R cap_R) ∧ w9.cell? ⟨g_R, 2, none⟩ = some (.bool (sgn (qR))) ∧ w9.cell? ⟨g_R, 3, none⟩ = some (.slice B_R m_R cup_R)) ∧ (w9.cell? ⟨g_TW, 0, none⟩ = some (.bool (sgn (2))) ∧ w9.cell? ⟨g_TW, 1, none⟩ = some (.slice A_TW n_TW cap_TW) ∧ w9.cell? ⟨g_TW, 2, none⟩ = some (.bool (sgn (1))) ∧ w9.cell? ⟨g_TW, 3, none⟩ = some (.slice B_TW m_TW cup_TW)) ∧ (w9.cell? ⟨g_YY, 0, none⟩ = some (.bool (sgn (pYY))) ∧ w9.cell? ⟨g_YY, 1, none⟩ = some (.slice A_YY n_YY cap_YY) ∧ w9.cell? ⟨g_YY, 2, none⟩ = some (.bool (sgn (qYY))) ∧ w9.cell? ⟨g_YY, 3, none⟩ = some (.slice B_YY m_YY cup_YY)) ∧ (w9.cell? ⟨g_XY, 0, none⟩ = some (.bool (sgn (pXY))) ∧ w9.cell? ⟨g_XY, 1, none⟩ = some (.slice A_XY n_XY cap_XY) ∧ w9.cell? ⟨g_XY, 2, none⟩ = some (.bool (sgn (qXY))) ∧ w9.cell? ⟨g_XY, 3, none⟩ = some (.slice B_XY m_XY cup_XY)))
          (first | with_reducible exact KD | with_reducible exact K0 | with_reducible exact K_w42 | with_reducible exact K_w43 | with_reducible exact K_w44 | with_reducible exact K_w45 | with_reducible exact K_w46 | with_reducible exact K_w47 | with_reducible exact K_w48 | (refine KK.out _ ?_; repeat' (first | with_reducible exact Below.refl _ _ | with_reducible exact B_w42.out | with_reducible exact B_w43.out | with_reducible exact B_w44.out | with_reducible exact B_w45.out | with_reducible exact B_w46.out | with_reducible exact B_w47.out | with_reducible exact B_w48.out | with_reducible apply below_new | with_reducible apply below_drew | with_reducible apply below_set | omega)))
          (first
            | (go_at_call 45
               have t_k := tok0
               refine (C_T12.out _ _ _ (h_Y.out.below ?_) (h_G.out.below ?_)).mono ?_
               · repeat (first | with_reducible exact Below.refl _ _ | with_reducible apply below_drew | with_reducible apply below_new)
               · repeat (first | with_reducible exact Below.refl _ _ | with_reducible apply below_drew | with_reducible apply below_new)
               rintro e w42 ⟨v_T12, rfl, hb, h_T12⟩
               obtain ⟨A_T12, n_T12, cap_T12, B_T12, m_T12, cup_T12, rfl, -, -⟩ := id h_T12.form
               replace h_T12 := Lib.hid h_T12
               have B_w42 := Lib.hid (reg_next (w0 := wc5) (by repeat (first | with_reducible exact Below.refl _ _ | with_reducible apply below_drew | with_reducible apply below_new)) hb)
               have K_w42 := KK.out _ B_w42.out
               obtain ⟨hc_w42, hf_w42⟩ := below_reads hb
               have hz_w42 := hb.size
               try simp at hz_w42
               try (have z1_w42 := Nat.lt_of_succ_le hz_w42)
               try (have z2_w42 := Nat.lt_of_succ_lt z1_w42)
               have HB_w42 := Lib.hid hb
               clear hb
               clear t_k tok0)
            | (go_at_call 45
               have t_k := tok1
               refine (C_T13.out _ _ _ (h_TW.out.below ?_) (h_YY.out.below ?_)).mono ?_
               · repeat (first | with_reducible exact Below.refl _ _ | with_reducible exact B_w42.out | with_reducible apply below_drew | with_reducible apply below_new)
               · repeat (first | with_reducible exact Below.refl _ _ | with_reducible exact B_w42.out | with_reducible apply below_drew | with_reducible apply below_new)
               rintro e w43 ⟨v_T13, rfl, hb, h_T13⟩
               obtain ⟨A_T13, n_T13, cap_T13, B_T13, m_T13, cup_T13, rfl, -, -⟩ := id h_T13.form
               replace h_T13 := Lib.hid h_T13
               replace h_T12 := Lib.hid (h_T12.out.below (below_next (by repeat (first | with_reducible exact Below.refl _ _ | with_reducible apply below_new | with_reducible apply below_drew)) hb))
               have B_w43 := Lib.hid (below_next (by repeat (first | with_reducible exact B_w42.out | with_reducible apply below_new | with_reducible apply below_drew)) hb)
               have K_w43 := KK.out _ B_w43.out
               obtain ⟨hc_w43, hf_w43⟩ := below_reads hb
               have hz_w43 := hb.size
               try simp at hz_w43
               try (have z1_w43 := Nat.lt_of_succ_le hz_w43)
               try (have z2_w43 := Nat.lt_of_succ_lt z1_w43)
               have HB_w43 := Lib.hid hb
               have y_w43_w42 := Nat.le_trans HB_w42.out.size (Nat.le_trans (by (try simp only [World.size_alloc]); omega) hb.size)
               try simp at y_w43_w42
               try (have z3_w43_w42 := Nat.lt_of_succ_le y_w43_w42)
               try (have z4_w43_w42 := Nat.lt_of_succ_lt z3_w43_w42)
               clear hb
               clear t_k tok1)
            | (go_at_call 47
               have t_k := tok2
               refine (C_T14.out _ _ _ (h_R.out.below ?_) (h_T13.out.below ?_)).mono ?_
               · repeat (first | with_reducible exact Below.refl _ _ | with_reducible exact B_w43.out | with_reducible apply below_drew | with_reducible apply below_new)
               · repeat (first | with_reducible exact Below.refl _ _ | with_reducible exact B_w43.out | with_reducible apply below_drew | with_reducible apply below_new)
               rintro e w44 ⟨v_T14, rfl, hb, h_T14⟩
               obtain ⟨A_T14, n_T14, cap_T14, B_T14, m_T14, cup_T14, rfl, -, -⟩ := id h_T14.form
               replace h_T14 := Lib.hid h_T14
               replace h_T12 := Lib.hid (h_T12.out.below (below_next (by repeat (first | with_reducible exact Below.refl _ _ | with_reducible apply below_new | with_reducible apply below_drew)) hb))
               replace h_T13 := Lib.hid (h_T13.out.below (below_next (by repeat (first | with_reducible exact Below.refl _ _ | with_reducible apply below_new | with_reducible apply below_drew)) hb))
               have B_w44 := Lib.hid (below_next (by repeat (first | with_reducible exact B_w43.out | with_reducible apply below_new | with_reducible apply below_drew)) hb)
               have K_w44 := KK.out _ B_w44.out
               obtain ⟨hc_w44, hf_w44⟩ := below_reads hb
               have hz_w44 := hb.size
               try simp at hz_w44
               try (have z1_w44 := Nat.lt_of_succ_le hz_w44)
               try (have z2_w44 := Nat.lt_of_succ_lt z1_w44)
               have HB_w44 := Lib.hid hb
               have y_w44_w42 := Nat.le_trans HB_w42.out.size (Nat.le_trans (by (try simp only [World.size_alloc]); omega) hb.size)
               try simp at y_w44_w42
               try (have z3_w44_w42 := Nat.lt_of_succ_le y_w44_w42)
               try (have z4_w44_w42 := Nat.lt_of_succ_lt z3_w44_w42)
               have y_w44_w43 := Nat.le_trans HB_w43.out.size (Nat.le_trans (by (try simp only [World.size_alloc]); omega) hb.size)
               try simp at y_w44_w43
               try (have z3_w44_w43 := Nat.lt_of_succ_le y_w44_w43)
               try (have z4_w44_w43 := Nat.lt_of_succ_lt z3_w44_w43)
               clear hb
               clear t_k tok2)
            | (go_at_call 45
               have t_k := tok3
               refine (C_T15.out _ _ _ (h_K5.out.below ?_) (h_T14.out.below ?_)).mono ?_
               · repeat (first | with_reducible exact Below.refl _ _ | with_reducible exact B_w44.out | with_reducible apply below_drew | with_reducible apply below_new)
               · repeat (first | with_reducible exact Below.refl _ _ | with_reducible exact B_w44.out | with_reducible apply below_drew | with_reducible apply below_new)
               rintro e w45 ⟨v_T15, rfl, hb, h_T15⟩
               obtain ⟨A_T15, n_T15, cap_T15, B_T15, m_T15, cup_T15, rfl, -, -⟩ := id h_T15.form
               replace h_T15 := Lib.hid h_T15
               replace h_T12 := Lib.hid (h_T12.out.below (below_next (by repeat (first | with_reducible exact Below.refl _ _ | with_reducible apply below_new | with_reducible apply below_drew)) hb))
               replace h_T13 := Lib.hid (h_T13.out.below (below_next (by repeat (first | with_reducible exact Below.refl _ _ | with_reducible apply below_new | with_reducible apply below_drew)) hb))
               replace h_T14 := Lib.hid (h_T14.out.below (below_next (by repeat (first | with_reducible exact Below.refl _ _ | with_reducible apply below_new | with_reducible apply below_drew)) hb))
               have B_w45 := Lib.hid (below_next (by repeat (first | with_reducible exact B_w44.out | with_reducible apply below_new | with_reducible apply below_drew)) hb)
               have K_w45 := KK.out _ B_w45.out
               obtain ⟨hc_w45, hf_w45⟩ := below_reads hb
               have hz_w45 := hb.size
               try simp at hz_w45
               try (have z1_w45 := Nat.lt_of_succ_le hz_w45)
               try (have z2_w45 := Nat.lt_of_succ_lt z1_w45)
               have HB_w45 := Lib.hid hb
               have y_w45_w42 := Nat.le_trans HB_w42.out.size (Nat.le_trans (by (try simp only [World.size_alloc]); omega) hb.size)
               try simp at y_w45_w42
               try (have z3_w45_w42 := Nat.lt_of_succ_le y_w45_w42)
               try (have z4_w45_w42 := Nat.lt_of_succ_lt z3_w45_w42)
               have y_w45_w43 := Nat.le_trans HB_w43.out.size (Nat.le_trans (by (try simp only [World.size_alloc]); omega) hb.size)
               try simp at y_w45_w43
               try (have z3_w45_w43 := Nat.lt_of_succ_le y_w45_w43)
               try (have z4_w45_w43 := Nat.lt_of_succ_lt z3_w45_w43)
               have y_w45_w44 := Nat.le_trans HB_w44.out.size (Nat.le_trans (by (try simp only [World.size_alloc]); omega) hb.size)
               try simp at y_w45_w44
               try (have z3_w45_w44 := Nat.lt_of_succ_le y_w45_w44)
               try (have z4_w45_w44 := Nat.lt_of_succ_lt z3_w45_w44)
               clear hb
               clear t_k tok3)
            | (go_at_call 45
               have t_k := tok4
               refine (C_T16.out _ _ _ (h_K6.out.below ?_) (h_XY.out.below ?_)).mono ?_
               · repeat (first | with_reducible exact Below.refl _ _ | with_reducible exact B_w45.out | with_reducible apply below_drew | with_reducible apply below_new)
               · repeat (first | with_reducible exact Below.refl _ _ | with_reducible exact B_w45.out | with_reducible apply below_drew | with_reducible apply below_new)
               rintro e w46 ⟨v_T16, rfl, hb, h_T16⟩
               obtain ⟨A_T16, n_T16, cap_T16, B_T16, m_T16, cup_T16, rfl, -, -⟩ := id h_T16.form
               replace h_T16 := Lib.hid h_T16
               replace h_T12 := Lib.hid (h_T12.out.below (below_next (by repeat (first | with_reducible exact Below.refl _ _ | with_reducible apply below_new | with_reducible apply below_drew)) hb))
               replace h_T13 := Lib.hid (h_T13.out.below (below_next (by repeat (first | with_reducible exact Below.refl _ _ | with_reducible apply below_new | with_reducible apply below_drew)) hb))
               replace h_T14 := Lib.hid (h_T14.out.below (below_next (by repeat (first | with_reducible exact Below.refl _ _ | with_reducible apply below_new | with_reducible apply below_drew)) hb))
               replace h_T15 := Lib.hid (h_T15.out.below (below_next (by repeat (first | with_reducible exact Below.refl _ _ | with_reducible apply below_new | with_reducible apply below_drew)) hb))
               have B_w46 := Lib.hid (below_next (by repeat (first | with_reducible exact B_w45.out | with_reducible apply below_new | with_reducible apply below_drew)) hb)
               have K_w46 := KK.out _ B_w46.out
               obtain ⟨hc_w46, hf_w46⟩ := below_reads hb
               have hz_w46 := hb.size
               try simp at hz_w46
               try (have z1_w46 := Nat.lt_of_succ_le hz_w46)
               try (have z2_w46 := Nat.lt_of_succ_lt z1_w46)
               have HB_w46 := Lib.hid hb
               have y_w46_w42 := Nat.le_trans HB_w42.out.size (Nat.le_trans (by (try simp only [World.size_alloc]); omega) hb.size)
               try simp at y_w46_w42
               try (have z3_w46_w42 := Nat.lt_of_succ_le y_w46_w42)
               try (have z4_w46_w42 := Nat.lt_of_succ_lt z3_w46_w42)
               have y_w46_w43 := Nat.le_trans HB_w43.out.size (Nat.le_trans (by (try simp only [World.size_alloc]); omega) hb.size)
               try simp at y_w46_w43
               try (have z3_w46_w43 := Nat.lt_of_succ_le y_w46_w43)
               try (have z4_w46_w43 := Nat.lt_of_succ_lt z3_w46_w43)
               have y_w46_w44 := Nat.le_trans HB_w44.out.size (Nat.le_trans (by (try simp only [World.size_alloc]); omega) hb.size)
               try simp at y_w46_w44
               try (have z3_w46_w44 := Nat.lt_of_succ_le y_w46_w44)
               try (have z4_w46_w44 := Nat.lt_of_succ_lt z3_w46_w44)
               have y_w46_w45 := Nat.le_trans HB_w45.out.size (Nat.le_trans (by (try simp only [World.size_alloc]); omega) hb.size)
               try simp at y_w46_w45
               try (have z3_w46_w45 := Nat.lt_of_succ_le y_w46_w45)
               try (have z4_w46_w45 := Nat.lt_of_succ_lt z3_w46_w45)
               clear hb
               clear t_k tok4)
            | (go_at_call 47
               have t_k := tok5
               refine (C_T17.out _ _ _ (h_T15.out.below ?_) (h_T16.out.below ?_)).mono ?_
               · repeat (first | with_reducible exact Below.refl _ _ | with_reducible exact B_w46.out | with_reducible apply below_drew | with_reducible apply below_new)
               · repeat (first | with_reducible exact Below.refl _ _ | with_reducible exact B_w46.out | with_reducible apply below_drew | with_reducible apply below_new)
               rintro e w47 ⟨v_T17, rfl, hb, h_T17⟩
               obtain ⟨A_T17, n_T17, cap_T17, B_T17, m_T17, cup_T17, rfl, -, -⟩ := id h_T17.form
               replace h_T17 := Lib.hid h_T17
               replace h_T12 := Lib.hid (h_T12.out.below (below_next (by repeat (first | with_reducible exact Below.refl _ _ | with_reducible apply below_new | with_reducible apply below_drew)) hb))
               replace h_T13 := Lib.hid (h_T13.out.below (below_next (by repeat (first | with_reducible exact Below.refl _ _ | with_reducible apply below_new | with_reducible apply below_drew)) hb))
               replace h_T14 := Lib.hid (h_T14.out.below (below_next (by repeat (first | with_reducible exact Below.refl _ _ | with_reducible apply below_new | with_reducible apply below_drew)) hb))
               replace h_T15 := Lib.hid (h_T15.out.below (below_next (by repeat (first | with_reducible exact Below.refl _ _ | with_reducible apply below_new | with_reducible apply below_drew)) hb))
               replace h_T16 := Lib.hid (h_T16.out.below (below_next (by repeat (first | with_reducible exact Below.refl _ _ | with_reducible apply below_new | with_reducible apply below_drew)) hb))
               have B_w47 := Lib.hid (below_next (by repeat (first | with_reducible exact B_w46.out | with_reducible apply below_new | with_reducible apply below_drew)) hb)
               have K_w47 := KK.out _ B_w47.out
               obtain ⟨hc_w47, hf_w47⟩ := below_reads hb
               have hz_w47 := hb.size
               try simp at hz_w47
               try (have z1_w47 := Nat.lt_of_succ_le hz_w47)
               try (have z2_w47 := Nat.lt_of_succ_lt z1_w47)
               have HB_w47 := Lib.hid hb
               have y_w47_w42 := Nat.le_trans HB_w42.out.size (Nat.le_trans (by (try simp only [World.size_alloc]); omega) hb.size)
               try simp at y_w47_w42
               try (have z3_w47_w42 := Nat.lt_of_succ_le y_w47_w42)
               try (have z4_w47_w42 := Nat.lt_of_succ_lt z3_w47_w42)
               have y_w47_w43 := Nat.le_trans HB_w43.out.size (Nat.le_trans (by (try simp only [World.size_alloc]); omega) hb.size)
               try simp at y_w47_w43
               try (have z3_w47_w43 := Nat.lt_of_succ_le y_w47_w43)
               try (have z4_w47_w43 := Nat.lt_of_succ_lt z3_w47_w43)
               have y_w47_w44 := Nat.le_trans HB_w44.out.size (Nat.le_trans (by (try simp only [World.size_alloc]); omega) hb.size)
               try simp at y_w47_w44
               try (have z3_w47_w44 := Nat.lt_of_succ_le y_w47_w44)
               try (have z4_w47_w44 := Nat.lt_of_succ_lt z3_w47_w44)
               have y_w47_w45 := Nat.le_trans HB_w45.out.size (Nat.le_trans (by (try simp only [World.size_alloc]); omega) hb.size)
               try simp at y_w47_w45
               try (have z3_w47_w45 := Nat.lt_of_succ_le y_w47_w45)
               try (have z4_w47_w45 := Nat.lt_of_succ_lt z3_w47_w45)
               have y_w47_w46 := Nat.le_trans HB_w46.out.size (Nat.le_trans (by (try simp only [World.size_alloc]); omega) hb.size)
               try simp at y_w47_w46
               try (have z3_w47_w46 := Nat.lt_of_succ_le y_w47_w46)
               try (have z4_w47_w46 := Nat.lt_of_succ_lt z3_w47_w46)
               clear hb
               clear t_k tok5)
            | (go_at_call 47
               have t_k := tok6
               refine (C_V.out _ _ _ (h_T12.out.below ?_) (h_T17.out.below ?_)).mono ?_
               · repeat (first | with_reducible exact Below.refl _ _ | with_reducible exact B_w47.out | with_reducible apply below_drew | with_reducible apply below_new)
               · repeat (first | with_reducible exact Below.refl _ _ | with_reducible exact B_w47.out | with_reducible apply below_drew | with_reducible apply below_new)
               rintro e w48 ⟨v_V, rfl, hb, h_V⟩
               obtain ⟨A_V, n_V, cap_V, B_V, m_V, cup_V, rfl, -, -⟩ := id h_V.form
               replace h_V := Lib.hid h_V
               replace h_T12 := Lib.hid (h_T12.out.below (below_next (by repeat (first | with_reducible exact Below.refl _ _ | with_reducible apply below_new | with_reducible apply below_drew)) hb))
               replace h_T13 := Lib.hid (h_T13.out.below (below_next (by repeat (first | with_reducible exact Below.refl _ _ | with_reducible apply below_new | with_reducible apply below_drew)) hb))
               replace h_T14 := Lib.hid (h_T14.out.below (below_next (by repeat (first | with_reducible exact Below.refl _ _ | with_reducible apply below_new | with_reducible apply below_drew)) hb))
               replace h_T15 := Lib.hid (h_T15.out.below (below_next (by repeat (first | with_reducible exact Below.refl _ _ | with_reducible apply below_new | with_reducible apply below_drew)) hb))
               replace h_T16 := Lib.hid (h_T16.out.below (below_next (by repeat (first | with_reducible exact Below.refl _ _ | with_reducible apply below_new | with_reducible apply below_drew)) hb))
               replace h_T17 := Lib.hid (h_T17.out.below (below_next (by repeat (first | with_reducible exact Below.refl _ _ | with_reducible apply below_new | with_reducible apply below_drew)) hb))
               have B_w48 := Lib.hid (below_next (by repeat (first | with_reducible exact B_w47.out | with_reducible apply below_new | with_reducible apply below_drew)) hb)
               have K_w48 := KK.out _ B_w48.out
               obtain ⟨hc_w48, hf_w48⟩ := below_reads hb
               have hz_w48 := hb.size
               try simp at hz_w48
               try (have z1_w48 := Nat.lt_of_succ_le hz_w48)
               try (have z2_w48 := Nat.lt_of_succ_lt z1_w48)
               have HB_w48 := Lib.hid hb
               have y_w48_w42 := Nat.le_trans HB_w42.out.size (Nat.le_trans (by (try simp only [World.size_alloc]); omega) hb.size)
               try simp at y_w48_w42
               try (have z3_w48_w42 := Nat.lt_of_succ_le y_w48_w42)
               try (have z4_w48_w42 := Nat.lt_of_succ_lt z3_w48_w42)
               have y_w48_w43 := Nat.le_trans HB_w43.out.size (Nat.le_trans (by (try simp only [World.size_alloc]); omega) hb.size)
               try simp at y_w48_w43
               try (have z3_w48_w43 := Nat.lt_of_succ_le y_w48_w43)
               try (have z4_w48_w43 := Nat.lt_of_succ_lt z3_w48_w43)
               have y_w48_w44 := Nat.le_trans HB_w44.out.size (Nat.le_trans (by (try simp only [World.size_alloc]); omega) hb.size)
               try simp at y_w48_w44
               try (have z3_w48_w44 := Nat.lt_of_succ_le y_w48_w44)
               try (have z4_w48_w44 := Nat.lt_of_succ_lt z3_w48_w44)
               have y_w48_w45 := Nat.le_trans HB_w45.out.size (Nat.le_trans (by (try simp only [World.size_alloc]); omega) hb.size)
               try simp at y_w48_w45
               try (have z3_w48_w45 := Nat.lt_of_succ_le y_w48_w45)
               try (have z4_w48_w45 := Nat.lt_of_succ_lt z3_w48_w45)
               have y_w48_w46 := Nat.le_trans HB_w46.out.size (Nat.le_trans (by (try simp only [World.size_alloc]); omega) hb.size)
               try simp at y_w48_w46
               try (have z3_w48_w46 := Nat.lt_of_succ_le y_w48_w46)
               try (have z4_w48_w46 := Nat.lt_of_succ_lt z3_w48_w46)
               have y_w48_w47 := Nat.le_trans HB_w47.out.size (Nat.le_trans (by (try simp only [World.size_alloc]); omega) hb.size)
               try simp at y_w48_w47
               try (have z3_w48_w47 := Nat.lt_of_succ_le y_w48_w47)
               try (have z4_w48_w47 := Nat.lt_of_succ_lt z3_w48_w47)
               clear hb
               clear t_k tok6))
      all_goals clear KK K0 KD K_w42 K_w43 K_w44 K_w45 K_w46 K_w47 K_w48
      all_goals go_wp2_with fail
      all_goals go_meet
      all_goals refine ⟨_, A_V, n_V, cap_V, B_V, m_V, cup_V, rfl, ⟨?_, ?_, ?_, ?_⟩⟩
      all_goals repeat' (first | with_reducible exact h_V.out | with_reducible exact B_w42.out | with_reducible exact B_w43.out | with_reducible exact B_w44.out | with_reducible exact B_w45.out | with_reducible exact B_w46.out | with_reducible exact B_w47.out | with_reducible exact B_w48.out | (with_reducible refine AtB.set4 (a := .bool false) (b := .slice none 0 0) (c := .bool false) (d := .slice none 0 0) (T := 54) ?_ _ _ _ _) | (with_reducible refine RR.alloc ?_ _) | (with_reducible refine RR.far4 (cs := #[.bool false, .slice none 0 0, .bool false, .slice none 0 0]) ?_ ?_ _ _ _ _) | with_reducible exact Below.refl _ _ | with_reducible apply below_new | with_reducible apply below_drew | (with_reducible refine below_set ?_ ?_ _) | (with_reducible refine AtB.set2 (a := .bool false) (b := .slice none 0 0) (T := 52) ?_ _ _) | (with_reducible refine AtB.set2 (a := .int .i64 0) (b := .int .u64 0) (T := 113) ?_ _ _) | (with_reducible refine AtB.far2 ?_ ?_ _ _) | (with_reducible refine BR.alloc ?_ _) | (with_reducible refine BR.far2 (a := .bool false) (b := .slice none 0 0) (T := 52) ?_ ?_ (by decide) _ _) | (with_reducible refine new_at_eq ?_ _ _; first | rfl | (simp; done)) | (with_reducible refine AtB.alloc ?_ _) | with_reducible apply AtB.drew | (with_reducible refine AtB.keep ?_ HB_w48.out) | (with_reducible refine AtB.keep ?_ HB_w47.out) | (with_reducible refine AtB.keep ?_ HB_w46.out) | (with_reducible refine AtB.keep ?_ HB_w45.out) | (with_reducible refine AtB.keep ?_ HB_w44.out) | (with_reducible refine AtB.keep ?_ HB_w43.out) | (with_reducible refine AtB.keep ?_ HB_w42.out) | omega)
  clear C_T12 C_T13 C_T14 C_T15 C_T16 C_T17 C_V
  obtain ⟨wc6, rfl⟩ : ∃ wo : World, wo = wc := ⟨_, rfl⟩
  obtain ⟨g_V, A_V, n_V, cap_V, B_V, m_V, cup_V, rfl, hcut⟩ := hcut
  obtain ⟨r_V, h_V, hb, hge⟩ := hcut.out
  clear hcut
  replace r_V := Lib.hid r_V; replace h_V := Lib.hid h_V
  have d_V := Lib.hid (And.intro (Nat.le_trans BB.out.size hge) (And.intro (Nat.lt_of_lt_of_le r_r1.out.lt hge) (And.intro (Nat.lt_of_lt_of_le r_r2.out.lt hge) (And.intro (Nat.lt_of_lt_of_le r_Y.out.lt hge) (And.intro (Nat.lt_of_lt_of_le r_YY.out.lt hge) (And.intro (Nat.lt_of_lt_of_le r_XY.out.lt hge) (And.intro (Nat.lt_of_lt_of_le r_R.out.lt hge) (And.intro (Nat.lt_of_lt_of_le r_G.out.lt hge) (And.intro (Nat.lt_of_lt_of_le r_TW.out.lt hge) (And.intro (Nat.lt_of_lt_of_le r_U.out.lt hge) (True.intro)))))))))))
  clear r_Y
  clear h_Y
  clear r_YY
  clear h_YY
  clear r_G
  clear h_G
  clear r_R
  clear h_R
  clear r_TW
  clear h_TW
  clear r_XY
  clear h_XY
  clear h_K5
  clear h_K6
  replace r_r1 := Lib.hid (r_r1.out.keep hb)
  replace r_r2 := Lib.hid (r_r2.out.keep hb)
  replace r_U := Lib.hid (r_U.out.keep hb)
  replace h_U := Lib.hid (h_U.out.below hb)
  replace h_kc := Lib.hid (KC.below h_kc.out hb)
  replace BB := Lib.hid (below_next BB.out hb)
  clear hb hge
  obtain ⟨s0, s1, s2, s3, s4, s5, s6⟩ := KS.out _ BB.out
  have kl := Nat.lt_of_lt_of_le hlt BB.out.size
  go_wp2_with fail
  clear s0 s1 s2 s3 s4 s5 s6 kl
  refine (O_PA.out _).mono ?_
  rintro e w49 ⟨v_PA, rfl, hb, h_PA⟩
  obtain ⟨A_PA, n_PA, cap_PA, B_PA, m_PA, cup_PA, rfl, -, -⟩ := id h_PA.form
  replace h_PA := Lib.hid h_PA
  replace r_r1 := Lib.hid (r_r1.out.keep hb)
  replace r_r2 := Lib.hid (r_r2.out.keep hb)
  replace r_U := Lib.hid (r_U.out.keep hb)
  replace r_V := Lib.hid (r_V.out.keep hb)
  replace h_U := Lib.hid (h_U.out.below hb)
  replace h_V := Lib.hid (h_V.out.below hb)
  replace h_kc := Lib.hid (KC.below h_kc.out hb)
  replace BB := Lib.hid (below_next BB.out hb)
  clear hb
  go_wp2_with fail
  have d_PA := Lib.hid (And.intro BB.out.size (And.intro r_r1.out.lt (And.intro r_r2.out.lt (And.intro r_U.out.lt (And.intro r_V.out.lt (True.intro))))))
  obtain ⟨hb, r_PA⟩ := laid w49 #[.bool (sgn (65536 * f)), .slice A_PA n_PA cap_PA, .bool (sgn (1)), .slice B_PA m_PA cup_PA] 54
  replace r_r1 := Lib.hid (r_r1.out.keep hb)
  replace r_r2 := Lib.hid (r_r2.out.keep hb)
  replace r_U := Lib.hid (r_U.out.keep hb)
  replace r_V := Lib.hid (r_V.out.keep hb)
  replace h_U := Lib.hid (h_U.out.below hb)
  replace h_V := Lib.hid (h_V.out.below hb)
  replace h_PA := Lib.hid (h_PA.out.below hb)
  replace h_kc := Lib.hid (KC.below h_kc.out hb)
  replace BB := Lib.hid (below_next BB.out hb)
  replace r_PA := Lib.hid r_PA
  clear hb
  generalize w49.alloc (.cells #[.bool (sgn (65536 * f)), .slice A_PA n_PA cap_PA, .bool (sgn (1)), .slice B_PA m_PA cup_PA] 54) = w50 at *
  generalize w49.heap.size = g_PA at *
  clear O_PA
  have KK := Lib.hid (fun (w9 : World) (h : Below w50.heap.size w50 w9) => (⟨KS.out _ (below_next BB.out h), cells4 (r_PA.out.keep h), cells4 (r_U.out.keep h), cells4 (r_V.out.keep h)⟩ : (S7 b off cx cy f k1 k2 p1 p2 w9) ∧ (w9.cell? ⟨g_PA, 0, none⟩ = some (.bool (sgn (65536 * f))) ∧ w9.cell? ⟨g_PA, 1, none⟩ = some (.slice A_PA n_PA cap_PA) ∧ w9.cell? ⟨g_PA, 2, none⟩ = some (.bool (sgn (1))) ∧ w9.cell? ⟨g_PA, 3, none⟩ = some (.slice B_PA m_PA cup_PA)) ∧ (w9.cell? ⟨g_U, 0, none⟩ = some (.bool (sgn (pU))) ∧ w9.cell? ⟨g_U, 1, none⟩ = some (.slice A_U n_U cap_U) ∧ w9.cell? ⟨g_U, 2, none⟩ = some (.bool (sgn (qU))) ∧ w9.cell? ⟨g_U, 3, none⟩ = some (.slice B_U m_U cup_U)) ∧ (w9.cell? ⟨g_V, 0, none⟩ = some (.bool (sgn (pV))) ∧ w9.cell? ⟨g_V, 1, none⟩ = some (.slice A_V n_V cap_V) ∧ w9.cell? ⟨g_V, 2, none⟩ = some (.bool (sgn (qV))) ∧ w9.cell? ⟨g_V, 3, none⟩ = some (.slice B_V m_V cup_V))))
  have K0 := KK.out w50 (Below.refl _ _)
  have KD := KK.out w50.drew (below_drew (Below.refl _ _))
  have tok0 : Hid True := trivial
  have tok1 : Hid True := trivial
  have tok2 : Hid True := trivial
  have tok3 : Hid True := trivial
  have tok4 : Hid True := trivial
  have tok5 : Hid True := trivial
  go_region_held3 (fun w9 => (S7 b off cx cy f k1 k2 p1 p2 w9) ∧ (w9.cell? ⟨g_PA, 0, none⟩ = some (.bool (sgn (65536 * f))) ∧ w9.cell? ⟨g_PA, 1, none⟩ = some (.slice A_PA n_PA cap_PA) ∧ w9.cell? ⟨g_PA, 2, none⟩ = some (.bool (sgn (1))) ∧ w9.cell? ⟨g_PA, 3, none⟩ = some (.slice B_PA m_PA cup_PA)) ∧ (w9.cell? ⟨g_U, 0, none⟩ = some (.bool (sgn (pU))) ∧ w9.cell? ⟨g_U, 1, none⟩ = some (.slice A_U n_U cap_U) ∧ w9.cell? ⟨g_U, 2, none⟩ = some (.bool (sgn (qU))) ∧ w9.cell? ⟨g_U, 3, none⟩ = some (.slice B_U m_U cup_U)) ∧ (w9.cell? ⟨g_V, 0, none⟩ = some (.bool (sgn (pV))) ∧ w9.cell? ⟨g_V, 1, none⟩ = some (.slice A_V n_V cap_V) ∧ w9.cell? ⟨g_V, 2, none⟩ = some (.bool (sgn (qV))) ∧ w9.cell? ⟨g_V, 3, none⟩ = some (.slice B_V m_V cup_V)))
      (first | with_reducible exact KD | with_reducible exact K0 | with_reducible exact K_w51 | with_reducible exact K_w52 | with_reducible exact K_w53 | with_reducible exact K_w54 | with_reducible exact K_w55 | with_reducible exact K_w56 | with_reducible exact ⟨(KS.out _ (below_far4 (below_next BB.out B_w56.out) (by omega) _ _ _ _)), cells4 ((r_PA.out.keep B_w56.out).far4 (by have dd_PA := d_PA.out; omega) _ _ _ _), cells4 ((r_U.out.keep B_w56.out).far4 (by have dd_U := d_U.out; omega) _ _ _ _), cells4 ((r_V.out.keep B_w56.out).far4 (by have dd_V := d_V.out; omega) _ _ _ _)⟩ | with_reducible exact ⟨(KS.out _ (below_far4 (below_next BB.out B_w56.out) (by omega) _ _ _ _)), cells4 ((r_PA.out.keep B_w56.out).far4 (by have dd_PA := d_PA.out; omega) _ _ _ _), cells4 ((r_U.out.keep B_w56.out).far4 (by have dd_U := d_U.out; omega) _ _ _ _), cells4 ((r_V.out.keep B_w56.out).far4 (by have dd_V := d_V.out; omega) _ _ _ _)⟩ | with_reducible exact ⟨(KS.out _ (below_far4 (below_far4 (below_next BB.out B_w56.out) (by omega) _ _ _ _) (by omega) _ _ _ _)), cells4 (((r_PA.out.keep B_w56.out).far4 (by have dd_PA := d_PA.out; omega) _ _ _ _).far4 (by have dd_PA := d_PA.out; omega) _ _ _ _), cells4 (((r_U.out.keep B_w56.out).far4 (by have dd_U := d_U.out; omega) _ _ _ _).far4 (by have dd_U := d_U.out; omega) _ _ _ _), cells4 (((r_V.out.keep B_w56.out).far4 (by have dd_V := d_V.out; omega) _ _ _ _).far4 (by have dd_V := d_V.out; omega) _ _ _ _)⟩ | with_reducible exact ⟨(KS.out _ (below_far4 (below_far4 (below_next BB.out B_w56.out) (by omega) _ _ _ _) (by omega) _ _ _ _)), cells4 (((r_PA.out.keep B_w56.out).far4 (by have dd_PA := d_PA.out; omega) _ _ _ _).far4 (by have dd_PA := d_PA.out; omega) _ _ _ _), cells4 (((r_U.out.keep B_w56.out).far4 (by have dd_U := d_U.out; omega) _ _ _ _).far4 (by have dd_U := d_U.out; omega) _ _ _ _), cells4 (((r_V.out.keep B_w56.out).far4 (by have dd_V := d_V.out; omega) _ _ _ _).far4 (by have dd_V := d_V.out; omega) _ _ _ _)⟩)
      (first
        | (go_at_call 44
           have t_k := tok0
           refine (O_C0.out _).mono ?_
           rintro e w51 ⟨v_C0, rfl, hb, h_C0⟩
           obtain ⟨A_C0, n_C0, cap_C0, B_C0, m_C0, cup_C0, rfl, -, -⟩ := id h_C0.form
           replace h_C0 := Lib.hid h_C0
           have B_w51 := Lib.hid (reg_next (w0 := w50) (by repeat (first | with_reducible exact Below.refl _ _ | with_reducible apply below_drew | with_reducible apply below_new)) hb)
           have K_w51 := KK.out _ B_w51.out
           clear hb
           clear t_k tok0)
        | (go_at_call 45
           have t_k := tok1
           refine (C_Z1.out _ _ _ (h_PA.out.below B_w51.out) (h_U.out.below B_w51.out)).mono ?_
           rintro e w52 ⟨v_Z1, rfl, hb, h_Z1⟩
           obtain ⟨A_Z1, n_Z1, cap_Z1, B_Z1, m_Z1, cup_Z1, rfl, -, -⟩ := id h_Z1.form
           replace h_Z1 := Lib.hid h_Z1
           replace h_C0 := Lib.hid (h_C0.out.below hb)
           have B_w52 := Lib.hid (below_next B_w51.out hb)
           have K_w52 := KK.out _ B_w52.out
           clear hb
           clear t_k tok1)
        | (go_at_call 47
           have t_k := tok2
           refine (C_E1.out _ _ _ h_C0.out h_Z1.out).mono ?_
           rintro e w53 ⟨v_E1, rfl, hb, h_E1⟩
           obtain ⟨A_E1, n_E1, cap_E1, B_E1, m_E1, cup_E1, rfl, -, -⟩ := id h_E1.form
           replace h_E1 := Lib.hid h_E1
           replace h_C0 := Lib.hid (h_C0.out.below hb)
           replace h_Z1 := Lib.hid (h_Z1.out.below hb)
           have B_w53 := Lib.hid (below_next B_w52.out hb)
           have K_w53 := KK.out _ B_w53.out
           clear hb
           clear t_k tok2)
        | (go_at_call 44
           have t_k := tok3
           refine (O_C1.out _).mono ?_
           rintro e w54 ⟨v_C1, rfl, hb, h_C1⟩
           obtain ⟨A_C1, n_C1, cap_C1, B_C1, m_C1, cup_C1, rfl, -, -⟩ := id h_C1.form
           replace h_C1 := Lib.hid h_C1
           replace h_C0 := Lib.hid (h_C0.out.below hb)
           replace h_Z1 := Lib.hid (h_Z1.out.below hb)
           replace h_E1 := Lib.hid (h_E1.out.below hb)
           have B_w54 := Lib.hid (below_next B_w53.out hb)
           have K_w54 := KK.out _ B_w54.out
           clear hb
           clear t_k tok3)
        | (go_at_call 45
           have t_k := tok4
           refine (C_Z2.out _ _ _ (h_PA.out.below B_w54.out) (h_V.out.below B_w54.out)).mono ?_
           rintro e w55 ⟨v_Z2, rfl, hb, h_Z2⟩
           obtain ⟨A_Z2, n_Z2, cap_Z2, B_Z2, m_Z2, cup_Z2, rfl, -, -⟩ := id h_Z2.form
           replace h_Z2 := Lib.hid h_Z2
           replace h_C0 := Lib.hid (h_C0.out.below hb)
           replace h_Z1 := Lib.hid (h_Z1.out.below hb)
           replace h_E1 := Lib.hid (h_E1.out.below hb)
           replace h_C1 := Lib.hid (h_C1.out.below hb)
           have B_w55 := Lib.hid (below_next B_w54.out hb)
           have K_w55 := KK.out _ B_w55.out
           clear hb
           clear t_k tok4)
        | (go_at_call 47
           have t_k := tok5
           refine (C_E2.out _ _ _ h_C1.out h_Z2.out).mono ?_
           rintro e w56 ⟨v_E2, rfl, hb, h_E2⟩
           obtain ⟨A_E2, n_E2, cap_E2, B_E2, m_E2, cup_E2, rfl, -, -⟩ := id h_E2.form
           replace h_E2 := Lib.hid h_E2
           replace h_C0 := Lib.hid (h_C0.out.below hb)
           replace h_Z1 := Lib.hid (h_Z1.out.below hb)
           replace h_E1 := Lib.hid (h_E1.out.below hb)
           replace h_C1 := Lib.hid (h_C1.out.below hb)
           replace h_Z2 := Lib.hid (h_Z2.out.below hb)
           have B_w56 := Lib.hid (below_next B_w55.out hb)
           have K_w56 := KK.out _ B_w56.out
           obtain ⟨rc_r10, rc_r11, rc_r12, rc_r13, rf_r10, rf_r11, rf_r12, rf_r13⟩ := reads4 (r_r1.out.keep B_w56.out)
           have rl_r1 := (r_r1.out.keep B_w56.out).lt
           obtain ⟨rc_r20, rc_r21, rc_r22, rc_r23, rf_r20, rf_r21, rf_r22, rf_r23⟩ := reads4 (r_r2.out.keep B_w56.out)
           have rl_r2 := (r_r2.out.keep B_w56.out).lt
           clear hb
           clear t_k tok5))
  clear KK K0 KD K_w51 K_w52 K_w53 K_w54 K_w55 K_w56
  replace r_r1 := Lib.hid (r_r1.out.keep B_w56.out)
  replace r_r2 := Lib.hid (r_r2.out.keep B_w56.out)
  replace r_U := Lib.hid (r_U.out.keep B_w56.out)
  replace r_V := Lib.hid (r_V.out.keep B_w56.out)
  replace r_PA := Lib.hid (r_PA.out.keep B_w56.out)
  replace h_U := Lib.hid (h_U.out.below B_w56.out)
  replace h_V := Lib.hid (h_V.out.below B_w56.out)
  replace h_PA := Lib.hid (h_PA.out.below B_w56.out)
  replace h_kc := Lib.hid (KC.below h_kc.out B_w56.out)
  replace BB := Lib.hid (below_next BB.out B_w56.out)
  clear B_w51 B_w52 B_w53 B_w54 B_w55 B_w56
  go_wp2_with fail
  refine bodyPost_ret (v := .tuple #[.agg #[.bool (sgn pE1), .slice A_E1 n_E1 cap_E1, .bool (sgn qE1), .slice B_E1 m_E1 cup_E1], .agg #[.bool (sgn pE2), .slice A_E2 n_E2 cap_E2, .bool (sgn qE2), .slice B_E2 m_E2 cup_E2]]) (by unfold results; simp only [Try.results22]; go_simp) rfl ?_
  exact ⟨pE1, qE1, pE2, qE2, give_rats BB.out h_E1.out.parts.1 h_E1.out.parts.2 h_E2.out.parts.1 h_E2.out.parts.2 r_r1.out r_r2.out (by omega) (by omega) (by omega), HE.out⟩
end Go.Proofs.Ythdbchghhpoadaa
