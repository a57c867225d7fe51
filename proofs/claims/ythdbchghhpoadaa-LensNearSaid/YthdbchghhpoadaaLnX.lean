/- Plain: the numbers of the document's exact lens, one behind the other; what is told is less than 12000 times the focus away. (glnx.py printed it.) -/
import Derived.Test.YthdbchghhpoadaaLnE
import Derived.Test.YthdbchghhpoadaaLens5
set_option linter.unusedVariables false
set_option linter.unusedSimpArgs false
namespace Go.Proofs.Ythdbchghhpoadaa
/-- What holds of the numbers. -/
structure LnF (cx cy f k1 k2 p1 p2 px py d pS1 qS1 pX qX pS2 qS2 pY qY pXX qXX pYY qYY pT1 qT1 pXY qXY pR qR pT2 qT2 pT3 qT3 pT4 qT4 pT5 qT5 pG qG pT6 qT6 pT7 qT7 pT8 qT8 pT9 qT9 pT10 qT10 pT11 qT11 pU qU pT12 qT12 pT13 qT13 pT14 qT14 pT15 qT15 pT16 qT16 pT17 qT17 pV qV pZ1 qZ1 pE1 qE1 pZ2 qZ2 pE2 qE2 : Int) : Prop where
  wpS1 : Wd 37 pS1
  wqS1 : Wd 20 qS1
  wpX : Wd 37 pX
  wqX : Wd 35 qX
  wpS2 : Wd 37 pS2
  wqS2 : Wd 20 qS2
  wpY : Wd 37 pY
  wqY : Wd 35 qY
  wpXX : Wd 74 pXX
  wqXX : Wd 70 qXX
  wpYY : Wd 74 pYY
  wqYY : Wd 70 qYY
  wpT1 : Wd 74 pT1
  wqT1 : Wd 70 qT1
  wpXY : Wd 75 pXY
  wqXY : Wd 70 qXY
  wpR : Wd 145 pR
  wqR : Wd 140 qR
  wpT2 : Wd 161 pT2
  wqT2 : Wd 156 qT2
  wpT3 : Wd 290 pT3
  wqT3 : Wd 280 qT3
  wpT4 : Wd 306 pT4
  wqT4 : Wd 296 qT4
  wpT5 : Wd 463 pT5
  wqT5 : Wd 452 qT5
  wpG : Wd 464 pG
  wqG : Wd 452 qG
  wpT6 : Wd 501 pT6
  wqT6 : Wd 487 qT6
  wpT7 : Wd 91 pT7
  wqT7 : Wd 86 qT7
  wpT8 : Wd 75 pT8
  wqT8 : Wd 70 qT8
  wpT9 : Wd 216 pT9
  wqT9 : Wd 210 qT9
  wpT10 : Wd 232 pT10
  wqT10 : Wd 226 qT10
  wpT11 : Wd 319 pT11
  wqT11 : Wd 312 qT11
  wpU : Wd 814 pU
  wqU : Wd 799 qU
  wpT12 : Wd 501 pT12
  wqT12 : Wd 487 qT12
  wpT13 : Wd 75 pT13
  wqT13 : Wd 70 qT13
  wpT14 : Wd 216 pT14
  wqT14 : Wd 210 qT14
  wpT15 : Wd 232 pT15
  wqT15 : Wd 226 qT15
  wpT16 : Wd 91 pT16
  wqT16 : Wd 86 qT16
  wpT17 : Wd 319 pT17
  wqT17 : Wd 312 qT17
  wpV : Wd 814 pV
  wqV : Wd 799 qV
  wpZ1 : Wd 845 pZ1
  wqZ1 : Wd 799 qZ1
  wpE1 : Wd 846 pE1
  wqE1 : Wd 799 qE1
  wpZ2 : Wd 845 pZ2
  wqZ2 : Wd 799 qZ2
  wpE2 : Wd 846 pE2
  wqE2 : Wd 799 qE2
  u1 : latU cx f k1 k2 p1 p2 (axI px d cx f) (axI py d cy f) * qE1 - pE1 < 12000 * f * qE1
  u2 : pE1 - latU cx f k1 k2 p1 p2 (axI px d cx f) (axI py d cy f) * qE1 < 12000 * f * qE1
  v1 : latU cy f k1 k2 p2 p1 (axI py d cy f) (axI px d cx f) * qE2 - pE2 < 12000 * f * qE2
  v2 : pE2 - latU cy f k1 k2 p2 p1 (axI py d cy f) (axI px d cx f) * qE2 < 12000 * f * qE2
/-- A place's number along an axis: less than one off. -/
theorem ax_er {p d m f P Q P1 Q1 : Int} (hd : 0 < d) (hf : 0 < f) (h1 : P1 = p * 65536 + -m * d) (h2 : Q1 = d * 65536) (h3 : P = P1 * 1) (h4 : Q = Q1 * f) : ER 65536 P Q (axI p d m f) 1 := by
  have a1 := Int.mul_ediv_add_emod (65536 * p) d
  have a2 := Int.emod_nonneg (65536 * p) (show d ≠ 0 by omega)
  have a3 := Int.emod_lt_of_pos (65536 * p) hd
  have b1 := Int.mul_ediv_add_emod (65536 * p / d - m) f
  have b2 := Int.emod_nonneg (65536 * p / d - m) (show f ≠ 0 by omega)
  have b3 := Int.emod_lt_of_pos (65536 * p / d - m) hf
  unfold axI
  generalize (65536 * p) % d = r at *
  generalize 65536 * p / d = A at *
  generalize (A - m) % f = s at *
  generalize (A - m) / f = x at *
  have e : 65536 * P - x * Q = 65536 * (s * d + r) := by
    rw [h3, h4, h1, h2]
    have : m = A - (f * x + s) := by omega
    subst this
    have : 65536 * p = d * A + r := a1.symm
    grind
  have q0 : 0 < Q := by rw [h4, h2]; exact Int.mul_pos (by omega) hf
  have c1 : s * d ≤ (f - 1) * d := Int.mul_le_mul_of_nonneg_right (by omega) (by omega)
  have c2 : 0 ≤ s * d := Int.mul_nonneg b2 (by omega)
  have c3 : (f - 1) * d = f * d - d := by rw [Int.sub_mul, Int.one_mul]
  have c4 : Q = 65536 * (f * d) := by rw [h4, h2]; grind
  refine ⟨q0, ?_, ?_⟩
  · rw [e, Int.one_mul]; omega
  · rw [e, Int.one_mul]; omega
theorem er_one : ER 65536 1 1 65536 0 := ER.of (by omega) (by omega)
theorem er_two : ER 1 2 1 2 0 := ER.of (by omega) (by omega)
theorem er_k (k : Int) : ER 65536 k 65536 k 0 := ER.of (by omega) (Int.mul_comm _ _)
theorem er_eq {S p q n e p' q' n' : Int} (h : ER S p q n e) (hp : p' = p) (hq : q' = q) (hn : n' = n) : ER S p' q' n' e := by rw [hp, hq, hn]; exact h
theorem er_twice {S p q n e p' q' : Int} (h : ER S p q n e) (hp : p' = 2 * p) (hq : q' = 1 * q) : ER S p' q' (2 * n) (2 * e) := by
  obtain ⟨h1, h2, h3⟩ := h
  subst hp hq
  have a1 : S * (2 * p) = 2 * (S * p) := by rw [Int.mul_left_comm]
  have a2 : 2 * n * (1 * q) = 2 * (n * q) := by rw [Int.one_mul, Int.mul_assoc]
  have a3 : 2 * e * (1 * q) = 2 * (e * q) := by rw [Int.one_mul, Int.mul_assoc]
  refine ⟨by omega, ?_, ?_⟩
  · rw [a1, a2, a3]; omega
  · rw [a1, a2, a3]; omega
theorem er_near {c f P Q n e pU qU : Int} {B : Int} (h : ER 65536 pU qU n e) (hf : 0 < f) (he : e < B) (hP : P = c * (1 * qU) + (65536 * f * pU) * 1) (hQ : Q = 1 * (1 * qU)) : (c + f * n) * Q - P < B * f * Q ∧ P - (c + f * n) * Q < B * f * Q := by
  obtain ⟨h1, h2, h3⟩ := h
  have eq : Q = qU := by rw [hQ, Int.one_mul, Int.one_mul]
  have e1 : (c + f * n) * Q - P = f * (n * qU - 65536 * pU) := by rw [hP, eq]; grind
  have e2 : P - (c + f * n) * Q = f * (65536 * pU - n * qU) := by rw [hP, eq]; grind
  have e3 : B * f * Q = f * (B * qU) := by rw [eq]; grind
  have m0 : e * qU < B * qU := Int.mul_lt_mul_of_pos_right he h1
  rw [e1, e2, e3]
  exact ⟨Int.mul_lt_mul_of_pos_left (by omega) hf, Int.mul_lt_mul_of_pos_left (by omega) hf⟩

set_option maxRecDepth 100000 in
set_option maxHeartbeats 4000000 in
theorem lens_facts {cx cy f k1 k2 p1 p2 px py d pS1 qS1 pX qX pS2 qS2 pY qY pXX qXX pYY qYY pT1 qT1 pXY qXY pR qR pT2 qT2 pT3 qT3 pT4 qT4 pT5 qT5 pG qG pT6 qT6 pT7 qT7 pT8 qT8 pT9 qT9 pT10 qT10 pT11 qT11 pU qU pT12 qT12 pT13 qT13 pT14 qT14 pT15 qT15 pT16 qT16 pT17 qT17 pV qV pZ1 qZ1 pE1 qE1 pZ2 qZ2 pE2 qE2 : Int} (hM : LM cx cy f k1 k2 p1 p2) (hp : rightI px py d = true) (hf : farI cx cy f px py d = false) (hpS1 : pS1 = px * 65536 + -cx * d) (hqS1 : qS1 = d * 65536) (hpX : pX = pS1 * 1) (hqX : qX = qS1 * f) (hpS2 : pS2 = py * 65536 + -cy * d) (hqS2 : qS2 = d * 65536) (hpY : pY = pS2 * 1) (hqY : qY = qS2 * f) (hpXX : pXX = pX * pX) (hqXX : qXX = qX * qX) (hpYY : pYY = pY * pY) (hqYY : qYY = qY * qY) (hpT1 : pT1 = pX * pY) (hqT1 : qT1 = qX * qY) (hpXY : pXY = 2 * pT1) (hqXY : qXY = 1 * qT1) (hpR : pR = pXX * qYY + pYY * qXX) (hqR : qR = qXX * qYY) (hpT2 : pT2 = k1 * pR) (hqT2 : qT2 = 65536 * qR) (hpT3 : pT3 = pR * pR) (hqT3 : qT3 = qR * qR) (hpT4 : pT4 = k2 * pT3) (hqT4 : qT4 = 65536 * qT3) (hpT5 : pT5 = pT2 * qT4 + pT4 * qT2) (hqT5 : qT5 = qT2 * qT4) (hpG : pG = 1 * qT5 + pT5 * 1) (hqG : qG = 1 * qT5) (hpT6 : pT6 = pX * pG) (hqT6 : qT6 = qX * qG) (hpT7 : pT7 = p1 * pXY) (hqT7 : qT7 = 65536 * qXY) (hpT8 : pT8 = 2 * pXX) (hqT8 : qT8 = 1 * qXX) (hpT9 : pT9 = pR * qT8 + pT8 * qR) (hqT9 : qT9 = qR * qT8) (hpT10 : pT10 = p2 * pT9) (hqT10 : qT10 = 65536 * qT9) (hpT11 : pT11 = pT7 * qT10 + pT10 * qT7) (hqT11 : qT11 = qT7 * qT10) (hpU : pU = pT6 * qT11 + pT11 * qT6) (hqU : qU = qT6 * qT11) (hpT12 : pT12 = pY * pG) (hqT12 : qT12 = qY * qG) (hpT13 : pT13 = 2 * pYY) (hqT13 : qT13 = 1 * qYY) (hpT14 : pT14 = pR * qT13 + pT13 * qR) (hqT14 : qT14 = qR * qT13) (hpT15 : pT15 = p1 * pT14) (hqT15 : qT15 = 65536 * qT14) (hpT16 : pT16 = p2 * pXY) (hqT16 : qT16 = 65536 * qXY) (hpT17 : pT17 = pT15 * qT16 + pT16 * qT15) (hqT17 : qT17 = qT15 * qT16) (hpV : pV = pT12 * qT17 + pT17 * qT12) (hqV : qV = qT12 * qT17) (hpZ1 : pZ1 = (65536 * f) * pU) (hqZ1 : qZ1 = 1 * qU) (hpE1 : pE1 = cx * qZ1 + pZ1 * 1) (hqE1 : qE1 = 1 * qZ1) (hpZ2 : pZ2 = (65536 * f) * pV) (hqZ2 : qZ2 = 1 * qV) (hpE2 : pE2 = cy * qZ2 + pZ2 * 1) (hqE2 : qE2 = 1 * qZ2) : LnF cx cy f k1 k2 p1 p2 px py d pS1 qS1 pX qX pS2 qS2 pY qY pXX qXX pYY qYY pT1 qT1 pXY qXY pR qR pT2 qT2 pT3 qT3 pT4 qT4 pT5 qT5 pG qG pT6 qT6 pT7 qT7 pT8 qT8 pT9 qT9 pT10 qT10 pT11 qT11 pU qU pT12 qT12 pT13 qT13 pT14 qT14 pT15 qT15 pT16 qT16 pT17 qT17 pV qV pZ1 qZ1 pE1 qE1 pZ2 qZ2 pE2 qE2 := by
  obtain ⟨hx0, hy0, hd1, hd2⟩ := rightI_iff.1 hp
  obtain ⟨mx, my, mf, mk1, mk2, mp1, mp2⟩ := hM
  have hX : -262144 ≤ axI px d cx f ∧ axI px d cx f ≤ 262144 := by unfold farI at hf; simp only [Bool.or_eq_false_iff, Bool.not_eq_false'] at hf; exact inI_iff.1 hf.1
  have hY : -262144 ≤ axI py d cy f ∧ axI py d cy f ≤ 262144 := by unfold farI at hf; simp only [Bool.or_eq_false_iff, Bool.not_eq_false'] at hf; exact inI_iff.1 hf.2
  have wpON : Wd 0 (1) := ⟨by omega, by omega⟩
  have wqON : Wd 0 (1) := ⟨by omega, by omega⟩
  have wpK0 : Wd 31 (cx) := ⟨by omega, by omega⟩
  have wqK0 : Wd 16 (65536) := ⟨by omega, by omega⟩
  have wpK1 : Wd 31 (cy) := ⟨by omega, by omega⟩
  have wqK1 : Wd 16 (65536) := ⟨by omega, by omega⟩
  have wpK2 : Wd 15 (f) := ⟨by omega, by omega⟩
  have wqK2 : Wd 16 (65536) := ⟨by omega, by omega⟩
  have wpK3 : Wd 16 (k1) := ⟨by omega, by omega⟩
  have wqK3 : Wd 16 (65536) := ⟨by omega, by omega⟩
  have wpK4 : Wd 16 (k2) := ⟨by omega, by omega⟩
  have wqK4 : Wd 16 (65536) := ⟨by omega, by omega⟩
  have wpK5 : Wd 16 (p1) := ⟨by omega, by omega⟩
  have wqK5 : Wd 16 (65536) := ⟨by omega, by omega⟩
  have wpK6 : Wd 16 (p2) := ⟨by omega, by omega⟩
  have wqK6 : Wd 16 (65536) := ⟨by omega, by omega⟩
  have wpFO : Wd 0 (1) := ⟨by omega, by omega⟩
  have wqFO : Wd 15 (f) := ⟨by omega, by omega⟩
  have wpPX : Wd 20 (px) := ⟨by omega, by omega⟩
  have wqPX : Wd 4 (d) := ⟨by omega, by omega⟩
  have wpPY : Wd 20 (py) := ⟨by omega, by omega⟩
  have wqPY : Wd 4 (d) := ⟨by omega, by omega⟩
  have wpTW : Wd 1 (2) := ⟨by omega, by omega⟩
  have wqTW : Wd 0 (1) := ⟨by omega, by omega⟩
  have wpPA : Wd 31 (65536 * f) := ⟨by omega, by omega⟩
  have wqPA : Wd 0 (1) := ⟨by omega, by omega⟩
  have wpC0 : Wd 31 (cx) := ⟨by omega, by omega⟩
  have wqC0 : Wd 0 (1) := ⟨by omega, by omega⟩
  have wpC1 : Wd 31 (cy) := ⟨by omega, by omega⟩
  have wqC1 : Wd 0 (1) := ⟨by omega, by omega⟩
  have wpS1 : Wd 37 pS1 := by rw [hpS1]; exact ((wpPX.mul wqK0).up (n := 36) (by omega)).add ((wpK0.neg.mul wqPX).up (n := 36) (by omega))
  have wqS1 : Wd 20 qS1 := by rw [hqS1]; exact (wqPX.mul wqK0)
  have wpX : Wd 37 pX := by rw [hpX]; exact (wpS1.mul wpFO)
  have wqX : Wd 35 qX := by rw [hqX]; exact (wqS1.mul wqFO)
  have wpS2 : Wd 37 pS2 := by rw [hpS2]; exact ((wpPY.mul wqK1).up (n := 36) (by omega)).add ((wpK1.neg.mul wqPY).up (n := 36) (by omega))
  have wqS2 : Wd 20 qS2 := by rw [hqS2]; exact (wqPY.mul wqK1)
  have wpY : Wd 37 pY := by rw [hpY]; exact (wpS2.mul wpFO)
  have wqY : Wd 35 qY := by rw [hqY]; exact (wqS2.mul wqFO)
  have wpXX : Wd 74 pXX := by rw [hpXX]; exact (wpX.mul wpX)
  have wqXX : Wd 70 qXX := by rw [hqXX]; exact (wqX.mul wqX)
  have wpYY : Wd 74 pYY := by rw [hpYY]; exact (wpY.mul wpY)
  have wqYY : Wd 70 qYY := by rw [hqYY]; exact (wqY.mul wqY)
  have wpT1 : Wd 74 pT1 := by rw [hpT1]; exact (wpX.mul wpY)
  have wqT1 : Wd 70 qT1 := by rw [hqT1]; exact (wqX.mul wqY)
  have wpXY : Wd 75 pXY := by rw [hpXY]; exact (wpTW.mul wpT1)
  have wqXY : Wd 70 qXY := by rw [hqXY]; exact (wqTW.mul wqT1)
  have wpR : Wd 145 pR := by rw [hpR]; exact ((wpXX.mul wqYY).up (n := 144) (by omega)).add ((wpYY.mul wqXX).up (n := 144) (by omega))
  have wqR : Wd 140 qR := by rw [hqR]; exact (wqXX.mul wqYY)
  have wpT2 : Wd 161 pT2 := by rw [hpT2]; exact (wpK3.mul wpR)
  have wqT2 : Wd 156 qT2 := by rw [hqT2]; exact (wqK3.mul wqR)
  have wpT3 : Wd 290 pT3 := by rw [hpT3]; exact (wpR.mul wpR)
  have wqT3 : Wd 280 qT3 := by rw [hqT3]; exact (wqR.mul wqR)
  have wpT4 : Wd 306 pT4 := by rw [hpT4]; exact (wpK4.mul wpT3)
  have wqT4 : Wd 296 qT4 := by rw [hqT4]; exact (wqK4.mul wqT3)
  have wpT5 : Wd 463 pT5 := by rw [hpT5]; exact ((wpT2.mul wqT4).up (n := 462) (by omega)).add ((wpT4.mul wqT2).up (n := 462) (by omega))
  have wqT5 : Wd 452 qT5 := by rw [hqT5]; exact (wqT2.mul wqT4)
  have wpG : Wd 464 pG := by rw [hpG]; exact ((wpON.mul wqT5).up (n := 463) (by omega)).add ((wpT5.mul wqON).up (n := 463) (by omega))
  have wqG : Wd 452 qG := by rw [hqG]; exact (wqON.mul wqT5)
  have wpT6 : Wd 501 pT6 := by rw [hpT6]; exact (wpX.mul wpG)
  have wqT6 : Wd 487 qT6 := by rw [hqT6]; exact (wqX.mul wqG)
  have wpT7 : Wd 91 pT7 := by rw [hpT7]; exact (wpK5.mul wpXY)
  have wqT7 : Wd 86 qT7 := by rw [hqT7]; exact (wqK5.mul wqXY)
  have wpT8 : Wd 75 pT8 := by rw [hpT8]; exact (wpTW.mul wpXX)
  have wqT8 : Wd 70 qT8 := by rw [hqT8]; exact (wqTW.mul wqXX)
  have wpT9 : Wd 216 pT9 := by rw [hpT9]; exact ((wpR.mul wqT8).up (n := 215) (by omega)).add ((wpT8.mul wqR).up (n := 215) (by omega))
  have wqT9 : Wd 210 qT9 := by rw [hqT9]; exact (wqR.mul wqT8)
  have wpT10 : Wd 232 pT10 := by rw [hpT10]; exact (wpK6.mul wpT9)
  have wqT10 : Wd 226 qT10 := by rw [hqT10]; exact (wqK6.mul wqT9)
  have wpT11 : Wd 319 pT11 := by rw [hpT11]; exact ((wpT7.mul wqT10).up (n := 318) (by omega)).add ((wpT10.mul wqT7).up (n := 318) (by omega))
  have wqT11 : Wd 312 qT11 := by rw [hqT11]; exact (wqT7.mul wqT10)
  have wpU : Wd 814 pU := by rw [hpU]; exact ((wpT6.mul wqT11).up (n := 813) (by omega)).add ((wpT11.mul wqT6).up (n := 813) (by omega))
  have wqU : Wd 799 qU := by rw [hqU]; exact (wqT6.mul wqT11)
  have wpT12 : Wd 501 pT12 := by rw [hpT12]; exact (wpY.mul wpG)
  have wqT12 : Wd 487 qT12 := by rw [hqT12]; exact (wqY.mul wqG)
  have wpT13 : Wd 75 pT13 := by rw [hpT13]; exact (wpTW.mul wpYY)
  have wqT13 : Wd 70 qT13 := by rw [hqT13]; exact (wqTW.mul wqYY)
  have wpT14 : Wd 216 pT14 := by rw [hpT14]; exact ((wpR.mul wqT13).up (n := 215) (by omega)).add ((wpT13.mul wqR).up (n := 215) (by omega))
  have wqT14 : Wd 210 qT14 := by rw [hqT14]; exact (wqR.mul wqT13)
  have wpT15 : Wd 232 pT15 := by rw [hpT15]; exact (wpK5.mul wpT14)
  have wqT15 : Wd 226 qT15 := by rw [hqT15]; exact (wqK5.mul wqT14)
  have wpT16 : Wd 91 pT16 := by rw [hpT16]; exact (wpK6.mul wpXY)
  have wqT16 : Wd 86 qT16 := by rw [hqT16]; exact (wqK6.mul wqXY)
  have wpT17 : Wd 319 pT17 := by rw [hpT17]; exact ((wpT15.mul wqT16).up (n := 318) (by omega)).add ((wpT16.mul wqT15).up (n := 318) (by omega))
  have wqT17 : Wd 312 qT17 := by rw [hqT17]; exact (wqT15.mul wqT16)
  have wpV : Wd 814 pV := by rw [hpV]; exact ((wpT12.mul wqT17).up (n := 813) (by omega)).add ((wpT17.mul wqT12).up (n := 813) (by omega))
  have wqV : Wd 799 qV := by rw [hqV]; exact (wqT12.mul wqT17)
  have wpZ1 : Wd 845 pZ1 := by rw [hpZ1]; exact (wpPA.mul wpU)
  have wqZ1 : Wd 799 qZ1 := by rw [hqZ1]; exact (wqPA.mul wqU)
  have wpE1 : Wd 846 pE1 := by rw [hpE1]; exact ((wpC0.mul wqZ1).up (n := 845) (by omega)).add ((wpZ1.mul wqC0).up (n := 845) (by omega))
  have wqE1 : Wd 799 qE1 := by rw [hqE1]; exact (wqC0.mul wqZ1)
  have wpZ2 : Wd 845 pZ2 := by rw [hpZ2]; exact (wpPA.mul wpV)
  have wqZ2 : Wd 799 qZ2 := by rw [hqZ2]; exact (wqPA.mul wqV)
  have wpE2 : Wd 846 pE2 := by rw [hpE2]; exact ((wpC1.mul wqZ2).up (n := 845) (by omega)).add ((wpZ2.mul wqC1).up (n := 845) (by omega))
  have wqE2 : Wd 799 qE2 := by rw [hqE2]; exact (wqC1.mul wqZ2)
  have eX := ax_er (m := cx) (show 0 < d by omega) (show 0 < f by omega) hpS1 hqS1 hpX hqX
  have eY := ax_er (m := cy) (show 0 < d by omega) (show 0 < f by omega) hpS2 hqS2 hpY hqY
  obtain ⟨x, hxe⟩ : ∃ v, v = axI px d cx f := ⟨_, rfl⟩
  obtain ⟨y, hye⟩ : ∃ v, v = axI py d cy f := ⟨_, rfl⟩
  rw [← hxe] at eX hX
  rw [← hye] at eY hY
  obtain ⟨-, -, b1, b2, b3, b4, b5, -, b6, b7, b8, b9, -⟩ := bend_facts (s := p2) (o := p1) hX hY mk1 mk2 mp2 mp1
  obtain ⟨-, -, -, -, -, -, -, -, c6, c7, c8, c9, -⟩ := bend_facts (s := p1) (o := p2) hY hX mk1 mk2 mp1 mp2
  have eXX : ER (65536 * 65536) pXX qXX (x * x) 524289 := er_eq ((eX.mul eX hX.2 hX.1 hX.2 hX.1).more (by omega)) hpXX hqXX rfl
  have eYY : ER (65536 * 65536) pYY qYY (y * y) 524289 := er_eq ((eY.mul eY hY.2 hY.1 hY.2 hY.1).more (by omega)) hpYY hqYY rfl
  have eT1 : ER (65536 * 65536) pT1 qT1 (x * y) 524289 := er_eq ((eX.mul eY hX.2 hX.1 hY.2 hY.1).more (by omega)) hpT1 hqT1 rfl
  have eR : ER 65536 pR qR (lr x y) 18 := (er_eq (eXX.add eYY) hpR hqR rfl).down 18 (by omega)
  have eXY : ER 65536 pXY qXY (2 * x * y / 65536) 18 := (er_eq (er_twice eT1 rfl rfl) hpXY hqXY (Int.mul_assoc _ _ _)).down 18 (by omega)
  have eT8 : ER 65536 pT8 qT8 (2 * x * x / 65536) 18 := (er_eq (er_twice eXX rfl rfl) hpT8 hqT8 (Int.mul_assoc _ _ _)).down 18 (by omega)
  have eT13 : ER 65536 pT13 qT13 (2 * y * y / 65536) 18 := (er_eq (er_twice eYY rfl rfl) hpT13 hqT13 (Int.mul_assoc _ _ _)).down 18 (by omega)
  have eT2 : ER 65536 pT2 qT2 (k1 * lr x y / 65536) 19 := (er_eq (ER.mul (er_k k1) eR mk1.2 mk1.1 b1.2 (by omega)) hpT2 hqT2 rfl).down 19 (by omega)
  have eT3 : ER 65536 pT3 qT3 (lr x y * lr x y / 65536) 1154 := (er_eq (ER.mul eR eR b1.2 (by omega) b1.2 (by omega)) hpT3 hqT3 rfl).down 1154 (by omega)
  have eT4 : ER 65536 pT4 qT4 (k2 * (lr x y * lr x y / 65536) / 65536) 1155 := (er_eq (ER.mul (er_k k2) eT3 mk2.2 mk2.1 (M := 67108864) (by omega) (by omega)) hpT4 hqT4 rfl).down 1155 (by omega)
  have eT5 := er_eq (eT2.add eT4) hpT5 hqT5 rfl
  have eG : ER 65536 pG qG (lg k1 k2 (lr x y)) 1174 := (er_eq (er_one.add eT5) hpG hqG (by unfold lg; omega)).more (by omega)
  have eT6 : ER 65536 pT6 qT6 (x * lg k1 k2 (lr x y) / 65536) 6746 := (er_eq (ER.mul eX eG hX.2 hX.1 b5.2 b5.1) hpT6 hqT6 rfl).down 6746 (by omega)
  have eT12 : ER 65536 pT12 qT12 (y * lg k1 k2 (lr x y) / 65536) 6746 := (er_eq (ER.mul eY eG hY.2 hY.1 b5.2 b5.1) hpT12 hqT12 rfl).down 6746 (by omega)
  have eT7 : ER 65536 pT7 qT7 (p1 * (2 * x * y / 65536) / 65536) 19 := (er_eq (ER.mul (er_k p1) eXY mp1.2 mp1.1 (M := 2097152) (by omega) (by omega)) hpT7 hqT7 rfl).down 19 (by omega)
  have eT16 : ER 65536 pT16 qT16 (p2 * (2 * x * y / 65536) / 65536) 19 := (er_eq (ER.mul (er_k p2) eXY mp2.2 mp2.1 (M := 2097152) (by omega) (by omega)) hpT16 hqT16 rfl).down 19 (by omega)
  have eT9 := er_eq (eR.add eT8) hpT9 hqT9 rfl
  have eT14 := er_eq (eR.add eT13) hpT14 hqT14 rfl
  have eT10 : ER 65536 pT10 qT10 (p2 * (lr x y + 2 * x * x / 65536) / 65536) 37 := (er_eq (ER.mul (er_k p2) eT9 mp2.2 mp2.1 (M := 4194304) (by omega) (by omega)) hpT10 hqT10 rfl).down 37 (by omega)
  have eT15 : ER 65536 pT15 qT15 (p1 * (lr x y + 2 * y * y / 65536) / 65536) 37 := (er_eq (ER.mul (er_k p1) eT14 mp1.2 mp1.1 (M := 4194304) (by omega) (by omega)) hpT15 hqT15 rfl).down 37 (by omega)
  have eT11 := er_eq (eT7.add eT10) hpT11 hqT11 rfl
  have eT17 := er_eq (eT15.add eT16) hpT17 hqT17 rfl
  have eU : ER 65536 pU qU (lB k1 k2 x y p2 p1) 6802 := (er_eq (eT6.add eT11) hpU hqU (by unfold lB; omega)).more (by omega)
  have hcom : lr y x = lr x y := by unfold lr; rw [Int.add_comm]
  have hcom2 : 2 * y * x = 2 * x * y := by rw [Int.mul_assoc, Int.mul_comm y x, ← Int.mul_assoc]
  have eV : ER 65536 pV qV (lB k1 k2 y x p1 p2) 6802 := (er_eq (eT12.add eT17) hpV hqV (by unfold lB; rw [hcom, hcom2]; omega)).more (by omega)
  have nU := er_near (c := cx) (f := f) (B := 12000) eU (by omega) (by omega) (P := pE1) (Q := qE1) (by rw [hpE1, hpZ1, hqZ1]) (by rw [hqE1, hqZ1])
  have nV := er_near (c := cy) (f := f) (B := 12000) eV (by omega) (by omega) (P := pE2) (Q := qE2) (by rw [hpE2, hpZ2, hqZ2]) (by rw [hqE2, hqZ2])
  exact ⟨wpS1, wqS1, wpX, wqX, wpS2, wqS2, wpY, wqY, wpXX, wqXX, wpYY, wqYY, wpT1, wqT1, wpXY, wqXY, wpR, wqR, wpT2, wqT2, wpT3, wqT3, wpT4, wqT4, wpT5, wqT5, wpG, wqG, wpT6, wqT6, wpT7, wqT7, wpT8, wqT8, wpT9, wqT9, wpT10, wqT10, wpT11, wqT11, wpU, wqU, wpT12, wqT12, wpT13, wqT13, wpT14, wqT14, wpT15, wqT15, wpT16, wqT16, wpT17, wqT17, wpV, wqV, wpZ1, wqZ1, wpE1, wqE1, wpZ2, wqZ2, wpE2, wqE2, by rw [← hxe, ← hye]; exact nU.1, by rw [← hxe, ← hye]; exact nU.2, by rw [← hxe, ← hye]; exact nV.1, by rw [← hxe, ← hye]; exact nV.2⟩
end Go.Proofs.Ythdbchghhpoadaa
