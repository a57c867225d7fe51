/- Parts of the proof: Wl0 Wl1. -/
import Derived.Test.YtikpobembcgbfaaGreatDoorQ11
import Derived.Test.YtikpobembcgbfaaGreatDoorQ14
set_option linter.unusedVariables false
set_option linter.unusedSimpArgs false
set_option maxRecDepth 100000
set_option maxHeartbeats 40000000
namespace Go.Proofs.YtikpobembcgbfaaGreatDoor
open Go.RowKit Go.Lib
abbrev ScT : TypeId := 93
def wbB (c : UInt8) : Bool := decide (c.toNat = 9 ∨ c.toNat = 13 ∨ c.toNat = 32)
def wmB (c : UInt8) : Bool := decide (33 ≤ c.toNat ∧ c.toNat ≤ 126 ∧ c.toNat ≠ 35)
def cntB (f : UInt8 → Bool) : List UInt8 → Nat
 | [] => 0
 | c :: t => if f c then 1 + cntB f t else 0
theorem cntB_le (f : UInt8 → Bool) : ∀ l : List UInt8, cntB f l ≤ l.length
 | [] => Nat.le_refl _
 | c :: t => by
   have := cntB_le f t
   simp only [cntB, List.length_cons]
   split <;> omega
theorem cntB_in (f : UInt8 → Bool) : ∀ {l : List UInt8} {i : Nat}, i < cntB f l → f (l.getD i 0) = true
 | [], i, h => by simp [cntB] at h
 | c :: t, i, h => by
   simp only [cntB] at h
   split at h
   · rename_i hc
     cases i with
     | zero => exact hc
     | succ i => exact cntB_in f (l := t) (i := i) (by omega)
   · omega
theorem cntB_end (f : UInt8 → Bool) : ∀ {l : List UInt8}, cntB f l < l.length → f (l.getD (cntB f l) 0) = false
 | [], h => by simp at h
 | c :: t, h => by
   by_cases hc : f c = true
   · have e : cntB f (c :: t) = cntB f t + 1 := by simp only [cntB]; rw [if_pos hc, Nat.add_comm]
     rw [e] at h ⊢
     exact cntB_end f (l := t) (by simp only [List.length_cons] at h; omega)
   · have e : cntB f (c :: t) = 0 := by simp only [cntB]; rw [if_neg hc]
     rw [e]
     simpa using hc
theorem wblank0 (z : Int) (w : World) : Calls Tryz.prog 91 #[.int .u8 z] w fun e w' => e = .returned (.bool (decide (z = 9 ∨ z = 13 ∨ z = 32))) ∧ w = w' := by
 by_cases h1 : z = 9
 · have q : (z == 9) = true := by rw [beq_iff_eq]; exact h1
   go_enter Tryz.func91, Tryz.ntmps91
   go_wp2_with fail
   go_ret
   exact ⟨by simp [h1], rfl⟩
 · have q : (z == 9) = false := by rw [beq_eq_false_iff_ne]; exact h1
   by_cases h2 : z = 13
   · have q2 : (z == 13) = true := by rw [beq_iff_eq]; exact h2
     go_enter Tryz.func91, Tryz.ntmps91
     go_wp2_with fail
     go_ret
     exact ⟨by simp [h2], rfl⟩
   · have q2 : (z == 13) = false := by rw [beq_eq_false_iff_ne]; exact h2
     go_enter Tryz.func91, Tryz.ntmps91
     go_wp2_with fail
     go_ret
     exact ⟨by simp [h1, h2] <;> rfl, rfl⟩
theorem wblank (c : UInt8) (w : World) : Calls Tryz.prog 91 #[.int .u8 (c.toNat : Int)] w fun e w' => e = .returned (.bool (wbB c)) ∧ w = w' := by
 have := wblank0 (c.toNat : Int) w
 have e : decide (((c.toNat : Int) = 9) ∨ ((c.toNat : Int) = 13) ∨ ((c.toNat : Int) = 32)) = wbB c := by unfold wbB; rw [decide_eq_decide]; omega
 rw [e] at this
 exact this
theorem wmark0 (z : Int) (w : World) : Calls Tryz.prog 92 #[.int .u8 z] w fun e w' => e = .returned (.bool (decide (33 ≤ z ∧ z ≤ 126 ∧ z ≠ 35))) ∧ w = w' := by
 by_cases h1 : 33 ≤ z
 · by_cases h2 : z ≤ 126
   · go_enter Tryz.func92, Tryz.ntmps92
     go_wp2_with fail
     go_ret
     exact ⟨by simp [h1, h2, bne]; exact Bool.eq_iff_iff.2 (by simp), rfl⟩
   · go_enter Tryz.func92, Tryz.ntmps92
     go_wp2_with fail
     go_ret
     exact ⟨by simp [h1, h2]; intro h; omega, rfl⟩
 · go_enter Tryz.func92, Tryz.ntmps92
   go_wp2_with fail
   go_ret
   exact ⟨by simp [h1]; intro h; omega, rfl⟩
theorem wmark (c : UInt8) (w : World) : Calls Tryz.prog 92 #[.int .u8 (c.toNat : Int)] w fun e w' => e = .returned (.bool (wmB c)) ∧ w = w' := by
 have := wmark0 (c.toNat : Int) w
 have e : decide ((33 ≤ (c.toNat : Int)) ∧ ((c.toNat : Int) ≤ 126) ∧ ((c.toNat : Int) ≠ 35)) = wmB c := by unfold wmB; rw [decide_eq_decide]; omega
 rw [e] at this
 exact this
/-- The number in a cell. -/
def cI (w : World) (g o : Nat) : Int := match w.cell? ⟨g, o, none⟩ with | some (.int _ z) => z | _ => 0
theorem cI_at {w : World} {g o : Nat} {k : IntKind} {z : Int} (h : w.cell? ⟨g, o, none⟩ = some (.int k z)) : cI w g o = z := by unfold cI; rw [h]
theorem sx_extract (l : List UInt8) (a b : Nat) : (⟨l.toArray⟩ : ByteArray).extract a b = ⟨((l.drop a).take (b - a)).toArray⟩ := by
 apply ByteArray.ext
 rw [ByteArray.data_extract]
 simp
theorem getD_drop9 (l : List UInt8) (a j : Nat) : (l.drop a).getD j 0 = l.getD (a + j) 0 := by simp [List.getD, List.getElem?_drop]
theorem wword (g : Nat) (l : List UInt8) (k T : Nat) (n ov : Int) (out : Value) (w : World) (hT : T = k + cntB wmB (l.drop k)) (hk : k ≤ l.length) (hl : l.length ≤ 65536) (h : AtB w g #[.string ⟨l.toArray⟩, .int .i64 (k : Int), .int .i64 n, out, .int .i64 ov] ScT) :
 Calls Tryz.prog 52 #[.pointer (some ⟨g, 0, none⟩)] w fun e w' => e = .returned (.string ⟨((l.drop k).take (T - k)).toArray⟩) ∧ Onl g w w' ∧ AtB w' g #[.string ⟨l.toArray⟩, .int .i64 (T : Int), .int .i64 n, out, .int .i64 ov] ScT := by
 have hin : Hid (∀ j, k ≤ j → j < T → wmB (l.getD j 0) = true) := by
  intro j h1 h2
  have := cntB_in wmB (l := l.drop k) (i := j - k) (by omega)
  rw [getD_drop9] at this
  rw [show k + (j - k) = j by omega] at this
  exact this
 have hle : T ≤ l.length := by have := cntB_le wmB (l.drop k); rw [List.length_drop] at this; omega
 have hend : Hid (T < l.length → wmB (l.getD T 0) = false) := by
  intro h
  have := cntB_end wmB (l := l.drop k) (by rw [List.length_drop]; omega)
  rw [getD_drop9, ← hT] at this
  exact this
 have WM := Hi (fun c w => wmark c w)
 have SX := Hi (fun k h w => sx_index l k h w)
 have SL := sx_len l
 have hse := Hi (fun j => sx_extract l k j)
 have hkT : k ≤ T := by omega
 have h0 := Hi h
 clear hT h
 obtain ⟨N, hN⟩ : ∃ N, N = l.length := ⟨_, rfl⟩
 rw [← hN] at SL SX hle hend hl
 generalize hs : (⟨l.toArray⟩ : ByteArray) = s at *
 clear hs hN
 obtain rfl : N = s.size := SL.symm
 clear SL
 obtain ⟨c0, c1, c2, c3, c4, f0, f1, f2, f3, f4⟩ := reads5 h0.out
 have l0 := h0.out.lt
 go_enter Tryz.func52, Tryz.ntmps52
 go_wp2_with fail
 clear c0 c1 c2 c3 c4 f0 f1 f2 f3 f4 l0
 go_loopw [] (fun wr => ∃ j : Nat, k ≤ j ∧ j ≤ T ∧ Hid (AtB wr g #[.string s, .int .i64 (j : Int), .int .i64 n, out, .int .i64 ov] ScT ∧ Onl g w wr)) (fun wr => T - (cI wr g 1).toNat)
 case atStart => exact ⟨k, Nat.le_refl _, hkT, h0.out, onl_of (Below.refl _ _)⟩
 case round =>
  obtain ⟨j, hkj, hj, hI⟩ := hrel
  obtain ⟨q5, BB⟩ := hI.out
  have hc1 := Hi (cI_at (q5.cell 1 rfl))
  replace q5 := Hi q5
  replace BB := Hi BB
  clear hI
  by_cases hlt : j < T
  · have q0 : (0 : Int) ≤ (j : Int) := by omega
    have q1 : decide ((j : Int) < (s.size : Int)) = true := decide_eq_true (by omega)
    have q1' : (j : Int) < (s.size : Int) := by omega
    have i1 : I64 ((j + 1 : Nat) : Int) := ⟨by omega, by omega⟩
    have j1 : (j : Int) + 1 = ((j + 1 : Nat) : Int) := by omega
    have sx := SX.out j (by omega)
    have W2 := Hi (fun w9 => WM.out (l.getD j 0) w9)
    rw [hin.out j hkj hlt] at W2
    have hlt' := Hi hlt
    clear hj hlt hkT hle hl
    generalize ((l.getD j 0).toNat : Int) = z at *
    have ek : IntKind.i64.wrap ((j : Int) + 1) = ((j + 1 : Nat) : Int) := by rw [j1]; exact iw i1
    clear i1 j1
    obtain ⟨q6, q7, q8, q9, qa, qb, qc, qd, qe, qf⟩ := reads5 q5.out
    have qg := q5.out.lt
    go_wp2_with fail
    have Q_0 := Hi (fun n => quiet_same (W2.out (wr.drewN n)))
    go_quiet ((first | (go_at_call 92; with_reducible exact Q_0.out _)))
    clear Q_0
    have hb := below_drawn (Below.refl wr.heap.size wr) nq
    generalize wr.drewN nq = w1 at *
    clear q6 q7 q8 q9 qa qb qc qd qe qf qg
    replace q5 := kp q5 hb
    replace BB := nxo BB hb
    clear hb nq
    obtain ⟨q6, q7, q8, q9, qa, qb, qc, qd, qe, qf⟩ := reads5 q5.out
    have qg := q5.out.lt
    go_wp2_with fail
    have r2 : AtB (w1.setCell ⟨g, 1, none⟩ (.int .i64 ((j + 1 : Nat) : Int))) g #[.string s, .int .i64 ((j + 1 : Nat) : Int), .int .i64 n, out, .int .i64 ov] ScT := q5.out.set_n 1 _
    have r3 : AtB (w1.setCell ⟨g, 1, none⟩ (.int .i64 ((j : Int) + 1))) g #[.string s, .int .i64 ((j : Int) + 1), .int .i64 n, out, .int .i64 ov] ScT := q5.out.set_n 1 _
    go_roundw
    case rel => exact ⟨j + 1, by omega, hlt'.out, r2, onl_set BB.out 1 _⟩
    case measure => have := hlt'.out; rw [hc1.out, cI_at (r3.cell 1 rfl)]; clear ek; omega
  · obtain rfl : j = T := by omega
    clear hj hlt
    have q2 : (k : Int) ≤ (j : Int) := by omega
    have q3 : (j : Int) ≤ (s.size : Int) := by omega
    have q4 : (0 : Int) ≤ (k : Int) := by omega
    by_cases hN : j < s.size
    · have q0 : (0 : Int) ≤ (j : Int) := by omega
      have q1 : decide ((j : Int) < (s.size : Int)) = true := decide_eq_true (by omega)
      have q1' : (j : Int) < (s.size : Int) := by omega
      have sx := SX.out j hN
      have W2 := Hi (fun w9 => WM.out (l.getD j 0) w9)
      rw [hend.out hN] at W2
      generalize ((l.getD j 0).toNat : Int) = z at *
      obtain ⟨q6, q7, q8, q9, qa, qb, qc, qd, qe, qf⟩ := reads5 q5.out
      have qg := q5.out.lt
      go_wp2_with fail
      have Q_0 := Hi (fun n => quiet_same (W2.out (wr.drewN n)))
      go_quiet ((first | (go_at_call 92; with_reducible exact Q_0.out _)))
      clear Q_0
      have hb := below_drawn (Below.refl wr.heap.size wr) nq
      generalize wr.drewN nq = w1 at *
      clear q6 q7 q8 q9 qa qb qc qd qe qf qg
      replace q5 := kp q5 hb
      replace BB := nxo BB hb
      clear hb nq
      obtain ⟨q6, q7, q8, q9, qa, qb, qc, qd, qe, qf⟩ := reads5 q5.out
      have qg := q5.out.lt
      go_wp2_with fail
      go_quiet (fail)
      have hb := below_drawn (Below.refl w1.heap.size w1) nq
      generalize w1.drewN nq = w2 at *
      clear q6 q7 q8 q9 qa qb qc qd qe qf qg
      replace q5 := kp q5 hb
      replace BB := nxo BB hb
      clear hb nq
      go_wp2_with fail
      go_ret
      exact ⟨by rw [← hse.out]; rfl, BB.out, q5.out⟩
    · have q1 : decide ((j : Int) < (s.size : Int)) = false := decide_eq_false (by omega)
      obtain ⟨q6, q7, q8, q9, qa, qb, qc, qd, qe, qf⟩ := reads5 q5.out
      have qg := q5.out.lt
      go_wp2_with fail
      go_quiet (fail)
      have hb := below_drawn (Below.refl wr.heap.size wr) nq
      generalize wr.drewN nq = w1 at *
      clear q6 q7 q8 q9 qa qb qc qd qe qf qg
      replace q5 := kp q5 hb
      replace BB := nxo BB hb
      clear hb nq
      obtain ⟨q6, q7, q8, q9, qa, qb, qc, qd, qe, qf⟩ := reads5 q5.out
      have qg := q5.out.lt
      go_wp2_with fail
      go_quiet (fail)
      have hb := below_drawn (Below.refl w1.heap.size w1) nq
      generalize w1.drewN nq = w2 at *
      clear q6 q7 q8 q9 qa qb qc qd qe qf qg
      replace q5 := kp q5 hb
      replace BB := nxo BB hb
      clear hb nq
      go_wp2_with fail
      go_ret
      exact ⟨by rw [← hse.out]; rfl, BB.out, q5.out⟩
theorem wblanks (g : Nat) (l : List UInt8) (k T : Nat) (n ov : Int) (out : Value) (w : World) (hT : T = k + cntB wbB (l.drop k)) (hk : k ≤ l.length) (hl : l.length ≤ 65536) (h35 : T < l.length → l.getD T 0 ≠ 35) (h : AtB w g #[.string ⟨l.toArray⟩, .int .i64 (k : Int), .int .i64 n, out, .int .i64 ov] ScT) :
 Calls Tryz.prog 51 #[.pointer (some ⟨g, 0, none⟩)] w fun e w' => e = .returned (.tuple #[]) ∧ Onl g w w' ∧ AtB w' g #[.string ⟨l.toArray⟩, .int .i64 (T : Int), .int .i64 n, out, .int .i64 ov] ScT := by
 have hin : Hid (∀ j, k ≤ j → j < T → wbB (l.getD j 0) = true) := by
  intro j h1 h2
  have := cntB_in wbB (l := l.drop k) (i := j - k) (by omega)
  rw [getD_drop9] at this
  rw [show k + (j - k) = j by omega] at this
  exact this
 have hle : T ≤ l.length := by have := cntB_le wbB (l.drop k); rw [List.length_drop] at this; omega
 have hend : Hid (T < l.length → wbB (l.getD T 0) = false) := by
  intro h
  have := cntB_end wbB (l := l.drop k) (by rw [List.length_drop]; omega)
  rw [getD_drop9, ← hT] at this
  exact this
 have WM := Hi (fun c w => wblank c w)
 have SX := Hi (fun k h w => sx_index l k h w)
 have SL := sx_len l
 have h35 := Hi (fun h => (byte_ne (h35 h)).1)
 have hkT : k ≤ T := by omega
 have h0 := Hi h
 clear hT h
 obtain ⟨N, hN⟩ : ∃ N, N = l.length := ⟨_, rfl⟩
 rw [← hN] at SL SX hle hend hl h35
 generalize hs : (⟨l.toArray⟩ : ByteArray) = s at *
 clear hs hN
 obtain rfl : N = s.size := SL.symm
 clear SL
 go_enter Tryz.func51, Tryz.ntmps51
 go_wp2_with fail
 go_loopw [] (fun wr => ∃ j : Nat, k ≤ j ∧ j ≤ T ∧ Hid (AtB wr g #[.string s, .int .i64 (j : Int), .int .i64 n, out, .int .i64 ov] ScT ∧ Onl g w wr)) (fun wr => T - (cI wr g 1).toNat)
 case atStart => exact ⟨k, Nat.le_refl _, hkT, h0.out, onl_of (Below.refl _ _)⟩
 case round =>
  obtain ⟨j, hkj, hj, hI⟩ := hrel
  obtain ⟨q5, BB⟩ := hI.out
  have hc1 := Hi (cI_at (q5.cell 1 rfl))
  replace q5 := Hi q5
  replace BB := Hi BB
  clear hI
  by_cases hlt : j < T
  · have q0 : (0 : Int) ≤ (j : Int) := by omega
    have q1 : decide ((j : Int) < (s.size : Int)) = true := decide_eq_true (by omega)
    have q1' : (j : Int) < (s.size : Int) := by omega
    have i1 : I64 ((j + 1 : Nat) : Int) := ⟨by omega, by omega⟩
    have j1 : (j : Int) + 1 = ((j + 1 : Nat) : Int) := by omega
    have sx := SX.out j (by omega)
    have W2 := Hi (fun w9 => WM.out (l.getD j 0) w9)
    rw [hin.out j hkj hlt] at W2
    have hlt' := Hi hlt
    clear hj hlt hkT hle hl
    generalize ((l.getD j 0).toNat : Int) = z at *
    have ek : IntKind.i64.wrap ((j : Int) + 1) = ((j + 1 : Nat) : Int) := by rw [j1]; exact iw i1
    clear i1 j1
    obtain ⟨q6, q7, q8, q9, qa, qb, qc, qd, qe, qf⟩ := reads5 q5.out
    have qg := q5.out.lt
    go_wp2_with fail
    have Q_0 := Hi (fun n => quiet_same (W2.out (wr.drewN n)))
    go_quiet ((first | (go_at_call 91; with_reducible exact Q_0.out _)))
    clear Q_0
    have hb := below_drawn (Below.refl wr.heap.size wr) nq
    generalize wr.drewN nq = w1 at *
    clear q6 q7 q8 q9 qa qb qc qd qe qf qg
    replace q5 := kp q5 hb
    replace BB := nxo BB hb
    clear hb nq
    obtain ⟨q6, q7, q8, q9, qa, qb, qc, qd, qe, qf⟩ := reads5 q5.out
    have qg := q5.out.lt
    go_wp2_with fail
    have r2 : AtB (w1.setCell ⟨g, 1, none⟩ (.int .i64 ((j + 1 : Nat) : Int))) g #[.string s, .int .i64 ((j + 1 : Nat) : Int), .int .i64 n, out, .int .i64 ov] ScT := q5.out.set_n 1 _
    have r3 : AtB (w1.setCell ⟨g, 1, none⟩ (.int .i64 ((j : Int) + 1))) g #[.string s, .int .i64 ((j : Int) + 1), .int .i64 n, out, .int .i64 ov] ScT := q5.out.set_n 1 _
    go_roundw
    case rel => exact ⟨j + 1, by omega, hlt'.out, r2, onl_set BB.out 1 _⟩
    case measure => have := hlt'.out; rw [hc1.out, cI_at (r3.cell 1 rfl)]; clear ek; omega
  · obtain rfl : j = T := by omega
    clear hj hlt
    have q2 : (k : Int) ≤ (j : Int) := by omega
    have q3 : (j : Int) ≤ (s.size : Int) := by omega
    have q4 : (0 : Int) ≤ (k : Int) := by omega
    by_cases hN : j < s.size
    · have q0 : (0 : Int) ≤ (j : Int) := by omega
      have q1 : decide ((j : Int) < (s.size : Int)) = true := decide_eq_true (by omega)
      have q1' : (j : Int) < (s.size : Int) := by omega
      have sx := SX.out j hN
      have W2 := Hi (fun w9 => WM.out (l.getD j 0) w9)
      rw [hend.out hN] at W2
      have n35 := h35.out hN
      have n35 : (((l.getD j 0).toNat : Int) == 35) = false := n35
      generalize ((l.getD j 0).toNat : Int) = z at *
      obtain ⟨q6, q7, q8, q9, qa, qb, qc, qd, qe, qf⟩ := reads5 q5.out
      have qg := q5.out.lt
      go_wp2_with fail
      have Q_0 := Hi (fun n => quiet_same (W2.out (wr.drewN n)))
      go_quiet ((first | (go_at_call 91; with_reducible exact Q_0.out _)))
      clear Q_0
      have hb := below_drawn (Below.refl wr.heap.size wr) nq
      generalize wr.drewN nq = w1 at *
      clear q6 q7 q8 q9 qa qb qc qd qe qf qg
      replace q5 := kp q5 hb
      replace BB := nxo BB hb
      clear hb nq
      obtain ⟨q6, q7, q8, q9, qa, qb, qc, qd, qe, qf⟩ := reads5 q5.out
      have qg := q5.out.lt
      go_wp2_with fail
      go_quiet (fail)
      have hb := below_drawn (Below.refl w1.heap.size w1) nq
      generalize w1.drewN nq = w2 at *
      clear q6 q7 q8 q9 qa qb qc qd qe qf qg
      replace q5 := kp q5 hb
      replace BB := nxo BB hb
      clear hb nq
      go_wp2_with fail
      go_end0
      exact ⟨rfl, BB.out, q5.out⟩
    · have q1 : decide ((j : Int) < (s.size : Int)) = false := decide_eq_false (by omega)
      obtain ⟨q6, q7, q8, q9, qa, qb, qc, qd, qe, qf⟩ := reads5 q5.out
      have qg := q5.out.lt
      go_wp2_with fail
      go_quiet (fail)
      have hb := below_drawn (Below.refl wr.heap.size wr) nq
      generalize wr.drewN nq = w1 at *
      clear q6 q7 q8 q9 qa qb qc qd qe qf qg
      replace q5 := kp q5 hb
      replace BB := nxo BB hb
      clear hb nq
      obtain ⟨q6, q7, q8, q9, qa, qb, qc, qd, qe, qf⟩ := reads5 q5.out
      have qg := q5.out.lt
      go_wp2_with fail
      go_quiet (fail)
      have hb := below_drawn (Below.refl w1.heap.size w1) nq
      generalize w1.drewN nq = w2 at *
      clear q6 q7 q8 q9 qa qb qc qd qe qf qg
      replace q5 := kp q5 hb
      replace BB := nxo BB hb
      clear hb nq
      go_wp2_with fail
      go_end0
      exact ⟨rfl, BB.out, q5.out⟩
end Go.Proofs.YtikpobembcgbfaaGreatDoor
