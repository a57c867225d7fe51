/- Contracts of fix.Dot. -/
import Derived.Test.YthdbchghhpoadaaDoorFxH
import Derived.Deep.DeepCutAuto
set_option linter.unusedVariables false
set_option linter.unusedSimpArgs false
namespace Go.Proofs.YthdbchghhpoadaaDoor
open Go.RowKit
def dotS (F : Nat → Int) : Nat → Int
  | 0 => 0
  | k + 1 => dotS F k + F k
theorem dot_split (F : Nat → Int) : ∀ k, dotS F k = 65536 * dotS (fun k => F k / 65536) k + dotS (fun k => F k % 65536) k
  | 0 => by simp [dotS]
  | k + 1 => by
    have := dot_split F k
    simp only [dotS]
    omega
theorem dot_bd {F : Nat → Int} {A B : Int} (h : ∀ k, A ≤ F k ∧ F k ≤ B) : ∀ k : Nat, (k : Int) * A ≤ dotS F k ∧ dotS F k ≤ (k : Int) * B
  | 0 => by simp [dotS]
  | k + 1 => by
    have h1 := dot_bd h k
    have h2 := h k
    simp only [dotS]
    rw [show ((k + 1 : Nat) : Int) = (k : Int) + 1 by omega, Int.add_mul, Int.add_mul]
    omega
theorem prod_bd {a b : Int} (ha : I64 a) (hb : I64 b) : -85070591730234615865843651857942052864 ≤ a * b ∧ a * b ≤ 85070591730234615865843651857942052864 := by
  have := mul_in (A := 9223372036854775808) (B := 9223372036854775808) (show -9223372036854775808 ≤ a ∧ a ≤ 9223372036854775808 by unfold I64 at ha; omega) (show -9223372036854775808 ≤ b ∧ b ≤ 9223372036854775808 by unfold I64 at hb; omega)
  rw [show (9223372036854775808 : Int) * 9223372036854775808 = 85070591730234615865843651857942052864 by decide] at this
  exact this
theorem and_ffffu (x : Int) : bits BinOp.and IntKind.u64 x 65535 = x % 65536 := by
  show IntKind.u64.wrap ((BitVec.ofInt 64 x &&& BitVec.ofInt 64 65535).toNat : Int) = _
  have h2 : (BitVec.ofInt 64 65535).toNat = 2 ^ 16 - 1 := by decide
  rw [BitVec.toNat_and, h2, Nat.and_two_pow_sub_one_eq_mod, BitVec.toNat_ofInt, IntKind.wrap_u64]
  have : ((2 : Nat) ^ 64 : Int) = 18446744073709551616 := by decide
  omega
theorem w128_mod {z h l : Int} (hw : W128 z h l) : l % 65536 = z % 65536 := by
  obtain ⟨-, -, rfl⟩ := hw
  omega
theorem W128.nought : W128 0 0 0 := by unfold W128 I64 U64; omega
set_option maxRecDepth 100000 in
set_option maxHeartbeats 2000000 in
theorem fdot_ne (u v : Value) (xs zs : List Int) (w : World) (hu : IS w u xs) (hv : IS w v zs) (hl : xs.length ≠ zs.length) : Calls Tryd.prog 17 #[u, v] w fun e w' => e = .returned (.tuple #[.int .i64 0, .bool false]) ∧ Below w.heap.size w w' := by
  obtain ⟨A, cap, rfl⟩ := hu.form
  obtain ⟨A2, cap2, rfl⟩ := hv.form
  have g1 : ((xs.length : Int) != (zs.length : Int)) = true := by simp; omega
  have g2 : ((xs.length : Int) == (zs.length : Int)) = false := by simp; omega
  generalize xs.length = m at *
  generalize zs.length = n at *
  clear hu hv hl
  go_enter Tryd.func17, Tryd.ntmps17
  go_wp2_with fail
  have BB : Hid (Below w.heap.size w w) := Below.refl _ _
  refine bodyPost_ret (v := .tuple #[.int .i64 0, .bool false]) (by unfold results; simp only [Tryd.results17]; go_simp) rfl ?_
  exact ⟨rfl, BB.out⟩
set_option maxRecDepth 100000 in
set_option maxHeartbeats 2000000 in
theorem fdot_long (u v : Value) (xs zs : List Int) (w : World) (hu : IS w u xs) (hv : IS w v zs) (he : xs.length = zs.length) (hl : 64 < xs.length) : Calls Tryd.prog 17 #[u, v] w fun e w' => e = .returned (.tuple #[.int .i64 0, .bool false]) ∧ Below w.heap.size w w' := by
  obtain ⟨A, cap, rfl⟩ := hu.form
  obtain ⟨A2, cap2, rfl⟩ := hv.form
  have g1 : (64 : Int) < (zs.length : Int) := by omega
  rw [he]
  generalize zs.length = n at *
  clear hu hv hl he
  go_enter Tryd.func17, Tryd.ntmps17
  go_wp2_with fail
  have BB : Hid (Below w.heap.size w w) := Below.refl _ _
  refine bodyPost_ret (v := .tuple #[.int .i64 0, .bool false]) (by unfold results; simp only [Tryd.results17]; go_simp) rfl ?_
  exact ⟨rfl, BB.out⟩
set_option maxRecDepth 100000 in
set_option maxHeartbeats 8000000 in
theorem fdot_ok (u v : Value) (xs zs : List Int) (w : World) (hu : IS w u xs) (hv : IS w v zs) (he : xs.length = zs.length) (hl : zs.length ≤ 64) : Calls Tryd.prog 17 #[u, v] w fun e w' => e = .returned (.tuple #[.int .i64 (fitX (dotS (fun k => xs.getD k 0 * zs.getD k 0) zs.length / 65536)), .bool (fitsB (dotS (fun k => xs.getD k 0 * zs.getD k 0) zs.length / 65536) 63)]) ∧ Below w.heap.size w w' := by
  have g1 : ¬ (64 : Int) < (zs.length : Int) := by omega
  have HX : Hid (∀ k, I64 (xs.getD k 0)) := hu.i64
  have HZ : Hid (∀ k, I64 (zs.getD k 0)) := hv.i64
  have HA := Lib.hid (fun (hz : xs ≠ []) => hu.some hz)
  have HB := Lib.hid (fun (hz : zs ≠ []) => hv.some hz)
  obtain ⟨A, cap, rfl⟩ := hu.form
  obtain ⟨A2, cap2, rfl⟩ := hv.form
  rw [he] at HA ⊢
  have CA : Hid (∀ k, k < zs.length → ∃ b off cap', (.slice A zs.length cap : Value) = .slice (some ⟨b, off, none⟩) zs.length cap' ∧ b < w.heap.size ∧ w.cell? ⟨b, off + k, none⟩ = some (.int .i64 (xs.getD k 0))) := by
    intro k hk
    obtain ⟨b, off, cap', e, -, -, hb, hc⟩ := HA.out (by rintro rfl; simp at he; omega)
    exact ⟨b, off, cap', e, hb, hc k hk⟩
  have CB : Hid (∀ k, k < zs.length → ∃ b off cap', (.slice A2 zs.length cap2 : Value) = .slice (some ⟨b, off, none⟩) zs.length cap' ∧ b < w.heap.size ∧ w.cell? ⟨b, off + k, none⟩ = some (.int .i64 (zs.getD k 0))) := by
    intro k hk
    obtain ⟨b, off, cap', e, -, -, hb, hc⟩ := HB.out (by rintro rfl; simp at hk)
    exact ⟨b, off, cap', e, hb, hc k hk⟩
  obtain ⟨X, hX⟩ : ∃ X : Nat → Int, X = fun k => xs.getD k 0 := ⟨_, rfl⟩
  obtain ⟨Z, hZ⟩ : ∃ Z : Nat → Int, Z = fun k => zs.getD k 0 := ⟨_, rfl⟩
  have HX : Hid (∀ k, I64 (X k)) := by rw [hX]; exact HX.out
  have HZ : Hid (∀ k, I64 (Z k)) := by rw [hZ]; exact HZ.out
  have CA : Hid (∀ k, k < zs.length → ∃ b off cap', (.slice A zs.length cap : Value) = .slice (some ⟨b, off, none⟩) zs.length cap' ∧ b < w.heap.size ∧ w.cell? ⟨b, off + k, none⟩ = some (.int .i64 (X k))) := by rw [hX]; exact CA.out
  have CB : Hid (∀ k, k < zs.length → ∃ b off cap', (.slice A2 zs.length cap2 : Value) = .slice (some ⟨b, off, none⟩) zs.length cap' ∧ b < w.heap.size ∧ w.cell? ⟨b, off + k, none⟩ = some (.int .i64 (Z k))) := by rw [hZ]; exact CB.out
  rw [show (fun k => xs.getD k 0 * zs.getD k 0) = fun k => X k * Z k by rw [hX, hZ]]
  have hnl : Hid (zs.length ≤ 64) := hl
  clear hX hZ hu hv he hl HA HB
  generalize zs.length = n at *
  obtain ⟨Wh, hWh⟩ : ∃ D : Nat → Int, D = dotS fun k => X k * Z k / 65536 := ⟨_, rfl⟩
  obtain ⟨Pt, hPt⟩ : ∃ D : Nat → Int, D = dotS fun k => X k * Z k % 65536 := ⟨_, rfl⟩
  have W0 : Hid (Wh 0 = 0) := by rw [hWh]; rfl
  have P0 : Hid (Pt 0 = 0) := by rw [hPt]; rfl
  have WS : Hid (∀ k, Wh k + X k * Z k / 65536 = Wh (k + 1)) := by rw [hWh]; intro k; rfl
  have PS : Hid (∀ k, Pt k + X k * Z k % 65536 = Pt (k + 1)) := by rw [hPt]; intro k; rfl
  have WB' : Hid (∀ k, k ≤ 64 → -100000000000000000000000000000000000 ≤ Wh k ∧ Wh k ≤ 100000000000000000000000000000000000) := by
    intro k hk
    rw [hWh]
    have := dot_bd (F := fun k => X k * Z k / 65536) (A := -1298074214633706907132624082305024) (B := 1298074214633706907132624082305024) (fun k => by have := prod_bd (HX.out k) (HZ.out k); show _ ≤ X k * Z k / 65536 ∧ X k * Z k / 65536 ≤ _; omega) k
    omega
  have PB : Hid (∀ k, k ≤ 64 → 0 ≤ Pt k ∧ Pt k ≤ 5000000) := by
    intro k hk
    rw [hPt]
    have := dot_bd (F := fun k => X k * Z k % 65536) (A := 0) (B := 65535) (fun k => by show 0 ≤ X k * Z k % 65536 ∧ X k * Z k % 65536 ≤ _; omega) k
    omega
  have HT : Hid (dotS (fun k => X k * Z k) n / 65536 = Wh n + Pt n / 65536) := by
    show _ = _
    rw [dot_split (fun k => X k * Z k) n, hWh, hPt]
    show (65536 * dotS (fun k => X k * Z k / 65536) n + dotS (fun k => X k * Z k % 65536) n) / 65536 = _
    omega
  rw [HT.out]
  clear HT hWh hPt
  go_enter Tryd.func17, Tryd.ntmps17
  go_wp2_with fail
  have BB := start2 w #[.int .i64 0, .int .u64 0] WTX #[.int .i64 0, .int .u64 0] WTX
  obtain ⟨BB, hsz, r_whole, r_part⟩ := BB
  generalize ((w.alloc (.cells #[.int .i64 0, .int .u64 0] WTX)).alloc (.cells #[.int .i64 0, .int .u64 0] WTX)) = w0 at *
  replace BB := Lib.hid BB
  replace r_whole := Lib.hid r_whole
  replace r_part := Lib.hid r_part
  clear hsz
  go_loopw [8, 9, 10, 23] (fun _ _ _ i wr => ∃ k : Nat, i = .int .i64 k ∧ k ≤ n ∧ Hid (∃ h1 l1 h2 l2, AtB wr w.heap.size #[.int .i64 h1, .int .u64 l1] WTX ∧ W128 (Wh k) h1 l1 ∧ AtB wr (w.heap.size + 1) #[.int .i64 h2, .int .u64 l2] WTX ∧ W128 (Pt k) h2 l2 ∧ Below w.heap.size w wr)) (fun _ _ _ i _ => n - (intOf i).toNat)
  case atStart => exact ⟨0, rfl, by omega, ⟨0, 0, 0, 0, r_whole.out, by rw [W0.out]; exact W128.nought, r_part.out, by rw [P0.out]; exact W128.nought, BB.out⟩⟩
  case round =>
    clear BB r_whole r_part
    obtain ⟨k, rfl, hk, hinv⟩ := hrel
    obtain ⟨hw1, lw1, hp1, lp1, r_whole, kw, r_part, kp, BB⟩ := hinv.out
    replace BB := Lib.hid BB; replace r_whole := Lib.hid r_whole; replace r_part := Lib.hid r_part; replace kw := Lib.hid kw; replace kp := Lib.hid kp
    clear hinv
    by_cases hlt : k < n
    · have k0 : (0 : Int) ≤ (k : Int) := by omega
      have k1 : (k : Int) < (n : Int) := by omega
      obtain ⟨b, off, cap', e, hb0, hcz⟩ := CA.out k hlt
      simp only [Value.slice.injEq] at e
      obtain ⟨rfl, -, rfl⟩ := e
      obtain ⟨b2, off2, cap3, e, hb2, hcz2⟩ := CB.out k hlt
      simp only [Value.slice.injEq] at e
      obtain ⟨rfl, -, rfl⟩ := e
      have CX := Lib.hid (fun w9 (h9 : Below w.heap.size w w9) => (h9.cell (p := ⟨b, off + k, none⟩) hb0).trans hcz)
      have CZ := Lib.hid (fun w9 (h9 : Below w.heap.size w w9) => (h9.cell (p := ⟨b2, off2 + k, none⟩) hb2).trans hcz2)
      have ew : IntKind.i64.wrap ((k : Int) + 1) = ((k + 1 : Nat) : Int) := by have := hnl.out; rw [show (k : Int) + 1 = ((k + 1 : Nat) : Int) by omega]; exact iw ⟨by omega, by omega⟩
      have CM := Lib.hid (fun w => wmul (X k) (Z k) (HX.out k) (HZ.out k) w)
      have WS1 := Lib.hid (WS.out k)
      have PS1 := Lib.hid (PS.out k)
      have WR : Hid (I128 (Wh (k + 1))) := by have := WB'.out (k + 1) (by have := hnl.out; omega); unfold I128; show _ ∧ _; omega
      have PR : Hid (I128 (Pt (k + 1))) := by have := PB.out (k + 1) (by have := hnl.out; omega); unfold I128; show _ ∧ _; omega
      generalize X k * Z k = z at *
      generalize X k = x at *
      generalize Z k = y at *
      obtain ⟨Wn, hWn⟩ : ∃ q, q = Wh (k + 1) := ⟨_, rfl⟩
      obtain ⟨Pn, hPn⟩ : ∃ q, q = Pt (k + 1) := ⟨_, rfl⟩
      rw [← hWn] at WS1 WR
      rw [← hPn] at PS1 PR
      replace hWn := Lib.hid hWn; replace hPn := Lib.hid hPn
      have CS := Lib.hid (fun h l hz w => wshr z h l 16 (by omega) hz w)
      rw [show (2 : Int) ^ 16 = 65536 by decide] at CS
      have CD := Lib.hid (fun h l hz w => wadd (Wh k) (z / 65536) hw1 lw1 h l kw.out hz w)
      rw [WS1.out] at CD
      have CO := Lib.hid (fun w => wof (z % 65536) (by unfold I64; omega) w)
      have CE := Lib.hid (fun h l hz w => wadd (Pt k) (z % 65536) hp1 lp1 h l kp.out hz w)
      rw [PS1.out] at CE
      have hmz : Hid (0 ≤ z % 65536 ∧ z % 65536 < 65536) := by show _ ∧ _; omega
      generalize z / 65536 = zd at *
      obtain ⟨zm, hzm⟩ : ∃ q, q = z % 65536 := ⟨_, rfl⟩
      rw [← hzm] at CO CE hmz
      replace hzm := Lib.hid hzm
      clear HX HZ CA CB hcz hcz2 WS PS WB' PB kw kp WS1 PS1
      go_wp2_with fail
      go_cut [9] (fun s5 wc1 => ∃ gp h4 l4, s5 = .pointer (some ⟨gp, 0, none⟩) ∧ Hid (AtB wc1 gp #[.int .i64 h4, .int .u64 l4] WTX ∧ (W128 z h4 l4) ∧ Below wr.heap.size wr wc1 ∧ wr.heap.size ≤ gp))
      case first =>
        have KK := Lib.hid (fun (w9 : World) (h : Below wr.heap.size wr w9) => (⟨CX.out _ (below_next BB.out h), CZ.out _ (below_next BB.out h)⟩ : (w9.cell? ⟨b, off + k, none⟩ = some (.int .i64 x)) ∧ (w9.cell? ⟨b2, off2 + k, none⟩ = some (.int .i64 y))))
        have K0 := KK.out wr (Below.refl _ _)
        have KD := KK.out wr.drew (below_drew (Below.refl _ _))
        go_region_held3 (fun w9 => (w9.cell? ⟨b, off + k, none⟩ = some (.int .i64 x)) ∧ (w9.cell? ⟨b2, off2 + k, none⟩ = some (.int .i64 y)))
            (first | with_reducible exact KD | with_reducible exact K0 | with_reducible exact K_w1 | (refine KK.out _ ?_; repeat' (first | with_reducible exact Below.refl _ _ | with_reducible exact B_w1.out | with_reducible apply below_new | with_reducible apply below_drew | with_reducible apply below_set | omega)))
            (first
              | (go_at_call 31
                 refine (CM.out _).mono ?_
                 rintro e w1 ⟨h4, l4, rfl, hb, hw4⟩
                 have B_w1 := Lib.hid (reg_next (w0 := wr) (by repeat (first | with_reducible exact Below.refl _ _ | with_reducible apply below_drew | with_reducible apply below_new)) hb)
                 have K_w1 := KK.out _ B_w1.out
                 obtain ⟨hc_w1, hf_w1⟩ := below_reads hb
                 have hz_w1 := hb.size
                 try simp at hz_w1
                 try (have z1_w1 := Nat.lt_of_succ_le hz_w1)
                 try (have z2_w1 := Nat.lt_of_succ_lt z1_w1)
                 have HB_w1 := Lib.hid hb
                 clear hb))
        all_goals clear KK K0 KD K_w1
        all_goals replace hw4 := Lib.hid hw4
        all_goals go_wp2_with fail
        all_goals go_meet
        all_goals refine ⟨_, _, _, rfl, ⟨?_, hw4.out, ?_, ?_⟩⟩
        all_goals repeat' (first | with_reducible exact B_w1.out | with_reducible exact Below.refl _ _ | with_reducible apply below_new | with_reducible apply below_drew | (with_reducible refine below_set ?_ ?_ _) | (with_reducible refine AtB.set2 (a := .bool false) (b := .slice none 0 0) (T := 24) ?_ _ _) | (with_reducible refine AtB.set2 (a := .int .i64 0) (b := .int .u64 0) (T := 46) ?_ _ _) | (with_reducible refine AtB.far2 ?_ ?_ _ _) | (with_reducible refine BR.alloc ?_ _) | (with_reducible refine BR.far2 (a := .bool false) (b := .slice none 0 0) (T := 24) ?_ ?_ (by decide) _ _) | (with_reducible refine new_at_eq ?_ _ _; first | rfl | (simp; done)) | (with_reducible refine AtB.alloc ?_ _) | with_reducible apply AtB.drew | (with_reducible refine AtB.keep ?_ HB_w1.out) | omega)
      obtain ⟨wc1, rfl⟩ : ∃ wo : World, wo = wc := ⟨_, rfl⟩
      obtain ⟨g_p, h4, l4, rfl, hcut⟩ := hcut
      obtain ⟨r_p, h_p, hb, hge⟩ := hcut.out
      clear hcut
      replace r_p := Lib.hid r_p; replace h_p := Lib.hid h_p
      have d_p := Lib.hid (And.intro (Nat.le_trans BB.out.size hge) (And.intro (Nat.lt_of_lt_of_le r_whole.out.lt hge) (And.intro (Nat.lt_of_lt_of_le r_part.out.lt hge) (True.intro))))
      replace r_whole := Lib.hid (r_whole.out.keep hb)
      replace r_part := Lib.hid (r_part.out.keep hb)
      replace BB := Lib.hid (below_next BB.out hb)
      clear hb hge
      clear CX CZ CM
      obtain ⟨c_p0, c_p1, f_p0, f_p1⟩ := reads2 r_p.out
      have l_p := r_p.out.lt
      go_wp2_with fail
      refine (CS.out _ _ h_p.out _).mono ?_
      rintro e w2 ⟨h5, l5, rfl, hb, hd⟩
      clear c_p0 c_p1 f_p0 f_p1 l_p
      replace r_whole := Lib.hid (r_whole.out.keep hb)
      replace r_part := Lib.hid (r_part.out.keep hb)
      replace r_p := Lib.hid (r_p.out.keep hb)
      replace BB := Lib.hid (below_next BB.out hb)
      clear hb
      replace hd := Lib.hid hd
      go_upto_region 9 with fail
      have d_down := Lib.hid (And.intro BB.out.size (And.intro r_whole.out.lt (And.intro r_part.out.lt (And.intro r_p.out.lt (True.intro)))))
      obtain ⟨hb, r_down⟩ := laid w2 #[.int .i64 h5, .int .u64 l5] WTX
      replace r_whole := Lib.hid (r_whole.out.keep hb)
      replace r_part := Lib.hid (r_part.out.keep hb)
      replace r_p := Lib.hid (r_p.out.keep hb)
      replace BB := Lib.hid (below_next BB.out hb)
      replace r_down := Lib.hid r_down
      clear hb
      generalize w2.alloc (.cells #[.int .i64 h5, .int .u64 l5] WTX) = w3 at *
      generalize w2.heap.size = g_down at *
      obtain ⟨c_whole0, c_whole1, f_whole0, f_whole1⟩ := reads2 r_whole.out
      have l_whole := r_whole.out.lt
      obtain ⟨c_down0, c_down1, f_down0, f_down1⟩ := reads2 r_down.out
      have l_down := r_down.out.lt
      go_wp2_with fail
      refine (CD.out _ _ hd.out _).mono ?_
      rintro e w4 ⟨h6, l6, ok6, rfl, hb, k6⟩
      clear c_whole0 c_whole1 f_whole0 f_whole1 l_whole c_down0 c_down1 f_down0 f_down1 l_down
      replace r_whole := Lib.hid (r_whole.out.keep hb)
      replace r_part := Lib.hid (r_part.out.keep hb)
      replace r_p := Lib.hid (r_p.out.keep hb)
      replace r_down := Lib.hid (r_down.out.keep hb)
      replace BB := Lib.hid (below_next BB.out hb)
      clear hb
      obtain ⟨rfl, kk6⟩ := wb_room k6 WR.out
      clear k6
      have k6 := Lib.hid kk6
      clear kk6
      obtain ⟨c_whole0, c_whole1, f_whole0, f_whole1⟩ := reads2 r_whole.out
      have l_whole := r_whole.out.lt
      go_upto_region 10 with fail
      clear c_whole0 c_whole1 f_whole0 f_whole1 l_whole
      replace r_whole := Lib.hid (r_whole.out.set2 (.int .i64 h6) (.int .u64 l6))
      replace r_part := Lib.hid (r_part.out.far2 (p := w.heap.size) (by omega) (.int .i64 h6) (.int .u64 l6))
      replace r_p := Lib.hid (r_p.out.far2 (p := w.heap.size) (by have dd_p := d_p.out; omega) (.int .i64 h6) (.int .u64 l6))
      replace r_down := Lib.hid (r_down.out.far2 (p := w.heap.size) (by have dd_down := d_down.out; omega) (.int .i64 h6) (.int .u64 l6))
      replace BB := Lib.hid (below_far2 BB.out (p := w.heap.size) (by omega) (.int .i64 h6) (.int .u64 l6))
      generalize ((w4.setCell ⟨w.heap.size, 0, none⟩ (.int .i64 h6)).setCell ⟨w.heap.size, 1, none⟩ (.int .u64 l6)) = w5 at *
      have eA := and_ffffu l4
      rw [w128_mod h_p.out, ← hzm.out] at eA
      have e5 : wrap64 zm = zm := by have := hmz.out; exact ww ⟨by omega, by omega⟩
      have e6 : IntKind.i64.wrap zm = zm := by have := hmz.out; exact iw ⟨by omega, by omega⟩
      have e7 : IntKind.u64.wrap zm = zm := by have := hmz.out; rw [IntKind.wrap_u64]; omega
      clear CD CS hd
      clear r_down
      have KK := Lib.hid (fun (w9 : World) (h : Below w5.heap.size w5 w9) => (⟨cells2 (r_part.out.keep h), cells2 (r_p.out.keep h)⟩ : (w9.cell? ⟨w.heap.size + 1, 0, none⟩ = some (.int .i64 hp1) ∧ w9.cell? ⟨w.heap.size + 1, 1, none⟩ = some (.int .u64 lp1)) ∧ (w9.cell? ⟨g_p, 0, none⟩ = some (.int .i64 h4) ∧ w9.cell? ⟨g_p, 1, none⟩ = some (.int .u64 l4))))
      have K0 := KK.out w5 (Below.refl _ _)
      have KD := KK.out w5.drew (below_drew (Below.refl _ _))
      refine AnyG.begin_ (fun w9 => (w9.cell? ⟨w.heap.size + 1, 0, none⟩ = some (.int .i64 hp1) ∧ w9.cell? ⟨w.heap.size + 1, 1, none⟩ = some (.int .u64 lp1)) ∧ (w9.cell? ⟨g_p, 0, none⟩ = some (.int .i64 h4) ∧ w9.cell? ⟨g_p, 1, none⟩ = some (.int .u64 l4))) 10 (by kernel_rfl) ?_
      refine AnyG.take (i := 0) (v := ?_) rfl (by kernel_rfl) (by kernel_rfl) (by kernel_rfl) (fun _ _ _ h => h) (by kernel_rfl) (by kernel_rfl) (Or.inl ⟨by rfl, ?_⟩) (by assumption) ?_
      rotate_left
      · intro w9 hSw; (try dsimp only at hSw); go_simp <;> with_reducible rfl
      try simp only [Act.put, List.getElem_toArray, List.getElem_cons_zero, List.getElem_cons_succ, List.setIfInBounds_toArray, List.set_cons_zero, List.set_cons_succ]
      refine AnyG.take (i := 1) (v := ?_) rfl (by kernel_rfl) (by kernel_rfl) (by kernel_rfl) (fun _ _ _ h => h) (by kernel_rfl) (by kernel_rfl) (Or.inl ⟨by rfl, ?_⟩) (by assumption) ?_
      rotate_left
      · intro w9 hSw; (try dsimp only at hSw); go_simp <;> with_reducible rfl
      try simp only [Act.put, List.getElem_toArray, List.getElem_cons_zero, List.getElem_cons_succ, List.setIfInBounds_toArray, List.set_cons_zero, List.set_cons_succ]
      refine AnyG.take (i := 2) (v := ?_) rfl (by kernel_rfl) (by kernel_rfl) (by kernel_rfl) (fun _ _ _ h => h) (by kernel_rfl) (by kernel_rfl) (Or.inl ⟨by rfl, ?_⟩) (by assumption) ?_
      rotate_left
      · intro w9 hSw; (try dsimp only at hSw); go_simp <;> with_reducible rfl
      try simp only [Act.put, List.getElem_toArray, List.getElem_cons_zero, List.getElem_cons_succ, List.setIfInBounds_toArray, List.set_cons_zero, List.set_cons_succ]
      refine AnyG.take (i := 3) (v := ?_) rfl (by kernel_rfl) (by kernel_rfl) (by kernel_rfl) (fun _ _ _ h => h) (by kernel_rfl) (by kernel_rfl) (Or.inl ⟨by rfl, ?_⟩) (by assumption) ?_
      rotate_left
      · intro w9 hSw; (try dsimp only at hSw); go_simp <;> with_reducible rfl
      try simp only [Act.put, List.getElem_toArray, List.getElem_cons_zero, List.getElem_cons_succ, List.setIfInBounds_toArray, List.set_cons_zero, List.set_cons_succ]
      refine AnyG.take (i := 4) (v := ?_) rfl (by kernel_rfl) (by kernel_rfl) (by kernel_rfl) (fun _ _ _ h => h) (by kernel_rfl) (by kernel_rfl) (Or.inl ⟨by rfl, ?_⟩) (by assumption) ?_
      rotate_left
      · intro w9 hSw; (try dsimp only at hSw); go_simp <;> with_reducible rfl
      try simp only [Act.put, List.getElem_toArray, List.getElem_cons_zero, List.getElem_cons_succ, List.setIfInBounds_toArray, List.set_cons_zero, List.set_cons_succ]
      refine AnyG.step (i := 5) (by kernel_rfl) rfl (fun K hK => ?_)
      go_simp
      go_at_call 27
      refine (CO.out _).mono ?_
      rintro e w6 ⟨h7, l7, rfl, hb, k7⟩
      have B_w6 := Lib.hid (reg_next (w0 := w5) (by repeat (first | with_reducible exact Below.refl _ _ | with_reducible apply below_drew | with_reducible apply below_new)) hb)
      have K_w6 := KK.out _ B_w6.out
      clear hb
      refine hK.out _ _ (fun _ => K_w6) (fun hHeld => ?_)
      replace hHeld := hHeld (by decide)
      clear hK
      try simp only [Act.put, List.getElem_toArray, List.getElem_cons_zero, List.getElem_cons_succ, List.setIfInBounds_toArray, List.set_cons_zero, List.set_cons_succ]
      refine AnyG.step (i := 6) (by kernel_rfl) rfl (fun K hK => ?_)
      go_simp
      go_at_call 26
      refine (CE.out _ _ k7 _).mono ?_
      rintro e w7 ⟨h8, l8, ok8, rfl, hb, k8⟩
      have B_w7 := Lib.hid (below_next B_w6.out hb)
      have K_w7 := KK.out _ B_w7.out
      obtain ⟨rc_part0, rc_part1, rf_part0, rf_part1⟩ := reads2 (r_part.out.keep B_w7.out)
      have rl_part := (r_part.out.keep B_w7.out).lt
      clear hb
      refine hK.out _ _ (fun _ => K_w7) (fun hHeld => ?_)
      replace hHeld := hHeld (by decide)
      clear hK
      try simp only [Act.put, List.getElem_toArray, List.getElem_cons_zero, List.getElem_cons_succ, List.setIfInBounds_toArray, List.set_cons_zero, List.set_cons_succ]
      refine AnyG.take (i := 7) (v := ?_) rfl (by kernel_rfl) (by kernel_rfl) (by kernel_rfl) (fun _ _ _ h => h) (by kernel_rfl) (by kernel_rfl) (Or.inl ⟨by rfl, ?_⟩) (by assumption) ?_
      rotate_left
      · intro w9 hSw; (try dsimp only at hSw); go_simp <;> with_reducible rfl
      try simp only [Act.put, List.getElem_toArray, List.getElem_cons_zero, List.getElem_cons_succ, List.setIfInBounds_toArray, List.set_cons_zero, List.set_cons_succ]
      refine AnyG.take (i := 8) (v := ?_) rfl (by kernel_rfl) (by kernel_rfl) (by kernel_rfl) (fun _ _ _ h => h) (by kernel_rfl) (by kernel_rfl) (Or.inl ⟨by rfl, ?_⟩) (by assumption) ?_
      rotate_left
      · intro w9 hSw; (try dsimp only at hSw); go_simp <;> with_reducible rfl
      try simp only [Act.put, List.getElem_toArray, List.getElem_cons_zero, List.getElem_cons_succ, List.setIfInBounds_toArray, List.set_cons_zero, List.set_cons_succ]
      refine AnyG.take0 (i := 9) (v := ?_) rfl (by kernel_rfl) (by kernel_rfl) (by kernel_rfl) (fun _ _ _ h => h) (by decide) (Or.inl ⟨by rfl, ?_⟩) (by assumption) ?_
      rotate_left
      · intro w9 hSw; clear hSw; go_simp <;> with_reducible rfl
      try simp only [Act.put, List.getElem_toArray, List.getElem_cons_zero, List.getElem_cons_succ, List.setIfInBounds_toArray, List.set_cons_zero, List.set_cons_succ]
      refine AnyG.step (i := 10) (by kernel_rfl) rfl (fun K hK => ?_)
      go_simp
      refine hK.out _ _ (fun h => absurd h (by decide)) (fun _ => ?_)
      clear hK
      try simp only [Act.put, List.getElem_toArray, List.getElem_cons_zero, List.getElem_cons_succ, List.setIfInBounds_toArray, List.set_cons_zero, List.set_cons_succ]
      refine AnyG.done (by kernel_rfl) ?_ _
      clear KK K0 KD K_w6 K_w7
      replace r_whole := Lib.hid (r_whole.out.keep B_w7.out)
      replace r_part := Lib.hid (r_part.out.keep B_w7.out)
      replace r_p := Lib.hid (r_p.out.keep B_w7.out)
      replace BB := Lib.hid (below_next BB.out B_w7.out)
      clear B_w6 B_w7
      obtain ⟨-, k8⟩ := wb_room k8 PR.out
      replace k8 := Lib.hid k8
      have e_st : ((w7.setCell ⟨w.heap.size + 1, 0, none⟩ (.int .i64 h8)).setCell ⟨w.heap.size + 1, 1, none⟩ (.int .u64 l8)) = setFrom w7 (w.heap.size + 1) 0 [.int .i64 h8, .int .u64 l8] := by simp only [setFrom, Nat.reduceAdd]
      rw [e_st]
      clear e_st
      replace r_whole := Lib.hid (AtB.farAll (p := w.heap.size + 1) (by omega) [.int .i64 h8, .int .u64 l8] 0 r_whole.out)
      replace r_part := Lib.hid (AtB.setAll r_part.out [.int .i64 h8, .int .u64 l8] rfl)
      replace r_p := Lib.hid (AtB.farAll (p := w.heap.size + 1) (by have dd_p := d_p.out; omega) [.int .i64 h8, .int .u64 l8] 0 r_p.out)
      replace BB := Lib.hid (below_setAll (b := w.heap.size + 1) (by omega) [.int .i64 h8, .int .u64 l8] 0 BB.out)
      generalize setFrom w7 (w.heap.size + 1) 0 [.int .i64 h8, .int .u64 l8] = w8 at *
      go_wp2_with fail
      go_roundw
      case rel => exact ⟨k + 1, by go_num, by omega, ⟨_, _, _, _, r_whole.out, by rw [← hWn.out]; exact k6.out, r_part.out, by rw [← hPn.out]; exact k8.out, BB.out⟩⟩
      case measure => simp [intOf, ew]; omega
    · obtain rfl : k = n := by omega
      have wb1 := WB'.out k hnl.out
      have pb1 := PB.out k hnl.out
      have hSS : Hid (∃ S, S = Wh k + Pt k / 65536) := ⟨_, rfl⟩
      obtain ⟨S, hS⟩ := hSS.out
      have hQ : Hid (Wh k + Pt k / 65536 = S) := hS.symm
      clear hSS
      obtain ⟨a, ha⟩ : ∃ a, a = Wh k := ⟨_, rfl⟩
      obtain ⟨p, hp⟩ : ∃ a, a = Pt k := ⟨_, rfl⟩
      rw [← ha] at wb1 hS kw
      rw [← hp] at pb1 hS kp
      clear ha hp
      have CS := Lib.hid (fun w => wshr p hp1 lp1 16 (by omega) kp.out w)
      rw [show (2 : Int) ^ 16 = 65536 by decide] at CS
      have CD := Lib.hid (fun h l hz w => wadd a (p / 65536) hw1 lw1 h l kw.out hz w)
      have hr : Hid (I128 (a + p / 65536)) := by unfold I128; show _ ∧ _; omega
      have CF := Lib.hid (fun h l hz w => wfits (a + p / 65536) h l hz w)
      rw [← hS] at CD CF hr
      clear hS
      clear wb1 pb1 WS PS WB' PB W0 P0 CA CB HX HZ kw kp
      go_wp2_with fail
      have KK := Lib.hid (fun (w9 : World) (h : Below wr.heap.size wr w9) => (⟨cells2 (r_whole.out.keep h), cells2 (r_part.out.keep h)⟩ : (w9.cell? ⟨w.heap.size, 0, none⟩ = some (.int .i64 hw1) ∧ w9.cell? ⟨w.heap.size, 1, none⟩ = some (.int .u64 lw1)) ∧ (w9.cell? ⟨w.heap.size + 1, 0, none⟩ = some (.int .i64 hp1) ∧ w9.cell? ⟨w.heap.size + 1, 1, none⟩ = some (.int .u64 lp1))))
      have K0 := KK.out wr (Below.refl _ _)
      have KD := KK.out wr.drew (below_drew (Below.refl _ _))
      refine AnyG.begin_ (fun w9 => (w9.cell? ⟨w.heap.size, 0, none⟩ = some (.int .i64 hw1) ∧ w9.cell? ⟨w.heap.size, 1, none⟩ = some (.int .u64 lw1)) ∧ (w9.cell? ⟨w.heap.size + 1, 0, none⟩ = some (.int .i64 hp1) ∧ w9.cell? ⟨w.heap.size + 1, 1, none⟩ = some (.int .u64 lp1))) 7 (by kernel_rfl) ?_
      refine AnyG.take (i := 0) (v := ?_) rfl (by kernel_rfl) (by kernel_rfl) (by kernel_rfl) (fun _ _ _ h => h) (by kernel_rfl) (by kernel_rfl) (Or.inl ⟨by rfl, ?_⟩) (by assumption) ?_
      rotate_left
      · intro w9 hSw; (try dsimp only at hSw); go_simp <;> with_reducible rfl
      try simp only [Act.put, List.getElem_toArray, List.getElem_cons_zero, List.getElem_cons_succ, List.setIfInBounds_toArray, List.set_cons_zero, List.set_cons_succ]
      refine AnyG.take (i := 1) (v := ?_) rfl (by kernel_rfl) (by kernel_rfl) (by kernel_rfl) (fun _ _ _ h => h) (by kernel_rfl) (by kernel_rfl) (Or.inl ⟨by rfl, ?_⟩) (by assumption) ?_
      rotate_left
      · intro w9 hSw; (try dsimp only at hSw); go_simp <;> with_reducible rfl
      try simp only [Act.put, List.getElem_toArray, List.getElem_cons_zero, List.getElem_cons_succ, List.setIfInBounds_toArray, List.set_cons_zero, List.set_cons_succ]
      refine AnyG.step (i := 2) (by kernel_rfl) rfl (fun K hK => ?_)
      go_simp
      go_at_call 30
      refine (CS.out _).mono ?_
      rintro e w10 ⟨h7, l7, rfl, hb, k7⟩
      have B_w10 := Lib.hid (reg_next (w0 := wr) (by repeat (first | with_reducible exact Below.refl _ _ | with_reducible apply below_drew | with_reducible apply below_new)) hb)
      have K_w10 := KK.out _ B_w10.out
      clear hb
      refine hK.out _ _ (fun _ => K_w10) (fun hHeld => ?_)
      replace hHeld := hHeld (by decide)
      clear hK
      try simp only [Act.put, List.getElem_toArray, List.getElem_cons_zero, List.getElem_cons_succ, List.setIfInBounds_toArray, List.set_cons_zero, List.set_cons_succ]
      refine AnyG.step (i := 3) (by kernel_rfl) rfl (fun K hK => ?_)
      go_simp
      go_at_call 26
      refine (CD.out _ _ k7 _).mono ?_
      rintro e w11 ⟨h8, l8, ok8, rfl, hb, k8⟩
      have B_w11 := Lib.hid (below_next B_w10.out hb)
      have K_w11 := KK.out _ B_w11.out
      obtain ⟨rc_whole0, rc_whole1, rf_whole0, rf_whole1⟩ := reads2 (r_whole.out.keep B_w11.out)
      have rl_whole := (r_whole.out.keep B_w11.out).lt
      clear hb
      refine hK.out _ _ (fun _ => K_w11) (fun hHeld => ?_)
      replace hHeld := hHeld (by decide)
      clear hK
      try simp only [Act.put, List.getElem_toArray, List.getElem_cons_zero, List.getElem_cons_succ, List.setIfInBounds_toArray, List.set_cons_zero, List.set_cons_succ]
      refine AnyG.take (i := 4) (v := ?_) rfl (by kernel_rfl) (by kernel_rfl) (by kernel_rfl) (fun _ _ _ h => h) (by kernel_rfl) (by kernel_rfl) (Or.inl ⟨by rfl, ?_⟩) (by assumption) ?_
      rotate_left
      · intro w9 hSw; (try dsimp only at hSw); go_simp <;> with_reducible rfl
      try simp only [Act.put, List.getElem_toArray, List.getElem_cons_zero, List.getElem_cons_succ, List.setIfInBounds_toArray, List.set_cons_zero, List.set_cons_succ]
      refine AnyG.take (i := 5) (v := ?_) rfl (by kernel_rfl) (by kernel_rfl) (by kernel_rfl) (fun _ _ _ h => h) (by kernel_rfl) (by kernel_rfl) (Or.inl ⟨by rfl, ?_⟩) (by assumption) ?_
      rotate_left
      · intro w9 hSw; (try dsimp only at hSw); go_simp <;> with_reducible rfl
      try simp only [Act.put, List.getElem_toArray, List.getElem_cons_zero, List.getElem_cons_succ, List.setIfInBounds_toArray, List.set_cons_zero, List.set_cons_succ]
      refine AnyG.take0 (i := 6) (v := ?_) rfl (by kernel_rfl) (by kernel_rfl) (by kernel_rfl) (fun _ _ _ h => h) (by decide) (Or.inl ⟨by rfl, ?_⟩) (by assumption) ?_
      rotate_left
      · intro w9 hSw; clear hSw; go_simp <;> with_reducible rfl
      try simp only [Act.put, List.getElem_toArray, List.getElem_cons_zero, List.getElem_cons_succ, List.setIfInBounds_toArray, List.set_cons_zero, List.set_cons_succ]
      refine AnyG.step (i := 7) (by kernel_rfl) rfl (fun K hK => ?_)
      go_simp
      refine hK.out _ _ (fun h => absurd h (by decide)) (fun _ => ?_)
      clear hK
      try simp only [Act.put, List.getElem_toArray, List.getElem_cons_zero, List.getElem_cons_succ, List.setIfInBounds_toArray, List.set_cons_zero, List.set_cons_succ]
      refine AnyG.done (by kernel_rfl) ?_ _
      clear KK K0 KD K_w10 K_w11
      replace r_whole := Lib.hid (r_whole.out.keep B_w11.out)
      replace r_part := Lib.hid (r_part.out.keep B_w11.out)
      replace BB := Lib.hid (below_next BB.out B_w11.out)
      clear B_w10 B_w11
      obtain ⟨-, k8⟩ := wb_room k8 hr.out
      replace k8 := Lib.hid k8
      have e_st : ((w11.setCell ⟨w.heap.size, 0, none⟩ (.int .i64 h8)).setCell ⟨w.heap.size, 1, none⟩ (.int .u64 l8)) = setFrom w11 (w.heap.size) 0 [.int .i64 h8, .int .u64 l8] := by simp only [setFrom, Nat.reduceAdd]
      rw [e_st]
      clear e_st
      replace r_whole := Lib.hid (AtB.setAll r_whole.out [.int .i64 h8, .int .u64 l8] rfl)
      replace r_part := Lib.hid (AtB.farAll (p := w.heap.size) (by omega) [.int .i64 h8, .int .u64 l8] 0 r_part.out)
      replace BB := Lib.hid (below_setAll (b := w.heap.size) (by omega) [.int .i64 h8, .int .u64 l8] 0 BB.out)
      generalize setFrom w11 (w.heap.size) 0 [.int .i64 h8, .int .u64 l8] = w12 at *
      obtain ⟨c_whole0, c_whole1, f_whole0, f_whole1⟩ := reads2 r_whole.out
      have l_whole := r_whole.out.lt
      go_wp2_with fail
      refine (CF.out _ _ k8.out _).mono ?_
      rintro e w13 ⟨rfl, hb⟩
      clear c_whole0 c_whole1 f_whole0 f_whole1 l_whole
      replace r_whole := Lib.hid (r_whole.out.keep hb)
      replace r_part := Lib.hid (r_part.out.keep hb)
      replace BB := Lib.hid (below_next BB.out hb)
      clear hb
      go_wp2_with fail
      refine bodyPost_ret (v := .tuple #[.int .i64 (fitX S), .bool (fitsB S 63)]) (by unfold results; simp only [Tryd.results17]; go_simp) rfl ?_
      exact ⟨by rw [hQ.out], BB.out⟩
end Go.Proofs.YthdbchghhpoadaaDoor
