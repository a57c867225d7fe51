/- Parts of the proof: Rpt Rsd Rlo RfP Rbk. -/
import Derived.Test.YtikpobembcgbfaaGreatDoorQ24
set_option linter.unusedVariables false
set_option linter.unusedSimpArgs false
set_option maxRecDepth 100000
set_option maxHeartbeats 40000000
namespace Go.Proofs.YtikpobembcgbfaaGreatDoor
open Go.RowKit Go.Lib
theorem div_step (x k : Nat) : x / 256 ^ k / 256 = x / 256 ^ (k + 1) := by rw [Nat.div_div_eq_div_mul, Nat.pow_succ]
theorem byte_of2 (x k : Nat) : ((UInt8.ofNat (x / 256 ^ k % 256)).toNat : Int) = ((x / 256 ^ k % 256 : Nat) : Int) := by rw [byte256]
theorem RW.by_ {w : World} {base : Nat} {u : Value} {L : List UInt8} (h : RW w base u L) : BY w u L := by
 rcases h with h | ⟨b, -, rfl, rfl, h4, h5, h6⟩
 · exact own_by h
 · exact by_mk (l := [66, 77]) (by decide) (by decide) h4 (fun i hi => by
    match i, hi with
    | 0, _ => exact h5
    | 1, _ => exact h6)
def GiveByt (l : List UInt8) (w : World) (e : Ending) (w' : World) : Prop := ∃ v, e = .returned v ∧ Below w.heap.size w w' ∧ BY w' v l
theorem rput (x n : Nat) (hx : x ≤ 4611686018427387904) (hn : n ≤ 8) (w : World) : Calls Tryz.prog 33 #[.int .i64 (x : Int), .int .i64 (n : Int)] w (GiveByt (putB n x) w) := by
 go_enter Tryz.func33, Tryz.ntmps33
 go_wp2_with fail
 go_loopw [5, 6, 7] (fun u y i wr => ∃ k m : Nat, k ≤ n ∧ i = .int .i64 (k : Int) ∧ y = .int .i64 (m : Int) ∧ Hid (m = x / 256 ^ k) ∧ Hid (RW wr w.heap.size u ((putB n x).take k) ∧ Below w.heap.size w wr)) (fun _ _ i _ => n - (RowKit.intOf i).toNat)
 case atStart => exact ⟨0, x, Nat.zero_le _, rfl, rfl, by show _ = _; simp, by rw [List.take_zero]; exact .inl (World.ownsRow_nil _ _ _ _), Below.refl _ _⟩
 case round =>
  obtain ⟨k, m, hk, rfl, rfl, hm, hI⟩ := hrel
  obtain ⟨hown, BB⟩ := hI.out
  clear hI
  by_cases hlt : k < n
  · have hm2 : m ≤ 4611686018427387904 := by have h1 := hm.out; have := Nat.div_le_self x (256 ^ k); omega
    obtain ⟨r, hr⟩ : ∃ r, r = m % 256 := ⟨_, rfl⟩
    obtain ⟨m', hm'⟩ : ∃ r, r = m / 256 := ⟨_, rfl⟩
    have t1 : (m : Int).tmod 256 = (r : Int) := by rw [Int.tmod_eq_emod_of_nonneg (by omega)]; omega
    have t2 : (m : Int).tdiv 256 = (m' : Int) := by rw [Int.tdiv_eq_ediv_of_nonneg (by omega)]; omega
    have t1' : (m : Int) % 256 = (r : Int) := by omega
    have t2' : (m : Int) / 256 = (m' : Int) := by omega
    have r1 : I64 (m' : Int) := ⟨by omega, by omega⟩
    have r2 : (r : Int) < 256 := by omega
    have r3 : (0 : Int) ≤ (r : Int) := by omega
    have r4 : I64 ((k + 1 : Nat) : Int) := ⟨by omega, by omega⟩
    have r5 : (k : Int) + 1 = ((k + 1 : Nat) : Int) := by omega
    have q1 : (k : Int) < (n : Int) := by omega
    have hlen : ((putB n x).take k).length ≤ 100000000 := by rw [List.length_take]; omega
    obtain ⟨g, cap, w', hrun, hRW, hgr, hat⟩ := app_one wr w.heap.size _ _ (UInt8.ofNat (x / 256 ^ k % 256)) hown hlen BB.size
    rw [byte_of2, ← hm.out, ← hr] at hrun hgr
    have BB2 := Lib.hid ((below_new BB (.cells #[.int .u8 (r : Int)] U8T)).grown hgr (by have := BB.size; simp; omega) (fun b e => (hown.ge b e).1))
    rw [← putB_take n k x hlt] at hRW
    replace hRW := Lib.hid hRW
    replace hrun := Lib.hid hrun
    have hms : Hid (m' = x / 256 ^ (k + 1)) := by show _ = _; rw [← div_step, ← hm.out]; exact hm'
    generalize ((putB n x).take k).length + 1 = N at *
    clear hown BB hgr hat hlen hr hm' hm hm2
    have t3 : IntKind.u8.wrap (r : Int) = (r : Int) := by clear t1 t2 t1' t2' q1 r1 r4 r5; simp [IntKind.wrap, IntKind.bits, IntKind.signed]; omega
    have t4 : wrap64 (m' : Int) = (m' : Int) := ww r1
    have t5 : IntKind.i64.wrap (m' : Int) = (m' : Int) := iw r1
    have ek : IntKind.i64.wrap ((k : Int) + 1) = ((k + 1 : Nat) : Int) := by rw [r5]; exact iw r4
    clear r1 r2 r3 r4 r5
    replace hlt := Lib.hid hlt
    go_wp2_with (first | (at_builtin; refine wpList_app_run rfl (.tmp 14) (.tmp 18) BLT rfl rfl rfl hrun.out ?_))
    go_roundw
    case rel => exact ⟨k + 1, m', hlt.out, by go_num, by first | rfl | go_num, hms, hRW.out, BB2.out⟩
    case measure => have := hlt.out; simp [RowKit.intOf, ek]; clear t1 t2 t1' t2' t3 t4 t5 ek; omega
  · obtain rfl : k = n := by omega
    rw [List.take_of_length_le (by rw [putB_len]; exact Nat.le_refl _)] at hown
    have hO := Lib.hid hown.by_
    replace BB := Lib.hid BB
    clear hown hlt hk hm
    go_wp2_with fail
    go_ret
    exact ⟨_, rfl, BB.out, hO.out⟩
theorem rstride_q (W C a s : Nat) (ha : a ≤ 10000000) (hs : Hid (s = (a + 3) / 4 * 4)) (e1 : IntKind.i64.wrap ((W : Int) * (C : Int)) = (a : Int)) (e2 : wrap64 ((W : Int) * (C : Int)) = (a : Int)) (w : World) :
 Calls Tryz.prog 30 #[.int .i64 (W : Int), .int .i64 (C : Int)] w fun e w' => e = .returned (.int .i64 (s : Int)) ∧ Below w.heap.size w w' := by
 have hsa := Lib.hid (show a ≤ s ∧ s ≤ a + 3 by have := hs.out; clear e1 e2; omega)
 replace ha := Lib.hid ha
 go_enter Tryz.func30, Tryz.ntmps30
 go_wp2_with fail
 go_loopw [5] (fun y wr => ∃ m : Nat, y = .int .i64 (m : Int) ∧ Hid (a ≤ m ∧ m ≤ s) ∧ Hid (Below w.heap.size w wr)) (fun y _ => s - (RowKit.intOf y).toNat)
 case atStart => exact ⟨a, rfl, ⟨Nat.le_refl _, hsa.out.1⟩, Below.refl _ _⟩
 case round =>
  clear e1 e2
  obtain ⟨m, rfl, hm, BB⟩ := hrel
  obtain ⟨r, hr⟩ : ∃ r, r = m % 4 := ⟨_, rfl⟩
  have h1 := hm.out
  have h2 := hs.out
  have h3 := ha.out
  have t1 : (m : Int).tmod 4 = (r : Int) := by rw [Int.tmod_eq_emod_of_nonneg (by omega)]; omega
  have t2 : (m : Int) % 4 = (r : Int) := by omega
  by_cases h0 : r = 0
  · have hms : m = s := by omega
    have q : ((r : Int) != 0) = false := by rw [h0]; rfl
    rw [hms] at t1 t2 ⊢
    clear hr h1 h2 h3 hms h0 hm
    go_wp2_with fail
    go_ret
    exact ⟨rfl, BB.out⟩
  · have hms : m < s := by omega
    have q : ((r : Int) != 0) = true := by rw [bne_iff_ne]; omega
    have r1 : I64 ((m + 1 : Nat) : Int) := ⟨by omega, by omega⟩
    have r2 : (m : Int) + 1 = ((m + 1 : Nat) : Int) := by omega
    have hm2 := Lib.hid (show a ≤ m + 1 ∧ m + 1 ≤ s by omega)
    replace hms := Lib.hid hms
    clear hr h1 h2 h3 h0 hm
    have ek : IntKind.i64.wrap ((m : Int) + 1) = ((m + 1 : Nat) : Int) := by rw [r2]; exact iw r1
    clear r1 r2
    go_wp2_with fail
    go_roundw
    case rel => exact ⟨m + 1, by go_num, hm2.out, BB.out⟩
    case measure => have := hms.out; simp [RowKit.intOf, ek]; clear t1 t2 ek; omega
theorem lowB_step (n : Nat) (l : List UInt8) : ∀ i, i < n → lowB (n - i) (l.drop i) = (l.getD i 0).toNat + 256 * lowB (n - (i + 1)) (l.drop (i + 1)) := by
 intro i hi
 obtain ⟨k, hk⟩ : ∃ k, n - i = k + 1 := ⟨n - i - 1, by omega⟩
 rw [hk, show n - (i + 1) = k by omega]
 by_cases h : i < l.length
 · rw [List.drop_eq_getElem_cons h]
   simp [lowB, List.getD, h]
 · rw [List.drop_of_length_le (by omega), List.drop_of_length_le (by omega)]
   simp [List.getD, List.getElem?_eq_none (show l.length ≤ i by omega)]
   cases k <;> simp [lowB]
theorem rlow_q (b off t n N cap : Nat) (l : List UInt8) (hn : n ≤ 4) (hn1 : 1 ≤ n) (htN : t + n ≤ N) (hN : N ≤ 100000000) (w : World) (hc : Hid (∀ i, i < n → ∀ w1, Below w.heap.size w w1 → w1.cell? ⟨b, off + (t + i), none⟩ = some (.int .u8 ((l.getD i 0).toNat : Int)))) :
 Calls Tryz.prog 29 #[.slice (some ⟨b, off, none⟩) N cap, .int .i64 (t : Int), .int .i64 (n : Int)] w fun e w' => e = .returned (.int .i64 (lowB n l : Int)) ∧ Below w.heap.size w w' := by
 have e0 : IntKind.i64.wrap ((n : Int) - 1) = (n : Int) - 1 := iw ⟨by omega, by omega⟩
 replace hn := Lib.hid hn
 replace hn1 := Lib.hid hn1
 replace htN := Lib.hid htN
 replace hN := Lib.hid hN
 go_enter Tryz.func29, Tryz.ntmps29
 go_wp2_with fail
 go_loopw [7, 8] (fun x i wr => ∃ z m : Nat, i = .int .i64 ((z : Int) - 1) ∧ x = .int .i64 (m : Int) ∧ Hid (z ≤ n ∧ m = lowB (n - z) (l.drop z)) ∧ Hid (Below w.heap.size w wr)) (fun _ i _ => (RowKit.intOf i + 1).toNat)
 case atStart => exact ⟨n, 0, rfl, rfl, ⟨Nat.le_refl _, by rw [Nat.sub_self]; rfl⟩, Below.refl _ _⟩
 case round =>
  clear e0
  obtain ⟨z, m, rfl, rfl, hm, BB⟩ := hrel
  cases z with
  | zero =>
    have hE := Lib.hid (show m = lowB n l from hm.out.2)
    clear hm
    go_wp2_with fail
    go_ret
    exact ⟨by rw [hE.out]; rfl, BB.out⟩
  | succ z =>
    have ez : ((z + 1 : Nat) : Int) - 1 = (z : Int) := by omega
    rw [ez]
    clear ez
    obtain ⟨h1, h2⟩ := hm.out
    have h3 := hn.out
    have h4 := htN.out
    have h5 := hN.out
    have cc := hc.out z (by omega) _ BB.out
    have hst := lowB_step n l z (by omega)
    rw [← h2] at hst
    have hlt : m < 4294967296 := by
     have := lowB_lt (n - (z + 1)) (l.drop (z + 1))
     rw [← h2] at this
     have h6 : 256 ^ (n - (z + 1)) ≤ 256 ^ 4 := Nat.pow_le_pow_right (by decide) (by omega)
     omega
    have hx := UInt8.toNat_lt (l.getD z 0)
    generalize (l.getD z 0).toNat = x at *
    obtain ⟨m', hm'⟩ : ∃ m', m' = x + 256 * m := ⟨_, rfl⟩
    rw [← hm'] at hst
    have hst := Lib.hid hst
    have q0 : (0 : Int) ≤ (z : Int) := by omega
    have q1 : ((t + z : Nat) : Int) < (N : Int) := by omega
    have r1 : I64 (((m * 256 : Nat)) : Int) := ⟨by omega, by omega⟩
    have r2 : I64 ((m' : Nat) : Int) := ⟨by omega, by omega⟩
    have r5 : I64 (x : Int) := ⟨by omega, by omega⟩
    have r3 : I64 ((z : Int) - 1) := ⟨by omega, by omega⟩
    have r4 : I64 ((t + z : Nat) : Int) := ⟨by omega, by omega⟩
    have s1 : (m : Int) * 256 = ((m * 256 : Nat) : Int) := by omega
    have s2 : ((m * 256 : Nat) : Int) + (x : Int) = (m' : Int) := by omega
    have s4 : (t : Int) + (z : Int) = ((t + z : Nat) : Int) := by omega
    have hzn := Lib.hid (show z ≤ n by omega)
    obtain ⟨u, hu⟩ : ∃ u, u = m * 256 := ⟨_, rfl⟩
    obtain ⟨tz, htz⟩ : ∃ u, u = t + z := ⟨_, rfl⟩
    rw [← hu] at r1 s1 s2
    rw [← htz] at r4 s4 q1 cc
    clear h1 h2 h3 h4 h5 hlt hm hm' hu htz hx
    have w1 : IntKind.i64.wrap ((m : Int) * 256) = (u : Int) := by rw [s1]; exact iw r1
    have w2 : IntKind.i64.wrap ((u : Int) + (x : Int)) = (m' : Int) := by rw [s2]; exact iw r2
    have w3 : IntKind.i64.wrap ((z : Int) - 1) = (z : Int) - 1 := iw r3
    have w4 : IntKind.i64.wrap ((t : Int) + (z : Int)) = (tz : Int) := by rw [s4]; exact iw r4
    have w5 : wrap64 (x : Int) = (x : Int) := ww r5
    have w6 : wrap64 ((u : Int) + (x : Int)) = (m' : Int) := by rw [s2]; exact ww r2
    have w7 : IntKind.i64.wrap (x : Int) = (x : Int) := iw r5
    clear r1 r2 r3 r4 r5 s1 s2 s4
    go_wp2_with fail
    go_roundw
    case rel => exact ⟨z, m', rfl, rfl, ⟨hzn.out, hst.out.symm⟩, BB.out⟩
    case measure => simp [RowKit.intOf, w3] <;> (clear w1 w2 w3 w4 w5 w6 w7; omega)
theorem blk_35 (t : List UInt8) : blk false (35 :: t) = blk true (35 :: t) := by
 show (if blankB 35 = true then _ else if (35 : UInt8) = 35 then 1 + blk true t else 0) = 1 + blk (decide ((35 : UInt8) ≠ 10)) t
 rw [if_neg (by decide), if_pos rfl]
 rfl
theorem blkT_10 (t : List UInt8) : blk true (10 :: t) = 1 + blk false t := rfl
theorem blkT_ne {c : UInt8} (t : List UInt8) (h : c ≠ 10) : blk true (c :: t) = 1 + blk true t := by
 show 1 + blk (decide (c ≠ 10)) t = _
 rw [decide_eq_true h]
/-- What a round of the outer loop does at j; of the inner one at m. -/
theorem blk_out (r : List UInt8) (n : Nat) (hn : n = r.length) (j : Nat) (hj : j < n) (c : UInt8) (hc : c = r.getD j 0) :
 (blankB c = true → blk false (r.drop j) = 1 + blk false (r.drop (j + 1))) ∧ (c = 35 → blk false (r.drop j) = blk true (r.drop j)) ∧ (blankB c = false → c ≠ 35 → blk false (r.drop j) = 0) := by
 have hd := drop_cons_getD (l := r) (k := j) (by omega)
 rw [← hc] at hd
 refine ⟨fun hb => blk_blank hd hb, fun h => ?_, fun hb h => blk_none hd hb h⟩
 rw [hd, h]
 exact blk_35 _
theorem blk_in (r : List UInt8) (n : Nat) (hn : n = r.length) (m : Nat) (hm : m < n) (c : UInt8) (hc : c = r.getD m 0) :
 (c = 10 → blk true (r.drop m) = 1 + blk false (r.drop (m + 1))) ∧ (c ≠ 10 → blk true (r.drop m) = 1 + blk true (r.drop (m + 1))) := by
 have hd := drop_cons_getD (l := r) (k := m) (by omega)
 rw [← hc] at hd
 exact ⟨fun h => by rw [hd, h]; exact blkT_10 _, fun h => by rw [hd]; exact blkT_ne _ h⟩
theorem blk_far (r : List UInt8) (n : Nat) (hn : n = r.length) (b : Bool) (j : Nat) (hj : n ≤ j) : blk b (r.drop j) = 0 := by
 rw [List.drop_of_length_le (by omega)]
 cases b <;> rfl
theorem P2_nat (n : Nat) : P2 n = ((32768 ^ n : Nat) : Int) := by unfold P2; rw [Int.natCast_pow]; rfl
theorem ten_P2 (n : Nat) : ((10 ^ (4 * n) : Nat) : Int) ≤ P2 n := by
 rw [P2_nat, Nat.pow_mul]
 exact Int.ofNat_le.2 (Nat.pow_le_pow_left (by decide) n)
theorem dec_P2 {l : List UInt8} (h : isD l) (m : Nat) (hl : l.length ≤ 4 * m) : ((decL l : Nat) : Int) < P2 m := by
 have h1 := decL_lt h
 have h2 : 10 ^ l.length ≤ 10 ^ (4 * m) := Nat.pow_le_pow_right (by decide) hl
 have h3 := ten_P2 m
 generalize 10 ^ (4 * m) = z at *
 generalize 10 ^ l.length = z2 at *
 omega
theorem dec_mid {l : List UInt8} (hl : l.length ≤ 20000) {j : Nat} (hj : j ≤ dgN l) : ((decL (l.take j) : Nat) : Int) < HUGE := by
 have h0 : isD (l.take j) := by
  intro c hc
  have h1 : l.take j = (l.take (dgN l)).take j := by rw [List.take_take, Nat.min_eq_left hj]
  rw [h1] at hc
  exact dgN_take l c (List.mem_of_mem_take hc)
 unfold HUGE
 exact dec_P2 h0 5000 (by rw [List.length_take]; omega)
theorem dec_mids {l : List UInt8} (hl : l.length ≤ 20000) {j : Nat} (hj : j < dgN l) : ((10 * decL (l.take j) : Nat) : Int) < HUGE ∧ ((10 * decL (l.take j) + ((l.getD j 0).toNat - 48) : Nat) : Int) < HUGE := by
 have h := dec_mid hl (j := j + 1) hj
 rw [dec_step hj] at h
 generalize 10 * decL (l.take j) = z at *
 refine ⟨?_, h⟩
 refine Int.lt_of_le_of_lt ?_ h
 omega
theorem turn3_step : ∀ (x : Nat) (s : List UInt8), 3 * x + 3 ≤ s.length → turn3 (s.take (3 * (x + 1))) = turn3 (s.take (3 * x)) ++ [s.getD (3 * x + 2) 0, s.getD (3 * x + 1) 0, s.getD (3 * x) 0]
 | 0, a :: b :: c :: t, _ => by simp [turn3, List.getD]
 | x + 1, a :: b :: c :: t, h => by
   have ih := turn3_step x t (by simp only [List.length_cons] at h; omega)
   rw [show 3 * (x + 1 + 1) = 3 * (x + 1) + 1 + 1 + 1 by omega, show 3 * (x + 1) = 3 * x + 1 + 1 + 1 by omega]
   simp only [List.take_succ_cons, turn3]
   rw [show 3 * x + 1 + 1 + 1 = 3 * (x + 1) by omega, ih, show 3 * (x + 1) + 2 = (3 * x + 2) + 1 + 1 + 1 by omega, show 3 * (x + 1) + 1 = (3 * x + 1) + 1 + 1 + 1 by omega, show 3 * (x + 1) = 3 * x + 1 + 1 + 1 by omega]
   simp [List.getD]
 | _, [], h => by simp at h
 | _, [_], h => by simp at h
 | _, [_, _], h => by simp at h
theorem turn4_step : ∀ (x : Nat) (s : List UInt8), 4 * x + 4 ≤ s.length → turn4 (s.take (4 * (x + 1))) = turn4 (s.take (4 * x)) ++ [s.getD (4 * x + 2) 0, s.getD (4 * x + 1) 0, s.getD (4 * x) 0, s.getD (4 * x + 3) 0]
 | 0, a :: b :: c :: d :: t, _ => by simp [turn4, List.getD]
 | x + 1, a :: b :: c :: d :: t, h => by
   have ih := turn4_step x t (by simp only [List.length_cons] at h; omega)
   rw [show 4 * (x + 1 + 1) = 4 * (x + 1) + 1 + 1 + 1 + 1 by omega, show 4 * (x + 1) = 4 * x + 1 + 1 + 1 + 1 by omega]
   simp only [List.take_succ_cons, turn4]
   rw [show 4 * x + 1 + 1 + 1 + 1 = 4 * (x + 1) by omega, ih, show 4 * (x + 1) + 2 = (4 * x + 2) + 1 + 1 + 1 + 1 by omega, show 4 * (x + 1) + 1 = (4 * x + 1) + 1 + 1 + 1 + 1 by omega, show 4 * (x + 1) + 3 = (4 * x + 3) + 1 + 1 + 1 + 1 by omega, show 4 * (x + 1) = 4 * x + 1 + 1 + 1 + 1 by omega]
   simp [List.getD]
 | _, [], h => by simp at h
 | _, [_], h => by simp at h
 | _, [_, _], h => by simp at h
 | _, [_, _, _], h => by simp at h
theorem turn3_at : ∀ (x : Nat) (s : List UInt8), 3 * x + 3 ≤ s.length → ∀ k, k < 3 → (turn3 s).getD (3 * x + k) 0 = s.getD (3 * x + (2 - k)) 0
 | 0, a :: b :: c :: t, _, k, hk => by
   match k, hk with
   | 0, _ => rfl
   | 1, _ => rfl
   | 2, _ => rfl
 | x + 1, a :: b :: c :: t, h, k, hk => by
   have ih := turn3_at x t (by simp only [List.length_cons] at h; omega) k hk
   rw [show 3 * (x + 1) + k = (3 * x + k) + 1 + 1 + 1 by omega, show 3 * (x + 1) + (2 - k) = (3 * x + (2 - k)) + 1 + 1 + 1 by omega]
   simpa [turn3, List.getD] using ih
 | _, [], h, _, _ => by simp at h
 | _, [_], h, _, _ => by simp at h
 | _, [_, _], h, _, _ => by simp at h
theorem turn4_at : ∀ (x : Nat) (s : List UInt8), 4 * x + 4 ≤ s.length → ∀ k, k < 4 → (turn4 s).getD (4 * x + k) 0 = s.getD (4 * x + (if k < 3 then 2 - k else k)) 0
 | 0, a :: b :: c :: d :: t, _, k, hk => by
   match k, hk with
   | 0, _ => rfl
   | 1, _ => rfl
   | 2, _ => rfl
   | 3, _ => rfl
 | x + 1, a :: b :: c :: d :: t, h, k, hk => by
   have ih := turn4_at x t (by simp only [List.length_cons] at h; omega) k hk
   generalize (if k < 3 then 2 - k else k) = k2 at *
   rw [show 4 * (x + 1) + k = (4 * x + k) + 1 + 1 + 1 + 1 by omega, show 4 * (x + 1) + k2 = (4 * x + k2) + 1 + 1 + 1 + 1 by omega]
   simpa [turn4, List.getD] using ih
 | _, [], h, _, _ => by simp at h
 | _, [_], h, _, _ => by simp at h
 | _, [_, _], h, _, _ => by simp at h
 | _, [_, _, _], h, _, _ => by simp at h
/-- Where a channel goes. -/
def sgm (k : Nat) : Nat := if k < 3 then 2 - k else k
theorem turnL_at (C x k : Nat) (s : List UInt8) (hC : C = 3 ∨ C = 4) (h : C * x + C ≤ s.length) (hk : k < C) : (turnL C s).getD (C * x + k) 0 = s.getD (C * x + sgm k) 0 := by
 unfold turnL sgm
 rcases hC with rfl | rfl
 · rw [if_neg (by omega), if_pos (by omega)]; exact turn3_at x s h k hk
 · rw [if_pos rfl]; exact turn4_at x s h k hk
theorem sgm_sgm (k : Nat) : sgm (sgm k) = k := by
 unfold sgm
 by_cases h : k < 3
 · rw [if_pos h, if_pos (by omega)]; omega
 · rw [if_neg h, if_neg h]
theorem sgm_lt {C k : Nat} (hC : C = 3 ∨ C = 4) (hk : k < C) : sgm k < C := by unfold sgm; split <;> omega
theorem getD_drop8 (l : List UInt8) (a j : Nat) : (l.drop a).getD j 0 = l.getD (a + j) 0 := by simp [List.getD, List.getElem?_drop]
theorem getD_take8 (l : List UInt8) {m j : Nat} (h : j < m) : (l.take m).getD j 0 = l.getD j 0 := by simp [List.getD, List.getElem?_take, h]
theorem getD_right (a b : List UInt8) (j : Nat) : (a ++ b).getD (a.length + j) 0 = b.getD j 0 := by simp [List.getD, List.getElem?_append_right (Nat.le_add_right a.length j)]
theorem getD_left (a b : List UInt8) {j : Nat} (h : j < a.length) : (a ++ b).getD j 0 = a.getD j 0 := by simp [List.getD, List.getElem?_append_left h]
section
variable {W H C : Nat} {p : List UInt8}
theorem bmpW_row (q : Nat) : (bmpW W H C p).getD (54 + q) 0 = (rowsW W H C p H).getD q 0 := by
 unfold bmpW
 have := getD_right (bmpHd W H C) (rowsW W H C p H) q
 rw [bmpHd_len] at this
 exact this
theorem bmpW_pix (hp : p.length = H * (W * C)) (hC : C = 3 ∨ C = 4) {x y k : Nat} (hx : x < W) (hy : y < H) (hk : k < C) : (bmpW W H C p).getD (54 + ((H - 1 - y) * strideN W C + (C * x + sgm k))) 0 = p.getD (y * (W * C) + (C * x + k)) 0 := by
 have h0 := rowsW_at hp H (Nat.le_refl _) (H - 1 - y) (by omega)
 rw [show H - 1 - (H - 1 - y) = y by omega] at h0
 have hxc : C * x + C ≤ W * C := by
  have := Nat.mul_le_mul_right C (show x + 1 ≤ W by omega)
  rw [Nat.add_mul, Nat.one_mul, Nat.mul_comm x] at this
  exact this
 have hs := sgm_lt hC hk
 rw [bmpW_row, ← getD_drop8, ← getD_take8 _ (m := W * C) (by omega), h0, turnL_at C x (sgm k) _ hC ?_ hs, sgm_sgm, getD_take8 _ (by omega), getD_drop8]
 have h2 := Nat.mul_le_mul_right (W * C) (show y + 1 ≤ H by omega)
 rw [Nat.add_mul, Nat.one_mul] at h2
 rw [List.length_take, List.length_drop, hp]
 omega
theorem rowsW_pad (hp : p.length = H * (W * C)) : ∀ n, n ≤ H → ∀ k, k < n → ∀ j, W * C ≤ j → j < strideN W C → (rowsW W H C p n).getD (k * strideN W C + j) 0 = 0
 | 0, _, k, hk, _, _, _ => by omega
 | n + 1, h, k, hk, j, h1, h2 => by
   have hl := rowsW_len hp n (by omega)
   rw [show rowsW W H C p (n + 1) = rowsW W H C p n ++ (turnL C ((p.drop ((H - 1 - n) * (W * C))).take (W * C)) ++ List.replicate (strideN W C - W * C) 0) from rfl]
   by_cases hkn : k < n
   · have ih := rowsW_pad hp n (by omega) k hkn j h1 h2
     have h3 : (k + 1) * strideN W C ≤ n * strideN W C := Nat.mul_le_mul_right _ hkn
     rw [Nat.add_mul, Nat.one_mul] at h3
     rw [getD_left _ _ (by omega)]
     exact ih
   · obtain rfl : k = n := by omega
     rw [← hl, getD_right]
     obtain ⟨d, rfl⟩ := Nat.exists_eq_add_of_le h1
     have hr := row_len (W := W) (C := C) hp (k := H - 1 - k) (by omega)
     have := getD_right (turnL C ((p.drop ((H - 1 - k) * (W * C))).take (W * C))) (List.replicate (strideN W C - W * C) 0) d
     rw [hr] at this
     rw [this]
     by_cases hd : d < strideN W C - W * C
     · simp [List.getD, hd]
     · simp [List.getD, hd]
/-- The place of the i-th byte of the pixels. -/
def posW (W H C i : Nat) : Nat := 54 + ((H - 1 - i / C / W) * strideN W C + (C * (i / C % W) + sgm (i % C)))
theorem posW_at (hp : p.length = H * (W * C)) (hC : C = 3 ∨ C = 4) {i : Nat} (hi : i < H * (W * C)) : (bmpW W H C p).getD (posW W H C i) 0 = p.getD i 0 ∧ posW W H C i < 54 + strideN W C * H := by
 have hC0 : 0 < C := by omega
 have hW0 : 0 < W := by
  rcases Nat.eq_zero_or_pos W with rfl | h
  · simp at hi
  · exact h
 have hx : i / C % W < W := Nat.mod_lt _ hW0
 have hk : i % C < C := Nat.mod_lt _ hC0
 have hy : i / C / W < H := by
  rw [Nat.div_div_eq_div_mul, Nat.div_lt_iff_lt_mul (Nat.mul_pos hC0 hW0), Nat.mul_comm C W]
  exact hi
 have e := bmpW_pix hp hC hx hy hk
 have ei : i / C / W * (W * C) + (C * (i / C % W) + i % C) = i := by
  have h1 := Nat.div_add_mod i C
  have h2 := Nat.div_add_mod (i / C) W
  have h3 : i / C / W * (W * C) + C * (i / C % W) = C * (W * (i / C / W) + i / C % W) := by
   rw [Nat.mul_add, ← Nat.mul_assoc C W, Nat.mul_comm (i / C / W), Nat.mul_comm C W]
  rw [← Nat.add_assoc, h3, h2, h1]
 rw [ei] at e
 refine ⟨e, ?_⟩
 unfold posW
 have hs := sgm_lt hC hk
 have hxc : C * (i / C % W) + C ≤ W * C := by
  have := Nat.mul_le_mul_right C (show i / C % W + 1 ≤ W by omega)
  rw [Nat.add_mul, Nat.one_mul, Nat.mul_comm (i / C % W)] at this
  exact this
 have hge := stride_ge W C
 have h4 : (H - 1 - i / C / W + 1) * strideN W C ≤ H * strideN W C := Nat.mul_le_mul_right _ ((fun y (hy : y < H) => show H - 1 - y + 1 ≤ H by omega) _ hy)
 rw [Nat.add_mul, Nat.one_mul, Nat.mul_comm H] at h4
 generalize (H - 1 - i / C / W) * strideN W C = z1 at *
 generalize C * (i / C % W) = z2 at *
 clear e ei hp
 omega
/-- A place that no byte of the pixels goes to holds 0. -/
theorem posW_not (hp : p.length = H * (W * C)) (hC : C = 3 ∨ C = 4) (hW : 0 < W) {q : Nat} (hq : 54 ≤ q) (hq2 : q < 54 + strideN W C * H) (hn : ∀ i, i < H * (W * C) → posW W H C i ≠ q) : (bmpW W H C p).getD q 0 = 0 := by
 obtain ⟨d, rfl⟩ := Nat.exists_eq_add_of_le hq
 have hC0 : 0 < C := by omega
 have hS : 0 < strideN W C := Nat.lt_of_lt_of_le (Nat.mul_pos hW hC0) (stride_ge W C)
 have hr : d / strideN W C < H := by
  rw [Nat.div_lt_iff_lt_mul hS, Nat.mul_comm]
  omega
 have hj : d % strideN W C < strideN W C := Nat.mod_lt _ hS
 have hd := Nat.div_add_mod d (strideN W C)
 rw [bmpW_row]
 by_cases h : W * C ≤ d % strideN W C
 · have := rowsW_pad hp H (Nat.le_refl _) _ hr _ h hj
   rw [Nat.mul_comm, hd] at this
   exact this
 · exfalso
   obtain ⟨y, hy⟩ : ∃ y, y = H - 1 - d / strideN W C := ⟨_, rfl⟩
   obtain ⟨x, hx⟩ : ∃ x, x = d % strideN W C / C := ⟨_, rfl⟩
   obtain ⟨k, hk⟩ : ∃ k, k = sgm (d % strideN W C % C) := ⟨_, rfl⟩
   have hkC : k < C := by rw [hk]; exact sgm_lt hC (Nat.mod_lt _ hC0)
   have hxW : x < W := by rw [hx, Nat.div_lt_iff_lt_mul hC0]; omega
   have hyH : y < H := (fun r (hr : r < H) (hy : y = H - 1 - r) => show y < H by omega) _ hr hy
   have e1 : (C * (y * W + x) + k) / C = y * W + x := by rw [Nat.mul_add_div hC0, Nat.div_eq_of_lt hkC, Nat.add_zero]
   have e2 : (C * (y * W + x) + k) % C = k := by rw [Nat.mul_add_mod, Nat.mod_eq_of_lt hkC]
   have e3 : (y * W + x) / W = y := by rw [Nat.mul_comm, Nat.mul_add_div hW, Nat.div_eq_of_lt hxW, Nat.add_zero]
   have e4 : (y * W + x) % W = x := by rw [Nat.mul_comm, Nat.mul_add_mod, Nat.mod_eq_of_lt hxW]
   refine hn (C * (y * W + x) + k) ?_ ?_
   · have h1 : y * W + x + 1 ≤ H * W := by
      have := Nat.mul_le_mul_right W (show y + 1 ≤ H by omega)
      rw [Nat.add_mul, Nat.one_mul] at this
      omega
     have h2 := Nat.mul_le_mul_left C h1
     rw [Nat.mul_add, Nat.mul_one] at h2
     rw [Nat.mul_comm W C, ← Nat.mul_assoc, Nat.mul_comm H C, Nat.mul_assoc]
     omega
   · unfold posW
     rw [e1, e2, e3, e4, hk, sgm_sgm, hx, Nat.div_add_mod, show H - 1 - y = d / strideN W C from (fun r (hr : r < H) (hy : y = H - 1 - r) => show H - 1 - y = r by omega) _ hr hy, Nat.mul_comm, hd]
end
theorem beq_u8 {c d : UInt8} : (((c.toNat : Int) == (d.toNat : Int)) = decide (c = d)) ∧ (((c.toNat : Int) != (d.toNat : Int)) = !decide (c = d)) := by
 by_cases h : c = d
 · subst h; simp
 · obtain ⟨h1, h2⟩ := byte_ne h
   rw [h1, h2]; simp [h]
theorem rblank_no (n cap : Nat) (A : Option Addr) (hn : n = 0) (w : World) : Calls Tryz.prog 46 #[.slice A n cap] w (GiveTwo 0 20 w) := by
 subst hn
 go_enter Tryz.func46, Tryz.ntmps46
 go_wp2_with fail
 go_ret2
 exact ⟨rfl, Below.refl _ _⟩
theorem rblank_q (r : List UInt8) (n cap b off T c : Nat) (hcT : Hid (c = if T = 0 then 21 else 0)) (hn : n = r.length) (hb : n ≤ 100000000) (h0 : n ≠ 0) (hT : T = blk false r) (w : World) (hc : ∀ i, i < n → w.cell? ⟨b, off + i, none⟩ = some (.int .u8 ((r.getD i 0).toNat : Int))) :
 Calls Tryz.prog 46 #[.slice (some ⟨b, off, none⟩) n cap] w (GiveTwo T c w) := by
 have g0 : ((n : Int) == 0) = false := by rw [beq_eq_false_iff_ne]; omega
 have g1 : ¬ (n : Int) = 0 := by omega
 have hS := Lib.hid (fun j hj => blk_out r n hn j hj _ rfl)
 have hI := Lib.hid (fun j hj => blk_in r n hn j hj _ rfl)
 have hF := Lib.hid (fun bo j hj => blk_far r n hn bo j hj)
 have hT0 := Lib.hid (show T = min 0 n + blk false (r.drop 0) by rw [List.drop_zero, Nat.zero_min, Nat.zero_add]; exact hT)
 have BLK := Lib.hid (fun c w => r14blank c w)
 have h10 := Lib.hid (fun c : UInt8 => (show ((c.toNat : Int) == 35) = decide (c = 35) ∧ ((c.toNat : Int) != 10) = !decide (c = 10) from ⟨(beq_u8 (c := c) (d := 35)).1, (beq_u8 (c := c) (d := 10)).2⟩))
 replace hc := Lib.hid hc
 replace hb := Lib.hid hb
 replace h0 := Lib.hid h0
 clear hT hn
 go_enter Tryz.func46, Tryz.ntmps46
 go_wp2_with fail
 go_loop [4] (fun i => ∃ j : Nat, j ≤ n + 1 ∧ i = .int .i64 (j : Int) ∧ Hid (T = min j n + blk false (r.drop j))) (fun i => n + 1 - (RowKit.intOf i).toNat)
 case atStart => exact ⟨0, Nat.zero_le _, rfl, hT0.out⟩
 case round =>
  obtain ⟨j, hj, rfl, hTj⟩ := hrel
  by_cases hlt : j < n
  · obtain ⟨s1, s2, s3⟩ := hS.out j hlt
    obtain ⟨t1, t2⟩ := h10.out (r.getD j 0)
    have cj := hc.out j hlt
    have CB := Lib.hid (BLK.out (r.getD j 0) w)
    have hTj2 := hTj.out
    rw [Nat.min_eq_left (Nat.le_of_lt hlt)] at hTj2
    have q0 : (0 : Int) ≤ (j : Int) := by omega
    have q1 : (j : Int) < (n : Int) := by omega
    have hbn := hb.out
    have r1 : I64 ((j + 1 : Nat) : Int) := ⟨by omega, by omega⟩
    have r2 : (j : Int) + 1 = ((j + 1 : Nat) : Int) := by omega
    have ek : IntKind.i64.wrap ((j : Int) + 1) = ((j + 1 : Nat) : Int) := by rw [r2]; exact iw r1
    clear r1 r2 hbn
    cases hbl : blankB (r.getD j 0) with
    | true =>
      have hn35 : ¬ r.getD j 0 = 35 := by intro e; rw [e] at hbl; exact absurd hbl (by decide)
      rw [decide_eq_false hn35] at t1
      rw [hbl] at CB
      have hr := Lib.hid (show j + 1 ≤ n + 1 ∧ T = min (j + 1) n + blk false (r.drop (j + 1)) from ⟨by omega, by rw [hTj2, s1 hbl, Nat.min_eq_left (by omega), Nat.add_assoc]⟩)
      generalize ((r.getD j 0).toNat : Int) = z at *
      replace hlt := Lib.hid hlt
      clear s1 s2 s3 t2 hTj hTj2 hj hbl hn35
      go_wp2_with fail
      refine CB.out.mono ?_
      rintro e w9 ⟨rfl, rfl⟩
      go_wp2_with fail
      go_round
      case rel => exact ⟨j + 1, hr.out.1, by go_num, hr.out.2⟩
      case measure => have := hlt.out; simp [RowKit.intOf, ek]; clear ek; omega
    | false =>
      rw [hbl] at CB
      by_cases h35 : r.getD j 0 = 35
      · rw [decide_eq_true h35] at t1
        have hT3 := Lib.hid (show T = j + blk true (r.drop j) by rw [hTj2, s2 h35])
        generalize hz : ((r.getD j 0).toNat : Int) = z at *
        replace hlt := Lib.hid hlt
        clear s1 s2 s3 t2 hTj hTj2 hj hbl h35 hz
        go_wp2_with fail
        refine CB.out.mono ?_
        rintro e w9 ⟨rfl, rfl⟩
        go_wp2_with fail
        clear ek q0 q1 t1 cj CB
        go_loop [4] (fun i => ∃ m : Nat, j ≤ m ∧ m ≤ n ∧ i = .int .i64 (m : Int) ∧ Hid (T = m + blk true (r.drop m))) (fun i => n - (RowKit.intOf i).toNat)
        case atStart => exact ⟨j, Nat.le_refl _, Nat.le_of_lt hlt.out, rfl, hT3.out⟩
        case round =>
         obtain ⟨m, hjm, hm, rfl, hTm⟩ := hrel
         have hbn := hb.out
         have r1 : I64 ((m + 1 : Nat) : Int) := ⟨by omega, by omega⟩
         have r2 : (m : Int) + 1 = ((m + 1 : Nat) : Int) := by omega
         have ek : IntKind.i64.wrap ((m : Int) + 1) = ((m + 1 : Nat) : Int) := by rw [r2]; exact iw r1
         clear r1 r2 hbn
         by_cases hlm : m < n
         · obtain ⟨u1, u2⟩ := hI.out m hlm
           obtain ⟨-, t2⟩ := h10.out (r.getD m 0)
           have cm := hc.out m hlm
           have q0 : (0 : Int) ≤ (m : Int) := by omega
           have q1 : (m : Int) < (n : Int) := by omega
           by_cases e10 : r.getD m 0 = 10
           · rw [decide_eq_true e10] at t2
             replace t2 : (((r.getD m 0).toNat : Int) != 10) = false := t2
             have hr := Lib.hid (show m + 1 ≤ n + 1 ∧ T = min (m + 1) n + blk false (r.drop (m + 1)) from ⟨by omega, by rw [hTm.out, u1 e10, Nat.min_eq_left (by omega), Nat.add_assoc]⟩)
             generalize ((r.getD m 0).toNat : Int) = z at *
             replace hlm := Lib.hid hlm
             replace hjm := Lib.hid hjm
             clear u1 u2 hTm hm e10 hT3
             go_wp2_with fail
             go_round
             case rel => exact ⟨m + 1, hr.out.1, by go_num, hr.out.2⟩
             case measure => have := hlm.out; have := hjm.out; have := hlt.out; simp [RowKit.intOf, ek]; clear ek; omega
           · rw [decide_eq_false e10] at t2
             replace t2 : (((r.getD m 0).toNat : Int) != 10) = true := t2
             have hr := Lib.hid (show m + 1 ≤ n ∧ T = m + 1 + blk true (r.drop (m + 1)) from ⟨by omega, by rw [hTm.out, u2 e10, Nat.add_assoc]⟩)
             generalize ((r.getD m 0).toNat : Int) = z at *
             replace hlm := Lib.hid hlm
             replace hjm := Lib.hid hjm
             clear u1 u2 hTm hm e10 hT3
             go_wp2_with fail
             go_round
             case rel => exact ⟨m + 1, by have := hjm.out; omega, hr.out.1, by go_num, hr.out.2⟩
             case measure => have := hlm.out; simp [RowKit.intOf, ek]; clear ek; omega
         · obtain rfl : m = n := by omega
           have hr := Lib.hid (show T = min (m + 1) m + blk false (r.drop (m + 1)) by rw [hTm.out, hF.out true m (Nat.le_refl _), hF.out false (m + 1) (by omega), Nat.min_eq_right (by omega)])
           have q1 : ¬ (m : Int) < (m : Int) := by omega
           replace hjm := Lib.hid hjm
           clear hTm hm hT3 hlm
           go_wp2_with fail
           go_round
           case rel => exact ⟨m + 1, Nat.le_refl _, by go_num, hr.out⟩
           case measure => have := hjm.out; have := hlt.out; simp [RowKit.intOf, ek]; clear ek; omega
      · rw [decide_eq_false h35] at t1
        have hT3 : T = j := by rw [hTj2, s3 hbl h35, Nat.add_zero]
        generalize ((r.getD j 0).toNat : Int) = z at *
        clear s1 s2 s3 t2 hTj hTj2 hj hbl h35 ek
        subst hT3
        have m1 : min (T : Int) (n : Int) = (T : Int) := by omega
        by_cases hz : T = 0
        · have v0 : ((T : Int) == 0) = true := by rw [beq_iff_eq]; omega
          have hcc : c = 21 := by rw [hcT.out, if_pos hz]
          subst hcc
          have hz2 := Lib.hid hz
          clear hz
          go_wp2_with fail
          refine CB.out.mono ?_
          rintro e w9 ⟨rfl, rfl⟩
          go_wp2_with fail
          go_ret2
          exact ⟨by rw [hz2.out]; rfl, Below.refl _ _⟩
        · have v0 : ((T : Int) == 0) = false := by rw [beq_eq_false_iff_ne]; omega
          have v1 : ¬ (T : Int) = 0 := by omega
          have hcc : c = 0 := by rw [hcT.out, if_neg hz]
          subst hcc
          clear hz
          go_wp2_with fail
          refine CB.out.mono ?_
          rintro e w9 ⟨rfl, rfl⟩
          go_wp2_with fail
          go_ret2
          exact ⟨rfl, Below.refl _ _⟩
  · have hT3 : T = n := by rw [hTj.out, hF.out false j (by omega), Nat.add_zero, Nat.min_eq_right (by omega)]
    have q1 : ¬ (j : Int) < (n : Int) := by omega
    have v0 : ((j : Int) == 0) = false := by rw [beq_eq_false_iff_ne]; have := h0.out; omega
    have v1 : ¬ (j : Int) = 0 := by have := h0.out; omega
    have m1 : min (j : Int) (n : Int) = (n : Int) := by omega
    have hcc : c = 0 := by rw [hcT.out, if_neg (by rw [hT3]; exact h0.out)]
    subst hcc
    have hT4 := Lib.hid hT3
    clear hT3 hTj hlt hj
    go_wp2_with fail
    go_ret2
    exact ⟨by rw [hT4.out]; rfl, Below.refl _ _⟩
/-- Blanks and remarks: how many bytes, and the code. -/
theorem rblank (v : Value) (l : List UInt8) (hl : l.length ≤ 100000000) (w : World) (h : BY w v l) : Calls Tryz.prog 46 #[v] w (GiveTwo (blkR l).2 (blkR l).1 w) := by
 obtain ⟨A, cap, e⟩ := h.form
 subst e
 cases l with
 | nil => exact rblank_no 0 cap A rfl w
 | cons c t =>
   obtain ⟨b, off, c', e, -, -, -, hc⟩ := h.some (by simp)
   simp only [Value.slice.injEq] at e
   obtain ⟨rfl, -, -⟩ := e
   have := rblank_q (c :: t) _ cap b off _ _ rfl rfl hl (by simp) rfl w hc
   unfold blkR
   rw [if_neg (by simp)]
   split at this
   · rename_i h0; rw [if_pos h0]; rw [h0] at this; exact this
   · rename_i h0; rw [if_neg h0]; exact this
end Go.Proofs.YtikpobembcgbfaaGreatDoor
