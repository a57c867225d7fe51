/- Contracts of weight.Mix, Byte, Split, and of the document's Byte and Split; rows of bytes. -/
import Derived.Test.YtnklbnphiokpiaaJA
import Derived.Test.YtnklbnphiokpiaaJD
import Derived.Test.YtnklbnphiokpiaaRQuot0
set_option linter.unusedVariables false
set_option linter.unusedSimpArgs false
namespace Go.Proofs.Ytnklbnphiokpiaa
open Go.RowKit Go.ChangeShapes Go.WideShapes Go.ChangeAt

/-- A slice that reads as the bytes zs. -/
def BS (w : World) (v : Value) (zs : List Int) : Prop := ∃ A cap, v = .slice A zs.length cap ∧ zs.length ≤ cap ∧ (cap : Int) ≤ 9223372036854775807 ∧ (∀ z ∈ zs, 0 ≤ z ∧ z ≤ 255) ∧
  (zs ≠ [] → ∃ b off, A = some ⟨b, off, none⟩ ∧ b < w.heap.size ∧ ∀ i, i < zs.length → w.cell? ⟨b, off + i, none⟩ = some (.int .u8 (zs.getD i 0)))
theorem BS.below {w w1 : World} {v : Value} {zs : List Int} (h : BS w v zs) (hb : Below w.heap.size w w1) : BS w1 v zs := by
  obtain ⟨A, cap, rfl, h1, h2, h3, h4⟩ := h
  refine ⟨A, cap, rfl, h1, h2, h3, fun hz => ?_⟩
  obtain ⟨b, off, rfl, hlt, hc⟩ := h4 hz
  exact ⟨b, off, rfl, Nat.lt_of_lt_of_le hlt hb.size, fun i hi => by rw [hb.cell (p := ⟨b, off + i, none⟩) hlt]; exact hc i hi⟩
theorem BS.form {w : World} {v : Value} {zs : List Int} (h : BS w v zs) : ∃ A cap, v = .slice A zs.length cap := by
  obtain ⟨A, cap, rfl, -⟩ := h; exact ⟨_, _, rfl⟩
theorem BS.len {w : World} {v : Value} {zs : List Int} (h : BS w v zs) : (zs.length : Int) ≤ 9223372036854775807 := by
  obtain ⟨A, cap, rfl, h1, h2, -⟩ := h; omega
theorem BS.bytes {w : World} {v : Value} {zs : List Int} (h : BS w v zs) (i : Nat) : 0 ≤ zs.getD i 0 ∧ zs.getD i 0 ≤ 255 := by
  obtain ⟨A, cap, rfl, h1, h2, h3, -⟩ := h
  by_cases hi : i < zs.length
  · rw [List.getD_eq_getElem?_getD, List.getElem?_eq_getElem hi]; exact h3 _ (List.getElem_mem hi)
  · rw [List.getD_eq_getElem?_getD, List.getElem?_eq_none (by omega)]; simp
theorem IS.ints {w : World} {v : Value} {zs : List Int} (h : IS w v zs) (i : Nat) : I64 (zs.getD i 0) := by
  obtain ⟨A, cap, rfl, h1, h2, h3, -⟩ := h
  by_cases hi : i < zs.length
  · rw [List.getD_eq_getElem?_getD, List.getElem?_eq_getElem hi]; exact h3 _ (List.getElem_mem hi)
  · rw [List.getD_eq_getElem?_getD, List.getElem?_eq_none (by omega)]; exact ⟨by simp, by simp⟩
theorem BS.some {w : World} {v : Value} {zs : List Int} (h : BS w v zs) (hz : zs ≠ []) : ∃ b off cap, v = .slice (.some ⟨b, off, none⟩) zs.length cap ∧ zs.length ≤ cap ∧ (cap : Int) ≤ 9223372036854775807 ∧ b < w.heap.size ∧ ∀ i, i < zs.length → w.cell? ⟨b, off + i, none⟩ = .some (.int .u8 (zs.getD i 0)) := by
  obtain ⟨A, cap, rfl, h1, h2, h3, h4⟩ := h
  obtain ⟨b, off, rfl, hlt, hc⟩ := h4 hz
  exact ⟨b, off, cap, rfl, h1, h2, hlt, hc⟩
theorem open_bs {P : Program} {H : Type} {enc : TypeId × Value → H} {t e : TypeId} (ht : P.underlying t = some (.slice e)) (he : P.underlying e = some (.int .u8)) (hc : P.cellsOf e = 1) {W : World} {base : Nat} {v : Value} {d : DataW H} {p : List MemPlace}
    (hval : Value.okWide P W .any base t v) (h : DataW.Trod enc P W 0 (fun _ => true) true t v d p) : ∃ zs, BS W v zs := by
  obtain ⟨a0, len, cap, rfl⟩ := okWide_slice ht hval
  obtain ⟨fuel, hf⟩ := h
  rcases open_ints ht he hc hf with ⟨hcs, hx⟩ | ⟨a, len', cap', zs, hcs, _, hl, hm, hz, hx, hcell, hwz⟩
  · simp [Value.cells] at hcs
    obtain ⟨rfl, rfl, rfl⟩ := hcs
    exact ⟨[], none, 0, rfl, by simp, by simp, by simp, fun h => absurd rfl h⟩
  · simp [Value.cells] at hcs
    obtain ⟨rfl, rfl, rfl⟩ := hcs
    simp only [if_true] at hz
    have hlen : (zs.take len).length = len := by rw [List.length_take]; omega
    refine ⟨zs.take len, some a, cap, by rw [hlen], by rw [hlen]; exact hl, by unfold maxLen at hm; omega, fun z hz' => u8_of_wf (hwz z (List.mem_of_mem_take hz')), fun hne => ?_⟩
    have hpos : 0 < len := by
      cases len with
      | zero => simp at hne
      | succ n => omega
    have g0 := hcell 0 (by omega)
    have hb : a.block < W.heap.size := by
      rcases Nat.lt_or_ge a.block W.heap.size with h | h
      · exact h
      · simp [World.cell?, Addr.add, Array.getElem?_eq_none h] at g0
    obtain ⟨b, off, spot⟩ := a
    have hspot : spot = none := by simpa [Addr.add] using World.cell?_spot g0
    subst hspot
    refine ⟨b, off, rfl, hb, fun i hi => ?_⟩
    rw [hlen] at hi
    have gi := hcell i (by omega)
    have e1 : (⟨b, off, none⟩ : Addr).add i = ⟨b, off + i, none⟩ := by
      unfold Addr.add; split
      · rename_i h; subst h; rfl
      · rfl
    rw [e1] at gi
    rw [gi]
    simp [List.getD, hi]

/-- Products added up. -/
def dotN (f g : Nat → Int) : Nat → Int
  | 0 => 0
  | n + 1 => dotN f g n + f n * g n
theorem dot_zero (f g : Nat → Int) : Value.int .i64 (wrap64 (dotN f g 0)) = .int .i64 0 := by
  rw [show dotN f g 0 = 0 from rfl, wr_in (by omega) (by omega)]

set_option maxRecDepth 100000 in
set_option maxHeartbeats 2000000 in
theorem wmix_some (ub uo uc vb vo vc n m : Nat) (f g : Nat → Int) (hn : n ≤ uc) (hn' : (uc : Int) ≤ 9223372036854775807) (hm : m ≤ vc) (hm' : (vc : Int) ≤ 9223372036854775807) (w : World)
    (hu : ∀ i, i < n → w.cell? ⟨ub, uo + i, none⟩ = some (.int .i64 (f i))) (hv : ∀ i, i < m → w.cell? ⟨vb, vo + i, none⟩ = some (.int .u8 (g i))) (hg : ∀ i, 0 ≤ g i ∧ g i ≤ 255) :
    Calls Try.prog 18 #[.slice (some ⟨ub, uo, none⟩) n uc, .slice (some ⟨vb, vo, none⟩) m vc] w fun e w' => e = .returned (.int .i64 (wrap64 (dotN f g (min n m)))) ∧ ∃ k, w' = w.drewN k := by
  have HU := Lib.hid hu
  have HV := Lib.hid hv
  have HG := Lib.hid hg
  clear hu hv hg
  obtain ⟨l, hl⟩ : ∃ l, l = min n m := ⟨_, rfl⟩
  have l1 : l ≤ n := by omega
  have l2 : l ≤ m := by omega
  have HL := Lib.hid hl
  by_cases h : n < m
  · obtain rfl : l = n := by omega
    have h' : ¬ m < l := by omega
    rw [← hl]
    clear hl
    go_enter Try.func18, Try.ntmps18
    go_wp2_with fail
    go_loopw [5, 6, 12] (fun s _ i wr => ∃ k : Nat, k ≤ l ∧ s = .int .i64 (wrap64 (dotN f g k)) ∧ i = .int .i64 k ∧ ∃ j, wr = w.drewN j) (fun _ _ i _ => l - (intOf i).toNat)
    case atStart => exact ⟨0, by omega, (dot_zero f g).symm, rfl, 0, rfl⟩
    case round =>
      obtain ⟨k, hk, rfl, rfl, j, rfl⟩ := hrel
      by_cases hlt : k < l
      · have c1 := HU.out k (by omega)
        have c2 := HV.out k (by omega)
        obtain ⟨g0, g1⟩ := HG.out k
        have hs : Hid (dotN f g (k + 1) = dotN f g k + f k * g k) := rfl
        have i0 : (0 : Int) ≤ (k : Int) := by omega
        have i1 : (k : Int) < (l : Int) := by omega
        have i2 : (k : Int) < (m : Int) := by omega
        generalize f k = a at *
        generalize g k = b at *
        generalize dotN f g k = S at *
        go_wp2_with fail
        go_quiet (fail)
        go_wp2_with fail
        go_roundw
        case rel => exact ⟨k + 1, by omega, by rw [hs.out]; simp only [wr_add_l, wr_add_r], by go_num, _, rfl⟩
        case measure => simp [intOf]; omega
      · obtain rfl : k = l := by omega
        go_wp2_with fail
        go_ret
        exact ⟨rfl, _, rfl⟩
  · obtain rfl : l = m := by omega
    rw [← hl]
    clear hl
    by_cases h' : l < n
    · skip
      go_enter Try.func18, Try.ntmps18
      go_wp2_with fail
      go_loopw [5, 6, 12] (fun s _ i wr => ∃ k : Nat, k ≤ l ∧ s = .int .i64 (wrap64 (dotN f g k)) ∧ i = .int .i64 k ∧ ∃ j, wr = w.drewN j) (fun _ _ i _ => l - (intOf i).toNat)
      case atStart => exact ⟨0, by omega, (dot_zero f g).symm, rfl, 0, rfl⟩
      case round =>
        obtain ⟨k, hk, rfl, rfl, j, rfl⟩ := hrel
        by_cases hlt : k < l
        · have c1 := HU.out k (by omega)
          have c2 := HV.out k (by omega)
          obtain ⟨g0, g1⟩ := HG.out k
          have hs : Hid (dotN f g (k + 1) = dotN f g k + f k * g k) := rfl
          have i0 : (0 : Int) ≤ (k : Int) := by omega
          have i1 : (k : Int) < (l : Int) := by omega
          have i2 : (k : Int) < (n : Int) := by omega
          generalize f k = a at *
          generalize g k = b at *
          generalize dotN f g k = S at *
          go_wp2_with fail
          go_quiet (fail)
          go_wp2_with fail
          go_roundw
          case rel => exact ⟨k + 1, by omega, by rw [hs.out]; simp only [wr_add_l, wr_add_r], by go_num, _, rfl⟩
          case measure => simp [intOf]; omega
        · obtain rfl : k = l := by omega
          go_wp2_with fail
          go_ret
          exact ⟨rfl, _, rfl⟩
    · skip
      go_enter Try.func18, Try.ntmps18
      go_wp2_with fail
      go_loopw [5, 6, 12] (fun s _ i wr => ∃ k : Nat, k ≤ l ∧ s = .int .i64 (wrap64 (dotN f g k)) ∧ i = .int .i64 k ∧ ∃ j, wr = w.drewN j) (fun _ _ i _ => l - (intOf i).toNat)
      case atStart => exact ⟨0, by omega, (dot_zero f g).symm, rfl, 0, rfl⟩
      case round =>
        obtain ⟨k, hk, rfl, rfl, j, rfl⟩ := hrel
        by_cases hlt : k < l
        · have c1 := HU.out k (by omega)
          have c2 := HV.out k (by omega)
          obtain ⟨g0, g1⟩ := HG.out k
          have hs : Hid (dotN f g (k + 1) = dotN f g k + f k * g k) := rfl
          have i0 : (0 : Int) ≤ (k : Int) := by omega
          have i1 : (k : Int) < (l : Int) := by omega
          have i2 : (k : Int) < (n : Int) := by omega
          generalize f k = a at *
          generalize g k = b at *
          generalize dotN f g k = S at *
          go_wp2_with fail
          go_quiet (fail)
          go_wp2_with fail
          go_roundw
          case rel => exact ⟨k + 1, by omega, by rw [hs.out]; simp only [wr_add_l, wr_add_r], by go_num, _, rfl⟩
          case measure => simp [intOf]; omega
        · obtain rfl : k = l := by omega
          go_wp2_with fail
          go_ret
          exact ⟨rfl, _, rfl⟩
set_option maxRecDepth 100000 in
theorem wmix_none (A B : Option Addr) (n m uc vc : Nat) (h : n = 0 ∨ m = 0) (hn : (n : Int) ≤ 9223372036854775807) (hm : (m : Int) ≤ 9223372036854775807) (w : World) :
    Calls Try.prog 18 #[.slice A n uc, .slice B m vc] w fun e w' => e = .returned (.int .i64 0) ∧ w = w' := by
  by_cases h1 : n < m
  · obtain rfl : n = 0 := by omega
    have h2 : ¬ m < 0 := by omega
    clear h
    go_enter Try.func18, Try.ntmps18
    go_wp2_with fail
    refine wp_loop_rounds 1 ?_
    rw [rounds_succ]
    go_wp2_with fail
    go_ret
    exact ⟨rfl, rfl⟩
  · obtain rfl : m = 0 := by omega
    clear h
    by_cases h2 : 0 < n
    · skip
      go_enter Try.func18, Try.ntmps18
      go_wp2_with fail
      refine wp_loop_rounds 1 ?_
      rw [rounds_succ]
      go_wp2_with fail
      go_ret
      exact ⟨rfl, rfl⟩
    · obtain rfl : n = 0 := by omega
      go_enter Try.func18, Try.ntmps18
      go_wp2_with fail
      refine wp_loop_rounds 1 ?_
      rw [rounds_succ]
      go_wp2_with fail
      go_ret
      exact ⟨rfl, rfl⟩
theorem wmix_any (u v : Value) (ws vs : List Int) (w : World) (hu : IS w u ws) (hv : BS w v vs) :
    Calls Try.prog 18 #[u, v] w fun e w' => e = .returned (.int .i64 (wrap64 (dotN (fun i => ws.getD i 0) (fun i => vs.getD i 0) (min ws.length vs.length)))) ∧ ∃ k, w' = w.drewN k := by
  by_cases h : ws.length = 0 ∨ vs.length = 0
  · obtain ⟨A, uc, rfl⟩ := hu.form
    obtain ⟨B, vc, rfl⟩ := hv.form
    refine (wmix_none A B ws.length vs.length uc vc h hu.len hv.len w).mono ?_
    rintro e w' ⟨rfl, rfl⟩
    refine ⟨?_, 0, rfl⟩
    rw [show min ws.length vs.length = 0 by omega, dot_zero]
  · obtain ⟨b, off, cap, rfl, h1, h2, h3, h4⟩ := hu.some (fun e => h (by rw [e]; simp))
    obtain ⟨b', off', cap', rfl, k1, k2, k3, k4⟩ := hv.some (fun e => h (by rw [e]; simp))
    exact wmix_some b off cap b' off' cap' ws.length vs.length _ _ h1 h2 k1 k2 w h4 k4 hv.bytes

/-- A sum as a byte. -/
def byteI (s c : Int) : Int := if c < 1 then 0 else max 0 (min (nearI s c) 255)
theorem near_in {s c : Int} (hs : I64 s) (hc : 1 ≤ c) : I64 (nearI s c) := by
  have h := fdiv_spec (2 * s + c) (2 * c)
  have h2 := fmod_bounds (a := 2 * s + c) (show 2 * c ≠ 0 by omega)
  obtain ⟨s0, s1⟩ := hs
  unfold nearI
  generalize (2 * s + c).fdiv (2 * c) = q at *
  generalize (2 * s + c).fmod (2 * c) = r at *
  constructor
  · by_cases hq : 0 ≤ q
    · omega
    · have : c * (q + 1) ≤ 1 * (q + 1) := Int.mul_le_mul_of_nonpos_right (by omega) (by omega)
      have e : 2 * c * q = 2 * (c * (q + 1)) - 2 * c := by grind
      omega
  · by_cases hq : q ≤ 0
    · omega
    · have : 1 * (q - 1) ≤ c * (q - 1) := Int.mul_le_mul_of_nonneg_right (by omega) (by omega)
      have e : 2 * c * q = 2 * (c * (q - 1)) + 2 * c := by grind
      omega
set_option maxRecDepth 100000 in
theorem wbyte (s c : Int) (hs : I64 s) (hc : I64 c) (w : World) : Calls Try.prog 17 #[.int .i64 s, .int .i64 c] w fun e w' => e = .returned (.int .u8 (byteI s c)) ∧ Below w.heap.size w w' := by
  rcases dec_both (c < 1) with ⟨h, hd⟩ | ⟨h, hd⟩
  · have H : Hid (byteI s c = 0) := if_pos h
    clear h hs hc
    go_enter Try.func17, Try.ntmps17
    go_wp2_with fail
    go_ret
    exact ⟨ret_int H.out.symm, Below.refl _ _⟩
  · have H : Hid (byteI s c = max 0 (min (nearI s c) 255)) := if_neg h
    have hr := near_in hs (show 1 ≤ c by omega)
    have CN := Lib.hid (fun w => qnear s c hs hc w)
    have HN : Hid (∀ x is, TQ (nearI s c) (c != 0) x is → x = nearI s c) := fun x is ht => by
      rcases ht with ⟨-, -, -, e⟩ | ⟨k, -⟩
      · exact e
      · exact absurd ⟨by simp; omega, hr⟩ k
    clear h hs hc
    obtain ⟨r0, r1⟩ := hr
    generalize nearI s c = q at *
    rcases dec_both (q < 255) with ⟨h1, hd1⟩ | ⟨h1, hd1⟩
    · have hd2 : decide (255 < q) = false := decide_eq_false (by omega)
      rcases dec_both (0 < q) with ⟨h2, hd3⟩ | ⟨h2, hd3⟩
      · have hd4 : decide (q < 0) = false := decide_eq_false (by omega)
        have hw : IntKind.u8.wrap q = q := by rw [IntKind.wrap_u8']; omega
        replace H : Hid (byteI s c = q) := by have := H.out; show _ = _; rw [this]; omega
        go_enter Try.func17, Try.ntmps17
        go_wp2_with fail
        refine (CN.out _).mono ?_; rintro e w1 ⟨x, is, rfl, hb, ht⟩
        obtain rfl := HN.out _ _ ht
        clear ht
        go_wp2_with fail
        go_ret
        exact ⟨ret_int H.out.symm, hb⟩
      · rcases dec_both (q < 0) with ⟨h3, hd4⟩ | ⟨h3, hd4⟩
        · replace H : Hid (byteI s c = 0) := by have := H.out; show _ = _; rw [this]; omega
          go_enter Try.func17, Try.ntmps17
          go_wp2_with fail
          refine (CN.out _).mono ?_; rintro e w1 ⟨x, is, rfl, hb, ht⟩
          obtain rfl := HN.out _ _ ht
          clear ht
          go_wp2_with fail
          go_ret
          exact ⟨ret_int H.out.symm, hb⟩
        · obtain rfl : q = 0 := by omega
          replace H : Hid (byteI s c = 0) := by have := H.out; show _ = _; rw [this]; omega
          go_enter Try.func17, Try.ntmps17
          go_wp2_with fail
          refine (CN.out _).mono ?_; rintro e w1 ⟨x, is, rfl, hb, ht⟩
          obtain rfl := HN.out _ _ ht
          clear ht
          go_wp2_with fail
          go_ret
          exact ⟨ret_int H.out.symm, hb⟩
    · replace H : Hid (byteI s c = 255) := by have := H.out; show _ = _; rw [this]; omega
      rcases dec_both (255 < q) with ⟨h2, hd2⟩ | ⟨h2, hd2⟩
      · skip
        go_enter Try.func17, Try.ntmps17
        go_wp2_with fail
        refine (CN.out _).mono ?_; rintro e w1 ⟨x, is, rfl, hb, ht⟩
        obtain rfl := HN.out _ _ ht
        clear ht
        go_wp2_with fail
        go_ret
        exact ⟨ret_int H.out.symm, hb⟩
      · obtain rfl : q = 255 := by omega
        go_enter Try.func17, Try.ntmps17
        go_wp2_with fail
        refine (CN.out _).mono ?_; rintro e w1 ⟨x, is, rfl, hb, ht⟩
        obtain rfl := HN.out _ _ ht
        clear ht
        go_wp2_with fail
        go_ret
        exact ⟨ret_int H.out.symm, hb⟩

theorem and_ffff (x : Int) : bits BinOp.and IntKind.i64 x 65535 = x % 65536 := by
  show IntKind.i64.wrap ((BitVec.ofInt 64 x &&& BitVec.ofInt 64 65535).toNat : Int) = _
  have h2 : (BitVec.ofInt 64 65535).toNat = 2 ^ 16 - 1 := by decide
  rw [BitVec.toNat_and, h2, Nat.and_two_pow_sub_one_eq_mod, BitVec.toNat_ofInt, IntKind.wrap_i64]
  have : ((2 : Nat) ^ 64 : Int) = 18446744073709551616 := by decide
  omega
theorem wsplit (x : Int) (w : World) : Calls Try.prog 24 #[.int .i64 x] w fun e w' => e = .returned (.tuple #[.int .i64 (x / 65536), .int .i64 (x % 65536)]) ∧ w = w' := by
  have A := and_ffff x
  go_enter Try.func24, Try.ntmps24
  go_wp2
  refine bodyPost_ret (v := .tuple #[.int .i64 (x / 65536), .int .i64 (x % 65536)]) (by unfold results; simp only [Try.results24]; go_simp) rfl ?_
  exact ⟨rfl, rfl⟩
theorem rsplit (x : Int) (hx : I64 x) (w : World) : Calls Try.prog 25 #[.int .i64 x] w fun e w' => e = .returned (.tuple #[.int .i64 (x / 65536), .int .i64 (x % 65536)]) ∧ w = w' := by
  have C := Lib.hid (fun w => rdown x 65536 hx (by omega) (by omega) w)
  have H := Lib.hid (show x % 65536 = wrap64 (x - wrap64 (65536 * (x / 65536))) by
    rw [wr_sub_r, wr_in] <;> omega)
  clear hx
  go_enter Try.func25, Try.ntmps25
  go_wp2_with fail
  refine (C.out _).mono ?_; rintro e w1 ⟨rfl, rfl⟩
  go_wp2_with fail
  refine bodyPost_ret (v := .tuple #[.int .i64 (x / 65536), .int .i64 (wrap64 (x - wrap64 (65536 * (x / 65536))))]) (by unfold results; simp only [Try.results25]; go_simp) rfl ?_
  exact ⟨ret_int2 rfl (by rw [H.out]), rfl⟩

end Go.Proofs.Ytnklbnphiokpiaa
