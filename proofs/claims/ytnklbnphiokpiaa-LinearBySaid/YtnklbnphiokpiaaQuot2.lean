/- Contracts of quot.div, size and away. -/
import Derived.Test.YtnklbnphiokpiaaQuot1
import Derived.Test.YtnklbnphiokpiaaDiv64
import Derived.Test.YtnklbnphiokpiaaWide3
set_option linter.unusedVariables false
namespace Go.Proofs.Ytnklbnphiokpiaa
open Go.RowKit

theorem qdiv_law {hi lo y : Int} (h1 : U64 hi) (h2 : U64 lo) (hy : 0 < y) (hy' : y ≤ 18446744073709551615) :
    S128 ((hi * 18446744073709551616 + lo) / y) (hi / y) ((hi % y * 18446744073709551616 + lo) / y) ∧ (hi % y * 18446744073709551616 + lo) % y = (hi * 18446744073709551616 + lo) % y ∧ 0 ≤ hi % y ∧ hi % y < y := by
  have m0 := Int.emod_nonneg hi (show y ≠ 0 by omega)
  have m1 := Int.emod_lt_of_pos hi hy
  have e := Int.mul_ediv_add_emod hi y
  have k : hi * 18446744073709551616 + lo = (hi % y * 18446744073709551616 + lo) + y * (hi / y * 18446744073709551616) := by
    have : y * (hi / y * 18446744073709551616) = y * (hi / y) * 18446744073709551616 := by rw [Int.mul_assoc]
    omega
  refine ⟨⟨⟨Int.ediv_nonneg h1.1 (by omega), Int.le_trans (Int.ediv_le_self _ h1.1) h1.2⟩, ⟨Int.ediv_nonneg (by unfold U64 at h2; omega) (by omega), ?_⟩, ?_⟩, ?_, m0, m1⟩
  · clear k
    have : (hi % y * 18446744073709551616 + lo) / y < 18446744073709551616 := by
      refine Int.ediv_lt_of_lt_mul hy ?_
      unfold U64 at h2
      have : 18446744073709551616 * (hi % y + 1) ≤ 18446744073709551616 * y := by omega
      omega
    omega
  · generalize hi % y * 18446744073709551616 + lo = m at *
    rw [k, Int.add_mul_ediv_left _ _ (by omega)]; omega
  · generalize hi % y * 18446744073709551616 + lo = m at *
    rw [k, Int.add_mul_emod_self_left]

/-- A quotient of sizes, and what is left. -/
def GiveDiv (n y : Int) (w : World) (e : Ending) (w' : World) : Prop := ∃ a b r, e = .returned (.tuple #[.int .u64 a, .int .u64 b, .int .u64 r]) ∧ Below w.heap.size w w' ∧ S128 (n / y) a b ∧ r = n % y
def GiveSz (n : Int) (w : World) (e : Ending) (w' : World) : Prop := ∃ h l, e = .returned (.tuple #[.int .u64 h, .int .u64 l]) ∧ Below w.heap.size w w' ∧ S128 n h l
/-- A number, and whether it has room. -/
def AW (n H L : Int) (ok : Bool) : Prop := (I128 n → ok = true ∧ W128 n H L) ∧ (¬ I128 n → ok = false)
def GiveAw (n : Int) (w : World) (e : Ending) (w' : World) : Prop := ∃ H L ok, e = .returned (.tuple #[wv H L, .bool ok]) ∧ Below w.heap.size w w' ∧ AW n H L ok

theorem qdiv (hi lo y : Int) (h1 : U64 hi) (h2 : U64 lo) (hy : 0 < y) (hy' : y ≤ 18446744073709551615) (w : World) :
    Calls Try.prog 113 #[.int .u64 hi, .int .u64 lo, .int .u64 y] w (GiveDiv (hi * 18446744073709551616 + lo) y w) := by
  obtain ⟨q1, q2, q3, q4⟩ := qdiv_law h1 h2 hy hy'
  have C1 := Lib.hid (fun w => div64_any 0 hi y (by omega) h1 hy hy' w)
  rw [Int.zero_mul, Int.zero_add] at C1
  have C2 := Lib.hid (fun w => div64_any (hi % y) lo y q3 h2 q4 hy' w)
  have HQ := Lib.hid (And.intro q1 q2)
  clear q1 q2 q3 q4 h1 h2 hy hy'
  generalize hi * 18446744073709551616 + lo = n at *
  generalize (hi % y * 18446744073709551616 + lo) / y = b at *
  generalize (hi % y * 18446744073709551616 + lo) % y = r at *
  generalize hi / y = a at *
  generalize hi % y = m at *
  go_enter Try.func113, Try.ntmps113
  go_wp2_with fail
  refine (C1.out _).mono ?_; rintro e w1 ⟨rfl, hb1⟩
  go_wp2_with fail
  refine (C2.out _).mono ?_; rintro e w2 ⟨rfl, hb2⟩
  go_wp2_with fail
  exact bodyPost_ret (v := .tuple #[.int .u64 a, .int .u64 b, .int .u64 r]) (by unfold results; simp only [Try.results113]; go_simp) rfl ⟨_, _, _, rfl, below_next hb1 hb2, HQ.out.1, HQ.out.2⟩

set_option maxRecDepth 100000 in
theorem qsize (x ah al : Int) (hx : W128 x ah al) (w : World) : Calls Try.prog 112 #[wv ah al] w (GiveSz (x.natAbs : Int) w) := by
  obtain ⟨a1, a2, rfl⟩ := hx
  rcases Decidable.em (ah < 0) with ha | ha
  · obtain ⟨s, c, hs, c0, c1, h1, A1⟩ := sub64_ex 0 al 0 ⟨by omega, by omega⟩ a2 (by omega) (by omega)
    obtain ⟨t, d, ht, d0, d1, h2, A2⟩ := sub64_ex 0 (IntKind.u64.wrap ah) c ⟨by omega, by omega⟩ (wrap_u64_in _) c0 c1
    have HL := Lib.hid (apart_law a1 a2 ha hs h1.out c0 c1 (wrap_u64_in _) (wrap_u64_mod _) ht h2.out d0 d1)
    clear h1 h2
    go_enter Try.func112, Try.ntmps112
    go_wp2
    go_ret2
    exact ⟨_, _, rfl, by repeat (first | exact Below.refl _ _ | apply below_new), HL.out⟩
  · have HL : Hid (S128 ((ah * 18446744073709551616 + al).natAbs : Int) (IntKind.u64.wrap ah) al) := by
      show S128 _ _ _
      rw [IntKind.wrap_u64]; unfold S128; unfold I64 U64 at *; omega
    go_enter Try.func112, Try.ntmps112
    go_wp2
    go_quiet (fail)
    go_wp2
    exact bodyPost_ret (v := .tuple #[.int .u64 (IntKind.u64.wrap ah), .int .u64 al]) (by unfold results; simp only [Try.results112]; go_simp) rfl ⟨_, _, rfl, by repeat (first | exact Below.refl _ _ | apply below_drawn | apply below_new), HL.out⟩

set_option maxRecDepth 100000 in
theorem qaway_pos (n hi lo : Int) (h : S128 n hi lo) (w : World) : Calls Try.prog 115 #[.int .u64 hi, .int .u64 lo, .bool false] w (GiveAw n w) := by
  rcases Decidable.em (hi < 9223372036854775808) with hh | hh
  · have HL : Hid (AW n (wrap64 hi) lo true) := by
      show AW _ _ _ _
      unfold S128 U64 at h
      rw [wr_in (by omega) (by omega)]
      exact ⟨fun _ => ⟨rfl, by unfold W128 I64 U64; omega⟩, fun hn => absurd (show I128 n by unfold I128; omega) hn⟩
    have e1 : decide (hi < 9223372036854775808) = true := by simpa using hh
    clear h
    go_enter Try.func115, Try.ntmps115
    go_wp2
    exact bodyPost_ret (v := .tuple #[wv (wrap64 hi) lo, .bool true]) (by unfold results; simp only [Try.results115]; go_simp) rfl ⟨_, _, _, rfl, by repeat (first | exact Below.refl _ _ | apply below_new), HL.out⟩
  · have HL : Hid (AW n (wrap64 hi) lo false) := by
      show AW _ _ _ _
      unfold S128 U64 at h
      exact ⟨fun hn => by unfold I128 at hn; omega, fun hn => rfl⟩
    have e1 : decide (hi < 9223372036854775808) = false := by simpa using hh
    clear h
    go_enter Try.func115, Try.ntmps115
    go_wp2
    exact bodyPost_ret (v := .tuple #[wv (wrap64 hi) lo, .bool false]) (by unfold results; simp only [Try.results115]; go_simp) rfl ⟨_, _, _, rfl, by repeat (first | exact Below.refl _ _ | apply below_new), HL.out⟩

set_option maxRecDepth 100000 in
theorem qaway_neg (n hi lo : Int) (h : S128 n hi lo) (w : World) : Calls Try.prog 115 #[.int .u64 hi, .int .u64 lo, .bool true] w (GiveAw (-n) w) := by
  obtain ⟨a1, a2, hn⟩ := h
  obtain ⟨s, c, hs, c0, c1, h1, A1⟩ := sub64_ex 0 lo 0 ⟨by omega, by omega⟩ a2 (by omega) (by omega)
  obtain ⟨t, d, ht, d0, d1, h2, A2⟩ := sub64_ex 0 hi c ⟨by omega, by omega⟩ a1 c0 c1
  have HL := Lib.hid (fun hn => minus_law a1 a2 hn hs h1.out c0 c1 ht h2.out d0 d1)
  rw [hn] at HL
  have HF : Hid (¬ (hi < 9223372036854775808 ∨ hi = 9223372036854775808 ∧ lo = 0) → AW (-n) 0 0 false) := fun hx => ⟨fun h => by unfold I128 at h; unfold U64 at a1 a2; omega, fun _ => rfl⟩
  have HT : Hid ((hi < 9223372036854775808 ∨ hi = 9223372036854775808 ∧ lo = 0) → AW (-n) (wrap64 t) s true) := fun hn => by
    rcases HL.out hn with ⟨g1, -, g3⟩ | ⟨-, g2, -⟩
    · exact ⟨fun _ => ⟨rfl, g3⟩, fun h => absurd g1 h⟩
    · cases g2
  clear hn
  have l0 := a2.1
  clear h1 h2 HL
  rcases Int.lt_trichotomy hi 9223372036854775808 with hh | hh | hh
  · have e1 : ¬ 9223372036854775808 < hi := by omega
    have e2 : (hi == 9223372036854775808) = false := by simp; omega
    replace HT := Lib.hid (HT.out (.inl hh))
    clear HF
    go_enter Try.func115, Try.ntmps115
    go_wp2
    exact bodyPost_ret (v := .tuple #[wv (wrap64 t) s, .bool true]) (by unfold results; simp only [Try.results115]; go_simp) rfl ⟨_, _, _, rfl, by repeat (first | exact Below.refl _ _ | apply below_new), HT.out⟩
  · subst hh
    rcases Int.lt_or_eq_of_le l0 with hl | hl
    · replace HF := Lib.hid (HF.out (by omega))
      clear HT
      go_enter Try.func115, Try.ntmps115
      go_wp2
      exact bodyPost_ret (v := .tuple #[wv 0 0, .bool false]) (by unfold results; simp only [Try.results115]; go_simp) rfl ⟨_, _, _, rfl, by repeat (first | exact Below.refl _ _ | apply below_new), HF.out⟩
    · subst hl
      replace HT := Lib.hid (HT.out (by omega))
      clear HF l0
      go_enter Try.func115, Try.ntmps115
      go_wp2
      exact bodyPost_ret (v := .tuple #[wv (wrap64 t) s, .bool true]) (by unfold results; simp only [Try.results115]; go_simp) rfl ⟨_, _, _, rfl, by repeat (first | exact Below.refl _ _ | apply below_new), HT.out⟩
  · replace HF := Lib.hid (HF.out (by omega))
    clear HT
    go_enter Try.func115, Try.ntmps115
    go_wp2
    exact bodyPost_ret (v := .tuple #[wv 0 0, .bool false]) (by unfold results; simp only [Try.results115]; go_simp) rfl ⟨_, _, _, rfl, by repeat (first | exact Below.refl _ _ | apply below_new), HF.out⟩

end Go.Proofs.Ytnklbnphiokpiaa
