/- Contract of quot.Wide. -/
import Derived.Test.YtnklbnphiokpiaaQuot2
set_option linter.unusedVariables false
namespace Go.Proofs.Ytnklbnphiokpiaa
open Go.RowKit

/-- What is told of a quotient: it, and what is left, or that there is none, or no room. -/
def QW (z b hi lo r : Int) (ok : Bool) : Prop := (I128 (z.fdiv b) ∧ b ≠ 0 ∧ ok = true ∧ W128 (z.fdiv b) hi lo ∧ r = z.fmod b) ∨ ((b = 0 ∨ ¬ I128 (z.fdiv b)) ∧ ok = false ∧ hi = 0 ∧ lo = 0 ∧ r = 0)
def GiveQW (z b : Int) (w : World) (e : Ending) (w' : World) : Prop := ∃ hi lo r ok, e = .returned (.tuple #[wv hi lo, .int .i64 r, .bool ok]) ∧ Below w.heap.size w w' ∧ QW z b hi lo r ok

/-! ### The plain law: from sizes to quotients rounded down -/
theorem sizes_div {n y : Int} (hn : 0 ≤ n) (hy : 0 < y) : n = y * (n / y) + n % y ∧ 0 ≤ n % y ∧ n % y < y ∧ 0 ≤ n / y :=
  ⟨(Int.mul_ediv_add_emod n y).symm, Int.emod_nonneg _ (by omega), Int.emod_lt_of_pos _ hy, Int.ediv_nonneg hn (by omega)⟩
theorem quot_like {z b : Int} (hb : b ≠ 0) (h : z < 0 ↔ b < 0) :
    z.fdiv b = (z.natAbs : Int) / b.natAbs ∧ z.fmod b = if b < 0 then -((z.natAbs : Int) % b.natAbs) else (z.natAbs : Int) % b.natAbs := by
  obtain ⟨e, h1, h2, h3⟩ := sizes_div (n := (z.natAbs : Int)) (y := (b.natAbs : Int)) (by omega) (by omega)
  generalize (z.natAbs : Int) / b.natAbs = q at *
  generalize (z.natAbs : Int) % b.natAbs = r at *
  split
  · rename_i hb'
    have e1 : (b.natAbs : Int) = -b := by omega
    rw [e1, Int.neg_mul] at e
    exact fdiv_uniq hb (q := q) (r := -r) (by omega) (by omega)
  · have e1 : (b.natAbs : Int) = b := by omega
    rw [e1] at e
    exact fdiv_uniq hb (q := q) (r := r) (by omega) (by omega)
theorem quot_unlike0 {z b : Int} (hb : b ≠ 0) (h : ¬ (z < 0 ↔ b < 0)) (hr : (z.natAbs : Int) % b.natAbs = 0) :
    z.fdiv b = -((z.natAbs : Int) / b.natAbs) ∧ z.fmod b = 0 := by
  obtain ⟨e, h1, h2, h3⟩ := sizes_div (n := (z.natAbs : Int)) (y := (b.natAbs : Int)) (by omega) (by omega)
  generalize (z.natAbs : Int) / b.natAbs = q at *
  generalize (z.natAbs : Int) % b.natAbs = r at *
  refine fdiv_uniq hb (q := -q) (r := 0) ?_ (by omega)
  rw [Int.mul_neg]
  by_cases hb' : b < 0
  · rw [show (b.natAbs : Int) = -b by omega, Int.neg_mul] at e; omega
  · rw [show (b.natAbs : Int) = b by omega] at e; omega
theorem quot_unlike1 {z b : Int} (hb : b ≠ 0) (h : ¬ (z < 0 ↔ b < 0)) (hr : 0 < (z.natAbs : Int) % b.natAbs) :
    z.fdiv b = -((z.natAbs : Int) / b.natAbs + 1) ∧ z.fmod b = if b < 0 then -(b.natAbs - (z.natAbs : Int) % b.natAbs) else b.natAbs - (z.natAbs : Int) % b.natAbs := by
  obtain ⟨e, h1, h2, h3⟩ := sizes_div (n := (z.natAbs : Int)) (y := (b.natAbs : Int)) (by omega) (by omega)
  generalize (z.natAbs : Int) / b.natAbs = q at *
  generalize (z.natAbs : Int) % b.natAbs = r at *
  split
  · rename_i hb'
    have e1 : (b.natAbs : Int) = -b := by omega
    rw [e1, Int.neg_mul] at e
    refine fdiv_uniq hb (q := -(q + 1)) ?_ (by omega)
    rw [Int.mul_neg, Int.mul_add]; omega
  · have e1 : (b.natAbs : Int) = b := by omega
    rw [e1] at e
    refine fdiv_uniq hb (q := -(q + 1)) ?_ (by omega)
    rw [Int.mul_neg, Int.mul_add]; omega

set_option maxRecDepth 100000 in
set_option maxHeartbeats 1000000 in
theorem qwide_zero (ah al : Int) (z : Int) (w : World) : Calls Try.prog 105 #[wv ah al, .int .i64 0] w (GiveQW z 0 w) := by
  go_enter Try.func105, Try.ntmps105
  go_wp2
  refine bodyPost_ret (v := .tuple #[wv 0 0, .int .i64 0, .bool false]) (by unfold results; simp only [Try.results105]; go_simp) rfl ⟨_, _, _, _, rfl, ?_, .inr ⟨.inl rfl, rfl, rfl, rfl, rfl⟩⟩
  exact below_new (below_new (Below.refl _ _) _) _

/-- What is known of the sizes. -/
theorem wide_sizes {z ah al b : Int} (hz : W128 z ah al) (hb : I64 b) (h0 : b ≠ 0) : 0 < (b.natAbs : Int) ∧ (b.natAbs : Int) ≤ 9223372036854775808 ∧ 0 ≤ (z.natAbs : Int) ∧ (z.natAbs : Int) ≤ 170141183460469231731687303715884105728 ∧ (ah < 0 ↔ z < 0) := by
  have h := hz.room
  unfold W128 I64 U64 at hz; unfold I64 at hb; unfold I128 at h
  omega

set_option maxRecDepth 100000 in
set_option maxHeartbeats 4000000 in
theorem qwide_like (z ah al b : Int) (hz : W128 z ah al) (hb : I64 b) (h0 : b ≠ 0) (hs : ah < 0 ↔ b < 0) (w : World) : Calls Try.prog 105 #[wv ah al, .int .i64 b] w (GiveQW z b w) := by
  obtain ⟨y0, y1, n0, n1, hzs⟩ := wide_sizes hz hb h0
  obtain ⟨q1, q2⟩ := quot_like h0 (hzs.symm.trans hs)
  obtain ⟨-, m0, m1, -⟩ := sizes_div n0 y0
  have CS := Lib.hid (fun w => qsize z ah al hz w)
  have CD := Lib.hid (fun h l (hs : S128 (z.natAbs : Int) h l) w => qdiv h l b.natAbs hs.1 hs.2.1 y0 (by omega) w)
  have HQ : Hid (∀ hi lo r, W128 (z.fdiv b) hi lo → r = z.fmod b → QW z b hi lo r true) := fun hi lo r h1 h2 => .inl ⟨h1.room, h0, rfl, h1, h2⟩
  have HN : Hid (¬ I128 (z.fdiv b) → QW z b 0 0 0 false) := fun h => .inr ⟨.inr h, rfl, rfl, rfl, rfl⟩
  have hb1 : (b == 0) = false := by simpa using h0
  have EY : Hid (if b < 0 then IntKind.u64.wrap (-IntKind.u64.wrap b) = (b.natAbs : Int) else IntKind.u64.wrap b = (b.natAbs : Int)) := by
    show ite _ _ _; rw [IntKind.wrap_u64, IntKind.wrap_u64]; unfold I64 at hb; split <;> omega
  have ER : Hid (if b < 0 then wrap64 (IntKind.u64.wrap (-((z.natAbs : Int) % b.natAbs))) = z.fmod b else wrap64 ((z.natAbs : Int) % b.natAbs) = z.fmod b) := by
    show ite _ _ _; rw [q2, IntKind.wrap_u64]; unfold wrap64; split <;> omega
  rw [q1] at HQ HN
  clear q1 q2 hzs hz n0 n1 y0 y1 hb h0 m0 m1
  generalize z.fdiv b = Z at *
  generalize z.fmod b = R at *
  generalize (z.natAbs : Int) = n at *
  generalize (b.natAbs : Int) = y at *
  rcases Decidable.em (b < 0) with hbn | hbn
  · have ha : ah < 0 := hs.2 hbn
    rw [if_pos hbn] at EY ER
    have EY := EY.out
    clear hs
    go_enter Try.func105, Try.ntmps105
    go_wp2_with fail
    have BB := start2 w #[.int .i64 ah, .int .u64 al] 125 #[.int .i64 0, .int .u64 0] 125
    obtain ⟨BB, hsz, r_a, r_res⟩ := BB
    generalize ((w.alloc (.cells #[.int .i64 ah, .int .u64 al] 125)).alloc (.cells #[.int .i64 0, .int .u64 0] 125)) = w0 at *
    replace BB := Lib.hid BB
    replace r_a := Lib.hid r_a
    replace r_res := Lib.hid r_res
    clear hsz
    obtain ⟨c_a0, c_a1, f_a0, f_a1⟩ := reads2 r_a.out
    have l_a := r_a.out.lt
    go_wp2_with fail
    refine (CS.out _).mono ?_
    rintro e w1 ⟨h, l, rfl, hb, hs⟩
    clear c_a0 c_a1 f_a0 f_a1 l_a
    replace r_a := Lib.hid (r_a.out.keep hb)
    replace r_res := Lib.hid (r_res.out.keep hb)
    replace BB := Lib.hid (below_next BB.out hb)
    clear hb
    have CD1 := Lib.hid (fun w => CD.out h l hs w)
    rw [hs.2.2] at CD1
    clear CD hs CS
    go_wp2_with fail
    refine (CD1.out _).mono ?_
    rintro e w2 ⟨qh, ql, r, rfl, hb, hs, hr⟩
    replace r_a := Lib.hid (r_a.out.keep hb)
    replace r_res := Lib.hid (r_res.out.keep hb)
    replace BB := Lib.hid (below_next BB.out hb)
    clear hb
    have HS := Lib.hid hs
    have HR := Lib.hid hr
    clear CD1 hs hr
    obtain ⟨c_a0, c_a1, f_a0, f_a1⟩ := reads2 r_a.out
    have l_a := r_a.out.lt
    go_wp2_with fail
    refine (qaway_pos _ _ _ HS.out _).mono ?_
    rintro e w3 ⟨th, tl, ok, rfl, hb, hA, hB⟩
    clear c_a0 c_a1 f_a0 f_a1 l_a
    replace r_a := Lib.hid (r_a.out.keep hb)
    replace r_res := Lib.hid (r_res.out.keep hb)
    replace BB := Lib.hid (below_next BB.out hb)
    clear hb
    have HA := Lib.hid hA
    have HB := Lib.hid hB
    clear hA hB HS
    by_cases hI : I128 (n / y)
    · obtain ⟨rfl, hW⟩ := HA.out hI
      have HF := Lib.hid (HQ.out _ _ _ hW rfl)
      have HR2 := ER.out
      rw [← HR.out] at HR2
      clear HA HB HQ HN hW hI HR ER
      obtain ⟨c_a0, c_a1, f_a0, f_a1⟩ := reads2 r_a.out
      have l_a := r_a.out.lt
      obtain ⟨c_res0, c_res1, f_res0, f_res1⟩ := reads2 r_res.out
      have l_res := r_res.out.lt
      go_wp2_with fail
      refine bodyPost_ret (v := .tuple #[wv th tl, .int .i64 R, .bool true]) (by unfold results; simp only [Try.results105]; go_simp) rfl ⟨_, _, _, _, rfl, (by repeat (first | with_reducible exact BB.out | with_reducible exact Below.refl _ _ | with_reducible apply below_new | with_reducible apply below_drawn | with_reducible apply below_drew | (with_reducible refine below_set ?_ (by omega) _))), HF.out⟩
    · obtain rfl := HB.out hI
      have HF := Lib.hid (HN.out hI)
      clear HA HB HQ HN hI HR ER
      obtain ⟨c_a0, c_a1, f_a0, f_a1⟩ := reads2 r_a.out
      have l_a := r_a.out.lt
      obtain ⟨c_res0, c_res1, f_res0, f_res1⟩ := reads2 r_res.out
      have l_res := r_res.out.lt
      go_wp2_with fail
      refine bodyPost_ret (v := .tuple #[wv 0 0, .int .i64 0, .bool false]) (by unfold results; simp only [Try.results105]; go_simp) rfl ⟨_, _, _, _, rfl, (by repeat (first | with_reducible exact BB.out | with_reducible exact Below.refl _ _ | with_reducible apply below_new | with_reducible apply below_drawn | with_reducible apply below_drew | (with_reducible refine below_set ?_ (by omega) _))), HF.out⟩
  · have ha : ¬ ah < 0 := fun h => hbn (hs.1 h)
    rw [if_neg hbn] at EY ER
    have EY := EY.out
    clear hs
    go_enter Try.func105, Try.ntmps105
    go_wp2_with fail
    have BB := start2 w #[.int .i64 ah, .int .u64 al] 125 #[.int .i64 0, .int .u64 0] 125
    obtain ⟨BB, hsz, r_a, r_res⟩ := BB
    generalize ((w.alloc (.cells #[.int .i64 ah, .int .u64 al] 125)).alloc (.cells #[.int .i64 0, .int .u64 0] 125)) = w0 at *
    replace BB := Lib.hid BB
    replace r_a := Lib.hid r_a
    replace r_res := Lib.hid r_res
    clear hsz
    obtain ⟨c_a0, c_a1, f_a0, f_a1⟩ := reads2 r_a.out
    have l_a := r_a.out.lt
    go_wp2_with fail
    refine (CS.out _).mono ?_
    rintro e w1 ⟨h, l, rfl, hb, hs⟩
    clear c_a0 c_a1 f_a0 f_a1 l_a
    replace r_a := Lib.hid (r_a.out.keep hb)
    replace r_res := Lib.hid (r_res.out.keep hb)
    replace BB := Lib.hid (below_next BB.out hb)
    clear hb
    have CD1 := Lib.hid (fun w => CD.out h l hs w)
    rw [hs.2.2] at CD1
    clear CD hs CS
    go_wp2_with fail
    refine (CD1.out _).mono ?_
    rintro e w2 ⟨qh, ql, r, rfl, hb, hs, hr⟩
    replace r_a := Lib.hid (r_a.out.keep hb)
    replace r_res := Lib.hid (r_res.out.keep hb)
    replace BB := Lib.hid (below_next BB.out hb)
    clear hb
    have HS := Lib.hid hs
    have HR := Lib.hid hr
    clear CD1 hs hr
    obtain ⟨c_a0, c_a1, f_a0, f_a1⟩ := reads2 r_a.out
    have l_a := r_a.out.lt
    go_wp2_with fail
    refine (qaway_pos _ _ _ HS.out _).mono ?_
    rintro e w3 ⟨th, tl, ok, rfl, hb, hA, hB⟩
    clear c_a0 c_a1 f_a0 f_a1 l_a
    replace r_a := Lib.hid (r_a.out.keep hb)
    replace r_res := Lib.hid (r_res.out.keep hb)
    replace BB := Lib.hid (below_next BB.out hb)
    clear hb
    have HA := Lib.hid hA
    have HB := Lib.hid hB
    clear hA hB HS
    by_cases hI : I128 (n / y)
    · obtain ⟨rfl, hW⟩ := HA.out hI
      have HF := Lib.hid (HQ.out _ _ _ hW rfl)
      have HR2 := ER.out
      rw [← HR.out] at HR2
      clear HA HB HQ HN hW hI HR ER
      obtain ⟨c_a0, c_a1, f_a0, f_a1⟩ := reads2 r_a.out
      have l_a := r_a.out.lt
      obtain ⟨c_res0, c_res1, f_res0, f_res1⟩ := reads2 r_res.out
      have l_res := r_res.out.lt
      go_wp2_with fail
      refine bodyPost_ret (v := .tuple #[wv th tl, .int .i64 R, .bool true]) (by unfold results; simp only [Try.results105]; go_simp) rfl ⟨_, _, _, _, rfl, (by repeat (first | with_reducible exact BB.out | with_reducible exact Below.refl _ _ | with_reducible apply below_new | with_reducible apply below_drawn | with_reducible apply below_drew | (with_reducible refine below_set ?_ (by omega) _))), HF.out⟩
    · obtain rfl := HB.out hI
      have HF := Lib.hid (HN.out hI)
      clear HA HB HQ HN hI HR ER
      obtain ⟨c_a0, c_a1, f_a0, f_a1⟩ := reads2 r_a.out
      have l_a := r_a.out.lt
      obtain ⟨c_res0, c_res1, f_res0, f_res1⟩ := reads2 r_res.out
      have l_res := r_res.out.lt
      go_wp2_with fail
      refine bodyPost_ret (v := .tuple #[wv 0 0, .int .i64 0, .bool false]) (by unfold results; simp only [Try.results105]; go_simp) rfl ⟨_, _, _, _, rfl, (by repeat (first | with_reducible exact BB.out | with_reducible exact Below.refl _ _ | with_reducible apply below_new | with_reducible apply below_drawn | with_reducible apply below_drew | (with_reducible refine below_set ?_ (by omega) _))), HF.out⟩

set_option maxRecDepth 100000 in
set_option maxHeartbeats 4000000 in
theorem qwide_unlike (z ah al b : Int) (hz : W128 z ah al) (hb : I64 b) (h0 : b ≠ 0) (hs : ¬ (ah < 0 ↔ b < 0)) (w : World) : Calls Try.prog 105 #[wv ah al, .int .i64 b] w (GiveQW z b w) := by
  obtain ⟨y0, y1, n0, n1, hzs⟩ := wide_sizes hz hb h0
  have hs' : ¬ (z < 0 ↔ b < 0) := by rw [← hzs]; exact hs
  obtain ⟨-, m0, m1, d0⟩ := sizes_div n0 y0
  have CS := Lib.hid (fun w => qsize z ah al hz w)
  have CD := Lib.hid (fun h l (hs : S128 (z.natAbs : Int) h l) w => qdiv h l b.natAbs hs.1 hs.2.1 y0 (by omega) w)
  have HQ : Hid (∀ hi lo r, W128 (z.fdiv b) hi lo → r = z.fmod b → QW z b hi lo r true) := fun hi lo r h1 h2 => .inl ⟨h1.room, h0, rfl, h1, h2⟩
  have HN : Hid (¬ I128 (z.fdiv b) → QW z b 0 0 0 false) := fun h => .inr ⟨.inr h, rfl, rfl, rfl, rfl⟩
  have hb1 : (b == 0) = false := by simpa using h0
  have EY : Hid (if b < 0 then IntKind.u64.wrap (-IntKind.u64.wrap b) = (b.natAbs : Int) else IntKind.u64.wrap b = (b.natAbs : Int)) := by
    show ite _ _ _; rw [IntKind.wrap_u64, IntKind.wrap_u64]; unfold I64 at hb; split <;> omega
  have E0 : Hid ((z.natAbs : Int) % b.natAbs = 0 → z.fdiv b = -((z.natAbs : Int) / b.natAbs) ∧ z.fmod b = 0) := quot_unlike0 h0 hs'
  have E1 : Hid (0 < (z.natAbs : Int) % b.natAbs → z.fdiv b = -((z.natAbs : Int) / b.natAbs + 1) ∧ (if b < 0 then wrap64 (IntKind.u64.wrap (-IntKind.u64.wrap ((b.natAbs : Int) - (z.natAbs : Int) % b.natAbs))) = z.fmod b else wrap64 (IntKind.u64.wrap ((b.natAbs : Int) - (z.natAbs : Int) % b.natAbs)) = z.fmod b)) := fun hr => by
    obtain ⟨k1, k2⟩ := quot_unlike1 h0 hs' hr
    refine ⟨k1, ?_⟩
    rw [k2, IntKind.wrap_u64, IntKind.wrap_u64]; unfold wrap64; split <;> omega
  have MM : Hid (0 ≤ (z.natAbs : Int) % b.natAbs ∧ (z.natAbs : Int) % b.natAbs < b.natAbs) := ⟨m0, m1⟩
  have NN : Hid (0 ≤ (z.natAbs : Int) / b.natAbs ∧ (z.natAbs : Int) / b.natAbs ≤ 170141183460469231731687303715884105728) := ⟨d0, by have := Int.ediv_le_self (b.natAbs : Int) n0; omega⟩
  clear hzs hz n0 n1 y0 y1 hb h0 m0 m1 hs' d0
  generalize z.fdiv b = Z at *
  generalize z.fmod b = R at *
  generalize (z.natAbs : Int) = n at *
  generalize (b.natAbs : Int) = y at *
  rcases Decidable.em (b < 0) with hbn | hbn
  · have ha : decide (ah < 0) = false := decide_eq_false (fun h => hs ⟨fun _ => hbn, fun _ => h⟩)
    rw [if_pos hbn] at EY
    have E1 := Lib.hid (fun h => And.intro (E1.out h).1 ((if_pos hbn) ▸ (E1.out h).2))
    have EY := EY.out
    have hbd : decide (b < 0) = true := decide_eq_true hbn
    clear hs
    go_enter Try.func105, Try.ntmps105
    go_wp2_with fail
    have BB := start2 w #[.int .i64 ah, .int .u64 al] 125 #[.int .i64 0, .int .u64 0] 125
    obtain ⟨BB, hsz, r_a, r_res⟩ := BB
    generalize ((w.alloc (.cells #[.int .i64 ah, .int .u64 al] 125)).alloc (.cells #[.int .i64 0, .int .u64 0] 125)) = w0 at *
    replace BB := Lib.hid BB
    replace r_a := Lib.hid r_a
    replace r_res := Lib.hid r_res
    clear hsz
    obtain ⟨c_a0, c_a1, f_a0, f_a1⟩ := reads2 r_a.out
    have l_a := r_a.out.lt
    go_wp2_with fail
    refine (CS.out _).mono ?_
    rintro e w1 ⟨h, l, rfl, hb, hs⟩
    clear c_a0 c_a1 f_a0 f_a1 l_a
    replace r_a := Lib.hid (r_a.out.keep hb)
    replace r_res := Lib.hid (r_res.out.keep hb)
    replace BB := Lib.hid (below_next BB.out hb)
    clear hb
    have CD1 := Lib.hid (fun w => CD.out h l hs w)
    rw [hs.2.2] at CD1
    clear CD hs CS
    go_wp2_with fail
    refine (CD1.out _).mono ?_
    rintro e w2 ⟨qh, ql, r, rfl, hb, hs, hr⟩
    replace r_a := Lib.hid (r_a.out.keep hb)
    replace r_res := Lib.hid (r_res.out.keep hb)
    replace BB := Lib.hid (below_next BB.out hb)
    clear hb
    have HS := Lib.hid hs
    rw [← hr] at E0 E1 MM
    clear CD1 hs hr
    rcases Int.lt_or_eq_of_le MM.out.1 with hr | hr
    · obtain ⟨s, c, q1, q2, q3, Q, A1⟩ := add64_ex ql 1 0 HS.out.2.1 ⟨by omega, by omega⟩ (by omega) (by omega)
      have HS' : Hid (S128 (n / y + 1) (IntKind.u64.wrap (qh + c)) s) := by
        have h1 := HS.out; have h2 := Q.out; have h3 := NN.out
        show S128 _ _ _
        rw [IntKind.wrap_u64]; unfold S128; unfold S128 at h1; unfold U64 at *; omega
      have E := E1.out hr
      have HR2 := E.2
      rw [E.1] at HQ HN
      clear E E0 E1 NN HS MM Q q1 q2 q3
      obtain ⟨c_a0, c_a1, f_a0, f_a1⟩ := reads2 r_a.out
      have l_a := r_a.out.lt
      go_wp2_with fail
      refine (qaway_neg _ _ _ HS'.out _).mono ?_
      rintro e w3 ⟨th, tl, ok, rfl, hb, hA, hB⟩
      clear c_a0 c_a1 f_a0 f_a1 l_a
      replace r_a := Lib.hid (r_a.out.keep hb)
      replace r_res := Lib.hid (r_res.out.keep hb)
      replace BB := Lib.hid (below_next BB.out hb)
      clear hb
      have HA := Lib.hid hA
      have HB := Lib.hid hB
      clear hA hB HS'
      by_cases hI : I128 (-(n / y + 1))
      · obtain ⟨rfl, hW⟩ := HA.out hI
        have HF := Lib.hid (HQ.out _ _ _ hW rfl)
        clear HA HB HQ HN hW hI
        obtain ⟨c_a0, c_a1, f_a0, f_a1⟩ := reads2 r_a.out
        have l_a := r_a.out.lt
        obtain ⟨c_res0, c_res1, f_res0, f_res1⟩ := reads2 r_res.out
        have l_res := r_res.out.lt
        go_wp2_with fail
        refine bodyPost_ret (v := .tuple #[wv th tl, .int .i64 R, .bool true]) (by unfold results; simp only [Try.results105]; go_simp) rfl ⟨_, _, _, _, rfl, (by repeat (first | with_reducible exact BB.out | with_reducible exact Below.refl _ _ | with_reducible apply below_new | with_reducible apply below_drawn | with_reducible apply below_drew | (with_reducible refine below_set ?_ (by omega) _))), HF.out⟩
      · obtain rfl := HB.out hI
        have HF := Lib.hid (HN.out hI)
        clear HA HB HQ HN hI HR2
        obtain ⟨c_a0, c_a1, f_a0, f_a1⟩ := reads2 r_a.out
        have l_a := r_a.out.lt
        obtain ⟨c_res0, c_res1, f_res0, f_res1⟩ := reads2 r_res.out
        have l_res := r_res.out.lt
        go_wp2_with fail
        refine bodyPost_ret (v := .tuple #[wv 0 0, .int .i64 0, .bool false]) (by unfold results; simp only [Try.results105]; go_simp) rfl ⟨_, _, _, _, rfl, (by repeat (first | with_reducible exact BB.out | with_reducible exact Below.refl _ _ | with_reducible apply below_new | with_reducible apply below_drawn | with_reducible apply below_drew | (with_reducible refine below_set ?_ (by omega) _))), HF.out⟩
    · subst hr
      have E := E0.out rfl
      have HZ := Lib.hid E.2
      rw [E.1] at HQ HN
      clear E E0 E1 NN MM
      obtain ⟨c_a0, c_a1, f_a0, f_a1⟩ := reads2 r_a.out
      have l_a := r_a.out.lt
      go_wp2_with fail
      refine (qaway_neg _ _ _ HS.out _).mono ?_
      rintro e w3 ⟨th, tl, ok, rfl, hb, hA, hB⟩
      clear c_a0 c_a1 f_a0 f_a1 l_a
      replace r_a := Lib.hid (r_a.out.keep hb)
      replace r_res := Lib.hid (r_res.out.keep hb)
      replace BB := Lib.hid (below_next BB.out hb)
      clear hb
      have HA := Lib.hid hA
      have HB := Lib.hid hB
      clear hA hB HS
      by_cases hI : I128 (-(n / y))
      · obtain ⟨rfl, hW⟩ := HA.out hI
        have HF := Lib.hid (HQ.out _ _ 0 hW HZ.out.symm)
        clear HA HB HQ HN hW hI
        obtain ⟨c_a0, c_a1, f_a0, f_a1⟩ := reads2 r_a.out
        have l_a := r_a.out.lt
        obtain ⟨c_res0, c_res1, f_res0, f_res1⟩ := reads2 r_res.out
        have l_res := r_res.out.lt
        go_wp2_with fail
        refine bodyPost_ret (v := .tuple #[wv th tl, .int .i64 0, .bool true]) (by unfold results; simp only [Try.results105]; go_simp) rfl ⟨_, _, _, _, rfl, (by repeat (first | with_reducible exact BB.out | with_reducible exact Below.refl _ _ | with_reducible apply below_new | with_reducible apply below_drawn | with_reducible apply below_drew | (with_reducible refine below_set ?_ (by omega) _))), HF.out⟩
      · obtain rfl := HB.out hI
        have HF := Lib.hid (HN.out hI)
        clear HA HB HQ HN hI
        obtain ⟨c_a0, c_a1, f_a0, f_a1⟩ := reads2 r_a.out
        have l_a := r_a.out.lt
        obtain ⟨c_res0, c_res1, f_res0, f_res1⟩ := reads2 r_res.out
        have l_res := r_res.out.lt
        go_wp2_with fail
        refine bodyPost_ret (v := .tuple #[wv 0 0, .int .i64 0, .bool false]) (by unfold results; simp only [Try.results105]; go_simp) rfl ⟨_, _, _, _, rfl, (by repeat (first | with_reducible exact BB.out | with_reducible exact Below.refl _ _ | with_reducible apply below_new | with_reducible apply below_drawn | with_reducible apply below_drew | (with_reducible refine below_set ?_ (by omega) _))), HF.out⟩
  · have ha : decide (ah < 0) = true := decide_eq_true (Decidable.byContradiction fun h => hs ⟨fun h' => absurd h' h, fun h' => absurd h' hbn⟩)
    rw [if_neg hbn] at EY
    have E1 := Lib.hid (fun h => And.intro (E1.out h).1 ((if_neg hbn) ▸ (E1.out h).2))
    have EY := EY.out
    have hbd : decide (b < 0) = false := decide_eq_false hbn
    clear hs
    go_enter Try.func105, Try.ntmps105
    go_wp2_with fail
    have BB := start2 w #[.int .i64 ah, .int .u64 al] 125 #[.int .i64 0, .int .u64 0] 125
    obtain ⟨BB, hsz, r_a, r_res⟩ := BB
    generalize ((w.alloc (.cells #[.int .i64 ah, .int .u64 al] 125)).alloc (.cells #[.int .i64 0, .int .u64 0] 125)) = w0 at *
    replace BB := Lib.hid BB
    replace r_a := Lib.hid r_a
    replace r_res := Lib.hid r_res
    clear hsz
    obtain ⟨c_a0, c_a1, f_a0, f_a1⟩ := reads2 r_a.out
    have l_a := r_a.out.lt
    go_wp2_with fail
    refine (CS.out _).mono ?_
    rintro e w1 ⟨h, l, rfl, hb, hs⟩
    clear c_a0 c_a1 f_a0 f_a1 l_a
    replace r_a := Lib.hid (r_a.out.keep hb)
    replace r_res := Lib.hid (r_res.out.keep hb)
    replace BB := Lib.hid (below_next BB.out hb)
    clear hb
    have CD1 := Lib.hid (fun w => CD.out h l hs w)
    rw [hs.2.2] at CD1
    clear CD hs CS
    go_wp2_with fail
    refine (CD1.out _).mono ?_
    rintro e w2 ⟨qh, ql, r, rfl, hb, hs, hr⟩
    replace r_a := Lib.hid (r_a.out.keep hb)
    replace r_res := Lib.hid (r_res.out.keep hb)
    replace BB := Lib.hid (below_next BB.out hb)
    clear hb
    have HS := Lib.hid hs
    rw [← hr] at E0 E1 MM
    clear CD1 hs hr
    rcases Int.lt_or_eq_of_le MM.out.1 with hr | hr
    · obtain ⟨s, c, q1, q2, q3, Q, A1⟩ := add64_ex ql 1 0 HS.out.2.1 ⟨by omega, by omega⟩ (by omega) (by omega)
      have HS' : Hid (S128 (n / y + 1) (IntKind.u64.wrap (qh + c)) s) := by
        have h1 := HS.out; have h2 := Q.out; have h3 := NN.out
        show S128 _ _ _
        rw [IntKind.wrap_u64]; unfold S128; unfold S128 at h1; unfold U64 at *; omega
      have E := E1.out hr
      have HR2 := E.2
      rw [E.1] at HQ HN
      clear E E0 E1 NN HS MM Q q1 q2 q3
      obtain ⟨c_a0, c_a1, f_a0, f_a1⟩ := reads2 r_a.out
      have l_a := r_a.out.lt
      go_wp2_with fail
      refine (qaway_neg _ _ _ HS'.out _).mono ?_
      rintro e w3 ⟨th, tl, ok, rfl, hb, hA, hB⟩
      clear c_a0 c_a1 f_a0 f_a1 l_a
      replace r_a := Lib.hid (r_a.out.keep hb)
      replace r_res := Lib.hid (r_res.out.keep hb)
      replace BB := Lib.hid (below_next BB.out hb)
      clear hb
      have HA := Lib.hid hA
      have HB := Lib.hid hB
      clear hA hB HS'
      by_cases hI : I128 (-(n / y + 1))
      · obtain ⟨rfl, hW⟩ := HA.out hI
        have HF := Lib.hid (HQ.out _ _ _ hW rfl)
        clear HA HB HQ HN hW hI
        obtain ⟨c_a0, c_a1, f_a0, f_a1⟩ := reads2 r_a.out
        have l_a := r_a.out.lt
        obtain ⟨c_res0, c_res1, f_res0, f_res1⟩ := reads2 r_res.out
        have l_res := r_res.out.lt
        go_wp2_with fail
        refine bodyPost_ret (v := .tuple #[wv th tl, .int .i64 R, .bool true]) (by unfold results; simp only [Try.results105]; go_simp) rfl ⟨_, _, _, _, rfl, (by repeat (first | with_reducible exact BB.out | with_reducible exact Below.refl _ _ | with_reducible apply below_new | with_reducible apply below_drawn | with_reducible apply below_drew | (with_reducible refine below_set ?_ (by omega) _))), HF.out⟩
      · obtain rfl := HB.out hI
        have HF := Lib.hid (HN.out hI)
        clear HA HB HQ HN hI HR2
        obtain ⟨c_a0, c_a1, f_a0, f_a1⟩ := reads2 r_a.out
        have l_a := r_a.out.lt
        obtain ⟨c_res0, c_res1, f_res0, f_res1⟩ := reads2 r_res.out
        have l_res := r_res.out.lt
        go_wp2_with fail
        refine bodyPost_ret (v := .tuple #[wv 0 0, .int .i64 0, .bool false]) (by unfold results; simp only [Try.results105]; go_simp) rfl ⟨_, _, _, _, rfl, (by repeat (first | with_reducible exact BB.out | with_reducible exact Below.refl _ _ | with_reducible apply below_new | with_reducible apply below_drawn | with_reducible apply below_drew | (with_reducible refine below_set ?_ (by omega) _))), HF.out⟩
    · subst hr
      have E := E0.out rfl
      have HZ := Lib.hid E.2
      rw [E.1] at HQ HN
      clear E E0 E1 NN MM
      obtain ⟨c_a0, c_a1, f_a0, f_a1⟩ := reads2 r_a.out
      have l_a := r_a.out.lt
      go_wp2_with fail
      refine (qaway_neg _ _ _ HS.out _).mono ?_
      rintro e w3 ⟨th, tl, ok, rfl, hb, hA, hB⟩
      clear c_a0 c_a1 f_a0 f_a1 l_a
      replace r_a := Lib.hid (r_a.out.keep hb)
      replace r_res := Lib.hid (r_res.out.keep hb)
      replace BB := Lib.hid (below_next BB.out hb)
      clear hb
      have HA := Lib.hid hA
      have HB := Lib.hid hB
      clear hA hB HS
      by_cases hI : I128 (-(n / y))
      · obtain ⟨rfl, hW⟩ := HA.out hI
        have HF := Lib.hid (HQ.out _ _ 0 hW HZ.out.symm)
        clear HA HB HQ HN hW hI
        obtain ⟨c_a0, c_a1, f_a0, f_a1⟩ := reads2 r_a.out
        have l_a := r_a.out.lt
        obtain ⟨c_res0, c_res1, f_res0, f_res1⟩ := reads2 r_res.out
        have l_res := r_res.out.lt
        go_wp2_with fail
        refine bodyPost_ret (v := .tuple #[wv th tl, .int .i64 0, .bool true]) (by unfold results; simp only [Try.results105]; go_simp) rfl ⟨_, _, _, _, rfl, (by repeat (first | with_reducible exact BB.out | with_reducible exact Below.refl _ _ | with_reducible apply below_new | with_reducible apply below_drawn | with_reducible apply below_drew | (with_reducible refine below_set ?_ (by omega) _))), HF.out⟩
      · obtain rfl := HB.out hI
        have HF := Lib.hid (HN.out hI)
        clear HA HB HQ HN hI
        obtain ⟨c_a0, c_a1, f_a0, f_a1⟩ := reads2 r_a.out
        have l_a := r_a.out.lt
        obtain ⟨c_res0, c_res1, f_res0, f_res1⟩ := reads2 r_res.out
        have l_res := r_res.out.lt
        go_wp2_with fail
        refine bodyPost_ret (v := .tuple #[wv 0 0, .int .i64 0, .bool false]) (by unfold results; simp only [Try.results105]; go_simp) rfl ⟨_, _, _, _, rfl, (by repeat (first | with_reducible exact BB.out | with_reducible exact Below.refl _ _ | with_reducible apply below_new | with_reducible apply below_drawn | with_reducible apply below_drew | (with_reducible refine below_set ?_ (by omega) _))), HF.out⟩

theorem qwide (z ah al b : Int) (hz : W128 z ah al) (hb : I64 b) (w : World) : Calls Try.prog 105 #[wv ah al, .int .i64 b] w (GiveQW z b w) := by
  by_cases h0 : b = 0
  · subst h0; exact qwide_zero ah al z w
  · by_cases hs : ah < 0 ↔ b < 0
    · exact qwide_like z ah al b hz hb h0 hs w
    · exact qwide_unlike z ah al b hz hb h0 hs w

end Go.Proofs.Ytnklbnphiokpiaa
