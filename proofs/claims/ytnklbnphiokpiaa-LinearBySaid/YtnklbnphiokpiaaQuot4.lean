/- Contracts of quot.Half, Near, Cut, beyond, Place. -/
import Derived.Test.YtnklbnphiokpiaaQuot3
import Derived.Test.YtnklbnphiokpiaaWShift
set_option linter.unusedVariables false
namespace Go.Proofs.Ytnklbnphiokpiaa
open Go.RowKit

def nearI (z b : Int) : Int := (2 * z + b).fdiv (2 * b)
theorem near_law {z b : Int} (h0 : b ≠ 0) : ((z.fmod b).natAbs < (b.natAbs : Int) - (z.fmod b).natAbs → nearI z b = z.fdiv b) ∧ (¬ (z.fmod b).natAbs < (b.natAbs : Int) - (z.fmod b).natAbs → nearI z b = z.fdiv b + 1) := by
  have e := fdiv_spec z b
  have hr := fmod_bounds (a := z) h0
  generalize z.fdiv b = q at *
  generalize z.fmod b = r at *
  unfold nearI
  have k : 2 * z + b = 2 * b * q + (2 * r + b) := by rw [e, Int.mul_assoc]; omega
  constructor
  · intro h
    exact (fdiv_uniq (q := q) (r := 2 * r + b) (by omega) k (by omega)).1
  · intro h
    exact (fdiv_uniq (q := q + 1) (r := 2 * r - b) (by omega) (by rw [k, Int.mul_add]; omega) (by omega)).1
theorem fdiv_abs_le {z b : Int} (h0 : b ≠ 0) : -(z.natAbs : Int) ≤ z.fdiv b ∧ z.fdiv b ≤ z.natAbs := by
  obtain ⟨e, h1, h2, h3⟩ := sizes_div (n := (z.natAbs : Int)) (y := (b.natAbs : Int)) (by omega) (by omega)
  have l := Int.ediv_le_self (b.natAbs : Int) (show 0 ≤ (z.natAbs : Int) by omega)
  by_cases hs : z < 0 ↔ b < 0
  · rw [(quot_like h0 hs).1]; omega
  · rcases Int.lt_or_eq_of_le h1 with hr | hr
    · rw [(quot_unlike1 h0 hs hr).1]
      have hy : 2 ≤ (b.natAbs : Int) := by omega
      have : 2 * ((z.natAbs : Int) / b.natAbs) ≤ b.natAbs * ((z.natAbs : Int) / b.natAbs) := Int.mul_le_mul_of_nonneg_right hy h3
      omega
    · rw [(quot_unlike0 h0 hs hr.symm).1]; omega
/-- Where the quotient has no room, the nearer one has none. -/
theorem near_room {z b : Int} (hz : I128 z) (h0 : b ≠ 0) (h : ¬ I128 (z.fdiv b)) : ¬ I128 (nearI z b) := by
  have l := fdiv_abs_le (z := z) h0
  have k := near_law (z := z) h0
  unfold I128 at *
  by_cases hc : (z.fmod b).natAbs < (b.natAbs : Int) - (z.fmod b).natAbs
  · rw [k.1 hc]; omega
  · rw [k.2 hc]; omega

/-- What is told of a quotient, rounded to the nearer one. -/
def HB (z b hi lo : Int) (ok : Bool) : Prop := (b ≠ 0 ∧ WB (nearI z b) hi lo ok) ∨ (b = 0 ∧ ok = false ∧ hi = 0 ∧ lo = 0)
def GiveHB (z b : Int) (w : World) (e : Ending) (w' : World) : Prop := ∃ hi lo ok, e = .returned (.tuple #[wv hi lo, .bool ok]) ∧ Below w.heap.size w w' ∧ HB z b hi lo ok

theorem half_left {b r : Int} (hb : I64 b) (hr : 0 ≤ r ∧ r < b ∨ b < r ∧ r ≤ 0) :
    (b < 0 → IntKind.u64.wrap (-IntKind.u64.wrap r) = r.natAbs ∧ IntKind.u64.wrap (-IntKind.u64.wrap b) = b.natAbs) ∧ (¬ b < 0 → IntKind.u64.wrap r = r.natAbs ∧ IntKind.u64.wrap b = b.natAbs) ∧
    IntKind.u64.wrap (b.natAbs - (r.natAbs : Int)) = b.natAbs - (r.natAbs : Int) := by
  unfold I64 at hb
  refine ⟨fun h => ?_, fun h => ?_, ?_⟩
  · rw [IntKind.wrap_u64, IntKind.wrap_u64, IntKind.wrap_u64, IntKind.wrap_u64]; omega
  · rw [IntKind.wrap_u64, IntKind.wrap_u64]; omega
  · rw [IntKind.wrap_u64]; omega

set_option maxRecDepth 100000 in
set_option maxHeartbeats 4000000 in
theorem qhalf (z ah al b : Int) (hz : W128 z ah al) (hb : I64 b) (w : World) : Calls Try.prog 93 #[wv ah al, .int .i64 b] w (GiveHB z b w) := by
  by_cases h0 : b = 0
  · subst h0
    clear hz hb
    go_enter Try.func93, Try.ntmps93
    go_wp2
    exact bodyPost_ret (v := .tuple #[wv 0 0, .bool false]) (by unfold results; simp only [Try.results93]; go_simp) rfl ⟨_, _, _, rfl, by repeat (first | exact Below.refl _ _ | apply below_new), .inr ⟨rfl, rfl, rfl, rfl⟩⟩
  · have CW := Lib.hid (fun w => qwide z ah al b hz hb w)
    have hb1 : (b == 0) = false := by simpa using h0
    have HN : Hid (¬ I128 (z.fdiv b) → HB z b 0 0 false) := fun h => .inl ⟨h0, .inr ⟨near_room hz.room h0 h, rfl, rfl, rfl⟩⟩
    have HL := half_left hb (fmod_bounds (a := z) h0)
    have K := near_law (z := z) h0
    have HS : Hid ((z.fmod b).natAbs < (b.natAbs : Int) - (z.fmod b).natAbs → ∀ hi lo, W128 (z.fdiv b) hi lo → HB z b hi lo true) := fun h hi lo hw => .inl ⟨h0, by rw [K.1 h]; exact .inl ⟨hw.room, rfl, hw⟩⟩
    have HG : Hid (¬ (z.fmod b).natAbs < (b.natAbs : Int) - (z.fmod b).natAbs → ∀ hi lo ok, WB (z.fdiv b + 1) hi lo ok → HB z b hi lo ok) := fun h hi lo ok hw => .inl ⟨h0, by rw [K.2 h]; exact hw⟩
    have CO := Lib.hid (fun w => wof 1 ⟨by omega, by omega⟩ w)
    obtain ⟨L1, L2, L3⟩ := HL
    have HL := Lib.hid (And.intro L1 L2)
    clear hz hb K L1 L2
    go_enter Try.func93, Try.ntmps93
    go_wp2_with fail
    have BB := start2 w #[.int .i64 ah, .int .u64 al] 125 #[.int .i64 0, .int .u64 0] 125
    obtain ⟨BB, hsz, r_a, r_res⟩ := BB
    generalize ((w.alloc (.cells #[.int .i64 ah, .int .u64 al] 125)).alloc (.cells #[.int .i64 0, .int .u64 0] 125)) = w0 at *
    replace BB := Lib.hid BB
    replace r_a := Lib.hid r_a
    replace r_res := Lib.hid r_res
    clear hsz
    refine (CW.out _).mono ?_
    rintro e w1 ⟨qh, ql, r, ok, rfl, hb, hq⟩
    replace r_a := Lib.hid (r_a.out.keep hb)
    replace r_res := Lib.hid (r_res.out.keep hb)
    replace BB := Lib.hid (below_next BB.out hb)
    clear hb
    clear CW
    rcases hq with ⟨hI, -, rfl, hW, rfl⟩ | ⟨hN, rfl, rfl, rfl, rfl⟩
    · replace HG := Lib.hid (fun h hi lo ok => HG.out h hi lo ok)
      have CA := Lib.hid (fun oh ol (ho : W128 1 oh ol) w => wadd _ 1 qh ql oh ol hW ho w)
      have HS1 := Lib.hid (fun h => HS.out h _ _ hW)
      clear HN HS hI hW
      generalize z.fdiv b = Z at *
      generalize z.fmod b = R at *
      by_cases hc : (R.natAbs : Int) < (b.natAbs : Int) - R.natAbs
      · have HF := Lib.hid (HS1.out (by omega))
        clear HS1 HG CA CO
        rcases dec_cases (b < 0) with ⟨hbn, hbd⟩ | ⟨hbn, hbd⟩
        · obtain ⟨E1, E2⟩ := HL.out.1 hbn
          clear HL
          generalize (R.natAbs : Int) = m at *
          generalize (b.natAbs : Int) = y at *
          obtain ⟨c_a0, c_a1, f_a0, f_a1⟩ := reads2 r_a.out
          have l_a := r_a.out.lt
          obtain ⟨c_res0, c_res1, f_res0, f_res1⟩ := reads2 r_res.out
          have l_res := r_res.out.lt
          go_wp2_with fail
          exact bodyPost_ret (v := .tuple #[wv qh ql, .bool true]) (by unfold results; simp only [Try.results93]; go_simp) rfl ⟨_, _, _, rfl, (by repeat (first | with_reducible exact BB.out | with_reducible exact Below.refl _ _ | with_reducible apply below_new | with_reducible apply below_drawn | with_reducible apply below_drew | (with_reducible refine below_set ?_ (by omega) _))), HF.out⟩
        · obtain ⟨E1, E2⟩ := HL.out.2 (by omega)
          clear HL
          generalize (R.natAbs : Int) = m at *
          generalize (b.natAbs : Int) = y at *
          obtain ⟨c_a0, c_a1, f_a0, f_a1⟩ := reads2 r_a.out
          have l_a := r_a.out.lt
          obtain ⟨c_res0, c_res1, f_res0, f_res1⟩ := reads2 r_res.out
          have l_res := r_res.out.lt
          go_wp2_with fail
          exact bodyPost_ret (v := .tuple #[wv qh ql, .bool true]) (by unfold results; simp only [Try.results93]; go_simp) rfl ⟨_, _, _, rfl, (by repeat (first | with_reducible exact BB.out | with_reducible exact Below.refl _ _ | with_reducible apply below_new | with_reducible apply below_drawn | with_reducible apply below_drew | (with_reducible refine below_set ?_ (by omega) _))), HF.out⟩
      · skip
        have HF := Lib.hid (HG.out (by omega))
        clear HS1 HG
        rcases dec_cases (b < 0) with ⟨hbn, hbd⟩ | ⟨hbn, hbd⟩
        · obtain ⟨E1, E2⟩ := HL.out.1 hbn
          clear HL
          generalize (R.natAbs : Int) = m at *
          generalize (b.natAbs : Int) = y at *
          obtain ⟨c_a0, c_a1, f_a0, f_a1⟩ := reads2 r_a.out
          have l_a := r_a.out.lt
          obtain ⟨c_res0, c_res1, f_res0, f_res1⟩ := reads2 r_res.out
          have l_res := r_res.out.lt
          go_wp2_with fail
          clear c_a0 c_a1 f_a0 f_a1 l_a c_res0 c_res1 f_res0 f_res1 l_res
          have d_q := Lib.hid (And.intro BB.out.size (And.intro r_a.out.lt (And.intro r_res.out.lt (True.intro))))
          obtain ⟨hb, r_q⟩ := laid w1 #[.int .i64 qh, .int .u64 ql] 125
          replace r_a := Lib.hid (r_a.out.keep hb)
          replace r_res := Lib.hid (r_res.out.keep hb)
          replace BB := Lib.hid (below_next BB.out hb)
          replace r_q := Lib.hid r_q
          clear hb
          generalize w1.alloc (.cells #[.int .i64 qh, .int .u64 ql] 125) = w2 at *
          generalize w1.heap.size = g_q at *
          clear hbn hbd E1 E2 L3
          have KK := Lib.hid (fun (w9 : World) (h : Below w2.heap.size w2 w9) => (cells2 (r_q.out.keep h) : (w9.cell? ⟨g_q, 0, none⟩ = some (.int .i64 qh) ∧ w9.cell? ⟨g_q, 1, none⟩ = some (.int .u64 ql))))
          have K0 := KK.out w2 (Below.refl _ _)
          have KD := KK.out w2.drew (below_drew (Below.refl _ _))
          go_region_held3 (fun w9 => (w9.cell? ⟨g_q, 0, none⟩ = some (.int .i64 qh) ∧ w9.cell? ⟨g_q, 1, none⟩ = some (.int .u64 ql)))
              (first | with_reducible exact KD | with_reducible exact K0 | with_reducible exact cells2 ((r_q.out.keep B_w4.out).far2 (Nat.ne_of_gt d_q.out.2.2.1) _ _) | with_reducible exact K_w3 | with_reducible exact K_w4)
              (first
                | (go_at_call 94
                   refine (CO.out _).mono ?_
                   rintro e w3 ⟨oh, ol, rfl, hb, ho⟩
                   have B_w3 := Lib.hid (reg_next (w0 := w2) (by repeat (first | with_reducible exact Below.refl _ _ | with_reducible apply below_drew | with_reducible apply below_new)) hb)
                   have K_w3 := KK.out _ B_w3.out
                   clear hb)
                | (go_at_call 106
                   refine (CA.out _ _ ho _).mono ?_
                   rintro e w4 ⟨xh, xl, xo, rfl, hb, hx⟩
                   have B_w4 := Lib.hid (below_next B_w3.out hb)
                   have K_w4 := KK.out _ B_w4.out
                   obtain ⟨rc_res0, rc_res1, rf_res0, rf_res1⟩ := reads2 (r_res.out.keep B_w4.out)
                   have rl_res := (r_res.out.keep B_w4.out).lt
                   clear hb))
          clear KK K0 KD K_w3 K_w4
          replace r_a := Lib.hid (r_a.out.keep B_w4.out)
          replace r_res := Lib.hid (r_res.out.keep B_w4.out)
          replace r_q := Lib.hid (r_q.out.keep B_w4.out)
          replace BB := Lib.hid (below_next BB.out B_w4.out)
          clear B_w3 B_w4
          go_wp2_with fail
          exact bodyPost_ret (v := .tuple #[wv xh xl, .bool xo]) (by unfold results; simp only [Try.results93]; go_simp) rfl ⟨_, _, _, rfl, (by repeat (first | with_reducible exact BB.out | with_reducible exact Below.refl _ _ | with_reducible apply below_new | with_reducible apply below_drawn | with_reducible apply below_drew | (with_reducible refine below_set ?_ (by omega) _))), HF.out _ _ _ hx⟩
        · obtain ⟨E1, E2⟩ := HL.out.2 (by omega)
          clear HL
          generalize (R.natAbs : Int) = m at *
          generalize (b.natAbs : Int) = y at *
          obtain ⟨c_a0, c_a1, f_a0, f_a1⟩ := reads2 r_a.out
          have l_a := r_a.out.lt
          obtain ⟨c_res0, c_res1, f_res0, f_res1⟩ := reads2 r_res.out
          have l_res := r_res.out.lt
          go_wp2_with fail
          clear c_a0 c_a1 f_a0 f_a1 l_a c_res0 c_res1 f_res0 f_res1 l_res
          have d_q := Lib.hid (And.intro BB.out.size (And.intro r_a.out.lt (And.intro r_res.out.lt (True.intro))))
          obtain ⟨hb, r_q⟩ := laid w1 #[.int .i64 qh, .int .u64 ql] 125
          replace r_a := Lib.hid (r_a.out.keep hb)
          replace r_res := Lib.hid (r_res.out.keep hb)
          replace BB := Lib.hid (below_next BB.out hb)
          replace r_q := Lib.hid r_q
          clear hb
          generalize w1.alloc (.cells #[.int .i64 qh, .int .u64 ql] 125) = w2 at *
          generalize w1.heap.size = g_q at *
          clear hbn hbd E1 E2 L3
          have KK := Lib.hid (fun (w9 : World) (h : Below w2.heap.size w2 w9) => (cells2 (r_q.out.keep h) : (w9.cell? ⟨g_q, 0, none⟩ = some (.int .i64 qh) ∧ w9.cell? ⟨g_q, 1, none⟩ = some (.int .u64 ql))))
          have K0 := KK.out w2 (Below.refl _ _)
          have KD := KK.out w2.drew (below_drew (Below.refl _ _))
          go_region_held3 (fun w9 => (w9.cell? ⟨g_q, 0, none⟩ = some (.int .i64 qh) ∧ w9.cell? ⟨g_q, 1, none⟩ = some (.int .u64 ql)))
              (first | with_reducible exact KD | with_reducible exact K0 | with_reducible exact cells2 ((r_q.out.keep B_w4.out).far2 (Nat.ne_of_gt d_q.out.2.2.1) _ _) | with_reducible exact K_w3 | with_reducible exact K_w4)
              (first
                | (go_at_call 94
                   refine (CO.out _).mono ?_
                   rintro e w3 ⟨oh, ol, rfl, hb, ho⟩
                   have B_w3 := Lib.hid (reg_next (w0 := w2) (by repeat (first | with_reducible exact Below.refl _ _ | with_reducible apply below_drew | with_reducible apply below_new)) hb)
                   have K_w3 := KK.out _ B_w3.out
                   clear hb)
                | (go_at_call 106
                   refine (CA.out _ _ ho _).mono ?_
                   rintro e w4 ⟨xh, xl, xo, rfl, hb, hx⟩
                   have B_w4 := Lib.hid (below_next B_w3.out hb)
                   have K_w4 := KK.out _ B_w4.out
                   obtain ⟨rc_res0, rc_res1, rf_res0, rf_res1⟩ := reads2 (r_res.out.keep B_w4.out)
                   have rl_res := (r_res.out.keep B_w4.out).lt
                   clear hb))
          clear KK K0 KD K_w3 K_w4
          replace r_a := Lib.hid (r_a.out.keep B_w4.out)
          replace r_res := Lib.hid (r_res.out.keep B_w4.out)
          replace r_q := Lib.hid (r_q.out.keep B_w4.out)
          replace BB := Lib.hid (below_next BB.out B_w4.out)
          clear B_w3 B_w4
          go_wp2_with fail
          exact bodyPost_ret (v := .tuple #[wv xh xl, .bool xo]) (by unfold results; simp only [Try.results93]; go_simp) rfl ⟨_, _, _, rfl, (by repeat (first | with_reducible exact BB.out | with_reducible exact Below.refl _ _ | with_reducible apply below_new | with_reducible apply below_drawn | with_reducible apply below_drew | (with_reducible refine below_set ?_ (by omega) _))), HF.out _ _ _ hx⟩
    · skip
      have HF := Lib.hid (HN.out (by rcases hN with h | h; exact absurd h h0; exact h))
      clear HN HS HG HL CO hN
      obtain ⟨c_a0, c_a1, f_a0, f_a1⟩ := reads2 r_a.out
      have l_a := r_a.out.lt
      obtain ⟨c_res0, c_res1, f_res0, f_res1⟩ := reads2 r_res.out
      have l_res := r_res.out.lt
      go_wp2_with fail
      exact bodyPost_ret (v := .tuple #[wv 0 0, .bool false]) (by unfold results; simp only [Try.results93]; go_simp) rfl ⟨_, _, _, rfl, (by repeat (first | with_reducible exact BB.out | with_reducible exact Below.refl _ _ | with_reducible apply below_new | with_reducible apply below_drawn | with_reducible apply below_drew | (with_reducible refine below_set ?_ (by omega) _))), HF.out⟩

end Go.Proofs.Ytnklbnphiokpiaa
