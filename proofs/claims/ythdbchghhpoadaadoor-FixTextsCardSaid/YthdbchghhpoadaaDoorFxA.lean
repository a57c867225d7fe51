/- Contract of fix.Div. -/
import Derived.Test.YthdbchghhpoadaaDoorFx9
set_option linter.unusedVariables false
set_option linter.unusedSimpArgs false
namespace Go.Proofs.YthdbchghhpoadaaDoor
open Go.RowKit
set_option maxHeartbeats 2000000 in
theorem fdiv_any (a b : Int) (ha : I64 a) (hb' : I64 b) (w : World) : Calls Tryd.prog 10 #[.int .i64 a, .int .i64 b] w fun e w' => e = .returned (.tuple #[.int .i64 (if b = 0 then 0 else fitX ((a * 65536).fdiv b)), .bool (decide (b ≠ 0) && fitsB ((a * 65536).fdiv b) 63)]) ∧ Below w.heap.size w w' := by
  have C1 := Lib.hid (fun w => wmul a 65536 ha (by unfold I64; omega) w)
  have C2 := Lib.hid (fun h l k w => qwide (a * 65536) h l b k hb' w)
  have CF := Lib.hid (fun z h l k w => wfits z h l k w)
  have hI : Hid (b ≠ 0 → I128 ((a * 65536).fdiv b)) := by
    intro h0
    have h1 := Int.natAbs_fdiv_le_natAbs (a * 65536) b
    unfold I64 at ha
    unfold I128
    omega
  obtain ⟨X, hX⟩ : ∃ X, X = if b = 0 then 0 else fitX ((a * 65536).fdiv b) := ⟨_, rfl⟩
  obtain ⟨Y, hY⟩ : ∃ Y, Y = (decide (b ≠ 0) && fitsB ((a * 65536).fdiv b) 63) := ⟨_, rfl⟩
  rw [← hX, ← hY]
  clear ha
  go_enter Tryd.func10, Tryd.ntmps10
  go_wp2_with fail
  have BB : Hid (Below w.heap.size w w) := Below.refl _ _
  refine (C1.out _).mono ?_
  rintro e w1 ⟨h1, l1, rfl, hb, k1⟩
  replace BB := Lib.hid (below_next BB.out hb)
  clear hb
  replace k1 := Lib.hid k1
  go_wp2_with fail
  refine (C2.out _ _ k1.out _).mono ?_
  rintro e w2 ⟨h2, l2, r, ok, rfl, hb, hqw⟩
  replace BB := Lib.hid (below_next BB.out hb)
  clear hb
  unfold QW at hqw
  rcases hqw with ⟨-, h0, rfl, k2, rfl⟩ | ⟨h0, rfl, rfl, rfl, rfl⟩
  · replace k2 := Lib.hid k2
    rw [if_neg h0] at hX
    rw [decide_eq_true h0, Bool.true_and] at hY
    have CF2 := Lib.hid (fun w => CF.out _ h2 l2 k2.out w)
    generalize (a * 65536).fdiv b = z at *
    replace hX := Lib.hid hX
    replace hY := Lib.hid hY
    go_wp2_with fail
    have d_m := Lib.hid (And.intro BB.out.size (True.intro))
    obtain ⟨hb, r_m⟩ := laid w2 #[.int .i64 h2, .int .u64 l2] WTX
    replace BB := Lib.hid (below_next BB.out hb)
    replace r_m := Lib.hid r_m
    clear hb
    generalize w2.alloc (.cells #[.int .i64 h2, .int .u64 l2] WTX) = w3 at *
    generalize w2.heap.size = g_m at *
    refine (CF2.out _).mono ?_
    rintro e w4 ⟨rfl, hb⟩
    replace r_m := Lib.hid (r_m.out.keep hb)
    replace BB := Lib.hid (below_next BB.out hb)
    clear hb
    go_wp2_with fail
    refine bodyPost_ret (v := .tuple #[.int .i64 (fitX z), .bool (fitsB z 63)]) (by unfold results; simp only [Tryd.results10]; go_simp) rfl ?_
    exact ⟨by rw [hX.out, hY.out], BB.out⟩
  · have hb0 : b = 0 := Decidable.byContradiction fun h => (h0.elim h (fun k => k (hI.out h)))
    rw [if_pos hb0] at hX
    rw [decide_eq_false (fun h => h hb0), Bool.false_and] at hY
    replace hX := Lib.hid hX
    replace hY := Lib.hid hY
    go_wp2_with fail
    have hbb := Lib.hid (below_new BB.out (.cells #[.int .i64 0, .int .u64 0] WTX))
    refine bodyPost_ret (v := .tuple #[.int .i64 0, .bool false]) (by unfold results; simp only [Tryd.results10]; go_simp) rfl ?_
    exact ⟨by rw [hX.out, hY.out], hbb.out⟩
end Go.Proofs.YthdbchghhpoadaaDoor
