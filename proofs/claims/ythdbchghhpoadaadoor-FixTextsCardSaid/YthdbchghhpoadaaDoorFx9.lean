/- Contracts of fix.Add, Sub, Mul. -/
import Derived.Test.YthdbchghhpoadaaDoorFx8
set_option linter.unusedVariables false
set_option linter.unusedSimpArgs false
namespace Go.Proofs.YthdbchghhpoadaaDoor
open Go.RowKit
theorem wb_room {z hi lo : Int} {ok : Bool} (h : WB z hi lo ok) (hz : I128 z) : ok = true ∧ W128 z hi lo := by
  rcases h with ⟨-, k1, k2⟩ | ⟨k, -⟩
  · exact ⟨k1, k2⟩
  · exact absurd hz k
set_option maxHeartbeats 2000000 in
theorem fadd (a b : Int) (ha : I64 a) (hb' : I64 b) (w : World) : Calls Tryd.prog 7 #[.int .i64 a, .int .i64 b] w fun e w' => e = .returned (.tuple #[.int .i64 (fitX (a + b)), .bool (fitsB (a + b) 63)]) ∧ Below w.heap.size w w' := by
  have C1 := Lib.hid (fun w => wof a ha w)
  have C2 := Lib.hid (fun w => wof b hb' w)
  have C3 := Lib.hid (fun h1 l1 h2 l2 k1 k2 w => wadd a b h1 l1 h2 l2 k1 k2 w)
  have hr := Lib.hid (show I128 (a + b) by unfold I64 at ha hb'; unfold I128; omega)
  have CF := Lib.hid (fun h l k w => wfits (a + b) h l k w)
  generalize a + b = z at *
  clear ha hb'
  go_enter Tryd.func7, Tryd.ntmps7
  go_wp2_with fail
  have BB : Hid (Below w.heap.size w w) := Below.refl _ _
  refine (C1.out _).mono ?_
  rintro e w1 ⟨h1, l1, rfl, hb, k1⟩
  replace BB := Lib.hid (below_next BB.out hb)
  clear hb
  replace k1 := Lib.hid k1
  go_wp2_with fail
  refine (C2.out _).mono ?_
  rintro e w2 ⟨h2, l2, rfl, hb, k2⟩
  replace BB := Lib.hid (below_next BB.out hb)
  clear hb
  replace k2 := Lib.hid k2
  go_wp2_with fail
  refine (C3.out _ _ _ _ k1.out k2.out _).mono ?_
  rintro e w3 ⟨h3, l3, ok, rfl, hb, k3⟩
  replace BB := Lib.hid (below_next BB.out hb)
  clear hb
  obtain ⟨rfl, k4⟩ := wb_room k3 hr.out
  clear k3
  replace k4 := Lib.hid k4
  go_wp2_with fail
  have d_m := Lib.hid (And.intro BB.out.size (True.intro))
  obtain ⟨hb, r_m⟩ := laid w3 #[.int .i64 h3, .int .u64 l3] WTX
  replace BB := Lib.hid (below_next BB.out hb)
  replace r_m := Lib.hid r_m
  clear hb
  generalize w3.alloc (.cells #[.int .i64 h3, .int .u64 l3] WTX) = w4 at *
  generalize w3.heap.size = g_m at *
  refine (CF.out _ _ k4.out _).mono ?_
  rintro e w5 ⟨rfl, hb⟩
  replace r_m := Lib.hid (r_m.out.keep hb)
  replace BB := Lib.hid (below_next BB.out hb)
  clear hb
  go_wp2_with fail
  refine bodyPost_ret (v := .tuple #[.int .i64 (fitX z), .bool (fitsB z 63)]) (by unfold results; simp only [Tryd.results7]; go_simp) rfl ?_
  exact ⟨rfl, BB.out⟩
set_option maxHeartbeats 2000000 in
theorem fsub (a b : Int) (ha : I64 a) (hb' : I64 b) (w : World) : Calls Tryd.prog 8 #[.int .i64 a, .int .i64 b] w fun e w' => e = .returned (.tuple #[.int .i64 (fitX (a - b)), .bool (fitsB (a - b) 63)]) ∧ Below w.heap.size w w' := by
  have C1 := Lib.hid (fun w => wof a ha w)
  have C2 := Lib.hid (fun w => wof b hb' w)
  have C3 := Lib.hid (fun h1 l1 h2 l2 k1 k2 w => wsub a b h1 l1 h2 l2 k1 k2 w)
  have hr := Lib.hid (show I128 (a - b) by unfold I64 at ha hb'; unfold I128; omega)
  have CF := Lib.hid (fun h l k w => wfits (a - b) h l k w)
  generalize a - b = z at *
  clear ha hb'
  go_enter Tryd.func8, Tryd.ntmps8
  go_wp2_with fail
  have BB : Hid (Below w.heap.size w w) := Below.refl _ _
  refine (C1.out _).mono ?_
  rintro e w1 ⟨h1, l1, rfl, hb, k1⟩
  replace BB := Lib.hid (below_next BB.out hb)
  clear hb
  replace k1 := Lib.hid k1
  go_wp2_with fail
  refine (C2.out _).mono ?_
  rintro e w2 ⟨h2, l2, rfl, hb, k2⟩
  replace BB := Lib.hid (below_next BB.out hb)
  clear hb
  replace k2 := Lib.hid k2
  go_wp2_with fail
  refine (C3.out _ _ _ _ k1.out k2.out _).mono ?_
  rintro e w3 ⟨h3, l3, ok, rfl, hb, k3⟩
  replace BB := Lib.hid (below_next BB.out hb)
  clear hb
  obtain ⟨rfl, k4⟩ := wb_room k3 hr.out
  clear k3
  replace k4 := Lib.hid k4
  go_wp2_with fail
  have d_m := Lib.hid (And.intro BB.out.size (True.intro))
  obtain ⟨hb, r_m⟩ := laid w3 #[.int .i64 h3, .int .u64 l3] WTX
  replace BB := Lib.hid (below_next BB.out hb)
  replace r_m := Lib.hid r_m
  clear hb
  generalize w3.alloc (.cells #[.int .i64 h3, .int .u64 l3] WTX) = w4 at *
  generalize w3.heap.size = g_m at *
  refine (CF.out _ _ k4.out _).mono ?_
  rintro e w5 ⟨rfl, hb⟩
  replace r_m := Lib.hid (r_m.out.keep hb)
  replace BB := Lib.hid (below_next BB.out hb)
  clear hb
  go_wp2_with fail
  refine bodyPost_ret (v := .tuple #[.int .i64 (fitX z), .bool (fitsB z 63)]) (by unfold results; simp only [Tryd.results8]; go_simp) rfl ?_
  exact ⟨rfl, BB.out⟩
set_option maxHeartbeats 2000000 in
theorem fmul (a b : Int) (ha : I64 a) (hb' : I64 b) (w : World) : Calls Tryd.prog 9 #[.int .i64 a, .int .i64 b] w fun e w' => e = .returned (.tuple #[.int .i64 (fitX (a * b / 65536)), .bool (fitsB (a * b / 65536) 63)]) ∧ Below w.heap.size w w' := by
  have C1 := Lib.hid (fun w => wmul a b ha hb' w)
  have C2 := Lib.hid (fun h l k w => wshr (a * b) h l 16 (by omega) k w)
  have CF := Lib.hid (fun h l k w => wfits (a * b / 65536) h l k w)
  rw [show (2 : Int) ^ 16 = 65536 by decide] at C2
  generalize a * b / 65536 = z at *
  clear ha hb'
  go_enter Tryd.func9, Tryd.ntmps9
  go_wp2_with fail
  have BB : Hid (Below w.heap.size w w) := Below.refl _ _
  refine (C1.out _).mono ?_
  rintro e w1 ⟨h1, l1, rfl, hb, k1⟩
  replace BB := Lib.hid (below_next BB.out hb)
  clear hb
  replace k1 := Lib.hid k1
  go_wp2_with fail
  refine (C2.out _ _ k1.out _).mono ?_
  rintro e w2 ⟨h2, l2, rfl, hb, k2⟩
  replace BB := Lib.hid (below_next BB.out hb)
  clear hb
  replace k2 := Lib.hid k2
  go_wp2_with fail
  refine (CF.out _ _ k2.out _).mono ?_
  rintro e w3 ⟨rfl, hb⟩
  replace BB := Lib.hid (below_next BB.out hb)
  clear hb
  go_wp2_with fail
  refine bodyPost_ret (v := .tuple #[.int .i64 (fitX z), .bool (fitsB z 63)]) (by unfold results; simp only [Tryd.results9]; go_simp) rfl ?_
  exact ⟨rfl, BB.out⟩
end Go.Proofs.YthdbchghhpoadaaDoor
