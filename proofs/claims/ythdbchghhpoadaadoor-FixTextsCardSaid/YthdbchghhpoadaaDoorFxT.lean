/- Walk of the law FixTexts. -/
import Derived.Test.YthdbchghhpoadaaDoorFxX
import Derived.Test.YthdbchghhpoadaaDoorFx8
set_option linter.unusedVariables false
set_option linter.unusedSimpArgs false
namespace Go.Proofs.YthdbchghhpoadaaDoor
open Go.RowKit
set_option maxRecDepth 100000 in
set_option maxHeartbeats 4000000 in
theorem texts_long (x : Int) (s : ByteArray) (hs : 300 < s.size) (w : World) : Calls Tryd.prog 5 #[.int .i64 x, .string s] w fun e w' => e = .returned (.bool true) ∧ Below w.heap.size w w' := by
  have g1 : (300 : Int) < (s.size : Int) := by omega
  go_enter Tryd.func5, Tryd.ntmps5
  go_wp2_with fail
  have BB : Hid (Below w.heap.size w w) := Below.refl _ _
  go_ret
  exact ⟨rfl, BB.out⟩
set_option maxRecDepth 100000 in
set_option maxHeartbeats 4000000 in
theorem texts_list (x : Int) (l : List UInt8) (hx : I64 x) (hl : l.length ≤ 300) (w : World) (ht : Tab w) : Calls Tryd.prog 5 #[.int .i64 x, .string ⟨l.toArray⟩] w fun e w' => e = .returned (.bool true) ∧ Below w.heap.size w w' := by
  have C1 := Lib.hid (fun w9 (h9 : Below w.heap.size w w9) => fshow x hx w9 (tab_on ht h9))
  have C2 : Hid (∀ w9, Below w.heap.size w w9 → Calls Tryd.prog 22 #[.string ⟨(sT x).toArray⟩] w9 fun e w' => e = .returned (.tuple #[.int .i64 x, .bool true]) ∧ Below w9.heap.size w9 w') := fun w9 h9 => by
    have := fread_any (sT x) (Nat.le_trans (sT_len x hx) (by omega)) w9 (tab_on ht h9)
    unfold GiveFin at this
    rw [finT_back x hx] at this
    exact this
  obtain ⟨z, hz⟩ : ∃ z, z = (finT (signed candU l) l).1 := ⟨_, rfl⟩
  obtain ⟨b, hb⟩ : ∃ b, b = (finT (signed candU l) l).2 := ⟨_, rfl⟩
  have C3 : Hid (∀ w9, Below w.heap.size w w9 → Calls Tryd.prog 22 #[.string ⟨l.toArray⟩] w9 fun e w' => e = .returned (.tuple #[.int .i64 z, .bool b]) ∧ Below w9.heap.size w9 w') := fun w9 h9 => by
    have := fread_any l (by omega) w9 (tab_on ht h9)
    unfold GiveFin at this
    rw [← hz, ← hb] at this
    exact this
  have C4 : Hid (∀ w9, Calls Tryd.prog 23 #[.string ⟨l.toArray⟩] w9 fun e w' => e = .returned (.tuple #[.int .i64 z, .bool b]) ∧ Below w9.heap.size w9 w') := fun w9 => by
    have := rread_any l (by omega) w9
    unfold GiveFin at this
    rw [← finT_same, ← hz, ← hb] at this
    exact this
  have C5 := Lib.hid (fun w => r4show x hx w)
  have C6 : Hid (b = true → ∀ w9, Below w.heap.size w w9 → Calls Tryd.prog 21 #[.int .i64 z] w9 fun e w' => e = .returned (.string ⟨l.toArray⟩) ∧ Below w9.heap.size w9 w') := fun h w9 h9 => by
    have hp : finT (signed candU l) l = (z, true) := by rw [hz]; exact Prod.ext rfl (by rw [← hb]; exact h)
    obtain ⟨h1, h2⟩ := finT_true hp
    have := fshow z h1 w9 (tab_on ht h9)
    rw [h2] at this
    exact this
  have CL := Lib.hid (fun w => alive04 w)
  have hsz : (⟨l.toArray⟩ : ByteArray).size ≤ 300 := by rw [str_len]; exact hl
  generalize (⟨l.toArray⟩ : ByteArray) = s at *
  generalize (⟨(sT x).toArray⟩ : ByteArray) = q at *
  have g1 : ¬ (300 : Int) < (s.size : Int) := by omega
  clear hz hb hx ht hl
  cases b with
  | false =>
    clear C6 hsz
    go_enter Tryd.func5, Tryd.ntmps5
    go_wp2_with fail
    have BB : Hid (Below w.heap.size w w) := Below.refl _ _
    refine (C1.out _ BB.out).mono ?_
    rintro e w1 ⟨rfl, hb⟩
    replace BB := Lib.hid (below_next BB.out hb)
    clear hb
    go_wp2_with fail
    refine (C2.out _ BB.out).mono ?_
    rintro e w2 ⟨rfl, hb⟩
    replace BB := Lib.hid (below_next BB.out hb)
    clear hb
    go_wp2_with fail
    refine (C3.out _ BB.out).mono ?_
    rintro e w3 ⟨rfl, hb⟩
    replace BB := Lib.hid (below_next BB.out hb)
    clear hb
    go_wp2_with fail
    refine (C4.out _).mono ?_
    rintro e w4 ⟨rfl, hb⟩
    replace BB := Lib.hid (below_next BB.out hb)
    clear hb
    go_wp2_with fail
    refine (C5.out _).mono ?_
    rintro e w5 ⟨rfl, hb⟩
    replace BB := Lib.hid (below_next BB.out hb)
    clear hb
    go_wp2_with fail
    refine (CL.out _).mono ?_
    rintro e w6 ⟨rfl, hb⟩
    replace BB := Lib.hid (below_next BB.out hb)
    clear hb
    go_wp2_with fail
    go_ret
    exact ⟨rfl, BB.out⟩
  | true =>
    have C7 := Lib.hid (fun w9 (h9 : Below w.heap.size w w9) => C6.out (by first | exact rfl | trivial) w9 h9)
    clear hsz C6
    go_enter Tryd.func5, Tryd.ntmps5
    go_wp2_with fail
    have BB : Hid (Below w.heap.size w w) := Below.refl _ _
    refine (C1.out _ BB.out).mono ?_
    rintro e w1 ⟨rfl, hb⟩
    replace BB := Lib.hid (below_next BB.out hb)
    clear hb
    go_wp2_with fail
    refine (C2.out _ BB.out).mono ?_
    rintro e w2 ⟨rfl, hb⟩
    replace BB := Lib.hid (below_next BB.out hb)
    clear hb
    go_wp2_with fail
    refine (C3.out _ BB.out).mono ?_
    rintro e w3 ⟨rfl, hb⟩
    replace BB := Lib.hid (below_next BB.out hb)
    clear hb
    go_wp2_with fail
    refine (C4.out _).mono ?_
    rintro e w4 ⟨rfl, hb⟩
    replace BB := Lib.hid (below_next BB.out hb)
    clear hb
    go_wp2_with fail
    refine (C5.out _).mono ?_
    rintro e w5 ⟨rfl, hb⟩
    replace BB := Lib.hid (below_next BB.out hb)
    clear hb
    go_wp2_with fail
    refine (C7.out _ BB.out).mono ?_
    rintro e w6 ⟨rfl, hb⟩
    replace BB := Lib.hid (below_next BB.out hb)
    clear hb
    go_wp2_with fail
    refine (CL.out _).mono ?_
    rintro e w7 ⟨rfl, hb⟩
    replace BB := Lib.hid (below_next BB.out hb)
    clear hb
    go_wp2_with fail
    go_ret
    exact ⟨rfl, BB.out⟩
theorem fixTexts_any (x : Int) (s : ByteArray) (hx : I64 x) (w : World) (ht : Tab w) : Calls Tryd.prog 5 #[.int .i64 x, .string s] w fun e w' => e = .returned (.bool true) ∧ Below w.heap.size w w' := by
  by_cases h : 300 < s.size
  · exact texts_long x s h w
  · obtain ⟨d⟩ := s
    have hd : d.toList.length ≤ 300 := by have : (⟨d⟩ : ByteArray).size = d.toList.length := by show d.size = _; exact Array.length_toList.symm
                                          omega
    have := texts_list x d.toList hx hd w ht
    rw [Array.toArray_toList] at this
    exact this
end Go.Proofs.YthdbchghhpoadaaDoor
