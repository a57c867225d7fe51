/- strings.CutPrefix and strings.Cut at the texts of the chapter's examples. -/
import Derived.Test.YthdbchghhpoadaaDoorFx0
set_option linter.unusedVariables false
set_option linter.unusedSimpArgs false
namespace Go.Proofs.YthdbchghhpoadaaDoor
open Go.RowKit
set_option maxRecDepth 100000 in
theorem cut_a_x (w : World) : (callFunc 89 #[.string ⟨#[49, 46, 53]⟩, .int .u8 46]).run Tryd.prog w = .ok (.value (.int .i64 1)) w := by
  rw [run_callFunc_extern Tryd.func89 (by kernel_rfl) (by kernel_rfl) (by kernel_rfl) (e := Extern.BytealgIndexByte.indexByte) (by kernel_rfl), run_indexByte_string]
  have h : firstIdx ⟨#[49, 46, 53]⟩ (46 : Int).toNat.toUInt8 = 1 := by decide +kernel
  rw [h]; rfl
set_option maxRecDepth 100000 in
theorem cut_a_p (w : World) : Calls Tryd.prog 75 #[.string ⟨#[49, 46, 53]⟩, .string ⟨#[45]⟩] w fun e w' => e = .returned (.bool false) ∧ w = w' := by
  have hq : ((({ data := #[49, 46, 53] } : ByteArray).extract 0 1).toList == [45]) = false := by decide +kernel
  go_enter Tryd.func75, Tryd.ntmps75
  go_wp2_with fail
  go_ret
  exact ⟨rfl, rfl⟩
set_option maxRecDepth 100000 in
theorem cut_a_q (w : World) : Calls Tryd.prog 66 #[.string ⟨#[49, 46, 53]⟩, .string ⟨#[45]⟩] w fun e w' => e = .returned (.tuple #[.string ⟨#[49, 46, 53]⟩, .bool false]) ∧ w = w' := by
  have C := Lib.hid (fun w => cut_a_p w)
  go_enter Tryd.func66, Tryd.ntmps66
  go_wp2_with fail
  refine (C.out _).mono ?_; rintro e w9 ⟨rfl, rfl⟩
  go_wp2_with fail
  refine bodyPost_ret (v := .tuple #[.string ⟨#[49, 46, 53]⟩, .bool false]) (by unfold results; simp only [Tryd.results66]; go_simp) rfl ?_
  exact ⟨rfl, rfl⟩
set_option maxRecDepth 100000 in
theorem cut_a_r (w : World) : Calls Tryd.prog 46 #[.string ⟨#[49, 46, 53]⟩, .string ⟨#[45]⟩] w fun e w' => e = .returned (.tuple #[.string ⟨#[49, 46, 53]⟩, .bool false]) ∧ w = w' := by
  have C := Lib.hid (fun w => cut_a_q w)
  go_enter Tryd.func46, Tryd.ntmps46
  go_wp2_with fail
  refine (C.out _).mono ?_; rintro e w9 ⟨rfl, rfl⟩
  go_wp2_with fail
  refine bodyPost_ret (v := .tuple #[.string ⟨#[49, 46, 53]⟩, .bool false]) (by unfold results; simp only [Tryd.results46]; go_simp) rfl ?_
  exact ⟨rfl, rfl⟩
set_option maxRecDepth 100000 in
theorem cut_a_b (w : World) : Calls Tryd.prog 83 #[.string ⟨#[49, 46, 53]⟩, .int .u8 46] w fun e w' => e = .returned (.int .i64 1) ∧ w = w' := by
  have h := fun w => cut_a_x w
  go_enter Tryd.func83, Tryd.ntmps83
  go_wp2_with fail
  go_ret
  exact ⟨rfl, rfl⟩
set_option maxRecDepth 100000 in
theorem cut_a_i (w : World) : Calls Tryd.prog 76 #[.string ⟨#[49, 46, 53]⟩, .string ⟨#[46]⟩] w fun e w' => e = .returned (.int .i64 1) ∧ w = w' := by
  have C := Lib.hid (fun w => cut_a_b w)
  go_enter Tryd.func76, Tryd.ntmps76
  go_wp2_with fail
  refine (C.out _).mono ?_; rintro e w9 ⟨rfl, rfl⟩
  go_wp2_with fail
  go_ret
  exact ⟨rfl, rfl⟩
set_option maxRecDepth 100000 in
theorem cut_a_c (w : World) : Calls Tryd.prog 67 #[.string ⟨#[49, 46, 53]⟩, .string ⟨#[46]⟩] w fun e w' => e = .returned (.tuple #[.string ⟨#[49]⟩, .string ⟨#[53]⟩, .bool true]) ∧ Below w.heap.size w w' := by
  have C := Lib.hid (fun w => cut_a_i w)
  have he1 : ({ data := #[49, 46, 53] } : ByteArray).extract 0 1 = { data := #[49] } := by decide +kernel
  have he2 : ({ data := #[49, 46, 53] } : ByteArray).extract 2 3 = { data := #[53] } := by decide +kernel
  go_enter Tryd.func67, Tryd.ntmps67
  go_wp2_with fail
  refine (C.out _).mono ?_; rintro e w9 ⟨rfl, rfl⟩
  go_wp2_with fail
  go_quiet (fail)
  go_wp2_with fail
  refine bodyPost_ret (v := .tuple #[.string ⟨#[49]⟩, .string ⟨#[53]⟩, .bool true]) (by unfold results; simp only [Tryd.results67]; go_simp) rfl ?_
  exact ⟨rfl, below_drawn (Below.refl _ _) _⟩
theorem cut_a (w : World) : Calls Tryd.prog 47 #[.string ⟨#[49, 46, 53]⟩, .string ⟨#[46]⟩] w fun e w' => e = .returned (.tuple #[.string ⟨#[49]⟩, .string ⟨#[53]⟩, .bool true]) ∧ Below w.heap.size w w' := by
  have C := Lib.hid (fun w => cut_a_c w)
  go_enter Tryd.func47, Tryd.ntmps47
  go_wp2_with fail
  refine (C.out _).mono ?_; rintro e w9 ⟨rfl, hb⟩
  have hb := Lib.hid hb
  go_wp2_with fail
  refine bodyPost_ret (v := .tuple #[.string ⟨#[49]⟩, .string ⟨#[53]⟩, .bool true]) (by unfold results; simp only [Tryd.results47]; go_simp) rfl ?_
  exact ⟨rfl, hb.out⟩
set_option maxRecDepth 100000 in
theorem cut_b_x (w : World) : (callFunc 89 #[.string ⟨#[49, 46, 53, 48]⟩, .int .u8 46]).run Tryd.prog w = .ok (.value (.int .i64 1)) w := by
  rw [run_callFunc_extern Tryd.func89 (by kernel_rfl) (by kernel_rfl) (by kernel_rfl) (e := Extern.BytealgIndexByte.indexByte) (by kernel_rfl), run_indexByte_string]
  have h : firstIdx ⟨#[49, 46, 53, 48]⟩ (46 : Int).toNat.toUInt8 = 1 := by decide +kernel
  rw [h]; rfl
set_option maxRecDepth 100000 in
theorem cut_b_p (w : World) : Calls Tryd.prog 75 #[.string ⟨#[49, 46, 53, 48]⟩, .string ⟨#[45]⟩] w fun e w' => e = .returned (.bool false) ∧ w = w' := by
  have hq : ((({ data := #[49, 46, 53, 48] } : ByteArray).extract 0 1).toList == [45]) = false := by decide +kernel
  go_enter Tryd.func75, Tryd.ntmps75
  go_wp2_with fail
  go_ret
  exact ⟨rfl, rfl⟩
set_option maxRecDepth 100000 in
theorem cut_b_q (w : World) : Calls Tryd.prog 66 #[.string ⟨#[49, 46, 53, 48]⟩, .string ⟨#[45]⟩] w fun e w' => e = .returned (.tuple #[.string ⟨#[49, 46, 53, 48]⟩, .bool false]) ∧ w = w' := by
  have C := Lib.hid (fun w => cut_b_p w)
  go_enter Tryd.func66, Tryd.ntmps66
  go_wp2_with fail
  refine (C.out _).mono ?_; rintro e w9 ⟨rfl, rfl⟩
  go_wp2_with fail
  refine bodyPost_ret (v := .tuple #[.string ⟨#[49, 46, 53, 48]⟩, .bool false]) (by unfold results; simp only [Tryd.results66]; go_simp) rfl ?_
  exact ⟨rfl, rfl⟩
set_option maxRecDepth 100000 in
theorem cut_b_r (w : World) : Calls Tryd.prog 46 #[.string ⟨#[49, 46, 53, 48]⟩, .string ⟨#[45]⟩] w fun e w' => e = .returned (.tuple #[.string ⟨#[49, 46, 53, 48]⟩, .bool false]) ∧ w = w' := by
  have C := Lib.hid (fun w => cut_b_q w)
  go_enter Tryd.func46, Tryd.ntmps46
  go_wp2_with fail
  refine (C.out _).mono ?_; rintro e w9 ⟨rfl, rfl⟩
  go_wp2_with fail
  refine bodyPost_ret (v := .tuple #[.string ⟨#[49, 46, 53, 48]⟩, .bool false]) (by unfold results; simp only [Tryd.results46]; go_simp) rfl ?_
  exact ⟨rfl, rfl⟩
set_option maxRecDepth 100000 in
theorem cut_b_b (w : World) : Calls Tryd.prog 83 #[.string ⟨#[49, 46, 53, 48]⟩, .int .u8 46] w fun e w' => e = .returned (.int .i64 1) ∧ w = w' := by
  have h := fun w => cut_b_x w
  go_enter Tryd.func83, Tryd.ntmps83
  go_wp2_with fail
  go_ret
  exact ⟨rfl, rfl⟩
set_option maxRecDepth 100000 in
theorem cut_b_i (w : World) : Calls Tryd.prog 76 #[.string ⟨#[49, 46, 53, 48]⟩, .string ⟨#[46]⟩] w fun e w' => e = .returned (.int .i64 1) ∧ w = w' := by
  have C := Lib.hid (fun w => cut_b_b w)
  go_enter Tryd.func76, Tryd.ntmps76
  go_wp2_with fail
  refine (C.out _).mono ?_; rintro e w9 ⟨rfl, rfl⟩
  go_wp2_with fail
  go_ret
  exact ⟨rfl, rfl⟩
set_option maxRecDepth 100000 in
theorem cut_b_c (w : World) : Calls Tryd.prog 67 #[.string ⟨#[49, 46, 53, 48]⟩, .string ⟨#[46]⟩] w fun e w' => e = .returned (.tuple #[.string ⟨#[49]⟩, .string ⟨#[53, 48]⟩, .bool true]) ∧ Below w.heap.size w w' := by
  have C := Lib.hid (fun w => cut_b_i w)
  have he1 : ({ data := #[49, 46, 53, 48] } : ByteArray).extract 0 1 = { data := #[49] } := by decide +kernel
  have he2 : ({ data := #[49, 46, 53, 48] } : ByteArray).extract 2 4 = { data := #[53, 48] } := by decide +kernel
  go_enter Tryd.func67, Tryd.ntmps67
  go_wp2_with fail
  refine (C.out _).mono ?_; rintro e w9 ⟨rfl, rfl⟩
  go_wp2_with fail
  go_quiet (fail)
  go_wp2_with fail
  refine bodyPost_ret (v := .tuple #[.string ⟨#[49]⟩, .string ⟨#[53, 48]⟩, .bool true]) (by unfold results; simp only [Tryd.results67]; go_simp) rfl ?_
  exact ⟨rfl, below_drawn (Below.refl _ _) _⟩
theorem cut_b (w : World) : Calls Tryd.prog 47 #[.string ⟨#[49, 46, 53, 48]⟩, .string ⟨#[46]⟩] w fun e w' => e = .returned (.tuple #[.string ⟨#[49]⟩, .string ⟨#[53, 48]⟩, .bool true]) ∧ Below w.heap.size w w' := by
  have C := Lib.hid (fun w => cut_b_c w)
  go_enter Tryd.func47, Tryd.ntmps47
  go_wp2_with fail
  refine (C.out _).mono ?_; rintro e w9 ⟨rfl, hb⟩
  have hb := Lib.hid hb
  go_wp2_with fail
  refine bodyPost_ret (v := .tuple #[.string ⟨#[49]⟩, .string ⟨#[53, 48]⟩, .bool true]) (by unfold results; simp only [Tryd.results47]; go_simp) rfl ?_
  exact ⟨rfl, hb.out⟩
end Go.Proofs.YthdbchghhpoadaaDoor
