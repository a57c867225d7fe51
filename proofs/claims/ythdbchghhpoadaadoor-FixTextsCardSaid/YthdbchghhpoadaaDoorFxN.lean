/- strconv.FormatUint of any number; the shelf's contracts of what it calls, laid. -/
import Derived.Test.YthdbchghhpoadaaDoorJA
import Derived.Shelf.Strconv.Itoa1
import Derived.Shelf.Strconv.Itoa2
import Derived.Lib.AppendIntMem
import Derived.Laws.IdiomStrings
set_option linter.unusedVariables false
set_option linter.unusedSimpArgs false
namespace Go.Proofs.YthdbchghhpoadaaDoor
open Go.RowKit
noncomputable def lren : Go.Shelf.Ren := ⟨fun | 283 => 71 | 284 => 72 | 285 => 73 | 129 => 79 | 317 => 78 | 318 => 80 | n => n, fun | 0 => 0 | 3 => 3 | 4 => 4 | 5 => 5 | 9 => 9 | 37 => 65 | 46 => 77 | 51 => 104 | 53 => 44 | 212 => 103 | n => n, fun | 17 => (Tryd.prog.globalNamed "internal/strconv.uint64pow10").getD 0 | n => n⟩
theorem lay283 : Go.Proofs.Lays.n283 Tryd.prog lren := { mixed := by kernel_rfl, f283 := Tryd.func71.trans (congrArg some (by kernel_rfl)), t3 := Tryd.underlying3, a3 := Tryd.isAgg3, z3 := Tryd.sizeOf3, v3 := Tryd.zeroValue3, t4 := Tryd.underlying4, a4 := Tryd.isAgg4, z4 := Tryd.sizeOf4, v4 := Tryd.zeroValue4, t9 := Tryd.underlying9, a9 := Tryd.isAgg9, z9 := Tryd.sizeOf9, v9 := Tryd.zeroValue9 }
theorem lay284 : Go.Proofs.LaysM.n284 Tryd.prog lren := { mixed := by kernel_rfl, f129 := Tryd.func79.trans (congrArg some (by kernel_rfl)), f284 := Tryd.func72.trans (congrArg some (by kernel_rfl)), f317 := Tryd.func78.trans (congrArg some (by kernel_rfl)), f318 := Tryd.func80.trans (congrArg some (by kernel_rfl)), t0 := Tryd.underlying0, a0 := Tryd.isAgg0, z0 := Tryd.sizeOf0, v0 := Tryd.zeroValue0, t3 := Tryd.underlying3, a3 := Tryd.isAgg3, z3 := Tryd.sizeOf3, v3 := Tryd.zeroValue3, t4 := Tryd.underlying4, a4 := Tryd.isAgg4, z4 := Tryd.sizeOf4, v4 := Tryd.zeroValue4, t5 := Tryd.underlying5, a5 := Tryd.isAgg5, z5 := Tryd.sizeOf5, v5 := Tryd.zeroValue5, t9 := Tryd.underlying9, a9 := Tryd.isAgg9, z9 := Tryd.sizeOf9, v9 := Tryd.zeroValue9, t46 := Tryd.underlying77, a46 := Tryd.isAgg77, z46 := Tryd.sizeOf77, v46 := Tryd.zeroValue77, t53 := Tryd.underlying44, a53 := Tryd.isAgg44, z53 := Tryd.sizeOf44, v53 := Tryd.zeroValue44, t212 := Tryd.underlying103, a212 := Tryd.isAgg103, z212 := Tryd.sizeOf103, v212 := Tryd.zeroValue103, g17 := by kernel_rfl, i0 := by kernel_rfl, i3 := by kernel_rfl, i4 := by kernel_rfl, i5 := by kernel_rfl, i9 := by kernel_rfl, i46 := by kernel_rfl, i53 := by kernel_rfl, i212 := by kernel_rfl, m17 := by kernel_rfl }
theorem lay285 : Go.Proofs.Lays.n285 Tryd.prog lren := { mixed := by kernel_rfl, f285 := Tryd.func73.trans (congrArg some (by kernel_rfl)), t0 := Tryd.underlying0, a0 := Tryd.isAgg0, z0 := Tryd.sizeOf0, v0 := Tryd.zeroValue0, t3 := Tryd.underlying3, a3 := Tryd.isAgg3, z3 := Tryd.sizeOf3, v3 := Tryd.zeroValue3, t4 := Tryd.underlying4, a4 := Tryd.isAgg4, z4 := Tryd.sizeOf4, v4 := Tryd.zeroValue4, t5 := Tryd.underlying5, a5 := Tryd.isAgg5, z5 := Tryd.sizeOf5, v5 := Tryd.zeroValue5, t9 := Tryd.underlying9, a9 := Tryd.isAgg9, z9 := Tryd.sizeOf9, v9 := Tryd.zeroValue9, t37 := Tryd.underlying65, a37 := Tryd.isAgg65, z37 := Tryd.sizeOf65, v37 := Tryd.zeroValue65, t51 := Tryd.underlying104, a51 := Tryd.isAgg104, z51 := Tryd.sizeOf104, v51 := Tryd.zeroValue104, t53 := Tryd.underlying44, a53 := Tryd.isAgg44, z53 := Tryd.sizeOf44, v53 := Tryd.zeroValue44 }
theorem num_digits (u : Nat) (h1 : 1 ≤ u) (h2 : u < 18446744073709551616) (w : World) (htab : Lib.TabIs Tryd.prog w "internal/strconv.uint64pow10" .u64 Lib.pow10Tab) :
    Calls Tryd.prog 72 #[.int .u64 u] w fun e w' => e = .returned (.int .i64 (Lib.nDigits u)) ∧ w = w' :=
  (Any.internal_strconv_numDigits lay284 u h1 h2 w htab).mono fun e w' ⟨h, h'⟩ => ⟨h, h'.symm⟩
theorem small_fmt (i : Nat) (h : i < 100) (w : World) : Calls Tryd.prog 71 #[.int .i64 i] w fun e w' => e = .returned (.string ⟨(Lib.decDigits i).toArray⟩) ∧ w = w' :=
  (Any.internal_strconv_small lay283 i h w).mono fun e w' ⟨h, h'⟩ => ⟨h, h'.symm⟩
theorem fmt_small (i : Nat) (hi : i < 100) (w : World) : Calls Tryd.prog 65 #[.int .u64 i, .int .i64 10] w fun e w' => e = .returned (.string ⟨(Lib.decDigits i).toArray⟩) ∧ Below w.heap.size w w' := by
  have C := Lib.hid (fun w => small_fmt i hi w)
  have g1 : (i : Int) < 100 := by omega
  have e1 : wrap64 (i : Int) = (i : Int) := ww ⟨by omega, by omega⟩
  go_enter Tryd.func65, Tryd.ntmps65
  go_wp2_with fail
  refine (C.out _).mono ?_; rintro e w9 ⟨rfl, rfl⟩
  go_wp2_with fail
  go_ret
  exact ⟨rfl, Below.refl _ _⟩
open Go.Shelf Go.Sort Go.Lib in
set_option maxHeartbeats 6400000 in
set_option maxRecDepth 100000 in
theorem fmt_large (u : Nat) (h1 : 100 ≤ u) (h2 : u < 18446744073709551616) (w : World) (htab : Lib.TabIs Tryd.prog w "internal/strconv.uint64pow10" .u64 Lib.pow10Tab) :
    Calls Tryd.prog 65 #[.int .u64 u, .int .i64 10] w fun e w' => e = .returned (.string ⟨(Lib.decDigits u).toArray⟩) ∧ Below w.heap.size w w' := by
  have g1 : ¬ (u : Int) < 100 := by omega
  have hnd20 : Lib.nDigits u ≤ 20 := by have := Lib.numDigits_eq u (by omega) h2; split at this <;> omega
  have hb3 : Lib.nDigits u ≤ 24 := by omega
  have hal : Tryd.prog.arrayLen 92 = 24 := by kernel_rfl
  have hsl1 : ∀ W, (Instr.sliceAt 92 (.pointer (some ⟨w.heap.size, 0, none⟩)) none (some (.int .i64 (Lib.nDigits u : Int))) none).run Tryd.prog W = .ok (.slice (some ⟨w.heap.size, 0, none⟩) (Lib.nDigits u) 24) W := fun W => by
    rw [run_sliceAt_array_h W 92 ⟨w.heap.size, 0, none⟩ (by kernel_rfl) .i64 (Lib.nDigits u : Int) (by omega) (by rw [hal]; omega)]
    go_simp
  have hH0 := Lib.holds_zero0 w 92 (Lib.nDigits u) (by omega)
  have hfmt := Any.internal_strconv_formatBase10 lay285 w.heap.size 0 24 u (Array.replicate (Lib.nDigits u) 0) (w.alloc (.cells Lib.zeros24 92)) hH0 (by rw [Array.size_replicate]; exact Lib.lt_pow_nDigits u) h2 (by rw [Array.size_replicate]; omega)
  rw [Array.size_replicate] at hfmt
  have HH0 := Lib.hid hH0
  have CN := Lib.hid (num_digits u (by omega) h2 _ (Lib.tabIs_alloc htab (.cells Lib.zeros24 92)))
  clear hH0 hal
  go_enter Tryd.func65, Tryd.ntmps65
  go_wp2_with fail
  refine CN.out.mono ?_; rintro e w9 ⟨rfl, rfl⟩
  go_wp2_with fail
  refine hfmt.mono ?_
  rintro e w9 ⟨rfl, k, v', dk, rfl, hF⟩
  have hcv : (convert 65 9 (.slice (some ⟨w.heap.size, 0, none⟩) (Lib.nDigits u) 24)).run Tryd.prog ((putRow (fun (b : UInt8) => Value.int .u8 (b.toNat : Int)) (w.alloc (.cells Lib.zeros24 92)) w.heap.size 0 dk).drewN k) = .ok (.string ⟨(Lib.decDigits u).toArray⟩) ((putRow (fun (b : UInt8) => Value.int .u8 (b.toNat : Int)) (w.alloc (.cells Lib.zeros24 92)) w.heap.size 0 dk).drewN k) := by
    have h := run_convert_bytes_back (P := Tryd.prog) ((putRow (fun (b : UInt8) => Value.int .u8 (b.toNat : Int)) (w.alloc (.cells Lib.zeros24 92)) w.heap.size 0 dk).drewN k) 65 9 5 ⟨w.heap.size, 0, none⟩ 24 (Lib.decDigits u) Tryd.underlying65 Tryd.underlying5 Tryd.underlying9 (fun j hj => by
      rw [Lib.row_is_numeral hF j hj, Lib.add_plain, World.cell?_drewN]
      exact cell?_putRow (fun (b : UInt8) => Value.int .u8 (b.toNat : Int)) _ w.heap.size 0 _ dk HH0.out (by rw [hF.size, Array.size_replicate]) j (by rw [hF.size]; rw [Lib.decDigits_length] at hj; exact hj))
    rw [Lib.decDigits_length] at h
    exact h
  have hB : Hid (Below w.heap.size w ((putRow (fun (b : UInt8) => Value.int .u8 (b.toNat : Int)) (w.alloc (.cells Lib.zeros24 92)) w.heap.size 0 dk).drewN k)) := by
    obtain ⟨os, eo⟩ := Lib.fin_at w (.cells Lib.zeros24 92) dk k 0
    rw [eo]
    exact Lib.below_grow _ w (Nat.le_refl _) k os
  go_wp2
  go_ret
  exact ⟨rfl, hB.out⟩
theorem fmt_any (u : Nat) (h2 : u < 18446744073709551616) (w : World) (htab : Lib.TabIs Tryd.prog w "internal/strconv.uint64pow10" .u64 Lib.pow10Tab) :
    Calls Tryd.prog 45 #[.int .u64 u, .int .i64 10] w fun e w' => e = .returned (.string ⟨(Lib.decDigits u).toArray⟩) ∧ Below w.heap.size w w' := by
  have C : Hid (Calls Tryd.prog 65 #[.int .u64 u, .int .i64 10] w fun e w' => e = .returned (.string ⟨(Lib.decDigits u).toArray⟩) ∧ Below w.heap.size w w') := by
    by_cases h : u < 100
    · exact fmt_small u h w
    · exact fmt_large u (by omega) h2 w htab
  go_enter Tryd.func45, Tryd.ntmps45
  go_wp2_with fail
  refine C.out.mono ?_; rintro e w9 ⟨rfl, hb⟩
  go_wp2_with fail
  go_ret
  exact ⟨rfl, hb⟩
end Go.Proofs.YthdbchghhpoadaaDoor
