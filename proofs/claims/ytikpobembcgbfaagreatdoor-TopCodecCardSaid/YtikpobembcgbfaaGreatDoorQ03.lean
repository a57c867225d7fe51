/- Parts of the proof: Lax Itn. -/
import Derived.Test.YtikpobembcgbfaaGreatDoorQ02
import Derived.Shelf.LaysC
import Derived.Shelf.Strconv.Itoa4
import Derived.Shelf.Strconv.ParseIntPublic10
import Derived.Lib.AtoiErrMem
import Derived.Lib.AppendIntMem
set_option linter.unusedVariables false
set_option linter.unusedSimpArgs false
set_option maxRecDepth 100000
set_option maxHeartbeats 40000000
namespace Go.Proofs.YtikpobembcgbfaaGreatDoor
open Go.RowKit
noncomputable def layAr : Go.Shelf.Ren := ⟨fun | 171 => 389 | 243 => 430 | 246 => 248 | 283 => 323 | 284 => 324 | 285 => 325 | 286 => 326 | 129 => 391 | 317 => 390 | 318 => 392 | 319 => 393 | 320 => 394 | 337 => 431 | 338 => 432 | n => n, fun | 3 => 3 | 9 => 9 | 2 => 2 | 4 => 4 | 171 => 441 | 0 => 0 | 53 => 138 | 37 => 22 | 5 => 5 | 173 => 444 | 212 => 517 | 51 => 201 | 20 => 20 | 213 => 518 | 46 => 159 | 232 => 616 | 233 => 617 | n => n, fun | 17 => (Tryz.prog.globalNamed "internal/strconv.uint64pow10").getD 0 | 18 => (Tryz.prog.globalNamed "math/bits.deBruijn32tab").getD 0 | 19 => (Tryz.prog.globalNamed "math/bits.deBruijn64tab").getD 0 | n => n⟩
theorem layA : Go.Proofs.LaysM.n171 Tryz.prog layAr := by repeat' (first | kernel_rfl | (intro w; kernel_rfl) | constructor)
noncomputable def layBr : Go.Shelf.Ren := ⟨fun | 173 => 169 | 246 => 248 | 283 => 323 | 284 => 324 | 285 => 325 | 286 => 326 | 129 => 391 | 317 => 390 | 318 => 392 | 319 => 393 | 320 => 394 | 337 => 431 | 338 => 432 | n => n, fun | 2 => 2 | 3 => 3 | 9 => 9 | 4 => 4 | 171 => 441 | 0 => 0 | 53 => 138 | 37 => 22 | 5 => 5 | 173 => 444 | 212 => 517 | 51 => 201 | 20 => 20 | 213 => 518 | 46 => 159 | 232 => 616 | 233 => 617 | n => n, fun | 17 => (Tryz.prog.globalNamed "internal/strconv.uint64pow10").getD 0 | 18 => (Tryz.prog.globalNamed "math/bits.deBruijn32tab").getD 0 | 19 => (Tryz.prog.globalNamed "math/bits.deBruijn64tab").getD 0 | n => n⟩
theorem layB : Go.Proofs.LaysM.n173 Tryz.prog layBr := by repeat' (first | kernel_rfl | (intro w; kernel_rfl) | constructor)
noncomputable def layCr : Go.Shelf.Ren := ⟨fun | 174 => 168 | 247 => 246 | 245 => 247 | 287 => 318 | 279 => 319 | 280 => 320 | 281 => 321 | 282 => 322 | 321 => 385 | 322 => 386 | 316 => 387 | 171 => 389 | 205 => 388 | 243 => 430 | 246 => 248 | 283 => 323 | 284 => 324 | 285 => 325 | 286 => 326 | 129 => 391 | 317 => 390 | 318 => 392 | 319 => 393 | 320 => 394 | 337 => 431 | 338 => 432 | n => n, fun | 9 => 9 | 3 => 3 | 2 => 2 | 75 => 168 | 85 => 244 | 4 => 4 | 167 => 435 | 5 => 5 | 53 => 138 | 175 => 436 | 46 => 159 | 168 => 438 | 37 => 22 | 0 => 0 | 210 => 514 | 21 => 21 | 127 => 206 | 145 => 570 | 143 => 568 | 171 => 441 | 173 => 444 | 212 => 517 | 51 => 201 | 20 => 20 | 213 => 518 | 232 => 616 | 233 => 617 | 80 => 118 | n => n, fun | 15 => (Tryz.prog.globalNamed "strconv.ErrSyntax").getD 0 | 16 => (Tryz.prog.globalNamed "strconv.ErrRange").getD 0 | 17 => (Tryz.prog.globalNamed "internal/strconv.uint64pow10").getD 0 | 18 => (Tryz.prog.globalNamed "math/bits.deBruijn32tab").getD 0 | 19 => (Tryz.prog.globalNamed "math/bits.deBruijn64tab").getD 0 | n => n⟩
theorem layC : Go.Proofs.LaysC.n174 Tryz.prog layCr := by repeat' (first | kernel_rfl | (intro w; kernel_rfl) | constructor)
abbrev Tab (w : World) : Prop := Lib.TabIs Tryz.prog w "internal/strconv.uint64pow10" .u64 Lib.pow10Tab
theorem tab_on {w w' : World} (h : Tab w) (hb : Below w.heap.size w w') : Tab w' := Lib.tabBelow_of_tabIs h w' hb
theorem itoa_any (n : Nat) (h : n ≤ 9223372036854775807) (w : World) (ht : Tab w) : Calls Tryz.prog 389 #[.int .i64 (n : Int)] w fun e w' => e = .returned (.string ⟨(Lib.decDigits n).toArray⟩) ∧ Below w.heap.size w w' := by
 refine (Any.strconv_Itoa layA (n : Int) (by omega) (by omega) w ht).mono ?_
 rintro e w' ⟨rfl, k, os, rfl⟩
 exact ⟨by rw [Lib.itoa_nonneg], Lib.below_grow _ w (Nat.le_refl _) k os⟩
theorem format0 (w : World) : Calls Tryz.prog 169 #[.int .i64 0, .int .i64 10] w fun e w' => e = .returned (.string ⟨#[48]⟩) ∧ w = w' := by
 refine (Any.strconv_FormatInt_10_small { layB with } 0 (by omega) w).mono ?_
 rintro e w' ⟨rfl, rfl⟩
 exact ⟨by rw [Lib.decDigits_one (by omega)]; rfl, rfl⟩
theorem parse0 (w : World) : Calls Tryz.prog 168 #[.string ⟨#[48]⟩, .int .i64 10, .int .i64 64] w fun e w' => e = .returned (.tuple #[.int .i64 0, .nilIface]) ∧ Below w.heap.size w w' := by
 refine (Any.strconv_ParseInt_10_at64_ok layC ⟨#[48]⟩ (by decide) 0 (by decide +kernel) w).mono ?_
 rintro e w' ⟨rfl, h | ⟨t, h⟩⟩
 · exact ⟨rfl, h ▸ Below.refl _ _⟩
 · exact ⟨rfl, h ▸ Lib.bytesWorld_below w _ t⟩
theorem wnumber0 (w : World) : Calls Tryz.prog 114 #[.string ⟨#[48]⟩] w fun e w' => e = .returned (.tuple #[.int .i64 0, .bool true]) ∧ Below w.heap.size w w' := by
 have C1 := Lib.hid (parse0 w)
 have C2 := Lib.hid (fun w => format0 w)
 go_enter Tryz.func114, Tryz.ntmps114
 go_wp2_with fail
 refine C1.out.mono ?_
 rintro e w1 ⟨rfl, hb⟩
 go_wp2_with fail
 refine (C2.out _).mono ?_
 rintro e w1 ⟨rfl, rfl⟩
 go_wp2_with fail
 go_ret2
 exact ⟨rfl, hb⟩
end Go.Proofs.YtikpobembcgbfaaGreatDoor
