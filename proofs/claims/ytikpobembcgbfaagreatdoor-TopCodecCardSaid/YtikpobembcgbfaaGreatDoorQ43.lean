/- Parts of the proof: TcA TcB. -/
import Derived.Test.YtikpobembcgbfaaGreatDoorQ41
import Derived.Test.YtikpobembcgbfaaGreatDoorQTl
import Derived.Test.YtikpobembcgbfaaGreatDoorQTj
set_option linter.unusedVariables false
set_option linter.unusedSimpArgs false
set_option maxRecDepth 100000
set_option maxHeartbeats 40000000
namespace Go.Proofs.YtikpobembcgbfaaGreatDoor.topCodec
open Go.ChangeShapes Go.WideShapes Go.ChangeAt Go.RowKit Go.Deep
theorem cells_u8 : Tryz.prog.cellsOf 5 = 1 := by kernel_rfl
theorem door_met (os : Os) : laidMetH Tryz.prog laidL (door2 os) := laidMetH_of_parts3 (fuel := 8) (laidMet_of_run' 8 (door_a os) (door_b os)) (door_c os) (door_d os)
theorem by_of {w : World} {v : Value} {zs : List Int} (h : BS w v zs) : ∃ l, BY w v l := by
 have hb : ∀ z ∈ zs, 0 ≤ z ∧ z ≤ 255 := by obtain ⟨_, _, _, _, _, hb, _⟩ := h; exact hb
 refine ⟨zs.map fun z => UInt8.ofNat z.toNat, ?_⟩
 have e : uI (zs.map fun z => UInt8.ofNat z.toNat) = zs := by
  unfold uI
  rw [List.map_map]
  refine (List.map_congr_left fun z hz => ?_).trans (List.map_id zs)
  have := hb z hz
  show (((UInt8.ofNat z.toNat).toNat : Nat) : Int) = z
  rw [UInt8.toNat_ofNat']
  omega
 unfold BY
 rw [e]
 exact h
theorem lifted (os : Os) (started : os.Started) (H : Type) (enc : TypeId × Value → H) :
 ReturnsInHanded {} Tryz.checked os 3 .any (fun w args => (Rows.topCodecSpec.pre enc Tryz.prog Tryz.f3 [] false w args ∧ laidMetH Tryz.prog laidL w) ∧ sizedMet enc Tryz.prog Tryz.f3 (OpenSpec.ofChange Rows.topCodecSpec) false w args) (Rows.topCodecSpec.post enc Tryz.prog Tryz.f3 false true false false) := by
 refine law_lifted_laid laidL os started H enc (by kernel_rfl) Tryz.func3
  (ChangeSpec.witness_shaped (enc := enc) (C := Tryz.checked) (os := os) (X := fun w _ => laidMetH Tryz.prog laidL w) false (door os) #[.slice none 0 0, .int .i64 0] 8 rfl (World.shaped_of_RefB (door_e os) (door_f os)) (door_g os) (door_h os H enc) (door_i os H enc) (door_met os)) rfl (by kernel_rfl) Tryz.underlying4 (by kernel_rfl) ?_
 intro W base args ds p hval hA hL
 rw [Tryz.params3] at hA hval
 obtain ⟨v0, vs0, d0, ds0, p0, q0, hargs, rfl, rfl, h0, r0⟩ := trodAll_cons hA
 obtain ⟨v1, vs1, d1, ds1, p1, q1, rfl, rfl, rfl, h1, r1⟩ := trodAll_cons r0
 obtain ⟨rfl, rfl, rfl⟩ := trodAll_nil r1
 obtain rfl : args = #[v0, v1] := by cases args; simp_all
 refine ⟨rfl, ?_⟩
 obtain ⟨zs0, is0⟩ := open_bs Tryz.underlying22 Tryz.underlying5 cells_u8 (hval 0 22 v0 rfl rfl) h0
 obtain ⟨a1, rfl, rfl, rfl, w1⟩ := open_int Tryz.underlying3 (hval 1 3 v1 rfl rfl) h1
 obtain ⟨l, hl⟩ := by_of is0
 exact topCodec_any v0 l a1 W hl (pow_tab hL)
end Go.Proofs.YtikpobembcgbfaaGreatDoor.topCodec
namespace Go.Proofs.YtikpobembcgbfaaGreatDoor.topCodec
open Go.ChangeShapes Go.WideShapes Go.ChangeAt Go.RowKit Go.Deep
theorem said_name : Tryz.prog.funcNamed Rows.topCodecRow.func = some 3 := by kernel_rfl
theorem said_inst : Tryz.f3.isInstance Tryz.prog Rows.topCodecRow.origin Rows.topCodecRow.targs := of_decide_eq_true (by kernel_rfl)
theorem said_wrap : Tryz.f3.isWrapper Tryz.prog Rows.topCodecRow.wrapper Rows.topCodecRow.mainSum := by unfold Func.isWrapper; first | (rw [if_pos (by decide +kernel)]; kernel_rfl) | (rw [if_neg (by decide +kernel)]; exact ⟨rfl, rfl⟩)
theorem said : Rows.TopCodecSaid :=
 OpenClaim.holds_of_wide 3 Tryz.f3 rfl rfl rfl rfl rfl rfl rfl ⟨rfl, rfl, rfl, rfl, rfl⟩ rfl rfl rfl rfl rfl said_name Tryz.func3 row_facts
  said_inst said_wrap
  (fun os started H enc _ => lifted os started H enc)
end Go.Proofs.YtikpobembcgbfaaGreatDoor.topCodec
