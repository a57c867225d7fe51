/- Proved: for any bytes and any kind, TopCodec returns true (bytes that are an image are saved in their plain form, which is read and saved again as it is; others are refused where they are loaded; the five listed variables of Go's library are tied to the program's text). No condition. -/
import Derived.Test.YtikpobembcgbfaaGreatDoorQ43
import Derived.Test.YtikpobembcgbfaaGreatDoorQTt
import Derived.Test.YtikpobembcgbfaaGreatDoorQTk
import Derived.Test.YtikpobembcgbfaaGreatDoorCards
import Derived.SevenTiedAt
namespace Go.Proofs.YtikpobembcgbfaaGreatDoor.topCodec
open Go.ChangeShapes Go.WideShapes Go.ChangeAt Go.RowKit Go.Deep
theorem card_fits (f : FuncId) (fn : Func) (hf : Tryz.prog.funcNamed Rows.topCodecRow.func = some f) (hfn : Tryz.prog.funcs[f]? = some fn) : Rows.topCodecCard.stood.looks = Tryz.prog.looks [] ∧ ∀ (j : Nat) t, fn.params[j]? = some t → Tryz.prog.wantsStandIn t = false := by
 obtain rfl : f = 3 := Option.some.inj (said_name.symm.trans hf) |>.symm
 obtain rfl : fn = Tryz.f3 := (Option.some.inj (Tryz.func3.symm.trans hfn)).symm
 refine ⟨card_looks, fun j t ht => ?_⟩
 rw [Tryz.params3] at ht
 have hm : t ∈ [22, 3] := by simpa using Array.mem_of_getElem? ht
 exact (show Tryz.prog.wantsStandIn t = false by simpa using List.all_eq_true.1 card_stand t hm)
theorem proved : Rows.TopCodecCardSaid :=
 Claim7.holds_tied_plain_at .later [] Rows.topCodecCard.laidKinds true Rows.topCodecCard.stood.harness Rows.topCodecCard.stood.looks
  said (fun _ h => by cases h) card_form (fun _ h => by cases h) topCodec_tied rfl ⟨rfl, rfl⟩ card_main rfl card_fits card_goes
#print axioms proved
end Go.Proofs.YtikpobembcgbfaaGreatDoor.topCodec
