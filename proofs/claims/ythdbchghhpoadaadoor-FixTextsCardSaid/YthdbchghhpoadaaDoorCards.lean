/-
  DERIVED. GIVEN WITH THE SEED: THE CARDS: each row of YthdbchghhpoadaaDoorRows.lean that lists a variable, with what it lists TIED to the program's text (the seventh form; the later family's looks); each row that meets fmt, with fmt's text TOLD by the authors' own Lean function (tested against real Go, not proved from fmt's source: count such statements apart). THE CARD IS WHAT COUNTS. Prove the row's statement (the work); the ties are given (YthdbchghhpoadaaDoorTie.lean); close each card by the builder's one call (the guide's Derived/Test/ToyasCard.lean, 'card_holds'). Laid BY PROGRAM, IN A SANDBOX (cutbox-door.mjs). By AI agents, Wed Nov 11 2026. No macro, syntax, notation, axiom, sorry.
-/
import Derived.Test.YthdbchghhpoadaaDoorRows
import GoSem.ClaimSeven
namespace Go.Proofs.YthdbchghhpoadaaDoor
namespace Rows

/-- THE TIED CARD OF 'anamorphlaw04.FixSums'. -/
def fixSumsCard : Claim7 := { stood := { row := fixSumsRow, standIns := [], harness := (true, "d9f0274cd598d8c4bf7a1a6a5cb8db5292074da1800087d808ad33abb9175a3f"), looks := false }, kinds := [], alts := [], laidByText := true, laidKinds := [.data, .data, .data], laidTests := true, laidLooks := .later }
def FixSumsCardSaid : Prop := Claim7.holds Tryd.pinned (.plain (OpenSpec.ofChange fixSumsSpec)) fixSumsCard

/-- THE TIED CARD OF 'anamorphlaw04.FixRows'. -/
def fixRowsCard : Claim7 := { stood := { row := fixRowsRow, standIns := [], harness := (true, "d9f0274cd598d8c4bf7a1a6a5cb8db5292074da1800087d808ad33abb9175a3f"), looks := false }, kinds := [], alts := [], laidByText := true, laidKinds := [.data, .data, .data], laidTests := true, laidLooks := .later }
def FixRowsCardSaid : Prop := Claim7.holds Tryd.pinned (.plain (OpenSpec.ofChange fixRowsSpec)) fixRowsCard

/-- THE TIED CARD OF 'anamorphlaw04.FixTexts'. -/
def fixTextsCard : Claim7 := { stood := { row := fixTextsRow, standIns := [], harness := (true, "d9f0274cd598d8c4bf7a1a6a5cb8db5292074da1800087d808ad33abb9175a3f"), looks := false }, kinds := [], alts := [], laidByText := true, laidKinds := [.data, .data, .data], laidTests := true, laidLooks := .later }
def FixTextsCardSaid : Prop := Claim7.holds Tryd.pinned (.plain (OpenSpec.ofChange fixTextsSpec)) fixTextsCard

/-- THE SECOND FORM's CARD OF 'anamorphlaw04.FixSums'. -/
def fixSumsUptoCard : Claim7 := { stood := { row := fixSumsUptoRow, standIns := [], harness := (true, "d9f0274cd598d8c4bf7a1a6a5cb8db5292074da1800087d808ad33abb9175a3f"), looks := false }, kinds := [], alts := [], laidByText := true, laidKinds := [.data, .data, .data], laidTests := true, laidLooks := .later }
def FixSumsUptoCardSaid : Prop := Claim7.holds Tryd.pinned (.plain (OpenSpec.upto fixSumsSpec)) fixSumsUptoCard

/-- THE SECOND FORM's CARD OF 'anamorphlaw04.FixRows'. -/
def fixRowsUptoCard : Claim7 := { stood := { row := fixRowsUptoRow, standIns := [], harness := (true, "d9f0274cd598d8c4bf7a1a6a5cb8db5292074da1800087d808ad33abb9175a3f"), looks := false }, kinds := [], alts := [], laidByText := true, laidKinds := [.data, .data, .data], laidTests := true, laidLooks := .later }
def FixRowsUptoCardSaid : Prop := Claim7.holds Tryd.pinned (.plain (OpenSpec.upto fixRowsSpec)) fixRowsUptoCard

/-- THE SECOND FORM's CARD OF 'anamorphlaw04.FixTexts'. -/
def fixTextsUptoCard : Claim7 := { stood := { row := fixTextsUptoRow, standIns := [], harness := (true, "d9f0274cd598d8c4bf7a1a6a5cb8db5292074da1800087d808ad33abb9175a3f"), looks := false }, kinds := [], alts := [], laidByText := true, laidKinds := [.data, .data, .data], laidTests := true, laidLooks := .later }
def FixTextsUptoCardSaid : Prop := Claim7.holds Tryd.pinned (.plain (OpenSpec.upto fixTextsSpec)) fixTextsUptoCard
end Rows
end Go.Proofs.YthdbchghhpoadaaDoor
