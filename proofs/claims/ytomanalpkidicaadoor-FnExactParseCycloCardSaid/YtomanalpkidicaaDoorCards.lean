/-
  DERIVED. GIVEN WITH THE SEED: THE CARDS: each row of YtomanalpkidicaaDoorRows.lean that lists a variable, with what it lists TIED to the program's text (the seventh form; the later family's looks); each row that meets fmt, with fmt's text TOLD by the authors' own Lean function (tested against real Go, not proved from fmt's source: count such statements apart). THE CARD IS WHAT COUNTS. Prove the row's statement (the work); the ties are given (YtomanalpkidicaaDoorTie.lean); close each card by the builder's one call (the guide's Derived/Test/ToyasCard.lean, 'card_holds'). Laid BY PROGRAM, IN A SANDBOX (cutbox-door.mjs). By AI agents, Wed Nov 11 2026. No macro, syntax, notation, axiom, sorry.
-/
import Derived.Test.YtomanalpkidicaaDoorRows
import GoSem.ClaimSeven
namespace Go.Proofs.YtomanalpkidicaaDoor
namespace Rows

/-- THE TIED CARD OF 'laws.FnExactCycloText'. -/
def fnExactCycloTextCard : Claim7 := { stood := { row := fnExactCycloTextRow, standIns := [], harness := (true, "5fe3b05f10f360513148718a24d8039982fe28afa71569ff982c57ac8b4c0cef"), looks := true }, kinds := [], alts := [], laidByText := true, laidKinds := [.data, .data, .data], laidTests := true, laidLooks := .later }
def FnExactCycloTextCardSaid : Prop := Claim7.holds Tryd.pinned (.plain (OpenSpec.ofChange fnExactCycloTextSpec)) fnExactCycloTextCard

/-- THE TIED CARD OF 'laws.FnExactParseCyclo'. -/
def fnExactParseCycloCard : Claim7 := { stood := { row := fnExactParseCycloRow, standIns := [], harness := (true, "5fe3b05f10f360513148718a24d8039982fe28afa71569ff982c57ac8b4c0cef"), looks := true }, kinds := [], alts := [], laidByText := true, laidKinds := [.data, .data, .data, .data, .sentinel, .sentinel, .pinned], laidTests := true, laidLooks := .later }
def FnExactParseCycloCardSaid : Prop := Claim7.holds Tryd.pinned (.plain (OpenSpec.ofChange fnExactParseCycloSpec)) fnExactParseCycloCard

/-- THE SECOND FORM's CARD OF 'laws.FnExactCycloText'. -/
def fnExactCycloTextUptoCard : Claim7 := { stood := { row := fnExactCycloTextUptoRow, standIns := [], harness := (true, "5fe3b05f10f360513148718a24d8039982fe28afa71569ff982c57ac8b4c0cef"), looks := true }, kinds := [], alts := [], laidByText := true, laidKinds := [.data, .data, .data], laidTests := true, laidLooks := .later }
def FnExactCycloTextUptoCardSaid : Prop := Claim7.holds Tryd.pinned (.plain (OpenSpec.upto fnExactCycloTextSpec)) fnExactCycloTextUptoCard

/-- THE SECOND FORM's CARD OF 'laws.FnExactParseCyclo'. -/
def fnExactParseCycloUptoCard : Claim7 := { stood := { row := fnExactParseCycloUptoRow, standIns := [], harness := (true, "5fe3b05f10f360513148718a24d8039982fe28afa71569ff982c57ac8b4c0cef"), looks := true }, kinds := [], alts := [], laidByText := true, laidKinds := [.data, .data, .data, .data, .sentinel, .sentinel, .pinned], laidTests := true, laidLooks := .later }
def FnExactParseCycloUptoCardSaid : Prop := Claim7.holds Tryd.pinned (.plain (OpenSpec.upto fnExactParseCycloSpec)) fnExactParseCycloUptoCard
end Rows
end Go.Proofs.YtomanalpkidicaaDoor
