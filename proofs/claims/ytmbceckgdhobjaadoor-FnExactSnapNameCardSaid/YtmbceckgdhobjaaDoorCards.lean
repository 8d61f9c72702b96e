/-
  DERIVED. GIVEN WITH THE SEED: THE CARDS: each row of YtmbceckgdhobjaaDoorRows.lean that lists a variable, with what it lists TIED to the program's text (the seventh form; the later family's looks); each row that meets fmt, with fmt's text TOLD by the authors' own Lean function (tested against real Go, not proved from fmt's source: count such statements apart). THE CARD IS WHAT COUNTS. Prove the row's statement (the work); the ties are given (YtmbceckgdhobjaaDoorTie.lean); close each card by the builder's one call (the guide's Derived/Test/ToyasCard.lean, 'card_holds'). Laid BY PROGRAM, IN A SANDBOX (cutbox-door.mjs). By AI agents, Wed Nov 11 2026. No macro, syntax, notation, axiom, sorry.
-/
import Derived.Test.YtmbceckgdhobjaaDoorRows
import GoSem.ClaimSeven
namespace Go.Proofs.YtmbceckgdhobjaaDoor
namespace Rows

/-- THE TIED CARD OF 'laws.FnExactJournalName'. -/
def fnExactJournalNameCard : Claim7 := { stood := { row := fnExactJournalNameRow, standIns := [], harness := (true, "2e9ba796dedb62bff5e5dc41730110903a5caa8c6aa2f383061c3f4578f44bd4"), looks := true }, kinds := [], alts := [], laidByText := true, laidKinds := [.data, .data, .data], laidTests := true, laidLooks := .later }
def FnExactJournalNameCardSaid : Prop := Claim7.holds Tryd.pinned (.plain (OpenSpec.ofChange fnExactJournalNameSpec)) fnExactJournalNameCard

/-- THE TIED CARD OF 'laws.FnExactSnapName'. -/
def fnExactSnapNameCard : Claim7 := { stood := { row := fnExactSnapNameRow, standIns := [], harness := (true, "2e9ba796dedb62bff5e5dc41730110903a5caa8c6aa2f383061c3f4578f44bd4"), looks := true }, kinds := [], alts := [], laidByText := true, laidKinds := [.data, .data, .data], laidTests := true, laidLooks := .later }
def FnExactSnapNameCardSaid : Prop := Claim7.holds Tryd.pinned (.plain (OpenSpec.ofChange fnExactSnapNameSpec)) fnExactSnapNameCard

/-- THE TIED CARD OF 'laws.FnExactPartsOf'. -/
def fnExactPartsOfCard : Claim7 := { stood := { row := fnExactPartsOfRow, standIns := [], harness := (true, "2e9ba796dedb62bff5e5dc41730110903a5caa8c6aa2f383061c3f4578f44bd4"), looks := true }, kinds := [], alts := [], laidByText := true, laidKinds := [.data, .pinned], laidTests := true, laidLooks := .later }
def FnExactPartsOfCardSaid : Prop := Claim7.holds Tryd.pinned (.plain (OpenSpec.ofChange fnExactPartsOfSpec)) fnExactPartsOfCard

/-- THE TIED CARD OF 'laws.FnExactReadDecimal'. -/
def fnExactReadDecimalCard : Claim7 := { stood := { row := fnExactReadDecimalRow, standIns := [], harness := (true, "2e9ba796dedb62bff5e5dc41730110903a5caa8c6aa2f383061c3f4578f44bd4"), looks := true }, kinds := [], alts := [], laidByText := true, laidKinds := [.data, .data, .data, .sentinel, .sentinel], laidTests := true, laidLooks := .later }
def FnExactReadDecimalCardSaid : Prop := Claim7.holds Tryd.pinned (.plain (OpenSpec.ofChange fnExactReadDecimalSpec)) fnExactReadDecimalCard

/-- THE SECOND FORM's CARD OF 'laws.FnExactJournalName'. -/
def fnExactJournalNameUptoCard : Claim7 := { stood := { row := fnExactJournalNameUptoRow, standIns := [], harness := (true, "2e9ba796dedb62bff5e5dc41730110903a5caa8c6aa2f383061c3f4578f44bd4"), looks := true }, kinds := [], alts := [], laidByText := true, laidKinds := [.data, .data, .data], laidTests := true, laidLooks := .later }
def FnExactJournalNameUptoCardSaid : Prop := Claim7.holds Tryd.pinned (.plain (OpenSpec.upto fnExactJournalNameSpec)) fnExactJournalNameUptoCard

/-- THE SECOND FORM's CARD OF 'laws.FnExactSnapName'. -/
def fnExactSnapNameUptoCard : Claim7 := { stood := { row := fnExactSnapNameUptoRow, standIns := [], harness := (true, "2e9ba796dedb62bff5e5dc41730110903a5caa8c6aa2f383061c3f4578f44bd4"), looks := true }, kinds := [], alts := [], laidByText := true, laidKinds := [.data, .data, .data], laidTests := true, laidLooks := .later }
def FnExactSnapNameUptoCardSaid : Prop := Claim7.holds Tryd.pinned (.plain (OpenSpec.upto fnExactSnapNameSpec)) fnExactSnapNameUptoCard

/-- THE SECOND FORM's CARD OF 'laws.FnExactPartsOf'. -/
def fnExactPartsOfUptoCard : Claim7 := { stood := { row := fnExactPartsOfUptoRow, standIns := [], harness := (true, "2e9ba796dedb62bff5e5dc41730110903a5caa8c6aa2f383061c3f4578f44bd4"), looks := true }, kinds := [], alts := [], laidByText := true, laidKinds := [.data, .pinned], laidTests := true, laidLooks := .later }
def FnExactPartsOfUptoCardSaid : Prop := Claim7.holds Tryd.pinned (.plain (OpenSpec.upto fnExactPartsOfSpec)) fnExactPartsOfUptoCard

/-- THE SECOND FORM's CARD OF 'laws.FnExactReadDecimal'. -/
def fnExactReadDecimalUptoCard : Claim7 := { stood := { row := fnExactReadDecimalUptoRow, standIns := [], harness := (true, "2e9ba796dedb62bff5e5dc41730110903a5caa8c6aa2f383061c3f4578f44bd4"), looks := true }, kinds := [], alts := [], laidByText := true, laidKinds := [.data, .data, .data, .sentinel, .sentinel], laidTests := true, laidLooks := .later }
def FnExactReadDecimalUptoCardSaid : Prop := Claim7.holds Tryd.pinned (.plain (OpenSpec.upto fnExactReadDecimalSpec)) fnExactReadDecimalUptoCard
end Rows
end Go.Proofs.YtmbceckgdhobjaaDoor
