/-
  DERIVED. GIVEN WITH THE SEED: THE CARDS: each row of YtogifkjkbfdocaaGreatDoorRows.lean that lists a variable, with what it lists TIED to the program's text (the seventh form; the later family's looks); each row that meets fmt, with fmt's text TOLD by the authors' own Lean function (tested against real Go, not proved from fmt's source: count such statements apart). THE CARD IS WHAT COUNTS. Prove the row's statement (the work); the ties are given (YtogifkjkbfdocaaGreatDoorTie.lean); close each card by the builder's one call (the guide's Derived/Test/ToyasCard.lean, 'card_holds'). Laid BY PROGRAM, IN A SANDBOX (cutbox-door.mjs). By AI agents, Wed Nov 11 2026. No macro, syntax, notation, axiom, sorry.
-/
import Derived.Test.YtogifkjkbfdocaaGreatDoorRows
import GoSem.ClaimSeven
namespace Go.Proofs.YtogifkjkbfdocaaGreatDoor
namespace Rows

/-- THE TIED CARD OF 'laws.FnExactShedActs'. -/
def fnExactShedActsCard : Claim7 := { stood := { row := fnExactShedActsRow, standIns := [], harness := (true, "e9fcb4f5a4459c15df9c688c15190b3a38e0c14c66c62be861f18208e35b5063"), looks := true }, kinds := [], alts := [], laidByText := true, laidKinds := [.data, .data, .data, .sentinel, .sentinel], laidTests := true, laidLooks := .later }
def FnExactShedActsCardSaid : Prop := Claim7.holds Tryz.pinned (.plain (OpenSpec.ofChange fnExactShedActsSpec)) fnExactShedActsCard

/-- THE TIED CARD OF 'laws.FnExactOpenJournal'. -/
def fnExactOpenJournalCard : Claim7 := { stood := { row := fnExactOpenJournalRow, standIns := [], harness := (true, "e9fcb4f5a4459c15df9c688c15190b3a38e0c14c66c62be861f18208e35b5063"), looks := true }, kinds := [], alts := [], laidByText := true, laidKinds := [.data, .data, .data, .sentinel, .sentinel], laidTests := true, laidLooks := .later }
def FnExactOpenJournalCardSaid : Prop := Claim7.holds Tryz.pinned (.plain (OpenSpec.ofChange fnExactOpenJournalSpec)) fnExactOpenJournalCard

/-- THE TIED CARD OF 'laws.FnExactSnapActs'. -/
def fnExactSnapActsCard : Claim7 := { stood := { row := fnExactSnapActsRow, standIns := [], harness := (true, "e9fcb4f5a4459c15df9c688c15190b3a38e0c14c66c62be861f18208e35b5063"), looks := true }, kinds := [], alts := [], laidByText := true, laidKinds := [.data, .data, .data, .sentinel, .sentinel], laidTests := true, laidLooks := .later }
def FnExactSnapActsCardSaid : Prop := Claim7.holds Tryz.pinned (.plain (OpenSpec.ofChange fnExactSnapActsSpec)) fnExactSnapActsCard

/-- THE SECOND FORM's CARD OF 'laws.FnExactShedActs'. -/
def fnExactShedActsUptoCard : Claim7 := { stood := { row := fnExactShedActsUptoRow, standIns := [], harness := (true, "e9fcb4f5a4459c15df9c688c15190b3a38e0c14c66c62be861f18208e35b5063"), looks := true }, kinds := [], alts := [], laidByText := true, laidKinds := [.data, .data, .data, .sentinel, .sentinel], laidTests := true, laidLooks := .later }
def FnExactShedActsUptoCardSaid : Prop := Claim7.holds Tryz.pinned (.plain (OpenSpec.upto fnExactShedActsSpec)) fnExactShedActsUptoCard

/-- THE SECOND FORM's CARD OF 'laws.FnExactOpenJournal'. -/
def fnExactOpenJournalUptoCard : Claim7 := { stood := { row := fnExactOpenJournalUptoRow, standIns := [], harness := (true, "e9fcb4f5a4459c15df9c688c15190b3a38e0c14c66c62be861f18208e35b5063"), looks := true }, kinds := [], alts := [], laidByText := true, laidKinds := [.data, .data, .data, .sentinel, .sentinel], laidTests := true, laidLooks := .later }
def FnExactOpenJournalUptoCardSaid : Prop := Claim7.holds Tryz.pinned (.plain (OpenSpec.upto fnExactOpenJournalSpec)) fnExactOpenJournalUptoCard

/-- THE SECOND FORM's CARD OF 'laws.FnExactSnapActs'. -/
def fnExactSnapActsUptoCard : Claim7 := { stood := { row := fnExactSnapActsUptoRow, standIns := [], harness := (true, "e9fcb4f5a4459c15df9c688c15190b3a38e0c14c66c62be861f18208e35b5063"), looks := true }, kinds := [], alts := [], laidByText := true, laidKinds := [.data, .data, .data, .sentinel, .sentinel], laidTests := true, laidLooks := .later }
def FnExactSnapActsUptoCardSaid : Prop := Claim7.holds Tryz.pinned (.plain (OpenSpec.upto fnExactSnapActsSpec)) fnExactSnapActsUptoCard
end Rows
end Go.Proofs.YtogifkjkbfdocaaGreatDoor
