/-
  DERIVED. GIVEN WITH THE SEED: THE CARDS: each row of YtbmcldidjlcbkaaGreatDoorRows.lean that lists a variable, with what it lists TIED to the program's text (the seventh form; the later family's looks); each row that meets fmt, with fmt's text TOLD by the authors' own Lean function (tested against real Go, not proved from fmt's source: count such statements apart). THE CARD IS WHAT COUNTS. Prove the row's statement (the work); the ties are given (YtbmcldidjlcbkaaGreatDoorTie.lean); close each card by the builder's one call (the guide's Derived/Test/ToyasCard.lean, 'card_holds'). Laid BY PROGRAM, IN A SANDBOX (cutbox-door.mjs). By AI agents, Wed Nov 11 2026. No macro, syntax, notation, axiom, sorry.
-/
import Derived.Test.YtbmcldidjlcbkaaGreatDoorRows
import GoSem.ClaimSeven
namespace Go.Proofs.YtbmcldidjlcbkaaGreatDoor
namespace Rows

/-- THE TIED CARD OF 'latchkeylaw11.WalRecs'. -/
def walRecsCard : Claim7 := { stood := { row := walRecsRow, standIns := [], harness := (true, "16d01c8d396a2c234bf8a8b58acbb30eebb6cc2f282c34857a0ce730394a139c"), looks := true }, kinds := [], alts := [], laidByText := true, laidKinds := [.data, .data, .data, .sentinel, .sentinel], laidTests := true, laidLooks := .later }
def WalRecsCardSaid : Prop := Claim7.holds Tryz.pinned (.plain (OpenSpec.ofChange walRecsSpec)) walRecsCard

/-- THE TIED CARD OF 'latchkeylaw11.WalSure'. -/
def walSureCard : Claim7 := { stood := { row := walSureRow, standIns := [], harness := (true, "16d01c8d396a2c234bf8a8b58acbb30eebb6cc2f282c34857a0ce730394a139c"), looks := true }, kinds := [], alts := [], laidByText := true, laidKinds := [.data, .data, .data, .sentinel, .sentinel], laidTests := true, laidLooks := .later }
def WalSureCardSaid : Prop := Claim7.holds Tryz.pinned (.plain (OpenSpec.ofChange walSureSpec)) walSureCard

/-- THE TIED CARD OF 'latchkeylaw11.WalTwice'. -/
def walTwiceCard : Claim7 := { stood := { row := walTwiceRow, standIns := [], harness := (true, "16d01c8d396a2c234bf8a8b58acbb30eebb6cc2f282c34857a0ce730394a139c"), looks := true }, kinds := [], alts := [], laidByText := true, laidKinds := [.data, .data, .data, .sentinel, .sentinel], laidTests := true, laidLooks := .later }
def WalTwiceCardSaid : Prop := Claim7.holds Tryz.pinned (.plain (OpenSpec.ofChange walTwiceSpec)) walTwiceCard

/-- THE TIED CARD OF 'latchkeylaw11.WalNone'. -/
def walNoneCard : Claim7 := { stood := { row := walNoneRow, standIns := [], harness := (true, "16d01c8d396a2c234bf8a8b58acbb30eebb6cc2f282c34857a0ce730394a139c"), looks := true }, kinds := [], alts := [], laidByText := true, laidKinds := [.data, .data, .data, .sentinel, .sentinel], laidTests := true, laidLooks := .later }
def WalNoneCardSaid : Prop := Claim7.holds Tryz.pinned (.plain (OpenSpec.ofChange walNoneSpec)) walNoneCard

/-- THE SECOND FORM's CARD OF 'latchkeylaw11.WalRecs'. -/
def walRecsUptoCard : Claim7 := { stood := { row := walRecsUptoRow, standIns := [], harness := (true, "16d01c8d396a2c234bf8a8b58acbb30eebb6cc2f282c34857a0ce730394a139c"), looks := true }, kinds := [], alts := [], laidByText := true, laidKinds := [.data, .data, .data, .sentinel, .sentinel], laidTests := true, laidLooks := .later }
def WalRecsUptoCardSaid : Prop := Claim7.holds Tryz.pinned (.plain (OpenSpec.upto walRecsSpec)) walRecsUptoCard

/-- THE SECOND FORM's CARD OF 'latchkeylaw11.WalSure'. -/
def walSureUptoCard : Claim7 := { stood := { row := walSureUptoRow, standIns := [], harness := (true, "16d01c8d396a2c234bf8a8b58acbb30eebb6cc2f282c34857a0ce730394a139c"), looks := true }, kinds := [], alts := [], laidByText := true, laidKinds := [.data, .data, .data, .sentinel, .sentinel], laidTests := true, laidLooks := .later }
def WalSureUptoCardSaid : Prop := Claim7.holds Tryz.pinned (.plain (OpenSpec.upto walSureSpec)) walSureUptoCard

/-- THE SECOND FORM's CARD OF 'latchkeylaw11.WalTwice'. -/
def walTwiceUptoCard : Claim7 := { stood := { row := walTwiceUptoRow, standIns := [], harness := (true, "16d01c8d396a2c234bf8a8b58acbb30eebb6cc2f282c34857a0ce730394a139c"), looks := true }, kinds := [], alts := [], laidByText := true, laidKinds := [.data, .data, .data, .sentinel, .sentinel], laidTests := true, laidLooks := .later }
def WalTwiceUptoCardSaid : Prop := Claim7.holds Tryz.pinned (.plain (OpenSpec.upto walTwiceSpec)) walTwiceUptoCard

/-- THE SECOND FORM's CARD OF 'latchkeylaw11.WalNone'. -/
def walNoneUptoCard : Claim7 := { stood := { row := walNoneUptoRow, standIns := [], harness := (true, "16d01c8d396a2c234bf8a8b58acbb30eebb6cc2f282c34857a0ce730394a139c"), looks := true }, kinds := [], alts := [], laidByText := true, laidKinds := [.data, .data, .data, .sentinel, .sentinel], laidTests := true, laidLooks := .later }
def WalNoneUptoCardSaid : Prop := Claim7.holds Tryz.pinned (.plain (OpenSpec.upto walNoneSpec)) walNoneUptoCard
end Rows
end Go.Proofs.YtbmcldidjlcbkaaGreatDoor
