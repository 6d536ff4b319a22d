/-
  DERIVED. GIVEN WITH THE SEED: THE CARDS: each row of YtkfalpmimdcneaaGreatDoorRows.lean that lists a variable, with what it lists TIED to the program's text (the seventh form; the later family's looks); each row that meets fmt, with fmt's text TOLD by the authors' own Lean function (tested against real Go, not proved from fmt's source: count such statements apart). THE CARD IS WHAT COUNTS. Prove the row's statement (the work); the ties are given (YtkfalpmimdcneaaGreatDoorTie.lean); close each card by the builder's one call (the guide's Derived/Test/ToyasCard.lean, 'card_holds'). Laid BY PROGRAM, IN A SANDBOX (cutbox-door.mjs). By AI agents, Wed Nov 11 2026. No macro, syntax, notation, axiom, sorry.
-/
import Derived.Test.YtkfalpmimdcneaaGreatDoorRows
import GoSem.ClaimSeven
namespace Go.Proofs.YtkfalpmimdcneaaGreatDoor
namespace Rows

/-- THE TIED CARD OF 'latchkeylaw13.DurableFolds'. -/
def durableFoldsCard : Claim7 := { stood := { row := durableFoldsRow, standIns := [], harness := (true, "4f4102ceb53bfd15e79ac3136f4e8be3932c957ca189c9c7c27d50accb761813"), looks := true }, kinds := [], alts := [], laidByText := true, laidKinds := [.data, .data, .data, .sentinel, .sentinel, .sentinel, .sentinel], laidTests := true, laidLooks := .later }
def DurableFoldsCardSaid : Prop := Claim7.holds Tryz.pinned (.plain (OpenSpec.ofChange durableFoldsSpec)) durableFoldsCard

/-- THE TIED CARD OF 'latchkeylaw13.DurableSure'. -/
def durableSureCard : Claim7 := { stood := { row := durableSureRow, standIns := [], harness := (true, "4f4102ceb53bfd15e79ac3136f4e8be3932c957ca189c9c7c27d50accb761813"), looks := true }, kinds := [], alts := [], laidByText := true, laidKinds := [.data, .data, .data, .sentinel, .sentinel, .sentinel, .sentinel], laidTests := true, laidLooks := .later }
def DurableSureCardSaid : Prop := Claim7.holds Tryz.pinned (.plain (OpenSpec.ofChange durableSureSpec)) durableSureCard

/-- THE TIED CARD OF 'latchkeylaw13.DurableAgain'. -/
def durableAgainCard : Claim7 := { stood := { row := durableAgainRow, standIns := [], harness := (true, "4f4102ceb53bfd15e79ac3136f4e8be3932c957ca189c9c7c27d50accb761813"), looks := true }, kinds := [], alts := [], laidByText := true, laidKinds := [.data, .data, .data, .sentinel, .sentinel, .sentinel, .sentinel], laidTests := true, laidLooks := .later }
def DurableAgainCardSaid : Prop := Claim7.holds Tryz.pinned (.plain (OpenSpec.ofChange durableAgainSpec)) durableAgainCard

/-- THE TIED CARD OF 'latchkeylaw13.DurableNone'. -/
def durableNoneCard : Claim7 := { stood := { row := durableNoneRow, standIns := [], harness := (true, "4f4102ceb53bfd15e79ac3136f4e8be3932c957ca189c9c7c27d50accb761813"), looks := true }, kinds := [], alts := [], laidByText := true, laidKinds := [.data, .data, .data, .sentinel, .sentinel, .sentinel, .sentinel], laidTests := true, laidLooks := .later }
def DurableNoneCardSaid : Prop := Claim7.holds Tryz.pinned (.plain (OpenSpec.ofChange durableNoneSpec)) durableNoneCard

/-- THE SECOND FORM's CARD OF 'latchkeylaw13.DurableFolds'. -/
def durableFoldsUptoCard : Claim7 := { stood := { row := durableFoldsUptoRow, standIns := [], harness := (true, "4f4102ceb53bfd15e79ac3136f4e8be3932c957ca189c9c7c27d50accb761813"), looks := true }, kinds := [], alts := [], laidByText := true, laidKinds := [.data, .data, .data, .sentinel, .sentinel, .sentinel, .sentinel], laidTests := true, laidLooks := .later }
def DurableFoldsUptoCardSaid : Prop := Claim7.holds Tryz.pinned (.plain (OpenSpec.upto durableFoldsSpec)) durableFoldsUptoCard

/-- THE SECOND FORM's CARD OF 'latchkeylaw13.DurableSure'. -/
def durableSureUptoCard : Claim7 := { stood := { row := durableSureUptoRow, standIns := [], harness := (true, "4f4102ceb53bfd15e79ac3136f4e8be3932c957ca189c9c7c27d50accb761813"), looks := true }, kinds := [], alts := [], laidByText := true, laidKinds := [.data, .data, .data, .sentinel, .sentinel, .sentinel, .sentinel], laidTests := true, laidLooks := .later }
def DurableSureUptoCardSaid : Prop := Claim7.holds Tryz.pinned (.plain (OpenSpec.upto durableSureSpec)) durableSureUptoCard

/-- THE SECOND FORM's CARD OF 'latchkeylaw13.DurableAgain'. -/
def durableAgainUptoCard : Claim7 := { stood := { row := durableAgainUptoRow, standIns := [], harness := (true, "4f4102ceb53bfd15e79ac3136f4e8be3932c957ca189c9c7c27d50accb761813"), looks := true }, kinds := [], alts := [], laidByText := true, laidKinds := [.data, .data, .data, .sentinel, .sentinel, .sentinel, .sentinel], laidTests := true, laidLooks := .later }
def DurableAgainUptoCardSaid : Prop := Claim7.holds Tryz.pinned (.plain (OpenSpec.upto durableAgainSpec)) durableAgainUptoCard

/-- THE SECOND FORM's CARD OF 'latchkeylaw13.DurableNone'. -/
def durableNoneUptoCard : Claim7 := { stood := { row := durableNoneUptoRow, standIns := [], harness := (true, "4f4102ceb53bfd15e79ac3136f4e8be3932c957ca189c9c7c27d50accb761813"), looks := true }, kinds := [], alts := [], laidByText := true, laidKinds := [.data, .data, .data, .sentinel, .sentinel, .sentinel, .sentinel], laidTests := true, laidLooks := .later }
def DurableNoneUptoCardSaid : Prop := Claim7.holds Tryz.pinned (.plain (OpenSpec.upto durableNoneSpec)) durableNoneUptoCard
end Rows
end Go.Proofs.YtkfalpmimdcneaaGreatDoor
