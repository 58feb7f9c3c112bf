/-
  DERIVED. GIVEN WITH THE SEED: THE CARDS: each row of YtkceipkedmfeiaaGreatDoorRows.lean that lists a variable, with what it lists TIED to the program's text (the seventh form; the later family's looks); each row that meets fmt, with fmt's text TOLD by the authors' own Lean function (tested against real Go, not proved from fmt's source: count such statements apart). THE CARD IS WHAT COUNTS. Prove the row's statement (the work); the ties are given (YtkceipkedmfeiaaGreatDoorTie.lean); close each card by the builder's one call (the guide's Derived/Test/ToyasCard.lean, 'card_holds'). Laid BY PROGRAM, IN A SANDBOX (cutbox-door.mjs). By AI agents, Wed Nov 11 2026. No macro, syntax, notation, axiom, sorry.
-/
import Derived.Test.YtkceipkedmfeiaaGreatDoorRows
import GoSem.ClaimSeven
namespace Go.Proofs.YtkceipkedmfeiaaGreatDoor
namespace Rows

/-- THE TIED CARD OF 'voussoirlaw28.ResolveLost'. -/
def resolveLostCard : Claim7 := { stood := { row := resolveLostRow, standIns := [], harness := (true, "cd68013f17659528890b58ad0d335288b56b9a66061d9b44f8dfd580c65862fe"), looks := true }, kinds := [], alts := [], laidByText := true, laidKinds := [.data, .pinned], laidTests := true, laidLooks := .later }
def ResolveLostCardSaid : Prop := Claim7.holds Tryz.pinned (.plain (OpenSpec.ofChange resolveLostSpec)) resolveLostCard

/-- THE TIED CARD OF 'voussoirlaw28.ResolveSelf'. -/
def resolveSelfCard : Claim7 := { stood := { row := resolveSelfRow, standIns := [], harness := (true, "cd68013f17659528890b58ad0d335288b56b9a66061d9b44f8dfd580c65862fe"), looks := true }, kinds := [], alts := [], laidByText := true, laidKinds := [.data, .pinned], laidTests := true, laidLooks := .later }
def ResolveSelfCardSaid : Prop := Claim7.holds Tryz.pinned (.plain (OpenSpec.ofChange resolveSelfSpec)) resolveSelfCard

/-- THE TIED CARD OF 'voussoirlaw28.ResolveRenaming'. -/
def resolveRenamingCard : Claim7 := { stood := { row := resolveRenamingRow, standIns := [], harness := (true, "cd68013f17659528890b58ad0d335288b56b9a66061d9b44f8dfd580c65862fe"), looks := true }, kinds := [], alts := [], laidByText := true, laidKinds := [.data, .pinned], laidTests := true, laidLooks := .later }
def ResolveRenamingCardSaid : Prop := Claim7.holds Tryz.pinned (.plain (OpenSpec.ofChange resolveRenamingSpec)) resolveRenamingCard

/-- THE TIED CARD OF 'voussoirlaw28.ResolveRoundTrip'. -/
def resolveRoundTripCard : Claim7 := { stood := { row := resolveRoundTripRow, standIns := [], harness := (true, "cd68013f17659528890b58ad0d335288b56b9a66061d9b44f8dfd580c65862fe"), looks := true }, kinds := [], alts := [], laidByText := true, laidKinds := [.data, .data, .data, .data, .sentinel, .sentinel, .pinned], laidTests := true, laidLooks := .later }
def ResolveRoundTripCardSaid : Prop := Claim7.holds Tryz.pinned (.plain (OpenSpec.ofChange resolveRoundTripSpec)) resolveRoundTripCard

/-- THE TIED CARD OF 'voussoirlaw28.ResolveLocality'. -/
def resolveLocalityCard : Claim7 := { stood := { row := resolveLocalityRow, standIns := [], harness := (true, "cd68013f17659528890b58ad0d335288b56b9a66061d9b44f8dfd580c65862fe"), looks := true }, kinds := [], alts := [], laidByText := true, laidKinds := [.data, .pinned], laidTests := true, laidLooks := .later }
def ResolveLocalityCardSaid : Prop := Claim7.holds Tryz.pinned (.plain (OpenSpec.ofChange resolveLocalitySpec)) resolveLocalityCard

/-- THE TIED CARD OF 'voussoirlaw28.ResolveReference'. -/
def resolveReferenceCard : Claim7 := { stood := { row := resolveReferenceRow, standIns := [], harness := (true, "cd68013f17659528890b58ad0d335288b56b9a66061d9b44f8dfd580c65862fe"), looks := true }, kinds := [], alts := [], laidByText := true, laidKinds := [.data, .data, .data, .data, .sentinel, .sentinel, .pinned], laidTests := true, laidLooks := .later }
def ResolveReferenceCardSaid : Prop := Claim7.holds Tryz.pinned (.plain (OpenSpec.ofChange resolveReferenceSpec)) resolveReferenceCard

/-- THE SECOND FORM's CARD OF 'voussoirlaw28.ResolveLost'. -/
def resolveLostUptoCard : Claim7 := { stood := { row := resolveLostUptoRow, standIns := [], harness := (true, "cd68013f17659528890b58ad0d335288b56b9a66061d9b44f8dfd580c65862fe"), looks := true }, kinds := [], alts := [], laidByText := true, laidKinds := [.data, .pinned], laidTests := true, laidLooks := .later }
def ResolveLostUptoCardSaid : Prop := Claim7.holds Tryz.pinned (.plain (OpenSpec.upto resolveLostSpec)) resolveLostUptoCard

/-- THE SECOND FORM's CARD OF 'voussoirlaw28.ResolveSelf'. -/
def resolveSelfUptoCard : Claim7 := { stood := { row := resolveSelfUptoRow, standIns := [], harness := (true, "cd68013f17659528890b58ad0d335288b56b9a66061d9b44f8dfd580c65862fe"), looks := true }, kinds := [], alts := [], laidByText := true, laidKinds := [.data, .pinned], laidTests := true, laidLooks := .later }
def ResolveSelfUptoCardSaid : Prop := Claim7.holds Tryz.pinned (.plain (OpenSpec.upto resolveSelfSpec)) resolveSelfUptoCard

/-- THE SECOND FORM's CARD OF 'voussoirlaw28.ResolveRenaming'. -/
def resolveRenamingUptoCard : Claim7 := { stood := { row := resolveRenamingUptoRow, standIns := [], harness := (true, "cd68013f17659528890b58ad0d335288b56b9a66061d9b44f8dfd580c65862fe"), looks := true }, kinds := [], alts := [], laidByText := true, laidKinds := [.data, .pinned], laidTests := true, laidLooks := .later }
def ResolveRenamingUptoCardSaid : Prop := Claim7.holds Tryz.pinned (.plain (OpenSpec.upto resolveRenamingSpec)) resolveRenamingUptoCard

/-- THE SECOND FORM's CARD OF 'voussoirlaw28.ResolveRoundTrip'. -/
def resolveRoundTripUptoCard : Claim7 := { stood := { row := resolveRoundTripUptoRow, standIns := [], harness := (true, "cd68013f17659528890b58ad0d335288b56b9a66061d9b44f8dfd580c65862fe"), looks := true }, kinds := [], alts := [], laidByText := true, laidKinds := [.data, .data, .data, .data, .sentinel, .sentinel, .pinned], laidTests := true, laidLooks := .later }
def ResolveRoundTripUptoCardSaid : Prop := Claim7.holds Tryz.pinned (.plain (OpenSpec.upto resolveRoundTripSpec)) resolveRoundTripUptoCard

/-- THE SECOND FORM's CARD OF 'voussoirlaw28.ResolveLocality'. -/
def resolveLocalityUptoCard : Claim7 := { stood := { row := resolveLocalityUptoRow, standIns := [], harness := (true, "cd68013f17659528890b58ad0d335288b56b9a66061d9b44f8dfd580c65862fe"), looks := true }, kinds := [], alts := [], laidByText := true, laidKinds := [.data, .pinned], laidTests := true, laidLooks := .later }
def ResolveLocalityUptoCardSaid : Prop := Claim7.holds Tryz.pinned (.plain (OpenSpec.upto resolveLocalitySpec)) resolveLocalityUptoCard

/-- THE SECOND FORM's CARD OF 'voussoirlaw28.ResolveReference'. -/
def resolveReferenceUptoCard : Claim7 := { stood := { row := resolveReferenceUptoRow, standIns := [], harness := (true, "cd68013f17659528890b58ad0d335288b56b9a66061d9b44f8dfd580c65862fe"), looks := true }, kinds := [], alts := [], laidByText := true, laidKinds := [.data, .data, .data, .data, .sentinel, .sentinel, .pinned], laidTests := true, laidLooks := .later }
def ResolveReferenceUptoCardSaid : Prop := Claim7.holds Tryz.pinned (.plain (OpenSpec.upto resolveReferenceSpec)) resolveReferenceUptoCard
end Rows
end Go.Proofs.YtkceipkedmfeiaaGreatDoor
