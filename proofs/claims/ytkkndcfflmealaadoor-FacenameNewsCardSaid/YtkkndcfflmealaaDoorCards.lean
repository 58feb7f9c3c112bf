/-
  DERIVED. GIVEN WITH THE SEED: THE CARDS: each row of YtkkndcfflmealaaDoorRows.lean that lists a variable, with what it lists TIED to the program's text (the seventh form; the later family's looks); each row that meets fmt, with fmt's text TOLD by the authors' own Lean function (tested against real Go, not proved from fmt's source: count such statements apart). THE CARD IS WHAT COUNTS. Prove the row's statement (the work); the ties are given (YtkkndcfflmealaaDoorTie.lean); close each card by the builder's one call (the guide's Derived/Test/ToyasCard.lean, 'card_holds'). Laid BY PROGRAM, IN A SANDBOX (cutbox-door.mjs). By AI agents, Wed Nov 11 2026. No macro, syntax, notation, axiom, sorry.
-/
import Derived.Test.YtkkndcfflmealaaDoorRows
import GoSem.ClaimSeven
namespace Go.Proofs.YtkkndcfflmealaaDoor
namespace Rows

/-- THE TIED CARD OF 'voussoirlaw27.FacenameNews'. -/
def facenameNewsCard : Claim7 := { stood := { row := facenameNewsRow, standIns := [], harness := (true, "8207a92fccc407bb8b8cf6dfcdfeaa873170b7355cf303c0e8b18f73b9a1f5fb"), looks := true }, kinds := [], alts := [], laidByText := true, laidKinds := [.data, .data, .data, .data, .sentinel, .sentinel, .pinned], laidTests := true, laidLooks := .later }
def FacenameNewsCardSaid : Prop := Claim7.holds Tryd.pinned (.plain (OpenSpec.ofChange facenameNewsSpec)) facenameNewsCard

/-- THE TIED CARD OF 'voussoirlaw27.FacenameParses'. -/
def facenameParsesCard : Claim7 := { stood := { row := facenameParsesRow, standIns := [], harness := (true, "8207a92fccc407bb8b8cf6dfcdfeaa873170b7355cf303c0e8b18f73b9a1f5fb"), looks := true }, kinds := [], alts := [], laidByText := true, laidKinds := [.data, .data, .data, .data, .sentinel, .sentinel, .pinned], laidTests := true, laidLooks := .later }
def FacenameParsesCardSaid : Prop := Claim7.holds Tryd.pinned (.plain (OpenSpec.ofChange facenameParsesSpec)) facenameParsesCard

/-- THE TIED CARD OF 'voussoirlaw27.FacenameRoundTrip'. -/
def facenameRoundTripCard : Claim7 := { stood := { row := facenameRoundTripRow, standIns := [], harness := (true, "8207a92fccc407bb8b8cf6dfcdfeaa873170b7355cf303c0e8b18f73b9a1f5fb"), looks := true }, kinds := [], alts := [], laidByText := true, laidKinds := [.data, .data, .data, .data, .sentinel, .sentinel, .pinned], laidTests := true, laidLooks := .later }
def FacenameRoundTripCardSaid : Prop := Claim7.holds Tryd.pinned (.plain (OpenSpec.ofChange facenameRoundTripSpec)) facenameRoundTripCard

/-- THE TIED CARD OF 'voussoirlaw27.FacenameCommutes'. -/
def facenameCommutesCard : Claim7 := { stood := { row := facenameCommutesRow, standIns := [], harness := (true, "8207a92fccc407bb8b8cf6dfcdfeaa873170b7355cf303c0e8b18f73b9a1f5fb"), looks := true }, kinds := [], alts := [], laidByText := true, laidKinds := [.data, .data, .data, .data, .sentinel, .sentinel, .pinned], laidTests := true, laidLooks := .later }
def FacenameCommutesCardSaid : Prop := Claim7.holds Tryd.pinned (.plain (OpenSpec.ofChange facenameCommutesSpec)) facenameCommutesCard

/-- THE SECOND FORM's CARD OF 'voussoirlaw27.FacenameNews'. -/
def facenameNewsUptoCard : Claim7 := { stood := { row := facenameNewsUptoRow, standIns := [], harness := (true, "8207a92fccc407bb8b8cf6dfcdfeaa873170b7355cf303c0e8b18f73b9a1f5fb"), looks := true }, kinds := [], alts := [], laidByText := true, laidKinds := [.data, .data, .data, .data, .sentinel, .sentinel, .pinned], laidTests := true, laidLooks := .later }
def FacenameNewsUptoCardSaid : Prop := Claim7.holds Tryd.pinned (.plain (OpenSpec.upto facenameNewsSpec)) facenameNewsUptoCard

/-- THE SECOND FORM's CARD OF 'voussoirlaw27.FacenameParses'. -/
def facenameParsesUptoCard : Claim7 := { stood := { row := facenameParsesUptoRow, standIns := [], harness := (true, "8207a92fccc407bb8b8cf6dfcdfeaa873170b7355cf303c0e8b18f73b9a1f5fb"), looks := true }, kinds := [], alts := [], laidByText := true, laidKinds := [.data, .data, .data, .data, .sentinel, .sentinel, .pinned], laidTests := true, laidLooks := .later }
def FacenameParsesUptoCardSaid : Prop := Claim7.holds Tryd.pinned (.plain (OpenSpec.upto facenameParsesSpec)) facenameParsesUptoCard

/-- THE SECOND FORM's CARD OF 'voussoirlaw27.FacenameRoundTrip'. -/
def facenameRoundTripUptoCard : Claim7 := { stood := { row := facenameRoundTripUptoRow, standIns := [], harness := (true, "8207a92fccc407bb8b8cf6dfcdfeaa873170b7355cf303c0e8b18f73b9a1f5fb"), looks := true }, kinds := [], alts := [], laidByText := true, laidKinds := [.data, .data, .data, .data, .sentinel, .sentinel, .pinned], laidTests := true, laidLooks := .later }
def FacenameRoundTripUptoCardSaid : Prop := Claim7.holds Tryd.pinned (.plain (OpenSpec.upto facenameRoundTripSpec)) facenameRoundTripUptoCard

/-- THE SECOND FORM's CARD OF 'voussoirlaw27.FacenameCommutes'. -/
def facenameCommutesUptoCard : Claim7 := { stood := { row := facenameCommutesUptoRow, standIns := [], harness := (true, "8207a92fccc407bb8b8cf6dfcdfeaa873170b7355cf303c0e8b18f73b9a1f5fb"), looks := true }, kinds := [], alts := [], laidByText := true, laidKinds := [.data, .data, .data, .data, .sentinel, .sentinel, .pinned], laidTests := true, laidLooks := .later }
def FacenameCommutesUptoCardSaid : Prop := Claim7.holds Tryd.pinned (.plain (OpenSpec.upto facenameCommutesSpec)) facenameCommutesUptoCard
end Rows
end Go.Proofs.YtkkndcfflmealaaDoor
