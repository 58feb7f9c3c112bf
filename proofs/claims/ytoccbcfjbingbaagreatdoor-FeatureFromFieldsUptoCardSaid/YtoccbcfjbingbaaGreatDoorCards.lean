/-
  DERIVED. GIVEN WITH THE SEED: THE CARDS: each row of YtoccbcfjbingbaaGreatDoorRows.lean that lists a variable, with what it lists TIED to the program's text (the seventh form; the later family's looks); each row that meets fmt, with fmt's text TOLD by the authors' own Lean function (tested against real Go, not proved from fmt's source: count such statements apart). THE CARD IS WHAT COUNTS. Prove the row's statement (the work); the ties are given (YtoccbcfjbingbaaGreatDoorTie.lean); close each card by the builder's one call (the guide's Derived/Test/ToyasCard.lean, 'card_holds'). Laid BY PROGRAM, IN A SANDBOX (cutbox-door.mjs). By AI agents, Wed Nov 11 2026. No macro, syntax, notation, axiom, sorry.
-/
import Derived.Test.YtoccbcfjbingbaaGreatDoorRows
import GoSem.ClaimSeven
namespace Go.Proofs.YtoccbcfjbingbaaGreatDoor
namespace Rows

/-- THE TIED CARD OF 'voussoirlaw30.FeatureFromFields'. -/
def featureFromFieldsCard : Claim7 := { stood := { row := featureFromFieldsRow, standIns := [], harness := (true, "4034a1c8516e6698f17aa0c932884ca24bdf9a45a06f93cefb03a04b46101878"), looks := true }, kinds := [], alts := [], laidByText := true, laidKinds := [.data, .data, .data, .data, .sentinel, .sentinel, .widerDeep, .pinned], laidTests := true, laidLooks := .later }
def FeatureFromFieldsCardSaid : Prop := Claim7.holds Tryz.pinned (.plain (OpenSpec.ofChange featureFromFieldsSpec)) featureFromFieldsCard

/-- THE TIED CARD OF 'voussoirlaw30.FeatureValidity'. -/
def featureValidityCard : Claim7 := { stood := { row := featureValidityRow, standIns := [], harness := (true, "4034a1c8516e6698f17aa0c932884ca24bdf9a45a06f93cefb03a04b46101878"), looks := true }, kinds := [], alts := [], laidByText := true, laidKinds := [.data, .data, .data, .data, .sentinel, .sentinel, .widerDeep, .pinned], laidTests := true, laidLooks := .later }
def FeatureValidityCardSaid : Prop := Claim7.holds Tryz.pinned (.plain (OpenSpec.ofChange featureValiditySpec)) featureValidityCard

/-- THE TIED CARD OF 'voussoirlaw30.FeatureRoundTrip'. -/
def featureRoundTripCard : Claim7 := { stood := { row := featureRoundTripRow, standIns := [], harness := (true, "4034a1c8516e6698f17aa0c932884ca24bdf9a45a06f93cefb03a04b46101878"), looks := true }, kinds := [], alts := [], laidByText := true, laidKinds := [.data, .data, .data, .data, .sentinel, .sentinel, .widerDeep, .pinned], laidTests := true, laidLooks := .later }
def FeatureRoundTripCardSaid : Prop := Claim7.holds Tryz.pinned (.plain (OpenSpec.ofChange featureRoundTripSpec)) featureRoundTripCard

/-- THE TIED CARD OF 'voussoirlaw30.FeatureRequiredFields'. -/
def featureRequiredFieldsCard : Claim7 := { stood := { row := featureRequiredFieldsRow, standIns := [], harness := (true, "4034a1c8516e6698f17aa0c932884ca24bdf9a45a06f93cefb03a04b46101878"), looks := true }, kinds := [], alts := [], laidByText := true, laidKinds := [.data, .data, .data, .data, .sentinel, .sentinel, .widerDeep, .pinned], laidTests := true, laidLooks := .later }
def FeatureRequiredFieldsCardSaid : Prop := Claim7.holds Tryz.pinned (.plain (OpenSpec.ofChange featureRequiredFieldsSpec)) featureRequiredFieldsCard

/-- THE TIED CARD OF 'voussoirlaw30.FeatureKinds'. -/
def featureKindsCard : Claim7 := { stood := { row := featureKindsRow, standIns := [], harness := (true, "4034a1c8516e6698f17aa0c932884ca24bdf9a45a06f93cefb03a04b46101878"), looks := true }, kinds := [], alts := [], laidByText := true, laidKinds := [.data, .data, .data, .data, .sentinel, .sentinel, .widerDeep, .pinned], laidTests := true, laidLooks := .later }
def FeatureKindsCardSaid : Prop := Claim7.holds Tryz.pinned (.plain (OpenSpec.ofChange featureKindsSpec)) featureKindsCard

/-- THE TIED CARD OF 'voussoirlaw30.FeatureFields'. -/
def featureFieldsCard : Claim7 := { stood := { row := featureFieldsRow, standIns := [], harness := (true, "4034a1c8516e6698f17aa0c932884ca24bdf9a45a06f93cefb03a04b46101878"), looks := true }, kinds := [], alts := [], laidByText := true, laidKinds := [.data, .data, .data, .data, .sentinel, .sentinel, .widerDeep, .pinned], laidTests := true, laidLooks := .later }
def FeatureFieldsCardSaid : Prop := Claim7.holds Tryz.pinned (.plain (OpenSpec.ofChange featureFieldsSpec)) featureFieldsCard

/-- THE SECOND FORM's CARD OF 'voussoirlaw30.FeatureFromFields'. -/
def featureFromFieldsUptoCard : Claim7 := { stood := { row := featureFromFieldsUptoRow, standIns := [], harness := (true, "4034a1c8516e6698f17aa0c932884ca24bdf9a45a06f93cefb03a04b46101878"), looks := true }, kinds := [], alts := [], laidByText := true, laidKinds := [.data, .data, .data, .data, .sentinel, .sentinel, .widerDeep, .pinned], laidTests := true, laidLooks := .later }
def FeatureFromFieldsUptoCardSaid : Prop := Claim7.holds Tryz.pinned (.plain (OpenSpec.upto featureFromFieldsSpec)) featureFromFieldsUptoCard

/-- THE SECOND FORM's CARD OF 'voussoirlaw30.FeatureValidity'. -/
def featureValidityUptoCard : Claim7 := { stood := { row := featureValidityUptoRow, standIns := [], harness := (true, "4034a1c8516e6698f17aa0c932884ca24bdf9a45a06f93cefb03a04b46101878"), looks := true }, kinds := [], alts := [], laidByText := true, laidKinds := [.data, .data, .data, .data, .sentinel, .sentinel, .widerDeep, .pinned], laidTests := true, laidLooks := .later }
def FeatureValidityUptoCardSaid : Prop := Claim7.holds Tryz.pinned (.plain (OpenSpec.upto featureValiditySpec)) featureValidityUptoCard

/-- THE SECOND FORM's CARD OF 'voussoirlaw30.FeatureRoundTrip'. -/
def featureRoundTripUptoCard : Claim7 := { stood := { row := featureRoundTripUptoRow, standIns := [], harness := (true, "4034a1c8516e6698f17aa0c932884ca24bdf9a45a06f93cefb03a04b46101878"), looks := true }, kinds := [], alts := [], laidByText := true, laidKinds := [.data, .data, .data, .data, .sentinel, .sentinel, .widerDeep, .pinned], laidTests := true, laidLooks := .later }
def FeatureRoundTripUptoCardSaid : Prop := Claim7.holds Tryz.pinned (.plain (OpenSpec.upto featureRoundTripSpec)) featureRoundTripUptoCard

/-- THE SECOND FORM's CARD OF 'voussoirlaw30.FeatureRequiredFields'. -/
def featureRequiredFieldsUptoCard : Claim7 := { stood := { row := featureRequiredFieldsUptoRow, standIns := [], harness := (true, "4034a1c8516e6698f17aa0c932884ca24bdf9a45a06f93cefb03a04b46101878"), looks := true }, kinds := [], alts := [], laidByText := true, laidKinds := [.data, .data, .data, .data, .sentinel, .sentinel, .widerDeep, .pinned], laidTests := true, laidLooks := .later }
def FeatureRequiredFieldsUptoCardSaid : Prop := Claim7.holds Tryz.pinned (.plain (OpenSpec.upto featureRequiredFieldsSpec)) featureRequiredFieldsUptoCard

/-- THE SECOND FORM's CARD OF 'voussoirlaw30.FeatureKinds'. -/
def featureKindsUptoCard : Claim7 := { stood := { row := featureKindsUptoRow, standIns := [], harness := (true, "4034a1c8516e6698f17aa0c932884ca24bdf9a45a06f93cefb03a04b46101878"), looks := true }, kinds := [], alts := [], laidByText := true, laidKinds := [.data, .data, .data, .data, .sentinel, .sentinel, .widerDeep, .pinned], laidTests := true, laidLooks := .later }
def FeatureKindsUptoCardSaid : Prop := Claim7.holds Tryz.pinned (.plain (OpenSpec.upto featureKindsSpec)) featureKindsUptoCard

/-- THE SECOND FORM's CARD OF 'voussoirlaw30.FeatureFields'. -/
def featureFieldsUptoCard : Claim7 := { stood := { row := featureFieldsUptoRow, standIns := [], harness := (true, "4034a1c8516e6698f17aa0c932884ca24bdf9a45a06f93cefb03a04b46101878"), looks := true }, kinds := [], alts := [], laidByText := true, laidKinds := [.data, .data, .data, .data, .sentinel, .sentinel, .widerDeep, .pinned], laidTests := true, laidLooks := .later }
def FeatureFieldsUptoCardSaid : Prop := Claim7.holds Tryz.pinned (.plain (OpenSpec.upto featureFieldsSpec)) featureFieldsUptoCard
end Rows
end Go.Proofs.YtoccbcfjbingbaaGreatDoor
