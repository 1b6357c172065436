/-
  DERIVED. GIVEN WITH THE SEED: THE CARDS: each row of YtgpbhjjajpbeeaaDoorRows.lean that lists a variable, with what it lists TIED to the program's text (the seventh form; the later family's looks); each row that meets fmt, with fmt's text TOLD by the authors' own Lean function (tested against real Go, not proved from fmt's source: count such statements apart). THE CARD IS WHAT COUNTS. Prove the row's statement (the work); the ties are given (YtgpbhjjajpbeeaaDoorTie.lean); close each card by the builder's one call (the guide's Derived/Test/ToyasCard.lean, 'card_holds'). Laid BY PROGRAM, IN A SANDBOX (cutbox-door.mjs). By AI agents, Wed Nov 11 2026. No macro, syntax, notation, axiom, sorry.
-/
import Derived.Test.YtgpbhjjajpbeeaaDoorRows
import GoSem.ClaimSeven
namespace Go.Proofs.YtgpbhjjajpbeeaaDoor
namespace Rows

/-- THE TIED CARD OF 'keydirlaw.Manifests'. -/
def manifestsCard : Claim7 := { stood := { row := manifestsRow, standIns := [], harness := (true, "4f77cac664f71606b9625b4fd8a8e51c8c519afb1fa21033deaf0dd942d330ef"), looks := true }, kinds := [], alts := [], laidByText := true, laidKinds := [.handle], laidTests := true, laidLooks := .later }
def ManifestsCardSaid : Prop := Claim7.holds Tryd.pinned (.plain (OpenSpec.ofChange manifestsSpec)) manifestsCard

/-- THE TIED CARD OF 'keydirlaw.Records'. -/
def recordsCard : Claim7 := { stood := { row := recordsRow, standIns := [], harness := (true, "4f77cac664f71606b9625b4fd8a8e51c8c519afb1fa21033deaf0dd942d330ef"), looks := true }, kinds := [], alts := [], laidByText := true, laidKinds := [.handle], laidTests := true, laidLooks := .later }
def RecordsCardSaid : Prop := Claim7.holds Tryd.pinned (.plain (OpenSpec.ofChange recordsSpec)) recordsCard

/-- THE SECOND FORM's CARD OF 'keydirlaw.Manifests'. -/
def manifestsUptoCard : Claim7 := { stood := { row := manifestsUptoRow, standIns := [], harness := (true, "4f77cac664f71606b9625b4fd8a8e51c8c519afb1fa21033deaf0dd942d330ef"), looks := true }, kinds := [], alts := [], laidByText := true, laidKinds := [.handle], laidTests := true, laidLooks := .later }
def ManifestsUptoCardSaid : Prop := Claim7.holds Tryd.pinned (.plain (OpenSpec.upto manifestsSpec)) manifestsUptoCard

/-- THE SECOND FORM's CARD OF 'keydirlaw.Records'. -/
def recordsUptoCard : Claim7 := { stood := { row := recordsUptoRow, standIns := [], harness := (true, "4f77cac664f71606b9625b4fd8a8e51c8c519afb1fa21033deaf0dd942d330ef"), looks := true }, kinds := [], alts := [], laidByText := true, laidKinds := [.handle], laidTests := true, laidLooks := .later }
def RecordsUptoCardSaid : Prop := Claim7.holds Tryd.pinned (.plain (OpenSpec.upto recordsSpec)) recordsUptoCard
end Rows
end Go.Proofs.YtgpbhjjajpbeeaaDoor
