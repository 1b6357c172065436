/-
  DERIVED. GIVEN WITH THE SEED: THE CARDS: each row of YtgpbhjjajpbeeaaGreatDoorRows.lean that lists a variable, with what it lists TIED to the program's text (the seventh form; the later family's looks); each row that meets fmt, with fmt's text TOLD by the authors' own Lean function (tested against real Go, not proved from fmt's source: count such statements apart). THE CARD IS WHAT COUNTS. Prove the row's statement (the work); the ties are given (YtgpbhjjajpbeeaaGreatDoorTie.lean); close each card by the builder's one call (the guide's Derived/Test/ToyasCard.lean, 'card_holds'). Laid BY PROGRAM, IN A SANDBOX (cutbox-door.mjs). By AI agents, Wed Nov 11 2026. No macro, syntax, notation, axiom, sorry.
-/
import Derived.Test.YtgpbhjjajpbeeaaGreatDoorRows
import GoSem.ClaimSeven
namespace Go.Proofs.YtgpbhjjajpbeeaaGreatDoor
namespace Rows

/-- THE TIED CARD OF 'keydirlaw.Gone'. -/
def goneCard : Claim7 := { stood := { row := goneRow, standIns := [], harness := (true, "aea351669eaedf8ec44698563977d47182d001070fda8619e6130625a36ca079"), looks := true }, kinds := [], alts := [], goes := true, laidByText := true, laidKinds := [.data, .data, .data, .handle], laidTests := true, laidLooks := .later }
def GoneCardSaid : Prop := Claim7.holds Tryz.pinned (.plain (OpenSpec.ofChange goneSpec)) goneCard

/-- THE TIED CARD OF 'keydirlaw.Counts'. -/
def countsCard : Claim7 := { stood := { row := countsRow, standIns := [], harness := (true, "aea351669eaedf8ec44698563977d47182d001070fda8619e6130625a36ca079"), looks := true }, kinds := [], alts := [], goes := true, laidByText := true, laidKinds := [.data, .data, .data, .handle], laidTests := true, laidLooks := .later }
def CountsCardSaid : Prop := Claim7.holds Tryz.pinned (.plain (OpenSpec.ofChange countsSpec)) countsCard

/-- THE TIED CARD OF 'keydirlaw.Opens'. -/
def opensCard : Claim7 := { stood := { row := opensRow, standIns := [], harness := (true, "aea351669eaedf8ec44698563977d47182d001070fda8619e6130625a36ca079"), looks := true }, kinds := [], alts := [], goes := true, laidByText := true, laidKinds := [.data, .data, .data, .handle], laidTests := true, laidLooks := .later }
def OpensCardSaid : Prop := Claim7.holds Tryz.pinned (.plain (OpenSpec.ofChange opensSpec)) opensCard

/-- THE TIED CARD OF 'keydirlaw.Cleans'. -/
def cleansCard : Claim7 := { stood := { row := cleansRow, standIns := [], harness := (true, "aea351669eaedf8ec44698563977d47182d001070fda8619e6130625a36ca079"), looks := true }, kinds := [], alts := [], goes := true, laidByText := true, laidKinds := [.data, .data, .data, .data, .handle, .pinned], laidTests := true, laidLooks := .later }
def CleansCardSaid : Prop := Claim7.holds Tryz.pinned (.plain (OpenSpec.ofChange cleansSpec)) cleansCard

/-- THE TIED CARD OF 'keydirlaw.Refuses'. -/
def refusesCard : Claim7 := { stood := { row := refusesRow, standIns := [], harness := (true, "aea351669eaedf8ec44698563977d47182d001070fda8619e6130625a36ca079"), looks := true }, kinds := [], alts := [], goes := true, laidByText := true, laidKinds := [.data, .data, .data, .data, .handle, .pinned], laidTests := true, laidLooks := .later }
def RefusesCardSaid : Prop := Claim7.holds Tryz.pinned (.plain (OpenSpec.ofChange refusesSpec)) refusesCard

/-- THE TIED CARD OF 'keydirlaw.Again'. -/
def againCard : Claim7 := { stood := { row := againRow, standIns := [], harness := (true, "aea351669eaedf8ec44698563977d47182d001070fda8619e6130625a36ca079"), looks := true }, kinds := [], alts := [], goes := true, laidByText := true, laidKinds := [.data, .data, .data, .data, .handle, .pinned], laidTests := true, laidLooks := .later }
def AgainCardSaid : Prop := Claim7.holds Tryz.pinned (.plain (OpenSpec.ofChange againSpec)) againCard

/-- THE TIED CARD OF 'keydirlaw.Merges'. -/
def mergesCard : Claim7 := { stood := { row := mergesRow, standIns := [], harness := (true, "aea351669eaedf8ec44698563977d47182d001070fda8619e6130625a36ca079"), looks := true }, kinds := [], alts := [], goes := true, laidByText := true, laidKinds := [.data, .data, .data, .data, .handle, .pinned], laidTests := true, laidLooks := .later }
def MergesCardSaid : Prop := Claim7.holds Tryz.pinned (.plain (OpenSpec.ofChange mergesSpec)) mergesCard

/-- THE TIED CARD OF 'keydirlaw.Crashes'. -/
def crashesCard : Claim7 := { stood := { row := crashesRow, standIns := [], harness := (true, "aea351669eaedf8ec44698563977d47182d001070fda8619e6130625a36ca079"), looks := true }, kinds := [], alts := [], goes := true, laidByText := true, laidKinds := [.data, .data, .data, .data, .handle, .pinned], laidTests := true, laidLooks := .later }
def CrashesCardSaid : Prop := Claim7.holds Tryz.pinned (.plain (OpenSpec.ofChange crashesSpec)) crashesCard

/-- THE TIED CARD OF 'keydirlaw.All'. -/
def allCard : Claim7 := { stood := { row := allRow, standIns := [], harness := (true, "aea351669eaedf8ec44698563977d47182d001070fda8619e6130625a36ca079"), looks := true }, kinds := [], alts := [], goes := true, laidByText := true, laidKinds := [.data, .data, .data, .data, .handle, .pinned], laidTests := true, laidLooks := .later }
def AllCardSaid : Prop := Claim7.holds Tryz.pinned (.plain (OpenSpec.ofChange allSpec)) allCard

/-- THE SECOND FORM's CARD OF 'keydirlaw.Gone'. -/
def goneUptoCard : Claim7 := { stood := { row := goneUptoRow, standIns := [], harness := (true, "aea351669eaedf8ec44698563977d47182d001070fda8619e6130625a36ca079"), looks := true }, kinds := [], alts := [], goes := true, laidByText := true, laidKinds := [.data, .data, .data, .handle], laidTests := true, laidLooks := .later }
def GoneUptoCardSaid : Prop := Claim7.holds Tryz.pinned (.plain (OpenSpec.upto goneSpec)) goneUptoCard

/-- THE SECOND FORM's CARD OF 'keydirlaw.Counts'. -/
def countsUptoCard : Claim7 := { stood := { row := countsUptoRow, standIns := [], harness := (true, "aea351669eaedf8ec44698563977d47182d001070fda8619e6130625a36ca079"), looks := true }, kinds := [], alts := [], goes := true, laidByText := true, laidKinds := [.data, .data, .data, .handle], laidTests := true, laidLooks := .later }
def CountsUptoCardSaid : Prop := Claim7.holds Tryz.pinned (.plain (OpenSpec.upto countsSpec)) countsUptoCard

/-- THE SECOND FORM's CARD OF 'keydirlaw.Opens'. -/
def opensUptoCard : Claim7 := { stood := { row := opensUptoRow, standIns := [], harness := (true, "aea351669eaedf8ec44698563977d47182d001070fda8619e6130625a36ca079"), looks := true }, kinds := [], alts := [], goes := true, laidByText := true, laidKinds := [.data, .data, .data, .handle], laidTests := true, laidLooks := .later }
def OpensUptoCardSaid : Prop := Claim7.holds Tryz.pinned (.plain (OpenSpec.upto opensSpec)) opensUptoCard

/-- THE SECOND FORM's CARD OF 'keydirlaw.Cleans'. -/
def cleansUptoCard : Claim7 := { stood := { row := cleansUptoRow, standIns := [], harness := (true, "aea351669eaedf8ec44698563977d47182d001070fda8619e6130625a36ca079"), looks := true }, kinds := [], alts := [], goes := true, laidByText := true, laidKinds := [.data, .data, .data, .data, .handle, .pinned], laidTests := true, laidLooks := .later }
def CleansUptoCardSaid : Prop := Claim7.holds Tryz.pinned (.plain (OpenSpec.upto cleansSpec)) cleansUptoCard

/-- THE SECOND FORM's CARD OF 'keydirlaw.Refuses'. -/
def refusesUptoCard : Claim7 := { stood := { row := refusesUptoRow, standIns := [], harness := (true, "aea351669eaedf8ec44698563977d47182d001070fda8619e6130625a36ca079"), looks := true }, kinds := [], alts := [], goes := true, laidByText := true, laidKinds := [.data, .data, .data, .data, .handle, .pinned], laidTests := true, laidLooks := .later }
def RefusesUptoCardSaid : Prop := Claim7.holds Tryz.pinned (.plain (OpenSpec.upto refusesSpec)) refusesUptoCard

/-- THE SECOND FORM's CARD OF 'keydirlaw.Again'. -/
def againUptoCard : Claim7 := { stood := { row := againUptoRow, standIns := [], harness := (true, "aea351669eaedf8ec44698563977d47182d001070fda8619e6130625a36ca079"), looks := true }, kinds := [], alts := [], goes := true, laidByText := true, laidKinds := [.data, .data, .data, .data, .handle, .pinned], laidTests := true, laidLooks := .later }
def AgainUptoCardSaid : Prop := Claim7.holds Tryz.pinned (.plain (OpenSpec.upto againSpec)) againUptoCard

/-- THE SECOND FORM's CARD OF 'keydirlaw.Merges'. -/
def mergesUptoCard : Claim7 := { stood := { row := mergesUptoRow, standIns := [], harness := (true, "aea351669eaedf8ec44698563977d47182d001070fda8619e6130625a36ca079"), looks := true }, kinds := [], alts := [], goes := true, laidByText := true, laidKinds := [.data, .data, .data, .data, .handle, .pinned], laidTests := true, laidLooks := .later }
def MergesUptoCardSaid : Prop := Claim7.holds Tryz.pinned (.plain (OpenSpec.upto mergesSpec)) mergesUptoCard

/-- THE SECOND FORM's CARD OF 'keydirlaw.Crashes'. -/
def crashesUptoCard : Claim7 := { stood := { row := crashesUptoRow, standIns := [], harness := (true, "aea351669eaedf8ec44698563977d47182d001070fda8619e6130625a36ca079"), looks := true }, kinds := [], alts := [], goes := true, laidByText := true, laidKinds := [.data, .data, .data, .data, .handle, .pinned], laidTests := true, laidLooks := .later }
def CrashesUptoCardSaid : Prop := Claim7.holds Tryz.pinned (.plain (OpenSpec.upto crashesSpec)) crashesUptoCard

/-- THE SECOND FORM's CARD OF 'keydirlaw.All'. -/
def allUptoCard : Claim7 := { stood := { row := allUptoRow, standIns := [], harness := (true, "aea351669eaedf8ec44698563977d47182d001070fda8619e6130625a36ca079"), looks := true }, kinds := [], alts := [], goes := true, laidByText := true, laidKinds := [.data, .data, .data, .data, .handle, .pinned], laidTests := true, laidLooks := .later }
def AllUptoCardSaid : Prop := Claim7.holds Tryz.pinned (.plain (OpenSpec.upto allSpec)) allUptoCard
end Rows
end Go.Proofs.YtgpbhjjajpbeeaaGreatDoor
