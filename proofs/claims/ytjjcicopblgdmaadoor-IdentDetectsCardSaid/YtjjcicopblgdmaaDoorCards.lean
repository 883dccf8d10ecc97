/-
  DERIVED. GIVEN WITH THE SEED: THE CARDS: each row of YtjjcicopblgdmaaDoorRows.lean that lists a variable, with what it lists TIED to the program's text (the seventh form; the later family's looks); each row that meets fmt, with fmt's text TOLD by the authors' own Lean function (tested against real Go, not proved from fmt's source: count such statements apart). THE CARD IS WHAT COUNTS. Prove the row's statement (the work); the ties are given (YtjjcicopblgdmaaDoorTie.lean); close each card by the builder's one call (the guide's Derived/Test/ToyasCard.lean, 'card_holds'). Laid BY PROGRAM, IN A SANDBOX (cutbox-door.mjs). By AI agents, Wed Nov 11 2026. No macro, syntax, notation, axiom, sorry.
-/
import Derived.Test.YtjjcicopblgdmaaDoorRows
import GoSem.ClaimSeven
namespace Go.Proofs.YtjjcicopblgdmaaDoor
namespace Rows

/-- THE TIED CARD OF 'examboardlaw09.IdentParses'. -/
def identParsesCard : Claim7 := { stood := { row := identParsesRow, standIns := [], harness := (true, "b4a8503ce9a079c543741878f220b78e630a984475f70bbffa6af46cefa794d2"), looks := false }, kinds := [], alts := [], laidByText := true, laidKinds := [.data], laidTests := true, laidLooks := .later }
def IdentParsesCardSaid : Prop := Claim7.holds Tryd.pinned (.plain (OpenSpec.ofChange identParsesSpec)) identParsesCard

/-- THE TIED CARD OF 'examboardlaw09.IdentPrints'. -/
def identPrintsCard : Claim7 := { stood := { row := identPrintsRow, standIns := [], harness := (true, "b4a8503ce9a079c543741878f220b78e630a984475f70bbffa6af46cefa794d2"), looks := false }, kinds := [], alts := [], laidByText := true, laidKinds := [.data, .data, .data, .data], laidTests := true, laidLooks := .later }
def IdentPrintsCardSaid : Prop := Claim7.holds Tryd.pinned (.plain (OpenSpec.ofChange identPrintsSpec)) identPrintsCard

/-- THE TIED CARD OF 'examboardlaw09.IdentRoundTrip'. -/
def identRoundTripCard : Claim7 := { stood := { row := identRoundTripRow, standIns := [], harness := (true, "b4a8503ce9a079c543741878f220b78e630a984475f70bbffa6af46cefa794d2"), looks := false }, kinds := [], alts := [], laidByText := true, laidKinds := [.data, .data, .data, .data], laidTests := true, laidLooks := .later }
def IdentRoundTripCardSaid : Prop := Claim7.holds Tryd.pinned (.plain (OpenSpec.ofChange identRoundTripSpec)) identRoundTripCard

/-- THE TIED CARD OF 'examboardlaw09.IdentUnique'. -/
def identUniqueCard : Claim7 := { stood := { row := identUniqueRow, standIns := [], harness := (true, "b4a8503ce9a079c543741878f220b78e630a984475f70bbffa6af46cefa794d2"), looks := false }, kinds := [], alts := [], laidByText := true, laidKinds := [.data, .data, .data, .data], laidTests := true, laidLooks := .later }
def IdentUniqueCardSaid : Prop := Claim7.holds Tryd.pinned (.plain (OpenSpec.ofChange identUniqueSpec)) identUniqueCard

/-- THE TIED CARD OF 'examboardlaw09.IdentDetects'. -/
def identDetectsCard : Claim7 := { stood := { row := identDetectsRow, standIns := [], harness := (true, "b4a8503ce9a079c543741878f220b78e630a984475f70bbffa6af46cefa794d2"), looks := false }, kinds := [], alts := [], laidByText := true, laidKinds := [.data, .data, .data, .data], laidTests := true, laidLooks := .later }
def IdentDetectsCardSaid : Prop := Claim7.holds Tryd.pinned (.plain (OpenSpec.ofChange identDetectsSpec)) identDetectsCard

/-- THE SECOND FORM's CARD OF 'examboardlaw09.IdentParses'. -/
def identParsesUptoCard : Claim7 := { stood := { row := identParsesUptoRow, standIns := [], harness := (true, "b4a8503ce9a079c543741878f220b78e630a984475f70bbffa6af46cefa794d2"), looks := false }, kinds := [], alts := [], laidByText := true, laidKinds := [.data], laidTests := true, laidLooks := .later }
def IdentParsesUptoCardSaid : Prop := Claim7.holds Tryd.pinned (.plain (OpenSpec.upto identParsesSpec)) identParsesUptoCard

/-- THE SECOND FORM's CARD OF 'examboardlaw09.IdentPrints'. -/
def identPrintsUptoCard : Claim7 := { stood := { row := identPrintsUptoRow, standIns := [], harness := (true, "b4a8503ce9a079c543741878f220b78e630a984475f70bbffa6af46cefa794d2"), looks := false }, kinds := [], alts := [], laidByText := true, laidKinds := [.data, .data, .data, .data], laidTests := true, laidLooks := .later }
def IdentPrintsUptoCardSaid : Prop := Claim7.holds Tryd.pinned (.plain (OpenSpec.upto identPrintsSpec)) identPrintsUptoCard

/-- THE SECOND FORM's CARD OF 'examboardlaw09.IdentRoundTrip'. -/
def identRoundTripUptoCard : Claim7 := { stood := { row := identRoundTripUptoRow, standIns := [], harness := (true, "b4a8503ce9a079c543741878f220b78e630a984475f70bbffa6af46cefa794d2"), looks := false }, kinds := [], alts := [], laidByText := true, laidKinds := [.data, .data, .data, .data], laidTests := true, laidLooks := .later }
def IdentRoundTripUptoCardSaid : Prop := Claim7.holds Tryd.pinned (.plain (OpenSpec.upto identRoundTripSpec)) identRoundTripUptoCard

/-- THE SECOND FORM's CARD OF 'examboardlaw09.IdentUnique'. -/
def identUniqueUptoCard : Claim7 := { stood := { row := identUniqueUptoRow, standIns := [], harness := (true, "b4a8503ce9a079c543741878f220b78e630a984475f70bbffa6af46cefa794d2"), looks := false }, kinds := [], alts := [], laidByText := true, laidKinds := [.data, .data, .data, .data], laidTests := true, laidLooks := .later }
def IdentUniqueUptoCardSaid : Prop := Claim7.holds Tryd.pinned (.plain (OpenSpec.upto identUniqueSpec)) identUniqueUptoCard

/-- THE SECOND FORM's CARD OF 'examboardlaw09.IdentDetects'. -/
def identDetectsUptoCard : Claim7 := { stood := { row := identDetectsUptoRow, standIns := [], harness := (true, "b4a8503ce9a079c543741878f220b78e630a984475f70bbffa6af46cefa794d2"), looks := false }, kinds := [], alts := [], laidByText := true, laidKinds := [.data, .data, .data, .data], laidTests := true, laidLooks := .later }
def IdentDetectsUptoCardSaid : Prop := Claim7.holds Tryd.pinned (.plain (OpenSpec.upto identDetectsSpec)) identDetectsUptoCard
end Rows
end Go.Proofs.YtjjcicopblgdmaaDoor
