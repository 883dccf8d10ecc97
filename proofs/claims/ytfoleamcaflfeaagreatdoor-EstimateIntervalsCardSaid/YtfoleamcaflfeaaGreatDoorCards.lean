/-
  DERIVED. GIVEN WITH THE SEED: THE CARDS: each row of YtfoleamcaflfeaaGreatDoorRows.lean that lists a variable, with what it lists TIED to the program's text (the seventh form; the later family's looks); each row that meets fmt, with fmt's text TOLD by the authors' own Lean function (tested against real Go, not proved from fmt's source: count such statements apart). THE CARD IS WHAT COUNTS. Prove the row's statement (the work); the ties are given (YtfoleamcaflfeaaGreatDoorTie.lean); close each card by the builder's one call (the guide's Derived/Test/ToyasCard.lean, 'card_holds'). Laid BY PROGRAM, IN A SANDBOX (cutbox-door.mjs). By AI agents, Wed Nov 11 2026. No macro, syntax, notation, axiom, sorry.
-/
import Derived.Test.YtfoleamcaflfeaaGreatDoorRows
import GoSem.ClaimSeven
namespace Go.Proofs.YtfoleamcaflfeaaGreatDoor
namespace Rows

/-- THE TIED CARD OF 'examboardlaw27.EstimateIntervals'. -/
def estimateIntervalsCard : Claim7 := { stood := { row := estimateIntervalsRow, standIns := [], harness := (true, "e6f33c9e6983fee41de9fe36ba39ebacc0ab09bb287c1989ad4c37bca7e91c63"), looks := false }, kinds := [], alts := [], laidByText := true, laidKinds := [.data, .data, .data], laidTests := true, laidLooks := .later }
def EstimateIntervalsCardSaid : Prop := Claim7.holds Tryz.pinned (.plain (OpenSpec.ofChange estimateIntervalsSpec)) estimateIntervalsCard

/-- THE SECOND FORM's CARD OF 'examboardlaw27.EstimateIntervals'. -/
def estimateIntervalsUptoCard : Claim7 := { stood := { row := estimateIntervalsUptoRow, standIns := [], harness := (true, "e6f33c9e6983fee41de9fe36ba39ebacc0ab09bb287c1989ad4c37bca7e91c63"), looks := false }, kinds := [], alts := [], laidByText := true, laidKinds := [.data, .data, .data], laidTests := true, laidLooks := .later }
def EstimateIntervalsUptoCardSaid : Prop := Claim7.holds Tryz.pinned (.plain (OpenSpec.upto estimateIntervalsSpec)) estimateIntervalsUptoCard
end Rows
end Go.Proofs.YtfoleamcaflfeaaGreatDoor
