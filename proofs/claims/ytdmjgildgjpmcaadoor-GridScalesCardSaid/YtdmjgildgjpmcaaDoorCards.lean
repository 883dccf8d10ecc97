/-
  DERIVED. GIVEN WITH THE SEED: THE CARDS: each row of YtdmjgildgjpmcaaDoorRows.lean that lists a variable, with what it lists TIED to the program's text (the seventh form; the later family's looks); each row that meets fmt, with fmt's text TOLD by the authors' own Lean function (tested against real Go, not proved from fmt's source: count such statements apart). THE CARD IS WHAT COUNTS. Prove the row's statement (the work); the ties are given (YtdmjgildgjpmcaaDoorTie.lean); close each card by the builder's one call (the guide's Derived/Test/ToyasCard.lean, 'card_holds'). Laid BY PROGRAM, IN A SANDBOX (cutbox-door.mjs). By AI agents, Wed Nov 11 2026. No macro, syntax, notation, axiom, sorry.
-/
import Derived.Test.YtdmjgildgjpmcaaDoorRows
import GoSem.ClaimSeven
namespace Go.Proofs.YtdmjgildgjpmcaaDoor
namespace Rows

/-- THE TIED CARD OF 'examboardlaw18.GridNearest'. -/
def gridNearestCard : Claim7 := { stood := { row := gridNearestRow, standIns := [], harness := (true, "702247f35a5b013355c22bcf3663a8551dfc59c77202adaf1403c6693cf2487e"), looks := false }, kinds := [], alts := [], laidByText := true, laidKinds := [.data, .data, .data], laidTests := true, laidLooks := .later }
def GridNearestCardSaid : Prop := Claim7.holds Tryd.pinned (.plain (OpenSpec.ofChange gridNearestSpec)) gridNearestCard

/-- THE TIED CARD OF 'examboardlaw18.GridScales'. -/
def gridScalesCard : Claim7 := { stood := { row := gridScalesRow, standIns := [], harness := (true, "702247f35a5b013355c22bcf3663a8551dfc59c77202adaf1403c6693cf2487e"), looks := false }, kinds := [], alts := [], laidByText := true, laidKinds := [.data, .data, .data], laidTests := true, laidLooks := .later }
def GridScalesCardSaid : Prop := Claim7.holds Tryd.pinned (.plain (OpenSpec.ofChange gridScalesSpec)) gridScalesCard

/-- THE SECOND FORM's CARD OF 'examboardlaw18.GridNearest'. -/
def gridNearestUptoCard : Claim7 := { stood := { row := gridNearestUptoRow, standIns := [], harness := (true, "702247f35a5b013355c22bcf3663a8551dfc59c77202adaf1403c6693cf2487e"), looks := false }, kinds := [], alts := [], laidByText := true, laidKinds := [.data, .data, .data], laidTests := true, laidLooks := .later }
def GridNearestUptoCardSaid : Prop := Claim7.holds Tryd.pinned (.plain (OpenSpec.upto gridNearestSpec)) gridNearestUptoCard

/-- THE SECOND FORM's CARD OF 'examboardlaw18.GridScales'. -/
def gridScalesUptoCard : Claim7 := { stood := { row := gridScalesUptoRow, standIns := [], harness := (true, "702247f35a5b013355c22bcf3663a8551dfc59c77202adaf1403c6693cf2487e"), looks := false }, kinds := [], alts := [], laidByText := true, laidKinds := [.data, .data, .data], laidTests := true, laidLooks := .later }
def GridScalesUptoCardSaid : Prop := Claim7.holds Tryd.pinned (.plain (OpenSpec.upto gridScalesSpec)) gridScalesUptoCard
end Rows
end Go.Proofs.YtdmjgildgjpmcaaDoor
