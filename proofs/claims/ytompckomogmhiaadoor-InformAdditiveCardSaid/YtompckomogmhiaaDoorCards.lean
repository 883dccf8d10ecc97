/-
  DERIVED. GIVEN WITH THE SEED: THE CARDS: each row of YtompckomogmhiaaDoorRows.lean that lists a variable, with what it lists TIED to the program's text (the seventh form; the later family's looks); each row that meets fmt, with fmt's text TOLD by the authors' own Lean function (tested against real Go, not proved from fmt's source: count such statements apart). THE CARD IS WHAT COUNTS. Prove the row's statement (the work); the ties are given (YtompckomogmhiaaDoorTie.lean); close each card by the builder's one call (the guide's Derived/Test/ToyasCard.lean, 'card_holds'). Laid BY PROGRAM, IN A SANDBOX (cutbox-door.mjs). By AI agents, Wed Nov 11 2026. No macro, syntax, notation, axiom, sorry.
-/
import Derived.Test.YtompckomogmhiaaDoorRows
import GoSem.ClaimSeven
namespace Go.Proofs.YtompckomogmhiaaDoor
namespace Rows

/-- THE TIED CARD OF 'examboardlaw23.InformAdditive'. -/
def informAdditiveCard : Claim7 := { stood := { row := informAdditiveRow, standIns := [], harness := (true, "8c643ee460db0fa7e6a3560d3f554b5484936cfbf8ee6bd0a804fd64f2a37326"), looks := false }, kinds := [], alts := [], laidByText := true, laidKinds := [.data, .data, .data], laidTests := true, laidLooks := .later }
def InformAdditiveCardSaid : Prop := Claim7.holds Tryd.pinned (.plain (OpenSpec.ofChange informAdditiveSpec)) informAdditiveCard

/-- THE TIED CARD OF 'examboardlaw23.InformStretch'. -/
def informStretchCard : Claim7 := { stood := { row := informStretchRow, standIns := [], harness := (true, "8c643ee460db0fa7e6a3560d3f554b5484936cfbf8ee6bd0a804fd64f2a37326"), looks := false }, kinds := [], alts := [], laidByText := true, laidKinds := [.data, .data, .data], laidTests := true, laidLooks := .later }
def InformStretchCardSaid : Prop := Claim7.holds Tryd.pinned (.plain (OpenSpec.ofChange informStretchSpec)) informStretchCard

/-- THE TIED CARD OF 'examboardlaw23.InformPositive'. -/
def informPositiveCard : Claim7 := { stood := { row := informPositiveRow, standIns := [], harness := (true, "8c643ee460db0fa7e6a3560d3f554b5484936cfbf8ee6bd0a804fd64f2a37326"), looks := false }, kinds := [], alts := [], laidByText := true, laidKinds := [.data, .data, .data], laidTests := true, laidLooks := .later }
def InformPositiveCardSaid : Prop := Claim7.holds Tryd.pinned (.plain (OpenSpec.ofChange informPositiveSpec)) informPositiveCard

/-- THE TIED CARD OF 'examboardlaw23.InformCollapse'. -/
def informCollapseCard : Claim7 := { stood := { row := informCollapseRow, standIns := [], harness := (true, "8c643ee460db0fa7e6a3560d3f554b5484936cfbf8ee6bd0a804fd64f2a37326"), looks := false }, kinds := [], alts := [], laidByText := true, laidKinds := [.data, .data, .data], laidTests := true, laidLooks := .later }
def InformCollapseCardSaid : Prop := Claim7.holds Tryd.pinned (.plain (OpenSpec.ofChange informCollapseSpec)) informCollapseCard

/-- THE SECOND FORM's CARD OF 'examboardlaw23.InformAdditive'. -/
def informAdditiveUptoCard : Claim7 := { stood := { row := informAdditiveUptoRow, standIns := [], harness := (true, "8c643ee460db0fa7e6a3560d3f554b5484936cfbf8ee6bd0a804fd64f2a37326"), looks := false }, kinds := [], alts := [], laidByText := true, laidKinds := [.data, .data, .data], laidTests := true, laidLooks := .later }
def InformAdditiveUptoCardSaid : Prop := Claim7.holds Tryd.pinned (.plain (OpenSpec.upto informAdditiveSpec)) informAdditiveUptoCard

/-- THE SECOND FORM's CARD OF 'examboardlaw23.InformStretch'. -/
def informStretchUptoCard : Claim7 := { stood := { row := informStretchUptoRow, standIns := [], harness := (true, "8c643ee460db0fa7e6a3560d3f554b5484936cfbf8ee6bd0a804fd64f2a37326"), looks := false }, kinds := [], alts := [], laidByText := true, laidKinds := [.data, .data, .data], laidTests := true, laidLooks := .later }
def InformStretchUptoCardSaid : Prop := Claim7.holds Tryd.pinned (.plain (OpenSpec.upto informStretchSpec)) informStretchUptoCard

/-- THE SECOND FORM's CARD OF 'examboardlaw23.InformPositive'. -/
def informPositiveUptoCard : Claim7 := { stood := { row := informPositiveUptoRow, standIns := [], harness := (true, "8c643ee460db0fa7e6a3560d3f554b5484936cfbf8ee6bd0a804fd64f2a37326"), looks := false }, kinds := [], alts := [], laidByText := true, laidKinds := [.data, .data, .data], laidTests := true, laidLooks := .later }
def InformPositiveUptoCardSaid : Prop := Claim7.holds Tryd.pinned (.plain (OpenSpec.upto informPositiveSpec)) informPositiveUptoCard

/-- THE SECOND FORM's CARD OF 'examboardlaw23.InformCollapse'. -/
def informCollapseUptoCard : Claim7 := { stood := { row := informCollapseUptoRow, standIns := [], harness := (true, "8c643ee460db0fa7e6a3560d3f554b5484936cfbf8ee6bd0a804fd64f2a37326"), looks := false }, kinds := [], alts := [], laidByText := true, laidKinds := [.data, .data, .data], laidTests := true, laidLooks := .later }
def InformCollapseUptoCardSaid : Prop := Claim7.holds Tryd.pinned (.plain (OpenSpec.upto informCollapseSpec)) informCollapseUptoCard
end Rows
end Go.Proofs.YtompckomogmhiaaDoor
