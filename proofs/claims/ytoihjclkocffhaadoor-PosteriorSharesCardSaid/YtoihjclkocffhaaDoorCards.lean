/-
  DERIVED. GIVEN WITH THE SEED: THE CARDS: each row of YtoihjclkocffhaaDoorRows.lean that lists a variable, with what it lists TIED to the program's text (the seventh form; the later family's looks); each row that meets fmt, with fmt's text TOLD by the authors' own Lean function (tested against real Go, not proved from fmt's source: count such statements apart). THE CARD IS WHAT COUNTS. Prove the row's statement (the work); the ties are given (YtoihjclkocffhaaDoorTie.lean); close each card by the builder's one call (the guide's Derived/Test/ToyasCard.lean, 'card_holds'). Laid BY PROGRAM, IN A SANDBOX (cutbox-door.mjs). By AI agents, Wed Nov 11 2026. No macro, syntax, notation, axiom, sorry.
-/
import Derived.Test.YtoihjclkocffhaaDoorRows
import GoSem.ClaimSeven
namespace Go.Proofs.YtoihjclkocffhaaDoor
namespace Rows

/-- THE TIED CARD OF 'examboardlaw26.PosteriorUpdates'. -/
def posteriorUpdatesCard : Claim7 := { stood := { row := posteriorUpdatesRow, standIns := [], harness := (true, "833396c3e54a66a093035f40bf258ccb6595f15531b3912f4c6b5e4a5c75304a"), looks := false }, kinds := [], alts := [], laidByText := true, laidKinds := [.data, .data, .data], laidTests := true, laidLooks := .later }
def PosteriorUpdatesCardSaid : Prop := Claim7.holds Tryd.pinned (.plain (OpenSpec.ofChange posteriorUpdatesSpec)) posteriorUpdatesCard

/-- THE TIED CARD OF 'examboardlaw26.PosteriorAll'. -/
def posteriorAllCard : Claim7 := { stood := { row := posteriorAllRow, standIns := [], harness := (true, "833396c3e54a66a093035f40bf258ccb6595f15531b3912f4c6b5e4a5c75304a"), looks := false }, kinds := [], alts := [], laidByText := true, laidKinds := [.data, .data, .data], laidTests := true, laidLooks := .later }
def PosteriorAllCardSaid : Prop := Claim7.holds Tryd.pinned (.plain (OpenSpec.ofChange posteriorAllSpec)) posteriorAllCard

/-- THE TIED CARD OF 'examboardlaw26.PosteriorShares'. -/
def posteriorSharesCard : Claim7 := { stood := { row := posteriorSharesRow, standIns := [], harness := (true, "833396c3e54a66a093035f40bf258ccb6595f15531b3912f4c6b5e4a5c75304a"), looks := false }, kinds := [], alts := [], laidByText := true, laidKinds := [.data, .data, .data], laidTests := true, laidLooks := .later }
def PosteriorSharesCardSaid : Prop := Claim7.holds Tryd.pinned (.plain (OpenSpec.ofChange posteriorSharesSpec)) posteriorSharesCard

/-- THE TIED CARD OF 'examboardlaw26.PosteriorOrder'. -/
def posteriorOrderCard : Claim7 := { stood := { row := posteriorOrderRow, standIns := [], harness := (true, "833396c3e54a66a093035f40bf258ccb6595f15531b3912f4c6b5e4a5c75304a"), looks := false }, kinds := [], alts := [], laidByText := true, laidKinds := [.data, .data, .data], laidTests := true, laidLooks := .later }
def PosteriorOrderCardSaid : Prop := Claim7.holds Tryd.pinned (.plain (OpenSpec.ofChange posteriorOrderSpec)) posteriorOrderCard

/-- THE TIED CARD OF 'examboardlaw26.PosteriorMissing'. -/
def posteriorMissingCard : Claim7 := { stood := { row := posteriorMissingRow, standIns := [], harness := (true, "833396c3e54a66a093035f40bf258ccb6595f15531b3912f4c6b5e4a5c75304a"), looks := false }, kinds := [], alts := [], laidByText := true, laidKinds := [.data, .data, .data], laidTests := true, laidLooks := .later }
def PosteriorMissingCardSaid : Prop := Claim7.holds Tryd.pinned (.plain (OpenSpec.ofChange posteriorMissingSpec)) posteriorMissingCard

/-- THE TIED CARD OF 'examboardlaw26.PosteriorBayes'. -/
def posteriorBayesCard : Claim7 := { stood := { row := posteriorBayesRow, standIns := [], harness := (true, "833396c3e54a66a093035f40bf258ccb6595f15531b3912f4c6b5e4a5c75304a"), looks := false }, kinds := [], alts := [], laidByText := true, laidKinds := [.data, .data, .data], laidTests := true, laidLooks := .later }
def PosteriorBayesCardSaid : Prop := Claim7.holds Tryd.pinned (.plain (OpenSpec.ofChange posteriorBayesSpec)) posteriorBayesCard

/-- THE SECOND FORM's CARD OF 'examboardlaw26.PosteriorUpdates'. -/
def posteriorUpdatesUptoCard : Claim7 := { stood := { row := posteriorUpdatesUptoRow, standIns := [], harness := (true, "833396c3e54a66a093035f40bf258ccb6595f15531b3912f4c6b5e4a5c75304a"), looks := false }, kinds := [], alts := [], laidByText := true, laidKinds := [.data, .data, .data], laidTests := true, laidLooks := .later }
def PosteriorUpdatesUptoCardSaid : Prop := Claim7.holds Tryd.pinned (.plain (OpenSpec.upto posteriorUpdatesSpec)) posteriorUpdatesUptoCard

/-- THE SECOND FORM's CARD OF 'examboardlaw26.PosteriorAll'. -/
def posteriorAllUptoCard : Claim7 := { stood := { row := posteriorAllUptoRow, standIns := [], harness := (true, "833396c3e54a66a093035f40bf258ccb6595f15531b3912f4c6b5e4a5c75304a"), looks := false }, kinds := [], alts := [], laidByText := true, laidKinds := [.data, .data, .data], laidTests := true, laidLooks := .later }
def PosteriorAllUptoCardSaid : Prop := Claim7.holds Tryd.pinned (.plain (OpenSpec.upto posteriorAllSpec)) posteriorAllUptoCard

/-- THE SECOND FORM's CARD OF 'examboardlaw26.PosteriorShares'. -/
def posteriorSharesUptoCard : Claim7 := { stood := { row := posteriorSharesUptoRow, standIns := [], harness := (true, "833396c3e54a66a093035f40bf258ccb6595f15531b3912f4c6b5e4a5c75304a"), looks := false }, kinds := [], alts := [], laidByText := true, laidKinds := [.data, .data, .data], laidTests := true, laidLooks := .later }
def PosteriorSharesUptoCardSaid : Prop := Claim7.holds Tryd.pinned (.plain (OpenSpec.upto posteriorSharesSpec)) posteriorSharesUptoCard

/-- THE SECOND FORM's CARD OF 'examboardlaw26.PosteriorOrder'. -/
def posteriorOrderUptoCard : Claim7 := { stood := { row := posteriorOrderUptoRow, standIns := [], harness := (true, "833396c3e54a66a093035f40bf258ccb6595f15531b3912f4c6b5e4a5c75304a"), looks := false }, kinds := [], alts := [], laidByText := true, laidKinds := [.data, .data, .data], laidTests := true, laidLooks := .later }
def PosteriorOrderUptoCardSaid : Prop := Claim7.holds Tryd.pinned (.plain (OpenSpec.upto posteriorOrderSpec)) posteriorOrderUptoCard

/-- THE SECOND FORM's CARD OF 'examboardlaw26.PosteriorMissing'. -/
def posteriorMissingUptoCard : Claim7 := { stood := { row := posteriorMissingUptoRow, standIns := [], harness := (true, "833396c3e54a66a093035f40bf258ccb6595f15531b3912f4c6b5e4a5c75304a"), looks := false }, kinds := [], alts := [], laidByText := true, laidKinds := [.data, .data, .data], laidTests := true, laidLooks := .later }
def PosteriorMissingUptoCardSaid : Prop := Claim7.holds Tryd.pinned (.plain (OpenSpec.upto posteriorMissingSpec)) posteriorMissingUptoCard

/-- THE SECOND FORM's CARD OF 'examboardlaw26.PosteriorBayes'. -/
def posteriorBayesUptoCard : Claim7 := { stood := { row := posteriorBayesUptoRow, standIns := [], harness := (true, "833396c3e54a66a093035f40bf258ccb6595f15531b3912f4c6b5e4a5c75304a"), looks := false }, kinds := [], alts := [], laidByText := true, laidKinds := [.data, .data, .data], laidTests := true, laidLooks := .later }
def PosteriorBayesUptoCardSaid : Prop := Claim7.holds Tryd.pinned (.plain (OpenSpec.upto posteriorBayesSpec)) posteriorBayesUptoCard
end Rows
end Go.Proofs.YtoihjclkocffhaaDoor
