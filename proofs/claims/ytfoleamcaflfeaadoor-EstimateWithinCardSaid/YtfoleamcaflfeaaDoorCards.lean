/-
  DERIVED. GIVEN WITH THE SEED: THE CARDS: each row of YtfoleamcaflfeaaDoorRows.lean that lists a variable, with what it lists TIED to the program's text (the seventh form; the later family's looks); each row that meets fmt, with fmt's text TOLD by the authors' own Lean function (tested against real Go, not proved from fmt's source: count such statements apart). THE CARD IS WHAT COUNTS. Prove the row's statement (the work); the ties are given (YtfoleamcaflfeaaDoorTie.lean); close each card by the builder's one call (the guide's Derived/Test/ToyasCard.lean, 'card_holds'). Laid BY PROGRAM, IN A SANDBOX (cutbox-door.mjs). By AI agents, Wed Nov 11 2026. No macro, syntax, notation, axiom, sorry.
-/
import Derived.Test.YtfoleamcaflfeaaDoorRows
import GoSem.ClaimSeven
namespace Go.Proofs.YtfoleamcaflfeaaDoor
namespace Rows

/-- THE TIED CARD OF 'examboardlaw27.EstimateNested'. -/
def estimateNestedCard : Claim7 := { stood := { row := estimateNestedRow, standIns := [], harness := (true, "3827bf23aad841d2ac7ab0cfc51221706a22085b0f9816130c279db377b651d5"), looks := false }, kinds := [], alts := [], laidByText := true, laidKinds := [.data, .data, .data], laidTests := true, laidLooks := .later }
def EstimateNestedCardSaid : Prop := Claim7.holds Tryd.pinned (.plain (OpenSpec.ofChange estimateNestedSpec)) estimateNestedCard

/-- THE TIED CARD OF 'examboardlaw27.EstimateScale'. -/
def estimateScaleCard : Claim7 := { stood := { row := estimateScaleRow, standIns := [], harness := (true, "3827bf23aad841d2ac7ab0cfc51221706a22085b0f9816130c279db377b651d5"), looks := false }, kinds := [], alts := [], laidByText := true, laidKinds := [.data, .data, .data], laidTests := true, laidLooks := .later }
def EstimateScaleCardSaid : Prop := Claim7.holds Tryd.pinned (.plain (OpenSpec.ofChange estimateScaleSpec)) estimateScaleCard

/-- THE TIED CARD OF 'examboardlaw27.EstimateClasses'. -/
def estimateClassesCard : Claim7 := { stood := { row := estimateClassesRow, standIns := [], harness := (true, "3827bf23aad841d2ac7ab0cfc51221706a22085b0f9816130c279db377b651d5"), looks := false }, kinds := [], alts := [], laidByText := true, laidKinds := [.data, .data, .data], laidTests := true, laidLooks := .later }
def EstimateClassesCardSaid : Prop := Claim7.holds Tryd.pinned (.plain (OpenSpec.ofChange estimateClassesSpec)) estimateClassesCard

/-- THE TIED CARD OF 'examboardlaw27.EstimateWithin'. -/
def estimateWithinCard : Claim7 := { stood := { row := estimateWithinRow, standIns := [], harness := (true, "3827bf23aad841d2ac7ab0cfc51221706a22085b0f9816130c279db377b651d5"), looks := false }, kinds := [], alts := [], laidByText := true, laidKinds := [.data, .data, .data], laidTests := true, laidLooks := .later }
def EstimateWithinCardSaid : Prop := Claim7.holds Tryd.pinned (.plain (OpenSpec.ofChange estimateWithinSpec)) estimateWithinCard

/-- THE TIED CARD OF 'examboardlaw27.EstimateModes'. -/
def estimateModesCard : Claim7 := { stood := { row := estimateModesRow, standIns := [], harness := (true, "3827bf23aad841d2ac7ab0cfc51221706a22085b0f9816130c279db377b651d5"), looks := false }, kinds := [], alts := [], laidByText := true, laidKinds := [.data, .data, .data], laidTests := true, laidLooks := .later }
def EstimateModesCardSaid : Prop := Claim7.holds Tryd.pinned (.plain (OpenSpec.ofChange estimateModesSpec)) estimateModesCard

/-- THE TIED CARD OF 'examboardlaw27.EstimateLikeliest'. -/
def estimateLikeliestCard : Claim7 := { stood := { row := estimateLikeliestRow, standIns := [], harness := (true, "3827bf23aad841d2ac7ab0cfc51221706a22085b0f9816130c279db377b651d5"), looks := false }, kinds := [], alts := [], laidByText := true, laidKinds := [.data, .data, .data], laidTests := true, laidLooks := .later }
def EstimateLikeliestCardSaid : Prop := Claim7.holds Tryd.pinned (.plain (OpenSpec.ofChange estimateLikeliestSpec)) estimateLikeliestCard

/-- THE SECOND FORM's CARD OF 'examboardlaw27.EstimateNested'. -/
def estimateNestedUptoCard : Claim7 := { stood := { row := estimateNestedUptoRow, standIns := [], harness := (true, "3827bf23aad841d2ac7ab0cfc51221706a22085b0f9816130c279db377b651d5"), looks := false }, kinds := [], alts := [], laidByText := true, laidKinds := [.data, .data, .data], laidTests := true, laidLooks := .later }
def EstimateNestedUptoCardSaid : Prop := Claim7.holds Tryd.pinned (.plain (OpenSpec.upto estimateNestedSpec)) estimateNestedUptoCard

/-- THE SECOND FORM's CARD OF 'examboardlaw27.EstimateScale'. -/
def estimateScaleUptoCard : Claim7 := { stood := { row := estimateScaleUptoRow, standIns := [], harness := (true, "3827bf23aad841d2ac7ab0cfc51221706a22085b0f9816130c279db377b651d5"), looks := false }, kinds := [], alts := [], laidByText := true, laidKinds := [.data, .data, .data], laidTests := true, laidLooks := .later }
def EstimateScaleUptoCardSaid : Prop := Claim7.holds Tryd.pinned (.plain (OpenSpec.upto estimateScaleSpec)) estimateScaleUptoCard

/-- THE SECOND FORM's CARD OF 'examboardlaw27.EstimateClasses'. -/
def estimateClassesUptoCard : Claim7 := { stood := { row := estimateClassesUptoRow, standIns := [], harness := (true, "3827bf23aad841d2ac7ab0cfc51221706a22085b0f9816130c279db377b651d5"), looks := false }, kinds := [], alts := [], laidByText := true, laidKinds := [.data, .data, .data], laidTests := true, laidLooks := .later }
def EstimateClassesUptoCardSaid : Prop := Claim7.holds Tryd.pinned (.plain (OpenSpec.upto estimateClassesSpec)) estimateClassesUptoCard

/-- THE SECOND FORM's CARD OF 'examboardlaw27.EstimateWithin'. -/
def estimateWithinUptoCard : Claim7 := { stood := { row := estimateWithinUptoRow, standIns := [], harness := (true, "3827bf23aad841d2ac7ab0cfc51221706a22085b0f9816130c279db377b651d5"), looks := false }, kinds := [], alts := [], laidByText := true, laidKinds := [.data, .data, .data], laidTests := true, laidLooks := .later }
def EstimateWithinUptoCardSaid : Prop := Claim7.holds Tryd.pinned (.plain (OpenSpec.upto estimateWithinSpec)) estimateWithinUptoCard

/-- THE SECOND FORM's CARD OF 'examboardlaw27.EstimateModes'. -/
def estimateModesUptoCard : Claim7 := { stood := { row := estimateModesUptoRow, standIns := [], harness := (true, "3827bf23aad841d2ac7ab0cfc51221706a22085b0f9816130c279db377b651d5"), looks := false }, kinds := [], alts := [], laidByText := true, laidKinds := [.data, .data, .data], laidTests := true, laidLooks := .later }
def EstimateModesUptoCardSaid : Prop := Claim7.holds Tryd.pinned (.plain (OpenSpec.upto estimateModesSpec)) estimateModesUptoCard

/-- THE SECOND FORM's CARD OF 'examboardlaw27.EstimateLikeliest'. -/
def estimateLikeliestUptoCard : Claim7 := { stood := { row := estimateLikeliestUptoRow, standIns := [], harness := (true, "3827bf23aad841d2ac7ab0cfc51221706a22085b0f9816130c279db377b651d5"), looks := false }, kinds := [], alts := [], laidByText := true, laidKinds := [.data, .data, .data], laidTests := true, laidLooks := .later }
def EstimateLikeliestUptoCardSaid : Prop := Claim7.holds Tryd.pinned (.plain (OpenSpec.upto estimateLikeliestSpec)) estimateLikeliestUptoCard
end Rows
end Go.Proofs.YtfoleamcaflfeaaDoor
