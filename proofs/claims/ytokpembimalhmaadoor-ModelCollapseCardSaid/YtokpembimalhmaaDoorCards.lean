/-
  DERIVED. GIVEN WITH THE SEED: THE CARDS: each row of YtokpembimalhmaaDoorRows.lean that lists a variable, with what it lists TIED to the program's text (the seventh form; the later family's looks); each row that meets fmt, with fmt's text TOLD by the authors' own Lean function (tested against real Go, not proved from fmt's source: count such statements apart). THE CARD IS WHAT COUNTS. Prove the row's statement (the work); the ties are given (YtokpembimalhmaaDoorTie.lean); close each card by the builder's one call (the guide's Derived/Test/ToyasCard.lean, 'card_holds'). Laid BY PROGRAM, IN A SANDBOX (cutbox-door.mjs). By AI agents, Wed Nov 11 2026. No macro, syntax, notation, axiom, sorry.
-/
import Derived.Test.YtokpembimalhmaaDoorRows
import GoSem.ClaimSeven
namespace Go.Proofs.YtokpembimalhmaaDoor
namespace Rows

/-- THE TIED CARD OF 'examboardlaw19.ModelChecks'. -/
def modelChecksCard : Claim7 := { stood := { row := modelChecksRow, standIns := [], harness := (true, "5f1a36d04cd93eb921bd6f81a7d0c5b89f2c4a71ef9b08921585265043fc6ab0"), looks := false }, kinds := [], alts := [], laidByText := true, laidKinds := [.data, .data, .data], laidTests := true, laidLooks := .later }
def ModelChecksCardSaid : Prop := Claim7.holds Tryd.pinned (.plain (OpenSpec.ofChange modelChecksSpec)) modelChecksCard

/-- THE TIED CARD OF 'examboardlaw19.ModelRamp'. -/
def modelRampCard : Claim7 := { stood := { row := modelRampRow, standIns := [], harness := (true, "5f1a36d04cd93eb921bd6f81a7d0c5b89f2c4a71ef9b08921585265043fc6ab0"), looks := false }, kinds := [], alts := [], laidByText := true, laidKinds := [.data, .data, .data], laidTests := true, laidLooks := .later }
def ModelRampCardSaid : Prop := Claim7.holds Tryd.pinned (.plain (OpenSpec.ofChange modelRampSpec)) modelRampCard

/-- THE TIED CARD OF 'examboardlaw19.ModelSteps'. -/
def modelStepsCard : Claim7 := { stood := { row := modelStepsRow, standIns := [], harness := (true, "5f1a36d04cd93eb921bd6f81a7d0c5b89f2c4a71ef9b08921585265043fc6ab0"), looks := false }, kinds := [], alts := [], laidByText := true, laidKinds := [.data, .data, .data], laidTests := true, laidLooks := .later }
def ModelStepsCardSaid : Prop := Claim7.holds Tryd.pinned (.plain (OpenSpec.ofChange modelStepsSpec)) modelStepsCard

/-- THE TIED CARD OF 'examboardlaw19.ModelCollapses'. -/
def modelCollapsesCard : Claim7 := { stood := { row := modelCollapsesRow, standIns := [], harness := (true, "5f1a36d04cd93eb921bd6f81a7d0c5b89f2c4a71ef9b08921585265043fc6ab0"), looks := false }, kinds := [], alts := [], laidByText := true, laidKinds := [.data, .data, .data], laidTests := true, laidLooks := .later }
def ModelCollapsesCardSaid : Prop := Claim7.holds Tryd.pinned (.plain (OpenSpec.ofChange modelCollapsesSpec)) modelCollapsesCard

/-- THE TIED CARD OF 'examboardlaw19.ModelRises'. -/
def modelRisesCard : Claim7 := { stood := { row := modelRisesRow, standIns := [], harness := (true, "5f1a36d04cd93eb921bd6f81a7d0c5b89f2c4a71ef9b08921585265043fc6ab0"), looks := false }, kinds := [], alts := [], laidByText := true, laidKinds := [.data, .data, .data], laidTests := true, laidLooks := .later }
def ModelRisesCardSaid : Prop := Claim7.holds Tryd.pinned (.plain (OpenSpec.ofChange modelRisesSpec)) modelRisesCard

/-- THE TIED CARD OF 'examboardlaw19.ModelCollapse'. -/
def modelCollapseCard : Claim7 := { stood := { row := modelCollapseRow, standIns := [], harness := (true, "5f1a36d04cd93eb921bd6f81a7d0c5b89f2c4a71ef9b08921585265043fc6ab0"), looks := false }, kinds := [], alts := [], laidByText := true, laidKinds := [.data, .data, .data], laidTests := true, laidLooks := .later }
def ModelCollapseCardSaid : Prop := Claim7.holds Tryd.pinned (.plain (OpenSpec.ofChange modelCollapseSpec)) modelCollapseCard

/-- THE TIED CARD OF 'examboardlaw19.ModelWhole'. -/
def modelWholeCard : Claim7 := { stood := { row := modelWholeRow, standIns := [], harness := (true, "5f1a36d04cd93eb921bd6f81a7d0c5b89f2c4a71ef9b08921585265043fc6ab0"), looks := false }, kinds := [], alts := [], laidByText := true, laidKinds := [.data, .data, .data], laidTests := true, laidLooks := .later }
def ModelWholeCardSaid : Prop := Claim7.holds Tryd.pinned (.plain (OpenSpec.ofChange modelWholeSpec)) modelWholeCard

/-- THE SECOND FORM's CARD OF 'examboardlaw19.ModelChecks'. -/
def modelChecksUptoCard : Claim7 := { stood := { row := modelChecksUptoRow, standIns := [], harness := (true, "5f1a36d04cd93eb921bd6f81a7d0c5b89f2c4a71ef9b08921585265043fc6ab0"), looks := false }, kinds := [], alts := [], laidByText := true, laidKinds := [.data, .data, .data], laidTests := true, laidLooks := .later }
def ModelChecksUptoCardSaid : Prop := Claim7.holds Tryd.pinned (.plain (OpenSpec.upto modelChecksSpec)) modelChecksUptoCard

/-- THE SECOND FORM's CARD OF 'examboardlaw19.ModelRamp'. -/
def modelRampUptoCard : Claim7 := { stood := { row := modelRampUptoRow, standIns := [], harness := (true, "5f1a36d04cd93eb921bd6f81a7d0c5b89f2c4a71ef9b08921585265043fc6ab0"), looks := false }, kinds := [], alts := [], laidByText := true, laidKinds := [.data, .data, .data], laidTests := true, laidLooks := .later }
def ModelRampUptoCardSaid : Prop := Claim7.holds Tryd.pinned (.plain (OpenSpec.upto modelRampSpec)) modelRampUptoCard

/-- THE SECOND FORM's CARD OF 'examboardlaw19.ModelSteps'. -/
def modelStepsUptoCard : Claim7 := { stood := { row := modelStepsUptoRow, standIns := [], harness := (true, "5f1a36d04cd93eb921bd6f81a7d0c5b89f2c4a71ef9b08921585265043fc6ab0"), looks := false }, kinds := [], alts := [], laidByText := true, laidKinds := [.data, .data, .data], laidTests := true, laidLooks := .later }
def ModelStepsUptoCardSaid : Prop := Claim7.holds Tryd.pinned (.plain (OpenSpec.upto modelStepsSpec)) modelStepsUptoCard

/-- THE SECOND FORM's CARD OF 'examboardlaw19.ModelCollapses'. -/
def modelCollapsesUptoCard : Claim7 := { stood := { row := modelCollapsesUptoRow, standIns := [], harness := (true, "5f1a36d04cd93eb921bd6f81a7d0c5b89f2c4a71ef9b08921585265043fc6ab0"), looks := false }, kinds := [], alts := [], laidByText := true, laidKinds := [.data, .data, .data], laidTests := true, laidLooks := .later }
def ModelCollapsesUptoCardSaid : Prop := Claim7.holds Tryd.pinned (.plain (OpenSpec.upto modelCollapsesSpec)) modelCollapsesUptoCard

/-- THE SECOND FORM's CARD OF 'examboardlaw19.ModelRises'. -/
def modelRisesUptoCard : Claim7 := { stood := { row := modelRisesUptoRow, standIns := [], harness := (true, "5f1a36d04cd93eb921bd6f81a7d0c5b89f2c4a71ef9b08921585265043fc6ab0"), looks := false }, kinds := [], alts := [], laidByText := true, laidKinds := [.data, .data, .data], laidTests := true, laidLooks := .later }
def ModelRisesUptoCardSaid : Prop := Claim7.holds Tryd.pinned (.plain (OpenSpec.upto modelRisesSpec)) modelRisesUptoCard

/-- THE SECOND FORM's CARD OF 'examboardlaw19.ModelCollapse'. -/
def modelCollapseUptoCard : Claim7 := { stood := { row := modelCollapseUptoRow, standIns := [], harness := (true, "5f1a36d04cd93eb921bd6f81a7d0c5b89f2c4a71ef9b08921585265043fc6ab0"), looks := false }, kinds := [], alts := [], laidByText := true, laidKinds := [.data, .data, .data], laidTests := true, laidLooks := .later }
def ModelCollapseUptoCardSaid : Prop := Claim7.holds Tryd.pinned (.plain (OpenSpec.upto modelCollapseSpec)) modelCollapseUptoCard

/-- THE SECOND FORM's CARD OF 'examboardlaw19.ModelWhole'. -/
def modelWholeUptoCard : Claim7 := { stood := { row := modelWholeUptoRow, standIns := [], harness := (true, "5f1a36d04cd93eb921bd6f81a7d0c5b89f2c4a71ef9b08921585265043fc6ab0"), looks := false }, kinds := [], alts := [], laidByText := true, laidKinds := [.data, .data, .data], laidTests := true, laidLooks := .later }
def ModelWholeUptoCardSaid : Prop := Claim7.holds Tryd.pinned (.plain (OpenSpec.upto modelWholeSpec)) modelWholeUptoCard
end Rows
end Go.Proofs.YtokpembimalhmaaDoor
