/-
  DERIVED. GIVEN WITH THE SEED: THE CARDS: each row of YtdnpopjabpklnaaGreatDoorRows.lean that lists a variable, with what it lists TIED to the program's text (the seventh form; the later family's looks); each row that meets fmt, with fmt's text TOLD by the authors' own Lean function (tested against real Go, not proved from fmt's source: count such statements apart). THE CARD IS WHAT COUNTS. Prove the row's statement (the work); the ties are given (YtdnpopjabpklnaaGreatDoorTie.lean); close each card by the builder's one call (the guide's Derived/Test/ToyasCard.lean, 'card_holds'). Laid BY PROGRAM, IN A SANDBOX (cutbox-door.mjs). By AI agents, Wed Nov 11 2026. No macro, syntax, notation, axiom, sorry.
-/
import Derived.Test.YtdnpopjabpklnaaGreatDoorRows
import GoSem.ClaimSeven
namespace Go.Proofs.YtdnpopjabpklnaaGreatDoor
namespace Rows

/-- THE TIED CARD OF 'examboardtop.TopExchange'. -/
def topExchangeCard : Claim7 := { stood := { row := topExchangeRow, standIns := [], harness := (true, "e274cc0049ded94f4279af4445ee7405a5c4ab8d29c90b9b998b02b5be067e0f"), looks := true }, kinds := [], alts := [], laidByText := true, laidKinds := [.data, .data, .data, .data, .sentinel, .sentinel, .data, .data, .pinned], laidTests := true, laidLooks := .later }
def TopExchangeCardSaid : Prop := Claim7.holds Tryz.pinned (.plain (OpenSpec.ofChange topExchangeSpec)) topExchangeCard

/-- THE TIED CARD OF 'examboardtop.TopFinds'. -/
def topFindsCard : Claim7 := { stood := { row := topFindsRow, standIns := [], harness := (true, "e274cc0049ded94f4279af4445ee7405a5c4ab8d29c90b9b998b02b5be067e0f"), looks := true }, kinds := [], alts := [], laidByText := true, laidKinds := [.data, .data, .data, .data, .sentinel, .sentinel, .data, .data, .pinned], laidTests := true, laidLooks := .later }
def TopFindsCardSaid : Prop := Claim7.holds Tryz.pinned (.plain (OpenSpec.ofChange topFindsSpec)) topFindsCard

/-- THE SECOND FORM's CARD OF 'examboardtop.TopExchange'. -/
def topExchangeUptoCard : Claim7 := { stood := { row := topExchangeUptoRow, standIns := [], harness := (true, "e274cc0049ded94f4279af4445ee7405a5c4ab8d29c90b9b998b02b5be067e0f"), looks := true }, kinds := [], alts := [], laidByText := true, laidKinds := [.data, .data, .data, .data, .sentinel, .sentinel, .data, .data, .pinned], laidTests := true, laidLooks := .later }
def TopExchangeUptoCardSaid : Prop := Claim7.holds Tryz.pinned (.plain (OpenSpec.upto topExchangeSpec)) topExchangeUptoCard

/-- THE SECOND FORM's CARD OF 'examboardtop.TopFinds'. -/
def topFindsUptoCard : Claim7 := { stood := { row := topFindsUptoRow, standIns := [], harness := (true, "e274cc0049ded94f4279af4445ee7405a5c4ab8d29c90b9b998b02b5be067e0f"), looks := true }, kinds := [], alts := [], laidByText := true, laidKinds := [.data, .data, .data, .data, .sentinel, .sentinel, .data, .data, .pinned], laidTests := true, laidLooks := .later }
def TopFindsUptoCardSaid : Prop := Claim7.holds Tryz.pinned (.plain (OpenSpec.upto topFindsSpec)) topFindsUptoCard
end Rows
end Go.Proofs.YtdnpopjabpklnaaGreatDoor
