/- The reference of layer 26: Start, Update, Norm, Equal. -/
import Derived.Test.YtfoleamcaflfeaaGreatDoorPoP
import Derived.Test.YtfoleamcaflfeaaGreatDoorBx
import Derived.Test.YtfoleamcaflfeaaGreatDoorRefB
import Derived.Test.YtfoleamcaflfeaaGreatDoorPrg
import Derived.Deep.RegionLaw
import Derived.Deep.AppendLies
namespace Go.Proofs.YtfoleamcaflfeaaGreatDoor
open Go.RowKit
set_option linter.unusedVariables false

theorem CanL.mono {w : World} {v : Value} {ns : List Nat} {L M : Nat} (h : CanL w v ns L) (hL : L ≤ M) : CanL w v ns M := by
  obtain ⟨A, c, us, hv, h1, h2, hs, hu⟩ := h
  exact ⟨A, c, us, hv, h1, h2, hs, fun i u hi => by obtain ⟨ls, a1, a2, a3, a4⟩ := hu i u hi; exact ⟨ls, a1, a2, a3, by omega⟩⟩
end Go.Proofs.YtfoleamcaflfeaaGreatDoor
