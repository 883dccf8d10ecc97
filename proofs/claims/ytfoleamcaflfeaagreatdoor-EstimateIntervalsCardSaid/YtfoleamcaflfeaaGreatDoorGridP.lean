/- The walks of grid.Prior and of the reference's Prior. -/
import Derived.Test.YtfoleamcaflfeaaGreatDoorNatL
import Derived.Test.YtfoleamcaflfeaaGreatDoorGridV
import Derived.Test.YtfoleamcaflfeaaGreatDoorRefA
namespace Go.Proofs.YtfoleamcaflfeaaGreatDoor
open Go.RowKit
set_option linter.unusedVariables false

def natsOf (rs : List Int) : List Nat := rs.map Int.toNat
theorem natsOf_len (rs : List Int) : (natsOf rs).length = rs.length := by simp [natsOf]
theorem natsOf_get (rs : List Int) (k : Nat) : (natsOf rs).getD k 0 = (rs.getD k 0).toNat := by
  unfold natsOf
  rw [List.getD_eq_getElem?_getD, List.getD_eq_getElem?_getD, List.getElem?_map]
  cases rs[k]? <;> rfl

end Go.Proofs.YtfoleamcaflfeaaGreatDoor
