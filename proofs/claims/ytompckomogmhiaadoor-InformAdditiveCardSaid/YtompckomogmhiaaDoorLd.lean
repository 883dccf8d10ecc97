/- A world in which the listed tables read as the program's text lays them. No condition. -/
import Derived.Test.YtompckomogmhiaaDoorRows
import Derived.Test.YtompckomogmhiaaDoorMem
import Derived.Lib.LaidTab
import Derived.Deep.DeepHandedRow
namespace Go.Proofs.YtompckomogmhiaaDoor
open Go.ChangeShapes Go.WideShapes Go.ChangeAt Go.RowKit
set_option linter.unusedVariables false
namespace Laid
/-- The cells that a table of whole numbers lays. -/
def cellsOf : DataW Unit → Array Value
  | .agg l => (l.map fun | .lit (.int k z) => Value.int k z | _ => Value.int .i64 0).toArray
  | _ => #[]
def put (cs : Array Value) : Obj → Obj
  | .cells _ t frozen => .cells cs t frozen
  | o => o
noncomputable def laidWorld (os : Os) : World :=
  { World.holding Tryd.prog os ⟨#[], #[], []⟩ with heap := ((((World.holding Tryd.prog os ⟨#[], #[], []⟩).heap.modify 0 (put (cellsOf Rows.laid_internal_strconv_uint64pow10))).modify 1 (put (cellsOf Rows.laid_math_bits_deBruijn32tab))).modify 2 (put (cellsOf Rows.laid_math_bits_deBruijn64tab))) }
end Laid
end Go.Proofs.YtompckomogmhiaaDoor
