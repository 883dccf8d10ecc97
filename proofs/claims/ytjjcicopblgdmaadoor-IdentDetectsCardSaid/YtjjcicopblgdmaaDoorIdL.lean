/- What the listed tables give, and a world that holds them. -/
import Derived.Test.YtjjcicopblgdmaaDoorParses
import Derived.Test.YtjjcicopblgdmaaDoorIdW
import Derived.Lib.LaidTab
namespace Go.Proofs.YtjjcicopblgdmaaDoor
open Go.ChangeShapes Go.WideShapes Go.ChangeAt Go.RowKit
set_option linter.unusedVariables false
namespace Laid
theorem met_tail {P : Program} {x : String × DataW Unit} {l : List (String × DataW Unit)} {W : World} (h : laidMet P (x :: l) W) : laidMet P l W := by
  obtain ⟨ps, ⟨g', t', cs, fuel, p, q, hg', ht', hvar, hd, hr, rfl⟩, hn, hz⟩ := h
  exact ⟨q, hr, (List.nodup_append.1 hn).2.1, fun b off hm => hz b off (by simp [hm])⟩
abbrev list4 : List (String × DataW Unit) := [("math/bits.deBruijn32tab", Rows.laid_math_bits_deBruijn32tab), ("math/bits.deBruijn64tab", Rows.laid_math_bits_deBruijn64tab), ("internal/strconv.uint64pow10", Rows.laid_internal_strconv_uint64pow10), ("examboard/ident.prefixes", Rows.laid_examboard_ident_prefixes)]
theorem pow_data : (Rows.laid_internal_strconv_uint64pow10 : DataW Unit) = Lib.tabData .u64 Lib.pow10Tab := by kernel_rfl
theorem gPow : Tryd.prog.globalNamed "internal/strconv.uint64pow10" = some 1 := by kernel_rfl
theorem gPowType : (Tryd.prog.globals[1]?).map (·.type) = some 73 := by kernel_rfl
theorem tab_of {W : World} (h : laidMetH Tryd.prog Rows.identPrintsRow.laid W) : Tab W := by
  have h' : laidMet Tryd.prog list4 W := h
  have h1 := met_tail (met_tail h')
  rw [pow_data] at h1
  exact Lib.tabIs_of_head gPow gPowType Tryd.underlying73 Tryd.underlying60 (by kernel_rfl) (by kernel_rfl) h1
theorem pres_of {W : World} (h : laidMetH Tryd.prog Rows.identPrintsRow.laid W) : Pres W := by
  have h' : laidMet Tryd.prog list4 W := h
  exact Parses.pres_of_laid (met_tail (met_tail (met_tail h')))
/-- The cells that a table of whole numbers lays. -/
def cellsOf : DataW Unit → Array Value
  | .agg l => (l.map fun | .lit (.int k z) => Value.int k z | _ => Value.int .i64 0).toArray
  | _ => #[]
def put (cs : Array Value) : Obj → Obj
  | .cells _ t frozen => .cells cs t frozen
  | o => o
/-- A world for the witness: the settled one, the tables holding what their initialisers lay. -/
noncomputable def laidWorld (os : Os) : World :=
  { World.holding Tryd.prog os ⟨#[], #[], []⟩ with heap := ((((World.holding Tryd.prog os ⟨#[], #[], []⟩).heap.modify 0 (put #[.string (preB 1), .string (preB 2), .string (preB 3), .string (preB 4), .string (preB 5), .string (preB 6)])).modify 1 (put (cellsOf Rows.laid_internal_strconv_uint64pow10))).modify 3 (put (cellsOf Rows.laid_math_bits_deBruijn32tab))).modify 4 (put (cellsOf Rows.laid_math_bits_deBruijn64tab)) }
end Laid
end Go.Proofs.YtjjcicopblgdmaaDoor
