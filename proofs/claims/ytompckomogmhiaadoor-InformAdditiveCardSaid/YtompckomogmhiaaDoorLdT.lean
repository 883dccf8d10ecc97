/- The listed table of the powers of ten, where it stands third on the list. No condition. -/
import Derived.Test.YtompckomogmhiaaDoorRows
import Derived.Test.YtompckomogmhiaaDoorFui
import Derived.Lib.LaidTab
namespace Go.Proofs.YtompckomogmhiaaDoor
open Go.ChangeShapes Go.WideShapes Go.ChangeAt Go.RowKit
set_option linter.unusedVariables false
namespace Laid
theorem met_tail {P : Program} {x : String × DataW Unit} {l : List (String × DataW Unit)} {W : World} (h : laidMet P (x :: l) W) : laidMet P l W := by
  obtain ⟨ps, ⟨g', t', cs, fuel, p, q, hg', ht', hvar, hd, hr, rfl⟩, hn, hz⟩ := h
  exact ⟨q, hr, (List.nodup_append.1 hn).2.1, fun b off hm => hz b off (by simp [hm])⟩
abbrev list3 : List (String × DataW Unit) := [("math/bits.deBruijn32tab", Rows.laid_math_bits_deBruijn32tab), ("math/bits.deBruijn64tab", Rows.laid_math_bits_deBruijn64tab), ("internal/strconv.uint64pow10", Rows.laid_internal_strconv_uint64pow10)]
theorem pow_data : (Rows.laid_internal_strconv_uint64pow10 : DataW Unit) = Lib.tabData .u64 Lib.pow10Tab := by kernel_rfl
theorem gPow : Tryd.prog.globalNamed "internal/strconv.uint64pow10" = some 0 := by kernel_rfl
theorem gPowType : (Tryd.prog.globals[0]?).map (·.type) = some 121 := by kernel_rfl
theorem pow10_of {W : World} (h : laidMet Tryd.prog list3 W) : Pow10 W := by
  have h1 := met_tail (met_tail h)
  rw [pow_data] at h1
  exact Lib.tabIs_of_head gPow gPowType Tryd.underlying121 Tryd.underlying87 (by kernel_rfl) (by kernel_rfl) h1
end Laid
end Go.Proofs.YtompckomogmhiaaDoor
