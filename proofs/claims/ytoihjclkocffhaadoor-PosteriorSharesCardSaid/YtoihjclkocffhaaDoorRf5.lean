/- The walks of the reference's integers: Sign, Cmp, Of (package examboardref02). -/
import Derived.Test.YtoihjclkocffhaaDoorRf4
import Derived.Test.YtoihjclkocffhaaDoorBx
namespace Go.Proofs.YtoihjclkocffhaaDoor
open Go.RowKit
set_option linter.unusedVariables false

end Go.Proofs.YtoihjclkocffhaaDoor
