/-
  NARROWER THAN 'FOR EVERY INPUT', by the rows' own cells (each row's printed sentence says how): IdentParses: laid · IdentPrints: laid · IdentRoundTrip: laid · IdentUnique: laid · IdentDetects: laid.
  DERIVED. THE GIVEN ROWS OF THIS SEAT. 5 by the template 'for every input the law returns true; each argument reads behind the call as it read before'; 0 by the template 'total and deterministic' (their statements: YtjjcicopblgdmaaDoorTotals.lean).
  GIVEN WITH THE SEED: the statements are not yours to turn. If you find one false, say at which input.
  Laid BY PROGRAM, IN A SANDBOX (cutbox-rows.mjs): the forced cells as the released guide's own fill.sh prints them over the translation 0b4864ed28a9c363… (all of the seat's roots in one cut). By AI agents, Wed Nov 11 2026. No macro, syntax, notation, axiom, sorry.
-/
import Derived.Test.YtjjcicopblgdmaaDoorChecked
import GoSem.Claim
import GoSem.ClaimJoined
import GoSem.ClaimMapViews
import Derived.JoinedTies
import Derived.KernelRfl
namespace Go.Proofs.YtjjcicopblgdmaaDoor
/- THE CELL 'sum', in the pinned program and in every row, IS THE sha256 OF THE DUMP (.gsa) THAT YtjjcicopblgdmaaDoorProg.lean LOADS. Nothing in Lean hashes anything: it is a label: what it is worth is what the hold of that sum in a sandbox is worth. -/
noncomputable def Tryd.pinned : Pinned := { name := "ytjjcicopblgdmaadoor", sum := "0b4864ed28a9c363d98232544f7551d4b3a0852f0f9c4265b2d6f22b61004c9d", checked := Tryd.checked }
namespace Rows
def none {H : Type} : Left H := { results := [], args := [] }

/- WHAT THE LISTED PACKAGE-LEVEL VARIABLES READ AS WHEN THE CALL BEGINS. Each datum BY PROGRAM (the guide's laid-datum.mjs) off the statement by which the dump's own 'gosem.cut.vars' lays the variable. In a bare row this is a premise. The card (YtjjcicopblgdmaaDoorCards.lean) ties it to the program's text. -/
def laid_examboard_ident_prefixes {H : Type} : DataW H := .agg [.lit (.string [73, 84, 77]), .lit (.string [70, 82, 77]), .lit (.string [67, 65, 78]), .lit (.string [83, 69, 83]), .lit (.string [82, 65, 84]), .lit (.string [65, 83, 84])]
def laid_math_bits_deBruijn32tab {H : Type} : DataW H := .agg [.lit (.int .u8 0), .lit (.int .u8 1), .lit (.int .u8 28), .lit (.int .u8 2), .lit (.int .u8 29), .lit (.int .u8 14), .lit (.int .u8 24), .lit (.int .u8 3), .lit (.int .u8 30), .lit (.int .u8 22), .lit (.int .u8 20), .lit (.int .u8 15), .lit (.int .u8 25), .lit (.int .u8 17), .lit (.int .u8 4), .lit (.int .u8 8), .lit (.int .u8 31), .lit (.int .u8 27), .lit (.int .u8 13), .lit (.int .u8 23), .lit (.int .u8 21), .lit (.int .u8 19), .lit (.int .u8 16), .lit (.int .u8 7), .lit (.int .u8 26), .lit (.int .u8 12), .lit (.int .u8 18), .lit (.int .u8 6), .lit (.int .u8 11), .lit (.int .u8 5), .lit (.int .u8 10), .lit (.int .u8 9)]
def laid_math_bits_deBruijn64tab {H : Type} : DataW H := .agg [.lit (.int .u8 0), .lit (.int .u8 1), .lit (.int .u8 56), .lit (.int .u8 2), .lit (.int .u8 57), .lit (.int .u8 49), .lit (.int .u8 28), .lit (.int .u8 3), .lit (.int .u8 61), .lit (.int .u8 58), .lit (.int .u8 42), .lit (.int .u8 50), .lit (.int .u8 38), .lit (.int .u8 29), .lit (.int .u8 17), .lit (.int .u8 4), .lit (.int .u8 62), .lit (.int .u8 47), .lit (.int .u8 59), .lit (.int .u8 36), .lit (.int .u8 45), .lit (.int .u8 43), .lit (.int .u8 51), .lit (.int .u8 22), .lit (.int .u8 53), .lit (.int .u8 39), .lit (.int .u8 33), .lit (.int .u8 30), .lit (.int .u8 24), .lit (.int .u8 18), .lit (.int .u8 12), .lit (.int .u8 5), .lit (.int .u8 63), .lit (.int .u8 55), .lit (.int .u8 48), .lit (.int .u8 27), .lit (.int .u8 60), .lit (.int .u8 41), .lit (.int .u8 37), .lit (.int .u8 16), .lit (.int .u8 46), .lit (.int .u8 35), .lit (.int .u8 44), .lit (.int .u8 21), .lit (.int .u8 52), .lit (.int .u8 32), .lit (.int .u8 23), .lit (.int .u8 11), .lit (.int .u8 54), .lit (.int .u8 26), .lit (.int .u8 40), .lit (.int .u8 15), .lit (.int .u8 34), .lit (.int .u8 20), .lit (.int .u8 31), .lit (.int .u8 10), .lit (.int .u8 25), .lit (.int .u8 14), .lit (.int .u8 19), .lit (.int .u8 9), .lit (.int .u8 13), .lit (.int .u8 8), .lit (.int .u8 7), .lit (.int .u8 6)]
def laid_internal_strconv_uint64pow10 {H : Type} : DataW H := .agg [.lit (.int .u64 1), .lit (.int .u64 10), .lit (.int .u64 100), .lit (.int .u64 1000), .lit (.int .u64 10000), .lit (.int .u64 100000), .lit (.int .u64 1000000), .lit (.int .u64 10000000), .lit (.int .u64 100000000), .lit (.int .u64 1000000000), .lit (.int .u64 10000000000), .lit (.int .u64 100000000000), .lit (.int .u64 1000000000000), .lit (.int .u64 10000000000000), .lit (.int .u64 100000000000000), .lit (.int .u64 1000000000000000), .lit (.int .u64 10000000000000000), .lit (.int .u64 100000000000000000), .lit (.int .u64 1000000000000000000), .lit (.int .u64 10000000000000000000)]

/-- 'examboardlaw09.IdentParses': WHATEVER THE INPUT: true; the input reads as it did. -/
def identParsesSpec : ChangeSpec := { name := "identParses", fn := fun _ => fun
  | [d] => { results := [.lit (.bool true)], args := [d] }
  | _ => none }
def identParsesRow : OpenClaim := { program := "ytjjcicopblgdmaadoor", sum := "0b4864ed28a9c363d98232544f7551d4b3a0852f0f9c4265b2d6f22b61004c9d", func := "examboard/examboardlaw09.IdentParses", spec := "identParses", named := ["examboard/ident.prefixes"], apart := false, laid := [("examboard/ident.prefixes", laid_examboard_ident_prefixes)] }
def IdentParsesSaid : Prop := identParsesRow.holds Tryd.pinned (OpenSpec.ofChange identParsesSpec)

/-- ITS FALSE NEIGHBOUR: 'it returns false'. Refute it at one input. -/
def identParsesWrong : ChangeSpec := { name := "identParses", fn := fun _ => fun
  | [d] => { results := [.lit (.bool false)], args := [d] }
  | _ => none }
def IdentParsesWrongFalsely : Prop := identParsesRow.holds Tryd.pinned (OpenSpec.ofChange identParsesWrong)

/-- 'examboardlaw09.IdentPrints': WHATEVER THE INPUT: true; the input reads as it did. -/
def identPrintsSpec : ChangeSpec := { name := "identPrints", fn := fun _ => fun
  | [d1, d2] => { results := [.lit (.bool true)], args := [d1, d2] }
  | _ => none }
def identPrintsRow : OpenClaim := { program := "ytjjcicopblgdmaadoor", sum := "0b4864ed28a9c363d98232544f7551d4b3a0852f0f9c4265b2d6f22b61004c9d", func := "examboard/examboardlaw09.IdentPrints", spec := "identPrints", inPlace := ["internal/abi.NoEscape", "internal/bytealg.MakeNoZero"], named := ["examboard/ident.prefixes", "internal/strconv.uint64pow10", "math/bits.deBruijn32tab", "math/bits.deBruijn64tab"], apart := false, laid := [("math/bits.deBruijn32tab", laid_math_bits_deBruijn32tab), ("math/bits.deBruijn64tab", laid_math_bits_deBruijn64tab), ("internal/strconv.uint64pow10", laid_internal_strconv_uint64pow10), ("examboard/ident.prefixes", laid_examboard_ident_prefixes)] }
def IdentPrintsSaid : Prop := identPrintsRow.holds Tryd.pinned (OpenSpec.ofChange identPrintsSpec)

/-- ITS FALSE NEIGHBOUR: 'it returns false'. Refute it at one input. -/
def identPrintsWrong : ChangeSpec := { name := "identPrints", fn := fun _ => fun
  | [d1, d2] => { results := [.lit (.bool false)], args := [d1, d2] }
  | _ => none }
def IdentPrintsWrongFalsely : Prop := identPrintsRow.holds Tryd.pinned (OpenSpec.ofChange identPrintsWrong)

/-- 'examboardlaw09.IdentRoundTrip': WHATEVER THE INPUT: true; the input reads as it did. -/
def identRoundTripSpec : ChangeSpec := { name := "identRoundTrip", fn := fun _ => fun
  | [d1, d2] => { results := [.lit (.bool true)], args := [d1, d2] }
  | _ => none }
def identRoundTripRow : OpenClaim := { program := "ytjjcicopblgdmaadoor", sum := "0b4864ed28a9c363d98232544f7551d4b3a0852f0f9c4265b2d6f22b61004c9d", func := "examboard/examboardlaw09.IdentRoundTrip", spec := "identRoundTrip", inPlace := ["internal/abi.NoEscape", "internal/bytealg.MakeNoZero"], named := ["examboard/ident.prefixes", "internal/strconv.uint64pow10", "math/bits.deBruijn32tab", "math/bits.deBruijn64tab"], apart := false, laid := [("math/bits.deBruijn32tab", laid_math_bits_deBruijn32tab), ("math/bits.deBruijn64tab", laid_math_bits_deBruijn64tab), ("internal/strconv.uint64pow10", laid_internal_strconv_uint64pow10), ("examboard/ident.prefixes", laid_examboard_ident_prefixes)] }
def IdentRoundTripSaid : Prop := identRoundTripRow.holds Tryd.pinned (OpenSpec.ofChange identRoundTripSpec)

/-- ITS FALSE NEIGHBOUR: 'it returns false'. Refute it at one input. -/
def identRoundTripWrong : ChangeSpec := { name := "identRoundTrip", fn := fun _ => fun
  | [d1, d2] => { results := [.lit (.bool false)], args := [d1, d2] }
  | _ => none }
def IdentRoundTripWrongFalsely : Prop := identRoundTripRow.holds Tryd.pinned (OpenSpec.ofChange identRoundTripWrong)

/-- 'examboardlaw09.IdentUnique': WHATEVER THE INPUT: true; the input reads as it did. -/
def identUniqueSpec : ChangeSpec := { name := "identUnique", fn := fun _ => fun
  | [d] => { results := [.lit (.bool true)], args := [d] }
  | _ => none }
def identUniqueRow : OpenClaim := { program := "ytjjcicopblgdmaadoor", sum := "0b4864ed28a9c363d98232544f7551d4b3a0852f0f9c4265b2d6f22b61004c9d", func := "examboard/examboardlaw09.IdentUnique", spec := "identUnique", inPlace := ["internal/abi.NoEscape", "internal/bytealg.MakeNoZero"], named := ["examboard/ident.prefixes", "internal/strconv.uint64pow10", "math/bits.deBruijn32tab", "math/bits.deBruijn64tab"], apart := false, laid := [("math/bits.deBruijn32tab", laid_math_bits_deBruijn32tab), ("math/bits.deBruijn64tab", laid_math_bits_deBruijn64tab), ("internal/strconv.uint64pow10", laid_internal_strconv_uint64pow10), ("examboard/ident.prefixes", laid_examboard_ident_prefixes)] }
def IdentUniqueSaid : Prop := identUniqueRow.holds Tryd.pinned (OpenSpec.ofChange identUniqueSpec)

/-- ITS FALSE NEIGHBOUR: 'it returns false'. Refute it at one input. -/
def identUniqueWrong : ChangeSpec := { name := "identUnique", fn := fun _ => fun
  | [d] => { results := [.lit (.bool false)], args := [d] }
  | _ => none }
def IdentUniqueWrongFalsely : Prop := identUniqueRow.holds Tryd.pinned (OpenSpec.ofChange identUniqueWrong)

/-- 'examboardlaw09.IdentDetects': WHATEVER THE INPUT: true; the input reads as it did. -/
def identDetectsSpec : ChangeSpec := { name := "identDetects", fn := fun _ => fun
  | [d1, d2, d3, d4] => { results := [.lit (.bool true)], args := [d1, d2, d3, d4] }
  | _ => none }
def identDetectsRow : OpenClaim := { program := "ytjjcicopblgdmaadoor", sum := "0b4864ed28a9c363d98232544f7551d4b3a0852f0f9c4265b2d6f22b61004c9d", func := "examboard/examboardlaw09.IdentDetects", spec := "identDetects", inPlace := ["internal/abi.NoEscape", "internal/bytealg.MakeNoZero"], named := ["examboard/ident.prefixes", "internal/strconv.uint64pow10", "math/bits.deBruijn32tab", "math/bits.deBruijn64tab"], apart := false, laid := [("math/bits.deBruijn32tab", laid_math_bits_deBruijn32tab), ("math/bits.deBruijn64tab", laid_math_bits_deBruijn64tab), ("internal/strconv.uint64pow10", laid_internal_strconv_uint64pow10), ("examboard/ident.prefixes", laid_examboard_ident_prefixes)] }
def IdentDetectsSaid : Prop := identDetectsRow.holds Tryd.pinned (OpenSpec.ofChange identDetectsSpec)

/-- ITS FALSE NEIGHBOUR: 'it returns false'. Refute it at one input. -/
def identDetectsWrong : ChangeSpec := { name := "identDetects", fn := fun _ => fun
  | [d1, d2, d3, d4] => { results := [.lit (.bool false)], args := [d1, d2, d3, d4] }
  | _ => none }
def IdentDetectsWrongFalsely : Prop := identDetectsRow.holds Tryd.pinned (OpenSpec.ofChange identDetectsWrong)

/- THE SECOND FORM. 'bulk': how many values and letters a reading holds, each counted each time it is reached (what is shared counts as often as it is met; a slice's spare places count too). A statement '..UptoSaid' is the law's where the arguments, and the package variables that the reading takes, are together of bulk at most 1048576: NARROWER than '..Said'. Prove '..Said' where nothing that the law and all that it calls make is longer than what came in: it says more and counts as full. Else prove '..UptoSaid'. A law counts once. -/
mutual
def uptoBulk {H : Type} : DataW H → Nat
  | .lit (.string bytes) => bytes.length + 1
  | .lit _ => 1
  | .nil => 1
  | .ptr d => uptoBulk d + 1
  | .slice elems spare => uptoBulkAll elems + uptoBulkAll spare + 1
  | .agg parts => uptoBulkAll parts + 1
  | .iface _ d => uptoBulk d + 1
  | .map entries => uptoBulkEntries entries + 1
  | .held _ => 1
def uptoBulkAll {H : Type} : List (DataW H) → Nat
  | [] => 0
  | d :: r => uptoBulk d + uptoBulkAll r
def uptoBulkEntries {H : Type} : List (Lit × DataW H) → Nat
  | [] => 0
  | x :: r => uptoBulkEntry x + uptoBulkEntries r
def uptoBulkEntry {H : Type} : Lit × DataW H → Nat
  | (.string bytes, d) => bytes.length + uptoBulk d + 1
  | (_, d) => uptoBulk d + 1
 end
def uptoSmall : (H : Type) → List (DataW H) → Bool := fun _ ds => decide (uptoBulkAll ds ≤ 1048576)
def OpenSpec.upto (s : _root_.Go.ChangeSpec) : _root_.Go.OpenSpec := { _root_.Go.OpenSpec.ofChange s with cond := some uptoSmall }

/-- 'examboardlaw09.IdentParses', WHERE WHAT IT READS IS OF BULK AT MOST 1048576: true; the input reads as it did. -/
def identParsesUptoRow : OpenClaim := { program := "ytjjcicopblgdmaadoor", sum := "0b4864ed28a9c363d98232544f7551d4b3a0852f0f9c4265b2d6f22b61004c9d", func := "examboard/examboardlaw09.IdentParses", spec := "identParses", named := ["examboard/ident.prefixes"], apart := false, laid := [("examboard/ident.prefixes", laid_examboard_ident_prefixes)], narrowed := true }
def IdentParsesUptoSaid : Prop := identParsesUptoRow.holds Tryd.pinned (OpenSpec.upto identParsesSpec)

/-- 'examboardlaw09.IdentPrints', WHERE WHAT IT READS IS OF BULK AT MOST 1048576: true; the input reads as it did. -/
def identPrintsUptoRow : OpenClaim := { program := "ytjjcicopblgdmaadoor", sum := "0b4864ed28a9c363d98232544f7551d4b3a0852f0f9c4265b2d6f22b61004c9d", func := "examboard/examboardlaw09.IdentPrints", spec := "identPrints", inPlace := ["internal/abi.NoEscape", "internal/bytealg.MakeNoZero"], named := ["examboard/ident.prefixes", "internal/strconv.uint64pow10", "math/bits.deBruijn32tab", "math/bits.deBruijn64tab"], apart := false, laid := [("math/bits.deBruijn32tab", laid_math_bits_deBruijn32tab), ("math/bits.deBruijn64tab", laid_math_bits_deBruijn64tab), ("internal/strconv.uint64pow10", laid_internal_strconv_uint64pow10), ("examboard/ident.prefixes", laid_examboard_ident_prefixes)], narrowed := true }
def IdentPrintsUptoSaid : Prop := identPrintsUptoRow.holds Tryd.pinned (OpenSpec.upto identPrintsSpec)

/-- 'examboardlaw09.IdentRoundTrip', WHERE WHAT IT READS IS OF BULK AT MOST 1048576: true; the input reads as it did. -/
def identRoundTripUptoRow : OpenClaim := { program := "ytjjcicopblgdmaadoor", sum := "0b4864ed28a9c363d98232544f7551d4b3a0852f0f9c4265b2d6f22b61004c9d", func := "examboard/examboardlaw09.IdentRoundTrip", spec := "identRoundTrip", inPlace := ["internal/abi.NoEscape", "internal/bytealg.MakeNoZero"], named := ["examboard/ident.prefixes", "internal/strconv.uint64pow10", "math/bits.deBruijn32tab", "math/bits.deBruijn64tab"], apart := false, laid := [("math/bits.deBruijn32tab", laid_math_bits_deBruijn32tab), ("math/bits.deBruijn64tab", laid_math_bits_deBruijn64tab), ("internal/strconv.uint64pow10", laid_internal_strconv_uint64pow10), ("examboard/ident.prefixes", laid_examboard_ident_prefixes)], narrowed := true }
def IdentRoundTripUptoSaid : Prop := identRoundTripUptoRow.holds Tryd.pinned (OpenSpec.upto identRoundTripSpec)

/-- 'examboardlaw09.IdentUnique', WHERE WHAT IT READS IS OF BULK AT MOST 1048576: true; the input reads as it did. -/
def identUniqueUptoRow : OpenClaim := { program := "ytjjcicopblgdmaadoor", sum := "0b4864ed28a9c363d98232544f7551d4b3a0852f0f9c4265b2d6f22b61004c9d", func := "examboard/examboardlaw09.IdentUnique", spec := "identUnique", inPlace := ["internal/abi.NoEscape", "internal/bytealg.MakeNoZero"], named := ["examboard/ident.prefixes", "internal/strconv.uint64pow10", "math/bits.deBruijn32tab", "math/bits.deBruijn64tab"], apart := false, laid := [("math/bits.deBruijn32tab", laid_math_bits_deBruijn32tab), ("math/bits.deBruijn64tab", laid_math_bits_deBruijn64tab), ("internal/strconv.uint64pow10", laid_internal_strconv_uint64pow10), ("examboard/ident.prefixes", laid_examboard_ident_prefixes)], narrowed := true }
def IdentUniqueUptoSaid : Prop := identUniqueUptoRow.holds Tryd.pinned (OpenSpec.upto identUniqueSpec)

/-- 'examboardlaw09.IdentDetects', WHERE WHAT IT READS IS OF BULK AT MOST 1048576: true; the input reads as it did. -/
def identDetectsUptoRow : OpenClaim := { program := "ytjjcicopblgdmaadoor", sum := "0b4864ed28a9c363d98232544f7551d4b3a0852f0f9c4265b2d6f22b61004c9d", func := "examboard/examboardlaw09.IdentDetects", spec := "identDetects", inPlace := ["internal/abi.NoEscape", "internal/bytealg.MakeNoZero"], named := ["examboard/ident.prefixes", "internal/strconv.uint64pow10", "math/bits.deBruijn32tab", "math/bits.deBruijn64tab"], apart := false, laid := [("math/bits.deBruijn32tab", laid_math_bits_deBruijn32tab), ("math/bits.deBruijn64tab", laid_math_bits_deBruijn64tab), ("internal/strconv.uint64pow10", laid_internal_strconv_uint64pow10), ("examboard/ident.prefixes", laid_examboard_ident_prefixes)], narrowed := true }
def IdentDetectsUptoSaid : Prop := identDetectsUptoRow.holds Tryd.pinned (OpenSpec.upto identDetectsSpec)

end Rows
end Go.Proofs.YtjjcicopblgdmaaDoor
