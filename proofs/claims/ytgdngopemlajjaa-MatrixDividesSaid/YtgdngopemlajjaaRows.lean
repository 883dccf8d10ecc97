/-
  No cell of these rows narrows 'for every input' (looked for: loops, veiled, ifaces, maps, wideKeys, modest, calm, conditions, laid).
  DERIVED. THE GIVEN ROWS OF THIS SEAT. 8 by the template 'for every input the law returns true; each argument reads behind the call as it read before'; 0 by the template 'total and deterministic' (their statements: YtgdngopemlajjaaTotals.lean).
  GIVEN WITH THE SEED: the statements are not yours to turn. If you find one false, say at which input.
  Laid BY PROGRAM, IN A SANDBOX (cutbox-rows.mjs): the forced cells as the released guide's own fill.sh prints them over the translation cc634720524c7ddd… (all of the seat's roots in one cut). By AI agents, Wed Nov 11 2026. No macro, syntax, notation, axiom, sorry.
-/
import Derived.Test.YtgdngopemlajjaaChecked
import GoSem.Claim
import GoSem.ClaimJoined
import GoSem.ClaimMapViews
import Derived.JoinedTies
import Derived.KernelRfl
namespace Go.Proofs.Ytgdngopemlajjaa
/- THE CELL 'sum', in the pinned program and in every row, IS THE sha256 OF THE DUMP (.gsa) THAT YtgdngopemlajjaaProg.lean LOADS. Nothing in Lean hashes anything: it is a label: what it is worth is what the hold of that sum in a sandbox is worth. -/
noncomputable def Try.pinned : Pinned := { name := "ytgdngopemlajjaa", sum := "cc634720524c7ddd038c7d03642d766ca59a78a362ddc00dd9d495e1ecea45ed", checked := Try.checked }
namespace Rows
def none {H : Type} : Left H := { results := [], args := [] }

/-- 'examboardlaw24.MatrixRules': WHATEVER THE INPUT: true; the input reads as it did. -/
def matrixRulesSpec : ChangeSpec := { name := "matrixRules", fn := fun _ => fun
  | [d1, d2] => { results := [.lit (.bool true)], args := [d1, d2] }
  | _ => none }
def matrixRulesRow : OpenClaim := { program := "ytgdngopemlajjaa", sum := "cc634720524c7ddd038c7d03642d766ca59a78a362ddc00dd9d495e1ecea45ed", func := "examboard/examboardlaw24.MatrixRules", spec := "matrixRules", apart := false }
def MatrixRulesSaid : Prop := matrixRulesRow.holds Try.pinned (OpenSpec.ofChange matrixRulesSpec)

/-- ITS FALSE NEIGHBOUR: 'it returns false'. Refute it at one input. -/
def matrixRulesWrong : ChangeSpec := { name := "matrixRules", fn := fun _ => fun
  | [d1, d2] => { results := [.lit (.bool false)], args := [d1, d2] }
  | _ => none }
def MatrixRulesWrongFalsely : Prop := matrixRulesRow.holds Try.pinned (OpenSpec.ofChange matrixRulesWrong)

/-- 'examboardlaw24.MatrixParts': WHATEVER THE INPUT: true; the input reads as it did. -/
def matrixPartsSpec : ChangeSpec := { name := "matrixParts", fn := fun _ => fun
  | [d1, d2, d3] => { results := [.lit (.bool true)], args := [d1, d2, d3] }
  | _ => none }
def matrixPartsRow : OpenClaim := { program := "ytgdngopemlajjaa", sum := "cc634720524c7ddd038c7d03642d766ca59a78a362ddc00dd9d495e1ecea45ed", func := "examboard/examboardlaw24.MatrixParts", spec := "matrixParts", apart := false }
def MatrixPartsSaid : Prop := matrixPartsRow.holds Try.pinned (OpenSpec.ofChange matrixPartsSpec)

/-- ITS FALSE NEIGHBOUR: 'it returns false'. Refute it at one input. -/
def matrixPartsWrong : ChangeSpec := { name := "matrixParts", fn := fun _ => fun
  | [d1, d2, d3] => { results := [.lit (.bool false)], args := [d1, d2, d3] }
  | _ => none }
def MatrixPartsWrongFalsely : Prop := matrixPartsRow.holds Try.pinned (OpenSpec.ofChange matrixPartsWrong)

/-- 'examboardlaw24.MatrixMerges': WHATEVER THE INPUT: true; the input reads as it did. -/
def matrixMergesSpec : ChangeSpec := { name := "matrixMerges", fn := fun _ => fun
  | [d1, d2] => { results := [.lit (.bool true)], args := [d1, d2] }
  | _ => none }
def matrixMergesRow : OpenClaim := { program := "ytgdngopemlajjaa", sum := "cc634720524c7ddd038c7d03642d766ca59a78a362ddc00dd9d495e1ecea45ed", func := "examboard/examboardlaw24.MatrixMerges", spec := "matrixMerges", apart := false }
def MatrixMergesSaid : Prop := matrixMergesRow.holds Try.pinned (OpenSpec.ofChange matrixMergesSpec)

/-- ITS FALSE NEIGHBOUR: 'it returns false'. Refute it at one input. -/
def matrixMergesWrong : ChangeSpec := { name := "matrixMerges", fn := fun _ => fun
  | [d1, d2] => { results := [.lit (.bool false)], args := [d1, d2] }
  | _ => none }
def MatrixMergesWrongFalsely : Prop := matrixMergesRow.holds Try.pinned (OpenSpec.ofChange matrixMergesWrong)

/-- 'examboardlaw24.MatrixMark': WHATEVER THE INPUT: true; the input reads as it did. -/
def matrixMarkSpec : ChangeSpec := { name := "matrixMark", fn := fun _ => fun
  | [d] => { results := [.lit (.bool true)], args := [d] }
  | _ => none }
def matrixMarkRow : OpenClaim := { program := "ytgdngopemlajjaa", sum := "cc634720524c7ddd038c7d03642d766ca59a78a362ddc00dd9d495e1ecea45ed", func := "examboard/examboardlaw24.MatrixMark", spec := "matrixMark", apart := false }
def MatrixMarkSaid : Prop := matrixMarkRow.holds Try.pinned (OpenSpec.ofChange matrixMarkSpec)

/-- ITS FALSE NEIGHBOUR: 'it returns false'. Refute it at one input. -/
def matrixMarkWrong : ChangeSpec := { name := "matrixMark", fn := fun _ => fun
  | [d] => { results := [.lit (.bool false)], args := [d] }
  | _ => none }
def MatrixMarkWrongFalsely : Prop := matrixMarkRow.holds Try.pinned (OpenSpec.ofChange matrixMarkWrong)

/-- 'examboardlaw24.MatrixSelects': WHATEVER THE INPUT: true; the input reads as it did. -/
def matrixSelectsSpec : ChangeSpec := { name := "matrixSelects", fn := fun _ => fun
  | [d1, d2, d3] => { results := [.lit (.bool true)], args := [d1, d2, d3] }
  | _ => none }
def matrixSelectsRow : OpenClaim := { program := "ytgdngopemlajjaa", sum := "cc634720524c7ddd038c7d03642d766ca59a78a362ddc00dd9d495e1ecea45ed", func := "examboard/examboardlaw24.MatrixSelects", spec := "matrixSelects", apart := false }
def MatrixSelectsSaid : Prop := matrixSelectsRow.holds Try.pinned (OpenSpec.ofChange matrixSelectsSpec)

/-- ITS FALSE NEIGHBOUR: 'it returns false'. Refute it at one input. -/
def matrixSelectsWrong : ChangeSpec := { name := "matrixSelects", fn := fun _ => fun
  | [d1, d2, d3] => { results := [.lit (.bool false)], args := [d1, d2, d3] }
  | _ => none }
def MatrixSelectsWrongFalsely : Prop := matrixSelectsRow.holds Try.pinned (OpenSpec.ofChange matrixSelectsWrong)

/-- 'examboardlaw24.MatrixUnion': WHATEVER THE INPUT: true; the input reads as it did. -/
def matrixUnionSpec : ChangeSpec := { name := "matrixUnion", fn := fun _ => fun
  | [d1, d2] => { results := [.lit (.bool true)], args := [d1, d2] }
  | _ => none }
def matrixUnionRow : OpenClaim := { program := "ytgdngopemlajjaa", sum := "cc634720524c7ddd038c7d03642d766ca59a78a362ddc00dd9d495e1ecea45ed", func := "examboard/examboardlaw24.MatrixUnion", spec := "matrixUnion", apart := false }
def MatrixUnionSaid : Prop := matrixUnionRow.holds Try.pinned (OpenSpec.ofChange matrixUnionSpec)

/-- ITS FALSE NEIGHBOUR: 'it returns false'. Refute it at one input. -/
def matrixUnionWrong : ChangeSpec := { name := "matrixUnion", fn := fun _ => fun
  | [d1, d2] => { results := [.lit (.bool false)], args := [d1, d2] }
  | _ => none }
def MatrixUnionWrongFalsely : Prop := matrixUnionRow.holds Try.pinned (OpenSpec.ofChange matrixUnionWrong)

/-- 'examboardlaw24.MatrixDivides': WHATEVER THE INPUT: true; the input reads as it did. -/
def matrixDividesSpec : ChangeSpec := { name := "matrixDivides", fn := fun _ => fun
  | [d1, d2, d3] => { results := [.lit (.bool true)], args := [d1, d2, d3] }
  | _ => none }
def matrixDividesRow : OpenClaim := { program := "ytgdngopemlajjaa", sum := "cc634720524c7ddd038c7d03642d766ca59a78a362ddc00dd9d495e1ecea45ed", func := "examboard/examboardlaw24.MatrixDivides", spec := "matrixDivides", apart := false }
def MatrixDividesSaid : Prop := matrixDividesRow.holds Try.pinned (OpenSpec.ofChange matrixDividesSpec)

/-- ITS FALSE NEIGHBOUR: 'it returns false'. Refute it at one input. -/
def matrixDividesWrong : ChangeSpec := { name := "matrixDivides", fn := fun _ => fun
  | [d1, d2, d3] => { results := [.lit (.bool false)], args := [d1, d2, d3] }
  | _ => none }
def MatrixDividesWrongFalsely : Prop := matrixDividesRow.holds Try.pinned (OpenSpec.ofChange matrixDividesWrong)

/-- 'examboardlaw24.MatrixCounts': WHATEVER THE INPUT: true; the input reads as it did. -/
def matrixCountsSpec : ChangeSpec := { name := "matrixCounts", fn := fun _ => fun
  | [d1, d2] => { results := [.lit (.bool true)], args := [d1, d2] }
  | _ => none }
def matrixCountsRow : OpenClaim := { program := "ytgdngopemlajjaa", sum := "cc634720524c7ddd038c7d03642d766ca59a78a362ddc00dd9d495e1ecea45ed", func := "examboard/examboardlaw24.MatrixCounts", spec := "matrixCounts", apart := false }
def MatrixCountsSaid : Prop := matrixCountsRow.holds Try.pinned (OpenSpec.ofChange matrixCountsSpec)

/-- ITS FALSE NEIGHBOUR: 'it returns false'. Refute it at one input. -/
def matrixCountsWrong : ChangeSpec := { name := "matrixCounts", fn := fun _ => fun
  | [d1, d2] => { results := [.lit (.bool false)], args := [d1, d2] }
  | _ => none }
def MatrixCountsWrongFalsely : Prop := matrixCountsRow.holds Try.pinned (OpenSpec.ofChange matrixCountsWrong)

/- THE SECOND FORM. 'bulk': how many values and letters a reading holds, each counted each time it is reached (what is shared counts as often as it is met; a slice's spare places count too). A statement '..UptoSaid' is the law's where the arguments, and the package variables that the reading takes, are together of bulk at most 1048576: NARROWER than '..Said'. Prove '..Said' where nothing that the law and all that it calls make is longer than what came in: it says more and counts as full. Else prove '..UptoSaid'. A law counts once. -/
mutual
def uptoBulk {H : Type} : DataW H → Nat
  | .lit (.string bytes) => bytes.length + 1
  | .lit _ => 1
  | .nil => 1
  | .ptr d => uptoBulk d + 1
  | .slice elems spare => uptoBulkAll elems + uptoBulkAll spare + 1
  | .agg parts => uptoBulkAll parts + 1
  | .iface _ d => uptoBulk d + 1
  | .map entries => uptoBulkEntries entries + 1
  | .held _ => 1
def uptoBulkAll {H : Type} : List (DataW H) → Nat
  | [] => 0
  | d :: r => uptoBulk d + uptoBulkAll r
def uptoBulkEntries {H : Type} : List (Lit × DataW H) → Nat
  | [] => 0
  | x :: r => uptoBulkEntry x + uptoBulkEntries r
def uptoBulkEntry {H : Type} : Lit × DataW H → Nat
  | (.string bytes, d) => bytes.length + uptoBulk d + 1
  | (_, d) => uptoBulk d + 1
 end
def uptoSmall : (H : Type) → List (DataW H) → Bool := fun _ ds => decide (uptoBulkAll ds ≤ 1048576)
def OpenSpec.upto (s : _root_.Go.ChangeSpec) : _root_.Go.OpenSpec := { _root_.Go.OpenSpec.ofChange s with cond := some uptoSmall }

/-- 'examboardlaw24.MatrixRules', WHERE WHAT IT READS IS OF BULK AT MOST 1048576: true; the input reads as it did. -/
def matrixRulesUptoRow : OpenClaim := { program := "ytgdngopemlajjaa", sum := "cc634720524c7ddd038c7d03642d766ca59a78a362ddc00dd9d495e1ecea45ed", func := "examboard/examboardlaw24.MatrixRules", spec := "matrixRules", apart := false, narrowed := true }
def MatrixRulesUptoSaid : Prop := matrixRulesUptoRow.holds Try.pinned (OpenSpec.upto matrixRulesSpec)

/-- 'examboardlaw24.MatrixParts', WHERE WHAT IT READS IS OF BULK AT MOST 1048576: true; the input reads as it did. -/
def matrixPartsUptoRow : OpenClaim := { program := "ytgdngopemlajjaa", sum := "cc634720524c7ddd038c7d03642d766ca59a78a362ddc00dd9d495e1ecea45ed", func := "examboard/examboardlaw24.MatrixParts", spec := "matrixParts", apart := false, narrowed := true }
def MatrixPartsUptoSaid : Prop := matrixPartsUptoRow.holds Try.pinned (OpenSpec.upto matrixPartsSpec)

/-- 'examboardlaw24.MatrixMerges', WHERE WHAT IT READS IS OF BULK AT MOST 1048576: true; the input reads as it did. -/
def matrixMergesUptoRow : OpenClaim := { program := "ytgdngopemlajjaa", sum := "cc634720524c7ddd038c7d03642d766ca59a78a362ddc00dd9d495e1ecea45ed", func := "examboard/examboardlaw24.MatrixMerges", spec := "matrixMerges", apart := false, narrowed := true }
def MatrixMergesUptoSaid : Prop := matrixMergesUptoRow.holds Try.pinned (OpenSpec.upto matrixMergesSpec)

/-- 'examboardlaw24.MatrixMark', WHERE WHAT IT READS IS OF BULK AT MOST 1048576: true; the input reads as it did. -/
def matrixMarkUptoRow : OpenClaim := { program := "ytgdngopemlajjaa", sum := "cc634720524c7ddd038c7d03642d766ca59a78a362ddc00dd9d495e1ecea45ed", func := "examboard/examboardlaw24.MatrixMark", spec := "matrixMark", apart := false, narrowed := true }
def MatrixMarkUptoSaid : Prop := matrixMarkUptoRow.holds Try.pinned (OpenSpec.upto matrixMarkSpec)

/-- 'examboardlaw24.MatrixSelects', WHERE WHAT IT READS IS OF BULK AT MOST 1048576: true; the input reads as it did. -/
def matrixSelectsUptoRow : OpenClaim := { program := "ytgdngopemlajjaa", sum := "cc634720524c7ddd038c7d03642d766ca59a78a362ddc00dd9d495e1ecea45ed", func := "examboard/examboardlaw24.MatrixSelects", spec := "matrixSelects", apart := false, narrowed := true }
def MatrixSelectsUptoSaid : Prop := matrixSelectsUptoRow.holds Try.pinned (OpenSpec.upto matrixSelectsSpec)

/-- 'examboardlaw24.MatrixUnion', WHERE WHAT IT READS IS OF BULK AT MOST 1048576: true; the input reads as it did. -/
def matrixUnionUptoRow : OpenClaim := { program := "ytgdngopemlajjaa", sum := "cc634720524c7ddd038c7d03642d766ca59a78a362ddc00dd9d495e1ecea45ed", func := "examboard/examboardlaw24.MatrixUnion", spec := "matrixUnion", apart := false, narrowed := true }
def MatrixUnionUptoSaid : Prop := matrixUnionUptoRow.holds Try.pinned (OpenSpec.upto matrixUnionSpec)

/-- 'examboardlaw24.MatrixDivides', WHERE WHAT IT READS IS OF BULK AT MOST 1048576: true; the input reads as it did. -/
def matrixDividesUptoRow : OpenClaim := { program := "ytgdngopemlajjaa", sum := "cc634720524c7ddd038c7d03642d766ca59a78a362ddc00dd9d495e1ecea45ed", func := "examboard/examboardlaw24.MatrixDivides", spec := "matrixDivides", apart := false, narrowed := true }
def MatrixDividesUptoSaid : Prop := matrixDividesUptoRow.holds Try.pinned (OpenSpec.upto matrixDividesSpec)

/-- 'examboardlaw24.MatrixCounts', WHERE WHAT IT READS IS OF BULK AT MOST 1048576: true; the input reads as it did. -/
def matrixCountsUptoRow : OpenClaim := { program := "ytgdngopemlajjaa", sum := "cc634720524c7ddd038c7d03642d766ca59a78a362ddc00dd9d495e1ecea45ed", func := "examboard/examboardlaw24.MatrixCounts", spec := "matrixCounts", apart := false, narrowed := true }
def MatrixCountsUptoSaid : Prop := matrixCountsUptoRow.holds Try.pinned (OpenSpec.upto matrixCountsSpec)

end Rows
end Go.Proofs.Ytgdngopemlajjaa
