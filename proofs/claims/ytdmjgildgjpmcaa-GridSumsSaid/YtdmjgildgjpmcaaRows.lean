/-
  No cell of these rows narrows 'for every input' (looked for: loops, veiled, ifaces, maps, wideKeys, modest, calm, conditions, laid).
  DERIVED. THE GIVEN ROWS OF THIS SEAT. 5 by the template 'for every input the law returns true; each argument reads behind the call as it read before'; 0 by the template 'total and deterministic' (their statements: YtdmjgildgjpmcaaTotals.lean).
  GIVEN WITH THE SEED: the statements are not yours to turn. If you find one false, say at which input.
  Laid BY PROGRAM, IN A SANDBOX (cutbox-rows.mjs): the forced cells as the released guide's own fill.sh prints them over the translation e82d83da9e6f2a9c… (all of the seat's roots in one cut). By AI agents, Wed Nov 11 2026. No macro, syntax, notation, axiom, sorry.
-/
import Derived.Test.YtdmjgildgjpmcaaChecked
import GoSem.Claim
import GoSem.ClaimJoined
import GoSem.ClaimMapViews
import Derived.JoinedTies
import Derived.KernelRfl
namespace Go.Proofs.Ytdmjgildgjpmcaa
/- THE CELL 'sum', in the pinned program and in every row, IS THE sha256 OF THE DUMP (.gsa) THAT YtdmjgildgjpmcaaProg.lean LOADS. Nothing in Lean hashes anything: it is a label: what it is worth is what the hold of that sum in a sandbox is worth. -/
noncomputable def Try.pinned : Pinned := { name := "ytdmjgildgjpmcaa", sum := "e82d83da9e6f2a9cf178ebf01735901e5d1536c340959264b8ec51b0f588a8ed", checked := Try.checked }
namespace Rows
def none {H : Type} : Left H := { results := [], args := [] }

/-- 'examboardlaw18.GridMakes': WHATEVER THE INPUT: true; the input reads as it did. -/
def gridMakesSpec : ChangeSpec := { name := "gridMakes", fn := fun _ => fun
  | [d1, d2, d3] => { results := [.lit (.bool true)], args := [d1, d2, d3] }
  | _ => none }
def gridMakesRow : OpenClaim := { program := "ytdmjgildgjpmcaa", sum := "e82d83da9e6f2a9cf178ebf01735901e5d1536c340959264b8ec51b0f588a8ed", func := "examboard/examboardlaw18.GridMakes", spec := "gridMakes", apart := false }
def GridMakesSaid : Prop := gridMakesRow.holds Try.pinned (OpenSpec.ofChange gridMakesSpec)

/-- ITS FALSE NEIGHBOUR: 'it returns false'. Refute it at one input. -/
def gridMakesWrong : ChangeSpec := { name := "gridMakes", fn := fun _ => fun
  | [d1, d2, d3] => { results := [.lit (.bool false)], args := [d1, d2, d3] }
  | _ => none }
def GridMakesWrongFalsely : Prop := gridMakesRow.holds Try.pinned (OpenSpec.ofChange gridMakesWrong)

/-- 'examboardlaw18.GridValids': WHATEVER THE INPUT: true; the input reads as it did. -/
def gridValidsSpec : ChangeSpec := { name := "gridValids", fn := fun _ => fun
  | [d] => { results := [.lit (.bool true)], args := [d] }
  | _ => none }
def gridValidsRow : OpenClaim := { program := "ytdmjgildgjpmcaa", sum := "e82d83da9e6f2a9cf178ebf01735901e5d1536c340959264b8ec51b0f588a8ed", func := "examboard/examboardlaw18.GridValids", spec := "gridValids", apart := false }
def GridValidsSaid : Prop := gridValidsRow.holds Try.pinned (OpenSpec.ofChange gridValidsSpec)

/-- ITS FALSE NEIGHBOUR: 'it returns false'. Refute it at one input. -/
def gridValidsWrong : ChangeSpec := { name := "gridValids", fn := fun _ => fun
  | [d] => { results := [.lit (.bool false)], args := [d] }
  | _ => none }
def GridValidsWrongFalsely : Prop := gridValidsRow.holds Try.pinned (OpenSpec.ofChange gridValidsWrong)

/-- 'examboardlaw18.GridSums': WHATEVER THE INPUT: true; the input reads as it did. -/
def gridSumsSpec : ChangeSpec := { name := "gridSums", fn := fun _ => fun
  | [d1, d2] => { results := [.lit (.bool true)], args := [d1, d2] }
  | _ => none }
def gridSumsRow : OpenClaim := { program := "ytdmjgildgjpmcaa", sum := "e82d83da9e6f2a9cf178ebf01735901e5d1536c340959264b8ec51b0f588a8ed", func := "examboard/examboardlaw18.GridSums", spec := "gridSums", apart := false }
def GridSumsSaid : Prop := gridSumsRow.holds Try.pinned (OpenSpec.ofChange gridSumsSpec)

/-- ITS FALSE NEIGHBOUR: 'it returns false'. Refute it at one input. -/
def gridSumsWrong : ChangeSpec := { name := "gridSums", fn := fun _ => fun
  | [d1, d2] => { results := [.lit (.bool false)], args := [d1, d2] }
  | _ => none }
def GridSumsWrongFalsely : Prop := gridSumsRow.holds Try.pinned (OpenSpec.ofChange gridSumsWrong)

/-- 'examboardlaw18.GridNears': WHATEVER THE INPUT: true; the input reads as it did. -/
def gridNearsSpec : ChangeSpec := { name := "gridNears", fn := fun _ => fun
  | [d1, d2] => { results := [.lit (.bool true)], args := [d1, d2] }
  | _ => none }
def gridNearsRow : OpenClaim := { program := "ytdmjgildgjpmcaa", sum := "e82d83da9e6f2a9cf178ebf01735901e5d1536c340959264b8ec51b0f588a8ed", func := "examboard/examboardlaw18.GridNears", spec := "gridNears", apart := false }
def GridNearsSaid : Prop := gridNearsRow.holds Try.pinned (OpenSpec.ofChange gridNearsSpec)

/-- ITS FALSE NEIGHBOUR: 'it returns false'. Refute it at one input. -/
def gridNearsWrong : ChangeSpec := { name := "gridNears", fn := fun _ => fun
  | [d1, d2] => { results := [.lit (.bool false)], args := [d1, d2] }
  | _ => none }
def GridNearsWrongFalsely : Prop := gridNearsRow.holds Try.pinned (OpenSpec.ofChange gridNearsWrong)

/-- 'examboardlaw18.GridCenters': WHATEVER THE INPUT: true; the input reads as it did. -/
def gridCentersSpec : ChangeSpec := { name := "gridCenters", fn := fun _ => fun
  | [d1, d2, d3] => { results := [.lit (.bool true)], args := [d1, d2, d3] }
  | _ => none }
def gridCentersRow : OpenClaim := { program := "ytdmjgildgjpmcaa", sum := "e82d83da9e6f2a9cf178ebf01735901e5d1536c340959264b8ec51b0f588a8ed", func := "examboard/examboardlaw18.GridCenters", spec := "gridCenters", apart := false }
def GridCentersSaid : Prop := gridCentersRow.holds Try.pinned (OpenSpec.ofChange gridCentersSpec)

/-- ITS FALSE NEIGHBOUR: 'it returns false'. Refute it at one input. -/
def gridCentersWrong : ChangeSpec := { name := "gridCenters", fn := fun _ => fun
  | [d1, d2, d3] => { results := [.lit (.bool false)], args := [d1, d2, d3] }
  | _ => none }
def GridCentersWrongFalsely : Prop := gridCentersRow.holds Try.pinned (OpenSpec.ofChange gridCentersWrong)

/- THE SECOND FORM. 'bulk': how many values and letters a reading holds, each counted each time it is reached (what is shared counts as often as it is met; a slice's spare places count too). A statement '..UptoSaid' is the law's where the arguments, and the package variables that the reading takes, are together of bulk at most 1048576: NARROWER than '..Said'. Prove '..Said' where nothing that the law and all that it calls make is longer than what came in: it says more and counts as full. Else prove '..UptoSaid'. A law counts once. -/
mutual
def uptoBulk {H : Type} : DataW H → Nat
  | .lit (.string bytes) => bytes.length + 1
  | .lit _ => 1
  | .nil => 1
  | .ptr d => uptoBulk d + 1
  | .slice elems spare => uptoBulkAll elems + uptoBulkAll spare + 1
  | .agg parts => uptoBulkAll parts + 1
  | .iface _ d => uptoBulk d + 1
  | .map entries => uptoBulkEntries entries + 1
  | .held _ => 1
def uptoBulkAll {H : Type} : List (DataW H) → Nat
  | [] => 0
  | d :: r => uptoBulk d + uptoBulkAll r
def uptoBulkEntries {H : Type} : List (Lit × DataW H) → Nat
  | [] => 0
  | x :: r => uptoBulkEntry x + uptoBulkEntries r
def uptoBulkEntry {H : Type} : Lit × DataW H → Nat
  | (.string bytes, d) => bytes.length + uptoBulk d + 1
  | (_, d) => uptoBulk d + 1
 end
def uptoSmall : (H : Type) → List (DataW H) → Bool := fun _ ds => decide (uptoBulkAll ds ≤ 1048576)
def OpenSpec.upto (s : _root_.Go.ChangeSpec) : _root_.Go.OpenSpec := { _root_.Go.OpenSpec.ofChange s with cond := some uptoSmall }

/-- 'examboardlaw18.GridMakes', WHERE WHAT IT READS IS OF BULK AT MOST 1048576: true; the input reads as it did. -/
def gridMakesUptoRow : OpenClaim := { program := "ytdmjgildgjpmcaa", sum := "e82d83da9e6f2a9cf178ebf01735901e5d1536c340959264b8ec51b0f588a8ed", func := "examboard/examboardlaw18.GridMakes", spec := "gridMakes", apart := false, narrowed := true }
def GridMakesUptoSaid : Prop := gridMakesUptoRow.holds Try.pinned (OpenSpec.upto gridMakesSpec)

/-- 'examboardlaw18.GridValids', WHERE WHAT IT READS IS OF BULK AT MOST 1048576: true; the input reads as it did. -/
def gridValidsUptoRow : OpenClaim := { program := "ytdmjgildgjpmcaa", sum := "e82d83da9e6f2a9cf178ebf01735901e5d1536c340959264b8ec51b0f588a8ed", func := "examboard/examboardlaw18.GridValids", spec := "gridValids", apart := false, narrowed := true }
def GridValidsUptoSaid : Prop := gridValidsUptoRow.holds Try.pinned (OpenSpec.upto gridValidsSpec)

/-- 'examboardlaw18.GridSums', WHERE WHAT IT READS IS OF BULK AT MOST 1048576: true; the input reads as it did. -/
def gridSumsUptoRow : OpenClaim := { program := "ytdmjgildgjpmcaa", sum := "e82d83da9e6f2a9cf178ebf01735901e5d1536c340959264b8ec51b0f588a8ed", func := "examboard/examboardlaw18.GridSums", spec := "gridSums", apart := false, narrowed := true }
def GridSumsUptoSaid : Prop := gridSumsUptoRow.holds Try.pinned (OpenSpec.upto gridSumsSpec)

/-- 'examboardlaw18.GridNears', WHERE WHAT IT READS IS OF BULK AT MOST 1048576: true; the input reads as it did. -/
def gridNearsUptoRow : OpenClaim := { program := "ytdmjgildgjpmcaa", sum := "e82d83da9e6f2a9cf178ebf01735901e5d1536c340959264b8ec51b0f588a8ed", func := "examboard/examboardlaw18.GridNears", spec := "gridNears", apart := false, narrowed := true }
def GridNearsUptoSaid : Prop := gridNearsUptoRow.holds Try.pinned (OpenSpec.upto gridNearsSpec)

/-- 'examboardlaw18.GridCenters', WHERE WHAT IT READS IS OF BULK AT MOST 1048576: true; the input reads as it did. -/
def gridCentersUptoRow : OpenClaim := { program := "ytdmjgildgjpmcaa", sum := "e82d83da9e6f2a9cf178ebf01735901e5d1536c340959264b8ec51b0f588a8ed", func := "examboard/examboardlaw18.GridCenters", spec := "gridCenters", apart := false, narrowed := true }
def GridCentersUptoSaid : Prop := gridCentersUptoRow.holds Try.pinned (OpenSpec.upto gridCentersSpec)

end Rows
end Go.Proofs.Ytdmjgildgjpmcaa
