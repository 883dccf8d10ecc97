/-
  No cell of these rows narrows 'for every input' (looked for: loops, veiled, ifaces, maps, wideKeys, modest, calm, conditions, laid).
  DERIVED. THE GIVEN ROWS OF THIS SEAT. 7 by the template 'for every input the law returns true; each argument reads behind the call as it read before'; 0 by the template 'total and deterministic' (their statements: YtneoglmfabilnaaTotals.lean).
  GIVEN WITH THE SEED: the statements are not yours to turn. If you find one false, say at which input.
  Laid BY PROGRAM, IN A SANDBOX (cutbox-rows.mjs): the forced cells as the released guide's own fill.sh prints them over the translation 282eb0a2b60342d3… (all of the seat's roots in one cut). By AI agents, Wed Nov 11 2026. No macro, syntax, notation, axiom, sorry.
-/
import Derived.Test.YtneoglmfabilnaaChecked
import GoSem.Claim
import GoSem.ClaimJoined
import GoSem.ClaimMapViews
import Derived.JoinedTies
import Derived.KernelRfl
namespace Go.Proofs.Ytneoglmfabilnaa
/- THE CELL 'sum', in the pinned program and in every row, IS THE sha256 OF THE DUMP (.gsa) THAT YtneoglmfabilnaaProg.lean LOADS. Nothing in Lean hashes anything: it is a label: what it is worth is what the hold of that sum in a sandbox is worth. -/
noncomputable def Try.pinned : Pinned := { name := "ytneoglmfabilnaa", sum := "282eb0a2b60342d3bfb95e97a62e6aac835cbc764f6b56c2b045927d5017bf86", checked := Try.checked }
namespace Rows
def none {H : Type} : Left H := { results := [], args := [] }

/-- 'examboardlaw28.CalibrateWeights': WHATEVER THE INPUT: true; the input reads as it did. -/
def calibrateWeightsSpec : ChangeSpec := { name := "calibrateWeights", fn := fun _ => fun
  | [d1, d2, d3, d4] => { results := [.lit (.bool true)], args := [d1, d2, d3, d4] }
  | _ => none }
def calibrateWeightsRow : OpenClaim := { program := "ytneoglmfabilnaa", sum := "282eb0a2b60342d3bfb95e97a62e6aac835cbc764f6b56c2b045927d5017bf86", func := "examboard/examboardlaw28.CalibrateWeights", spec := "calibrateWeights", apart := false }
def CalibrateWeightsSaid : Prop := calibrateWeightsRow.holds Try.pinned (OpenSpec.ofChange calibrateWeightsSpec)

/-- ITS FALSE NEIGHBOUR: 'it returns false'. Refute it at one input. -/
def calibrateWeightsWrong : ChangeSpec := { name := "calibrateWeights", fn := fun _ => fun
  | [d1, d2, d3, d4] => { results := [.lit (.bool false)], args := [d1, d2, d3, d4] }
  | _ => none }
def CalibrateWeightsWrongFalsely : Prop := calibrateWeightsRow.holds Try.pinned (OpenSpec.ofChange calibrateWeightsWrong)

/-- 'examboardlaw28.CalibrateTotals': WHATEVER THE INPUT: true; the input reads as it did. -/
def calibrateTotalsSpec : ChangeSpec := { name := "calibrateTotals", fn := fun _ => fun
  | [d1, d2, d3] => { results := [.lit (.bool true)], args := [d1, d2, d3] }
  | _ => none }
def calibrateTotalsRow : OpenClaim := { program := "ytneoglmfabilnaa", sum := "282eb0a2b60342d3bfb95e97a62e6aac835cbc764f6b56c2b045927d5017bf86", func := "examboard/examboardlaw28.CalibrateTotals", spec := "calibrateTotals", apart := false }
def CalibrateTotalsSaid : Prop := calibrateTotalsRow.holds Try.pinned (OpenSpec.ofChange calibrateTotalsSpec)

/-- ITS FALSE NEIGHBOUR: 'it returns false'. Refute it at one input. -/
def calibrateTotalsWrong : ChangeSpec := { name := "calibrateTotals", fn := fun _ => fun
  | [d1, d2, d3] => { results := [.lit (.bool false)], args := [d1, d2, d3] }
  | _ => none }
def CalibrateTotalsWrongFalsely : Prop := calibrateTotalsRow.holds Try.pinned (OpenSpec.ofChange calibrateTotalsWrong)

/-- 'examboardlaw28.CalibrateOrder': WHATEVER THE INPUT: true; the input reads as it did. -/
def calibrateOrderSpec : ChangeSpec := { name := "calibrateOrder", fn := fun _ => fun
  | [d1, d2, d3, d4] => { results := [.lit (.bool true)], args := [d1, d2, d3, d4] }
  | _ => none }
def calibrateOrderRow : OpenClaim := { program := "ytneoglmfabilnaa", sum := "282eb0a2b60342d3bfb95e97a62e6aac835cbc764f6b56c2b045927d5017bf86", func := "examboard/examboardlaw28.CalibrateOrder", spec := "calibrateOrder", apart := false }
def CalibrateOrderSaid : Prop := calibrateOrderRow.holds Try.pinned (OpenSpec.ofChange calibrateOrderSpec)

/-- ITS FALSE NEIGHBOUR: 'it returns false'. Refute it at one input. -/
def calibrateOrderWrong : ChangeSpec := { name := "calibrateOrder", fn := fun _ => fun
  | [d1, d2, d3, d4] => { results := [.lit (.bool false)], args := [d1, d2, d3, d4] }
  | _ => none }
def CalibrateOrderWrongFalsely : Prop := calibrateOrderRow.holds Try.pinned (OpenSpec.ofChange calibrateOrderWrong)

/-- 'examboardlaw28.CalibrateBest': WHATEVER THE INPUT: true; the input reads as it did. -/
def calibrateBestSpec : ChangeSpec := { name := "calibrateBest", fn := fun _ => fun
  | [d1, d2, d3, d4, d5] => { results := [.lit (.bool true)], args := [d1, d2, d3, d4, d5] }
  | _ => none }
def calibrateBestRow : OpenClaim := { program := "ytneoglmfabilnaa", sum := "282eb0a2b60342d3bfb95e97a62e6aac835cbc764f6b56c2b045927d5017bf86", func := "examboard/examboardlaw28.CalibrateBest", spec := "calibrateBest", apart := false }
def CalibrateBestSaid : Prop := calibrateBestRow.holds Try.pinned (OpenSpec.ofChange calibrateBestSpec)

/-- ITS FALSE NEIGHBOUR: 'it returns false'. Refute it at one input. -/
def calibrateBestWrong : ChangeSpec := { name := "calibrateBest", fn := fun _ => fun
  | [d1, d2, d3, d4, d5] => { results := [.lit (.bool false)], args := [d1, d2, d3, d4, d5] }
  | _ => none }
def CalibrateBestWrongFalsely : Prop := calibrateBestRow.holds Try.pinned (OpenSpec.ofChange calibrateBestWrong)

/-- 'examboardlaw28.CalibrateSweeps': WHATEVER THE INPUT: true; the input reads as it did. -/
def calibrateSweepsSpec : ChangeSpec := { name := "calibrateSweeps", fn := fun _ => fun
  | [d1, d2, d3, d4] => { results := [.lit (.bool true)], args := [d1, d2, d3, d4] }
  | _ => none }
def calibrateSweepsRow : OpenClaim := { program := "ytneoglmfabilnaa", sum := "282eb0a2b60342d3bfb95e97a62e6aac835cbc764f6b56c2b045927d5017bf86", func := "examboard/examboardlaw28.CalibrateSweeps", spec := "calibrateSweeps", apart := false }
def CalibrateSweepsSaid : Prop := calibrateSweepsRow.holds Try.pinned (OpenSpec.ofChange calibrateSweepsSpec)

/-- ITS FALSE NEIGHBOUR: 'it returns false'. Refute it at one input. -/
def calibrateSweepsWrong : ChangeSpec := { name := "calibrateSweeps", fn := fun _ => fun
  | [d1, d2, d3, d4] => { results := [.lit (.bool false)], args := [d1, d2, d3, d4] }
  | _ => none }
def CalibrateSweepsWrongFalsely : Prop := calibrateSweepsRow.holds Try.pinned (OpenSpec.ofChange calibrateSweepsWrong)

/-- 'examboardlaw28.CalibrateStable': WHATEVER THE INPUT: true; the input reads as it did. -/
def calibrateStableSpec : ChangeSpec := { name := "calibrateStable", fn := fun _ => fun
  | [d1, d2, d3, d4] => { results := [.lit (.bool true)], args := [d1, d2, d3, d4] }
  | _ => none }
def calibrateStableRow : OpenClaim := { program := "ytneoglmfabilnaa", sum := "282eb0a2b60342d3bfb95e97a62e6aac835cbc764f6b56c2b045927d5017bf86", func := "examboard/examboardlaw28.CalibrateStable", spec := "calibrateStable", apart := false }
def CalibrateStableSaid : Prop := calibrateStableRow.holds Try.pinned (OpenSpec.ofChange calibrateStableSpec)

/-- ITS FALSE NEIGHBOUR: 'it returns false'. Refute it at one input. -/
def calibrateStableWrong : ChangeSpec := { name := "calibrateStable", fn := fun _ => fun
  | [d1, d2, d3, d4] => { results := [.lit (.bool false)], args := [d1, d2, d3, d4] }
  | _ => none }
def CalibrateStableWrongFalsely : Prop := calibrateStableRow.holds Try.pinned (OpenSpec.ofChange calibrateStableWrong)

/-- 'examboardlaw28.CalibrateAscent': WHATEVER THE INPUT: true; the input reads as it did. -/
def calibrateAscentSpec : ChangeSpec := { name := "calibrateAscent", fn := fun _ => fun
  | [d1, d2, d3, d4] => { results := [.lit (.bool true)], args := [d1, d2, d3, d4] }
  | _ => none }
def calibrateAscentRow : OpenClaim := { program := "ytneoglmfabilnaa", sum := "282eb0a2b60342d3bfb95e97a62e6aac835cbc764f6b56c2b045927d5017bf86", func := "examboard/examboardlaw28.CalibrateAscent", spec := "calibrateAscent", apart := false }
def CalibrateAscentSaid : Prop := calibrateAscentRow.holds Try.pinned (OpenSpec.ofChange calibrateAscentSpec)

/-- ITS FALSE NEIGHBOUR: 'it returns false'. Refute it at one input. -/
def calibrateAscentWrong : ChangeSpec := { name := "calibrateAscent", fn := fun _ => fun
  | [d1, d2, d3, d4] => { results := [.lit (.bool false)], args := [d1, d2, d3, d4] }
  | _ => none }
def CalibrateAscentWrongFalsely : Prop := calibrateAscentRow.holds Try.pinned (OpenSpec.ofChange calibrateAscentWrong)

/- THE SECOND FORM. 'bulk': how many values and letters a reading holds, each counted each time it is reached (what is shared counts as often as it is met; a slice's spare places count too). A statement '..UptoSaid' is the law's where the arguments, and the package variables that the reading takes, are together of bulk at most 1048576: NARROWER than '..Said'. Prove '..Said' where nothing that the law and all that it calls make is longer than what came in: it says more and counts as full. Else prove '..UptoSaid'. A law counts once. -/
mutual
def uptoBulk {H : Type} : DataW H → Nat
  | .lit (.string bytes) => bytes.length + 1
  | .lit _ => 1
  | .nil => 1
  | .ptr d => uptoBulk d + 1
  | .slice elems spare => uptoBulkAll elems + uptoBulkAll spare + 1
  | .agg parts => uptoBulkAll parts + 1
  | .iface _ d => uptoBulk d + 1
  | .map entries => uptoBulkEntries entries + 1
  | .held _ => 1
def uptoBulkAll {H : Type} : List (DataW H) → Nat
  | [] => 0
  | d :: r => uptoBulk d + uptoBulkAll r
def uptoBulkEntries {H : Type} : List (Lit × DataW H) → Nat
  | [] => 0
  | x :: r => uptoBulkEntry x + uptoBulkEntries r
def uptoBulkEntry {H : Type} : Lit × DataW H → Nat
  | (.string bytes, d) => bytes.length + uptoBulk d + 1
  | (_, d) => uptoBulk d + 1
 end
def uptoSmall : (H : Type) → List (DataW H) → Bool := fun _ ds => decide (uptoBulkAll ds ≤ 1048576)
def OpenSpec.upto (s : _root_.Go.ChangeSpec) : _root_.Go.OpenSpec := { _root_.Go.OpenSpec.ofChange s with cond := some uptoSmall }

/-- 'examboardlaw28.CalibrateWeights', WHERE WHAT IT READS IS OF BULK AT MOST 1048576: true; the input reads as it did. -/
def calibrateWeightsUptoRow : OpenClaim := { program := "ytneoglmfabilnaa", sum := "282eb0a2b60342d3bfb95e97a62e6aac835cbc764f6b56c2b045927d5017bf86", func := "examboard/examboardlaw28.CalibrateWeights", spec := "calibrateWeights", apart := false, narrowed := true }
def CalibrateWeightsUptoSaid : Prop := calibrateWeightsUptoRow.holds Try.pinned (OpenSpec.upto calibrateWeightsSpec)

/-- 'examboardlaw28.CalibrateTotals', WHERE WHAT IT READS IS OF BULK AT MOST 1048576: true; the input reads as it did. -/
def calibrateTotalsUptoRow : OpenClaim := { program := "ytneoglmfabilnaa", sum := "282eb0a2b60342d3bfb95e97a62e6aac835cbc764f6b56c2b045927d5017bf86", func := "examboard/examboardlaw28.CalibrateTotals", spec := "calibrateTotals", apart := false, narrowed := true }
def CalibrateTotalsUptoSaid : Prop := calibrateTotalsUptoRow.holds Try.pinned (OpenSpec.upto calibrateTotalsSpec)

/-- 'examboardlaw28.CalibrateOrder', WHERE WHAT IT READS IS OF BULK AT MOST 1048576: true; the input reads as it did. -/
def calibrateOrderUptoRow : OpenClaim := { program := "ytneoglmfabilnaa", sum := "282eb0a2b60342d3bfb95e97a62e6aac835cbc764f6b56c2b045927d5017bf86", func := "examboard/examboardlaw28.CalibrateOrder", spec := "calibrateOrder", apart := false, narrowed := true }
def CalibrateOrderUptoSaid : Prop := calibrateOrderUptoRow.holds Try.pinned (OpenSpec.upto calibrateOrderSpec)

/-- 'examboardlaw28.CalibrateBest', WHERE WHAT IT READS IS OF BULK AT MOST 1048576: true; the input reads as it did. -/
def calibrateBestUptoRow : OpenClaim := { program := "ytneoglmfabilnaa", sum := "282eb0a2b60342d3bfb95e97a62e6aac835cbc764f6b56c2b045927d5017bf86", func := "examboard/examboardlaw28.CalibrateBest", spec := "calibrateBest", apart := false, narrowed := true }
def CalibrateBestUptoSaid : Prop := calibrateBestUptoRow.holds Try.pinned (OpenSpec.upto calibrateBestSpec)

/-- 'examboardlaw28.CalibrateSweeps', WHERE WHAT IT READS IS OF BULK AT MOST 1048576: true; the input reads as it did. -/
def calibrateSweepsUptoRow : OpenClaim := { program := "ytneoglmfabilnaa", sum := "282eb0a2b60342d3bfb95e97a62e6aac835cbc764f6b56c2b045927d5017bf86", func := "examboard/examboardlaw28.CalibrateSweeps", spec := "calibrateSweeps", apart := false, narrowed := true }
def CalibrateSweepsUptoSaid : Prop := calibrateSweepsUptoRow.holds Try.pinned (OpenSpec.upto calibrateSweepsSpec)

/-- 'examboardlaw28.CalibrateStable', WHERE WHAT IT READS IS OF BULK AT MOST 1048576: true; the input reads as it did. -/
def calibrateStableUptoRow : OpenClaim := { program := "ytneoglmfabilnaa", sum := "282eb0a2b60342d3bfb95e97a62e6aac835cbc764f6b56c2b045927d5017bf86", func := "examboard/examboardlaw28.CalibrateStable", spec := "calibrateStable", apart := false, narrowed := true }
def CalibrateStableUptoSaid : Prop := calibrateStableUptoRow.holds Try.pinned (OpenSpec.upto calibrateStableSpec)

/-- 'examboardlaw28.CalibrateAscent', WHERE WHAT IT READS IS OF BULK AT MOST 1048576: true; the input reads as it did. -/
def calibrateAscentUptoRow : OpenClaim := { program := "ytneoglmfabilnaa", sum := "282eb0a2b60342d3bfb95e97a62e6aac835cbc764f6b56c2b045927d5017bf86", func := "examboard/examboardlaw28.CalibrateAscent", spec := "calibrateAscent", apart := false, narrowed := true }
def CalibrateAscentUptoSaid : Prop := calibrateAscentUptoRow.holds Try.pinned (OpenSpec.upto calibrateAscentSpec)

end Rows
end Go.Proofs.Ytneoglmfabilnaa
