/- For every model, targets, indexes and scores the law ModelCollapse returns true, the listed tables being as the program's text lays them; no other condition. -/
import Derived.Test.YtokpembimalhmaaDoorMoLC
import Derived.Test.YtokpembimalhmaaDoorOpenM
import Derived.Test.YtokpembimalhmaaDoorLd
import Derived.Test.YtokpembimalhmaaDoorCards
import Derived.Test.YtokpembimalhmaaDoorTie
import Derived.ProofKit
import Derived.OpenShut
import Derived.Deep.DeepHandedRow
import Derived.Lib.LaidTab
import Derived.Below
namespace Go.Proofs.YtokpembimalhmaaDoor
open Go.ChangeShapes Go.WideShapes Go.ChangeAt Go.RowKit Go.Joins
open Go.ChangeMaps (setBlock shut_map_nil open_string shut_string keptBut_setBlock frozen?_setBlock heap_setBlock_same)
set_option linter.unusedVariables false

namespace ModelCollapse
theorem own : ownKnob Tryd.prog.godebug = none := by kernel_rfl
theorem laidOut : laidOutB Tryd.prog = true := by kernel_rfl
theorem readable : ∀ t ∈ Tryd.f8.params.toList, Tryd.prog.readableRec t = true ∧ t < Tryd.prog.types.size := by
  intro t ht
  rw [Tryd.params8] at ht
  have ht' : t = 31 ∨ t = 24 ∨ t = 5 := by simp at ht; (try rcases ht with h | h | h | h | h); all_goals (subst_vars; simp)
  rcases ht' with rfl | rfl | rfl
  · exact ⟨by kernel_rfl, of_decide_eq_true (by kernel_rfl)⟩
  · exact ⟨by kernel_rfl, of_decide_eq_true (by kernel_rfl)⟩
  · exact ⟨by kernel_rfl, of_decide_eq_true (by kernel_rfl)⟩
set_option maxRecDepth 100000 in
theorem contract (H : Type) (enc : TypeId × Value → H) (W : World) (base : Nat) (args : Array Value) (ds gs : List (DataW H)) (before : List MemPlace)
    (hval : ∀ (j : Nat) t v, Tryd.f8.params[j]? = some t → args[j]? = some v → Value.okWide Tryd.prog W .any base t v)
    (hW : DataW.Whole enc Tryd.prog Tryd.f8.params.toList Rows.modelCollapseSpec.vars false W args.toList ds gs before) (hL : laidMetH Tryd.prog Rows.modelCollapseRow.laid W) :
    Calls Tryd.prog 8 args W fun e W' => ∃ v, e = .returned v ∧ Rows.modelCollapseSpec.post enc Tryd.prog Tryd.f8 false true false false W args v W' := by
  have hW' := hW
  obtain ⟨p, q, hA0, hV, rfl, hfz, hnd⟩ := hW
  have hA : DataW.TrodAll enc Tryd.prog W 0 (fun _ => true) true Tryd.f8.params.toList args.toList ds p := hA0
  rw [Tryd.params8] at hA hval
  obtain ⟨v0, vs0, d0, ds0, p0, q0, hargs, rfl, rfl, h0, r0⟩ := trodAll_cons hA
  obtain ⟨v1, vs1, d1, ds1, p1, q1, rfl, rfl, rfl, h1, r1⟩ := trodAll_cons r0
  obtain ⟨v2, vs2, d2, ds2, p2, q2, rfl, rfl, rfl, h2, r2⟩ := trodAll_cons r1
  obtain ⟨v3, vs3, d3, ds3, p3, q3, rfl, rfl, rfl, h3, r3⟩ := trodAll_cons r2
  obtain ⟨v4, vs4, d4, ds4, p4, q4, rfl, rfl, rfl, h4, r4⟩ := trodAll_cons r3
  obtain ⟨rfl, rfl, rfl⟩ := trodAll_nil r4
  obtain rfl : args = #[v0, v1, v2, v3, v4] := by cases args; simp_all
  obtain ⟨rfl, rfl⟩ := trodVars_none hV
  obtain ⟨msu, msy, msn, rfl, msh⟩ := open_agg1 Tryd.underlying24 (by kernel_rfl) (show Tryd.prog.cellsOf 24 = 1 by kernel_rfl) (hval 0 24 v0 rfl rfl) h0
  obtain ⟨ms, hms⟩ := open_intsL Tryd.underlying22 (by kernel_rfl) Tryd.underlying31 Tryd.underlying3 (by kernel_rfl) msh
  obtain ⟨xA, xl, xc, rfl⟩ := okWide_slice Tryd.underlying31 (hval 1 31 v1 rfl rfl)
  obtain ⟨xf, xhf⟩ := h1
  obtain ⟨x, hx, xwf⟩ := open_nums Tryd.underlying31 Tryd.underlying3 (by kernel_rfl) (by simpa [Value.cells] using xhf)
  obtain ⟨q, rfl, rfl, rfl, qwf⟩ := open_int Tryd.underlying5 (hval 2 5 v2 rfl rfl) h2
  have qb : 0 ≤ q ∧ q ≤ 255 := by
    have h := qwf
    simp only [Lit.wf, Bool.and_eq_true, decide_eq_true_eq] at h
    exact h
  obtain ⟨q', rfl⟩ := Int.eq_ofNat_of_zero_le qb.1
  obtain ⟨j, rfl, rfl, rfl, jwf⟩ := open_int Tryd.underlying5 (hval 3 5 v3 rfl rfl) h3
  have jb : 0 ≤ j ∧ j ≤ 255 := by
    have h := jwf
    simp only [Lit.wf, Bool.and_eq_true, decide_eq_true_eq] at h
    exact h
  obtain ⟨j', rfl⟩ := Int.eq_ofNat_of_zero_le jb.1
  obtain ⟨scA, scl, scc, rfl⟩ := okWide_slice Tryd.underlying31 (hval 4 31 v4 rfl rfl)
  obtain ⟨scf, schf⟩ := h4
  obtain ⟨sc, hsc, scwf⟩ := open_nums Tryd.underlying31 Tryd.underlying3 (by kernel_rfl) (by simpa [Value.cells] using schf)
  refine (collapse_all _ _ _ ms x q' j' sc W hms hx hsc (by omega) (by omega)).mono fun e W' ⟨he, hb⟩ => ⟨_, he, ?_⟩
  exact law_post laidOut readable rfl rfl Tryd.underlying4 (ok_one (by kernel_rfl) rfl (okWide_bool_mk Tryd.underlying4 _)) ⟨rfl, rfl, rfl⟩ hW' hb

theorem laid_met (os : Os) : laidMet Tryd.prog Rows.modelCollapseRow.laid ((Laid.laidWorld os).forCall (fun _ _ => 0) ⟨#[], #[.agg #[.slice none 0 0], .slice none 0 0, .int .u8 0, .int .u8 0, .slice none 0 0], []⟩).memory :=
  laidMet_of_run' 8 (by kernel_rfl) (by kernel_rfl)
theorem reads (os : Os) {H : Type} (enc : TypeId × Value → H) : ∃ places, DataW.whole enc Tryd.prog ((Laid.laidWorld os).forCall (fun _ _ => 0) ⟨#[], #[.agg #[.slice none 0 0], .slice none 0 0, .int .u8 0, .int .u8 0, .slice none 0 0], []⟩).memory Tryd.f8.params.toList Rows.modelCollapseSpec.vars false #[Value.agg #[.slice none 0 0], Value.slice none 0 0, Value.int .u8 0, Value.int .u8 0, Value.slice none 0 0].toList 8 = some ([.agg [.nil], .nil, .lit (.int .u8 0), .lit (.int .u8 0), .nil], [], places) :=
  ⟨[], by kernel_rfl⟩

set_option maxRecDepth 100000 in
theorem lifted (os : Os) (started : os.Started) (H : Type) (enc : TypeId × Value → H) (F : Stop.Interp) :
    ReturnsInHanded {} Tryd.checked os 8 .any ((OpenSpec.ofChange Rows.modelCollapseSpec).preRow enc Tryd.prog Tryd.f8 Rows.modelCollapseRow.domain false Rows.modelCollapseRow.laid) (((OpenSpec.ofChange Rows.modelCollapseSpec).at F).post enc Tryd.prog Tryd.f8 false true false false) := by
  obtain ⟨places, hx⟩ := reads os enc
  refine returnsInHanded_of_row (C := Tryd.checked) (s := OpenSpec.ofChange Rows.modelCollapseSpec) own started (by kernel_rfl) Tryd.func8
    (witness_row_at (enc := enc) (C := Tryd.checked) false (Laid.laidWorld os) #[.agg #[.slice none 0 0], .slice none 0 0, .int .u8 0, .int .u8 0, .slice none 0 0] rfl (by kernel_rfl) (by kernel_rfl) (by kernel_rfl)
      (OpenSpec.preRow_of_cond 8 hx (by kernel_rfl) (fun k hk => by cases hk) (by kernel_rfl) (laid_met os))) ?_
  intro W base args ds gs before hval hW _ _ _ hL _ _
  exact contract H enc W base args ds gs before hval hW hL
theorem said : Rows.ModelCollapseSaid :=
  OpenClaim.holds_of_cond 8 Tryd.f8 rfl rfl rfl rfl rfl rfl rfl ⟨rfl, rfl, rfl, rfl, rfl⟩ rfl rfl rfl rfl rfl (by kernel_rfl) Tryd.func8 (by kernel_rfl)
    (of_decide_eq_true (by kernel_rfl)) (by unfold Func.isWrapper; first | (rw [if_pos (by decide +kernel)]; kernel_rfl) | (rw [if_neg (by decide +kernel)]; exact ⟨rfl, rfl⟩))
    (fun os started H enc _ F => by rw [OpenClaim.pre_eq_preRow]; exact lifted os started H enc F)
set_option maxRecDepth 100000 in
theorem plain (f : FuncId) (fn : Func) (hf : Tryd.pinned.checked.prog.funcNamed "examboard/examboardlaw19.ModelCollapse" = some f) (hfn : Tryd.pinned.checked.prog.funcs[f]? = some fn) :
    false = Tryd.pinned.checked.prog.looks [] ∧ ∀ (j : Nat) t, fn.params[j]? = some t → Tryd.pinned.checked.prog.wantsStandIn t = false := by
  obtain rfl : f = 8 := Option.some.inj ((show Tryd.prog.funcNamed "examboard/examboardlaw19.ModelCollapse" = some 8 by kernel_rfl).symm.trans hf) |>.symm
  obtain rfl : fn = Tryd.f8 := (Option.some.inj (Tryd.func8.symm.trans hfn)).symm
  refine ⟨by kernel_rfl, fun j t ht => ?_⟩
  rw [Tryd.params8] at ht
  have h := Array.mem_of_getElem? ht
  have h' : t = 31 ∨ t = 24 ∨ t = 5 := by simp at h; (try rcases h with h | h | h | h | h); all_goals (subst_vars; simp)
  rcases h' with rfl | rfl | rfl
  · exact (show Tryd.prog.wantsStandIn 31 = false by kernel_rfl)
  · exact (show Tryd.prog.wantsStandIn 24 = false by kernel_rfl)
  · exact (show Tryd.prog.wantsStandIn 5 = false by kernel_rfl)
/-- The card. -/
theorem card : Rows.ModelCollapseCardSaid :=
  Claim7.holds_tied_plain_at .later [] _ _ _ _ said (fun _ h => by cases h) (by kernel_rfl) (fun _ h => by cases h) modelCollapse_row_tie rfl ⟨rfl, rfl⟩ (by kernel_rfl) rfl plain (by kernel_rfl)
#print axioms card
end ModelCollapse
end Go.Proofs.YtokpembimalhmaaDoor
