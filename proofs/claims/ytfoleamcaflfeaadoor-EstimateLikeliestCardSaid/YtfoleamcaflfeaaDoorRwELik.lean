/- For every two grids, models and responses the law EstimateLikeliest returns true, the listed tables being as the program's text lays them; no other condition. -/
import Derived.Test.YtfoleamcaflfeaaDoorEsM
import Derived.Test.YtfoleamcaflfeaaDoorOpenR
import Derived.Test.YtfoleamcaflfeaaDoorOpenS
import Derived.Test.YtfoleamcaflfeaaDoorLdT
import Derived.Test.YtfoleamcaflfeaaDoorLd
import Derived.Test.YtfoleamcaflfeaaDoorCards
import Derived.Test.YtfoleamcaflfeaaDoorTie
import Derived.ProofKit
import Derived.OpenShut
import Derived.Deep.DeepHandedRow
import Derived.Lib.LaidTab
import Derived.Below
namespace Go.Proofs.YtfoleamcaflfeaaDoor
open Go.ChangeShapes Go.WideShapes Go.ChangeAt Go.RowKit Go.Joins
open Go.ChangeMaps (setBlock shut_map_nil open_string shut_string keptBut_setBlock frozen?_setBlock heap_setBlock_same)
set_option linter.unusedVariables false

namespace EstimateLikeliest
theorem own : ownKnob Tryd.prog.godebug = none := by kernel_rfl
theorem laidOut : laidOutB Tryd.prog = true := by kernel_rfl
theorem readable : ∀ t ∈ Tryd.f8.params.toList, Tryd.prog.readableRec t = true ∧ t < Tryd.prog.types.size := by
  intro t ht
  rw [Tryd.params8] at ht
  have ht' : t = 58 ∨ t = 35 ∨ t = 37 := by simp at ht; (try rcases ht with h | h | h | h); all_goals (subst_vars; simp)
  rcases ht' with rfl | rfl | rfl
  · exact ⟨by kernel_rfl, of_decide_eq_true (by kernel_rfl)⟩
  · exact ⟨by kernel_rfl, of_decide_eq_true (by kernel_rfl)⟩
  · exact ⟨by kernel_rfl, of_decide_eq_true (by kernel_rfl)⟩
set_option maxRecDepth 100000 in
theorem contract (H : Type) (enc : TypeId × Value → H) (W : World) (base : Nat) (args : Array Value) (ds gs : List (DataW H)) (before : List MemPlace)
    (hval : ∀ (j : Nat) t v, Tryd.f8.params[j]? = some t → args[j]? = some v → Value.okWide Tryd.prog W .any base t v)
    (hW : DataW.Whole enc Tryd.prog Tryd.f8.params.toList Rows.estimateLikeliestSpec.vars false W args.toList ds gs before) (hsz : (DataW.weightsEach Tryd.prog (Tryd.f8.params.toList ++ Rows.estimateLikeliestSpec.plain.varTypes Tryd.prog) (ds ++ gs)).all (· ≤ reachBytes) = true) (hL : laidMetH Tryd.prog Rows.estimateLikeliestRow.laid W) :
    Calls Tryd.prog 8 args W fun e W' => ∃ v, e = .returned v ∧ Rows.estimateLikeliestSpec.post enc Tryd.prog Tryd.f8 false true false false W args v W' := by
  have hW' := hW
  obtain ⟨p, q, hA0, hV, rfl, hfz, hnd⟩ := hW
  have hA : DataW.TrodAll enc Tryd.prog W 0 (fun _ => true) true Tryd.f8.params.toList args.toList ds p := hA0
  rw [Tryd.params8] at hA hval
  obtain ⟨v0, vs0, d0, ds0, p0, q0, hargs, rfl, rfl, h0, r0⟩ := trodAll_cons hA
  obtain ⟨v1, vs1, d1, ds1, p1, q1, rfl, rfl, rfl, h1, r1⟩ := trodAll_cons r0
  obtain ⟨v2, vs2, d2, ds2, p2, q2, rfl, rfl, rfl, h2, r2⟩ := trodAll_cons r1
  obtain ⟨v3, vs3, d3, ds3, p3, q3, rfl, rfl, rfl, h3, r3⟩ := trodAll_cons r2
  obtain ⟨rfl, rfl, rfl⟩ := trodAll_nil r3
  obtain rfl : args = #[v0, v1, v2, v3] := by cases args; simp_all
  obtain ⟨rfl, rfl⟩ := trodVars_none hV
  rw [Tryd.params8] at hsz
  obtain ⟨gf0, gf1, gy0, gy1, gnf, rfl, rfl, rfl, gh0, gh1⟩ := open_agg2 Tryd.underlying37 (by kernel_rfl) (show Tryd.prog.cellsOf 37 = 2 by kernel_rfl) (hval 0 37 v0 rfl rfl) h0
  obtain ⟨ps, hps, _⟩ := open_nums Tryd.underlying35 Tryd.underlying3 (by kernel_rfl) gh0
  obtain ⟨rs, hrs, _⟩ := open_nums Tryd.underlying35 Tryd.underlying3 (by kernel_rfl) gh1
  obtain ⟨hf0, hf1, hy0, hy1, hnf, rfl, rfl, rfl, hh0, hh1⟩ := open_agg2 Tryd.underlying37 (by kernel_rfl) (show Tryd.prog.cellsOf 37 = 2 by kernel_rfl) (hval 1 37 v1 rfl rfl) h1
  obtain ⟨qs, hqs, _⟩ := open_nums Tryd.underlying35 Tryd.underlying3 (by kernel_rfl) hh0
  obtain ⟨ss, hss, _⟩ := open_nums Tryd.underlying35 Tryd.underlying3 (by kernel_rfl) hh1
  obtain ⟨lmA, lml, lmc, rfl⟩ := okWide_slice Tryd.underlying58 (hval 2 58 v2 rfl rfl)
  obtain ⟨lmf, lmhf⟩ := h2
  obtain ⟨lm, hlm⟩ := open_modL Tryd.underlying58 (by kernel_rfl) Tryd.underlying99 (by kernel_rfl) rfl Tryd.underlying97 (by kernel_rfl) Tryd.underlying35 Tryd.underlying3 (by kernel_rfl) (by simpa [Value.cells] using lmhf)
  have slm := len_size Tryd.underlying58 (by simpa [Value.cells] using lmhf) (sizeAtF hsz (j := 2) rfl rfl)
  rw [bytesMdl, show lml = lm.length from modL_len hlm] at slm
  obtain ⟨lkA, lkl, lkc, rfl⟩ := okWide_slice Tryd.underlying35 (hval 3 35 v3 rfl rfl)
  obtain ⟨lkf, lkhf⟩ := h3
  obtain ⟨lk, hlk, lkwf⟩ := open_nums Tryd.underlying35 Tryd.underlying3 (by kernel_rfl) (by simpa [Value.cells] using lkhf)
  refine (llik_any _ _ _ _ _ _ ps rs qs ss lm lk W hps hrs hqs hss hlm hlk (Laid.pow10_of hL) (by omega)).mono fun e W' ⟨he, hb⟩ => ⟨_, he, ?_⟩
  exact law_post laidOut readable rfl rfl Tryd.underlying4 (ok_one (by kernel_rfl) rfl (okWide_bool_mk Tryd.underlying4 _)) ⟨rfl, rfl, rfl⟩ hW' hb

theorem laid_met (os : Os) : laidMet Tryd.prog Rows.estimateLikeliestRow.laid ((Laid.laidWorld os).forCall (fun _ _ => 0) ⟨#[], #[.agg #[.slice none 0 0, .slice none 0 0], .agg #[.slice none 0 0, .slice none 0 0], .slice none 0 0, .slice none 0 0], []⟩).memory :=
  laidMet_of_run' 8 (by kernel_rfl) (by kernel_rfl)
theorem reads (os : Os) {H : Type} (enc : TypeId × Value → H) : ∃ places, DataW.whole enc Tryd.prog ((Laid.laidWorld os).forCall (fun _ _ => 0) ⟨#[], #[.agg #[.slice none 0 0, .slice none 0 0], .agg #[.slice none 0 0, .slice none 0 0], .slice none 0 0, .slice none 0 0], []⟩).memory Tryd.f8.params.toList Rows.estimateLikeliestSpec.vars false #[Value.agg #[.slice none 0 0, .slice none 0 0], Value.agg #[.slice none 0 0, .slice none 0 0], Value.slice none 0 0, Value.slice none 0 0].toList 8 = some ([.agg [.nil, .nil], .agg [.nil, .nil], .nil, .nil], [], places) :=
  ⟨[], by kernel_rfl⟩

set_option maxRecDepth 100000 in
theorem lifted (os : Os) (started : os.Started) (H : Type) (enc : TypeId × Value → H) (F : Stop.Interp) :
    ReturnsInHanded {} Tryd.checked os 8 .any ((OpenSpec.ofChange Rows.estimateLikeliestSpec).preRow enc Tryd.prog Tryd.f8 Rows.estimateLikeliestRow.domain false Rows.estimateLikeliestRow.laid) (((OpenSpec.ofChange Rows.estimateLikeliestSpec).at F).post enc Tryd.prog Tryd.f8 false true false false) := by
  obtain ⟨places, hx⟩ := reads os enc
  refine returnsInHanded_of_row (C := Tryd.checked) (s := OpenSpec.ofChange Rows.estimateLikeliestSpec) own started (by kernel_rfl) Tryd.func8
    (witness_row_at (enc := enc) (C := Tryd.checked) false (Laid.laidWorld os) #[.agg #[.slice none 0 0, .slice none 0 0], .agg #[.slice none 0 0, .slice none 0 0], .slice none 0 0, .slice none 0 0] rfl (by kernel_rfl) (by kernel_rfl) (by kernel_rfl)
      (OpenSpec.preRow_of_cond 8 hx (by kernel_rfl) (fun k hk => by cases hk) (by kernel_rfl) (laid_met os))) ?_
  intro W base args ds gs before hval hW _ _ hsz hL _ _
  exact contract H enc W base args ds gs before hval hW hsz hL
theorem said : Rows.EstimateLikeliestSaid :=
  OpenClaim.holds_of_cond 8 Tryd.f8 rfl rfl rfl rfl rfl rfl rfl ⟨rfl, rfl, rfl, rfl, rfl⟩ rfl rfl rfl rfl rfl (by kernel_rfl) Tryd.func8 (by kernel_rfl)
    (of_decide_eq_true (by kernel_rfl)) (by unfold Func.isWrapper; first | (rw [if_pos (by decide +kernel)]; kernel_rfl) | (rw [if_neg (by decide +kernel)]; exact ⟨rfl, rfl⟩))
    (fun os started H enc _ F => by rw [OpenClaim.pre_eq_preRow]; exact lifted os started H enc F)
set_option maxRecDepth 100000 in
theorem plain (f : FuncId) (fn : Func) (hf : Tryd.pinned.checked.prog.funcNamed "examboard/examboardlaw27.EstimateLikeliest" = some f) (hfn : Tryd.pinned.checked.prog.funcs[f]? = some fn) :
    false = Tryd.pinned.checked.prog.looks [] ∧ ∀ (j : Nat) t, fn.params[j]? = some t → Tryd.pinned.checked.prog.wantsStandIn t = false := by
  obtain rfl : f = 8 := Option.some.inj ((show Tryd.prog.funcNamed "examboard/examboardlaw27.EstimateLikeliest" = some 8 by kernel_rfl).symm.trans hf) |>.symm
  obtain rfl : fn = Tryd.f8 := (Option.some.inj (Tryd.func8.symm.trans hfn)).symm
  refine ⟨by kernel_rfl, fun j t ht => ?_⟩
  rw [Tryd.params8] at ht
  have h := Array.mem_of_getElem? ht
  have h' : t = 58 ∨ t = 35 ∨ t = 37 := by simp at h; (try rcases h with h | h | h | h); all_goals (subst_vars; simp)
  rcases h' with rfl | rfl | rfl
  · exact (show Tryd.prog.wantsStandIn 58 = false by kernel_rfl)
  · exact (show Tryd.prog.wantsStandIn 35 = false by kernel_rfl)
  · exact (show Tryd.prog.wantsStandIn 37 = false by kernel_rfl)
/-- The card. -/
theorem card : Rows.EstimateLikeliestCardSaid :=
  Claim7.holds_tied_plain_at .later [] _ _ _ _ said (fun _ h => by cases h) (by kernel_rfl) (fun _ h => by cases h) estimateLikeliest_row_tie rfl ⟨rfl, rfl⟩ (by kernel_rfl) rfl plain (by kernel_rfl)
#print axioms card
end EstimateLikeliest
end Go.Proofs.YtfoleamcaflfeaaDoor
