/- For every grid, matrix, list of families and choice the law CalibrateSweeps returns true; no condition. -/
import Derived.Test.YtneoglmfabilnaaLwSwp
import Derived.Test.YtneoglmfabilnaaOpenF
import Derived.Test.YtneoglmfabilnaaRows
namespace Go.Proofs.Ytneoglmfabilnaa
open Go.RowKit Go.ChangeShapes Go.WideShapes Go.ChangeAt Go.Joins
set_option linter.unusedVariables false

namespace CalibrateSweeps
theorem own : ownKnob Try.prog.godebug = none := by kernel_rfl
theorem laidOut : laidOutB Try.prog = true := by kernel_rfl
theorem readable : ∀ t ∈ Try.f7.params.toList, Try.prog.readableRec t = true ∧ t < Try.prog.types.size := by
  intro t ht
  rw [Try.params7] at ht
  have ht' : t = 51 ∨ t = 22 ∨ t = 24 ∨ t = 36 := by simp at ht; (try rcases ht with h | h | h | h); all_goals (subst_vars; simp)
  rcases ht' with rfl | rfl | rfl | rfl
  · exact ⟨by kernel_rfl, of_decide_eq_true (by kernel_rfl)⟩
  · exact ⟨by kernel_rfl, of_decide_eq_true (by kernel_rfl)⟩
  · exact ⟨by kernel_rfl, of_decide_eq_true (by kernel_rfl)⟩
  · exact ⟨by kernel_rfl, of_decide_eq_true (by kernel_rfl)⟩
theorem contract (H : Type) (enc : TypeId × Value → H) (W : World) (base : Nat) (args : Array Value) (ds gs : List (DataW H)) (before : List MemPlace)
    (hval : ∀ (j : Nat) t v, Try.f7.params[j]? = some t → args[j]? = some v → Value.okWide Try.prog W .any base t v)
    (hW : DataW.Whole enc Try.prog Try.f7.params.toList Rows.calibrateSweepsSpec.vars false W args.toList ds gs before) :
    Calls Try.prog 7 args W fun e W' => ∃ v, e = .returned v ∧ Rows.calibrateSweepsSpec.post enc Try.prog Try.f7 false true false false W args v W' := by
  have hW' := hW
  obtain ⟨p, q, hA0, hV, rfl, hfz, hnd⟩ := hW
  have hA : DataW.TrodAll enc Try.prog W 0 (fun _ => true) true Try.f7.params.toList args.toList ds p := hA0
  rw [Try.params7] at hA hval
  obtain ⟨v0, vs0, d0, ds0, p0, q0, hargs, rfl, rfl, h0, r0⟩ := trodAll_cons hA
  obtain ⟨v1, vs1, d1, ds1, p1, q1, rfl, rfl, rfl, h1, r1⟩ := trodAll_cons r0
  obtain ⟨v2, vs2, d2, ds2, p2, q2, rfl, rfl, rfl, h2, r2⟩ := trodAll_cons r1
  obtain ⟨v3, vs3, d3, ds3, p3, q3, rfl, rfl, rfl, h3, r3⟩ := trodAll_cons r2
  obtain ⟨rfl, rfl, rfl⟩ := trodAll_nil r3
  obtain rfl : args = #[v0, v1, v2, v3] := by cases args; simp_all
  obtain ⟨rfl, rfl⟩ := trodVars_none hV
  obtain ⟨gf0, gf1, gy0, gy1, gnf, rfl, rfl, rfl, gh0, gh1⟩ := open_agg2 Try.underlying24 (by kernel_rfl) (show Try.prog.cellsOf 24 = 2 by kernel_rfl) (hval 0 24 v0 rfl rfl) h0
  obtain ⟨ps, hps, _⟩ := open_nums Try.underlying22 Try.underlying3 (by kernel_rfl) gh0
  obtain ⟨rs, hrs, _⟩ := open_nums Try.underlying22 Try.underlying3 (by kernel_rfl) gh1
  obtain ⟨mm0, mm1, mm2, mz0, mz1, mz2, mnm, rfl, rfl, rfl, mh0, mh1, mh2⟩ := open_agg3 Try.underlying36 (by kernel_rfl) (show Try.prog.cellsOf 36 = 3 by kernel_rfl) (hval 1 36 v1 rfl rfl) h1
  obtain ⟨qs, hqs, _⟩ := open_nums Try.underlying22 Try.underlying3 (by kernel_rfl) mh0
  obtain ⟨is, his, _⟩ := open_nums Try.underlying22 Try.underlying3 (by kernel_rfl) mh1
  obtain ⟨cs, hcs⟩ := open_intsL Try.underlying34 (by kernel_rfl) Try.underlying22 Try.underlying3 (by kernel_rfl) mh2
  obtain ⟨fsA, fsl, fsc, rfl⟩ := okWide_slice Try.underlying51 (hval 2 51 v2 rfl rfl)
  obtain ⟨fsf, fshf⟩ := h2
  obtain ⟨fs, hfs⟩ := open_famL Try.underlying51 (by kernel_rfl) Try.underlying25 (by kernel_rfl) Try.underlying48 (by kernel_rfl) rfl Try.underlying34 (by kernel_rfl) Try.underlying22 Try.underlying3 (by kernel_rfl) (by simpa [Value.cells] using fshf)
  obtain ⟨chA, chl, chc, rfl⟩ := okWide_slice Try.underlying22 (hval 3 22 v3 rfl rfl)
  obtain ⟨chf, chhf⟩ := h3
  obtain ⟨ch, hch, chwf⟩ := open_nums Try.underlying22 Try.underlying3 (by kernel_rfl) (by simpa [Value.cells] using chhf)
  refine (sweeps_all _ _ _ _ _ _ _ ps rs qs is cs fs ch W hps hrs hqs his hcs hfs hch).mono fun e W' ⟨he, hb⟩ => ⟨_, he, ?_⟩
  exact law_post laidOut readable rfl rfl Try.underlying4 (ok_one (by kernel_rfl) rfl (okWide_bool_mk Try.underlying4 _)) ⟨rfl, rfl, rfl⟩ hW' hb
set_option maxRecDepth 100000 in
theorem lifted (os : Os) (started : os.Started) (H : Type) (enc : TypeId × Value → H) :
    ReturnsInHanded {} Try.checked os 7 .any (Rows.calibrateSweepsSpec.pre6 enc Try.prog Try.f7 Rows.calibrateSweepsRow.domain false) (Rows.calibrateSweepsSpec.post enc Try.prog Try.f7 false true false false) := by
  refine returnsInHanded_of_change (C := Try.checked) own started (by kernel_rfl) Try.func7
    (ChangeSpec.witness6 (enc := enc) (C := Try.checked) false ⟨#[], #[.agg #[.slice none 0 0, .slice none 0 0], .agg #[.slice none 0 0, .slice none 0 0, .slice none 0 0], .slice none 0 0, .slice none 0 0], []⟩ 8 (by kernel_rfl) (by kernel_rfl) (by kernel_rfl) (by kernel_rfl)) ?_
  intro W base args ds gs before hval hW _ _
  exact contract H enc W base args ds gs before hval hW
theorem proved : Rows.CalibrateSweepsSaid :=
  OpenClaim.holds_of_wide 7 Try.f7 rfl rfl rfl rfl rfl rfl rfl ⟨rfl, rfl, rfl, rfl, rfl⟩ rfl rfl rfl rfl rfl (by kernel_rfl) Try.func7 (by kernel_rfl)
    (of_decide_eq_true (by kernel_rfl)) (by unfold Func.isWrapper; first | (rw [if_pos (by decide +kernel)]; kernel_rfl) | (rw [if_neg (by decide +kernel)]; exact ⟨rfl, rfl⟩))
    (fun os started H enc _ => lifted os started H enc)
#print axioms proved
end CalibrateSweeps
end Go.Proofs.Ytneoglmfabilnaa
