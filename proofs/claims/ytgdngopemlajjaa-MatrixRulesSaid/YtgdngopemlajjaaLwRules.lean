/- For every matrix and list of numbers of categories the law MatrixRules returns true; no condition. -/
import Derived.Test.YtgdngopemlajjaaMtJ
import Derived.Test.YtgdngopemlajjaaOpenL
import Derived.Test.YtgdngopemlajjaaRows
import Derived.Deep.RegionHeld3
namespace Go.Proofs.Ytgdngopemlajjaa
open Go.RowKit Go.ChangeShapes Go.WideShapes Go.ChangeAt Go.Joins
set_option linter.unusedVariables false

theorem keep3 {W w' : World} {b : Nat} {x y z : Value} (hl : b < W.heap.size) (h0 : W.cell? ⟨b, 0, none⟩ = some x) (h1 : W.cell? ⟨b, 1, none⟩ = some y) (h2 : W.cell? ⟨b, 2, none⟩ = some z) (hb : Below W.heap.size W w') :
    w'.cell? ⟨b, 0, none⟩ = some x ∧ w'.cell? ⟨b, 1, none⟩ = some y ∧ w'.cell? ⟨b, 2, none⟩ = some z ∧ Below W.heap.size W w' :=
  ⟨(hb.cell (p := ⟨b, 0, none⟩) hl).trans h0, (hb.cell (p := ⟨b, 1, none⟩) hl).trans h1, (hb.cell (p := ⟨b, 2, none⟩) hl).trans h2, hb⟩
set_option maxHeartbeats 4000000 in
theorem rules_all (pv iv cv xv : Value) (ps is : List Int) (cs : List (List Int)) (cats : List Int) (w : World) (hM : Mat w pv iv cv ps is cs) (hx : Nums .i64 w xv cats) :
    Calls Try.prog 3 #[.agg #[pv, iv, cv], xv] w fun e w' => e = .returned (.bool true) ∧ Below w.heap.size w w' := by
  obtain ⟨hp, hi, hc⟩ := hM
  have hp0 := hp
  have hi0 := hi
  have hc0 := hc
  have hx0 := hx
  obtain ⟨X, cX, rfl, x1, x2, x3⟩ := hp
  obtain ⟨Y, cY, rfl, y1, y2, y3⟩ := hi
  obtain ⟨Z, cZ, us, rfl, z1, z2, hs, hu⟩ := hc
  obtain ⟨XC, cC, rfl, q1, q2, q3⟩ := hx
  clear x3 y3 hs hu q3
  have hrb := Row.new w 25 [.slice X ps.length cX, .slice Y is.length cY, .slice Z cs.length cZ]
  have B0 := lit_below w (.cells #[.slice X ps.length cX, .slice Y is.length cY, .slice Z cs.length cZ] 25)
  have n1 := hp0.below B0
  have n2 := hi0.below B0
  have n3 := hc0.below B0
  have n4 := hx0.below B0
  go_enter Try.func3, Try.ntmps3
  go_wp2_with fail
  generalize hW : w.alloc (.cells #[.slice X ps.length cX, .slice Y is.length cY, .slice Z cs.length cZ] 25) = W0 at *
  clear hW
  have a0 : W0.cell? ⟨w.heap.size, 0, none⟩ = some (.slice X ps.length cX) := hrb.cell 0
  have a1 : W0.cell? ⟨w.heap.size, 1, none⟩ = some (.slice Y is.length cY) := hrb.cell 1
  have a2 : W0.cell? ⟨w.heap.size, 2, none⟩ = some (.slice Z cs.length cZ) := hrb.cell 2
  have l0 := hrb.lt
  have HE := Lib.hid (show matE ps is cs cats = matE ps is cs cats from rfl)
  generalize hE : matE ps is cs cats = E at HE
  have HE' := Lib.hid hE
  clear HE hE
  have hee : (E == E) = true := by simp
  go_region_held3 (fun w' => w'.cell? ⟨w.heap.size, 0, none⟩ = some (.slice X ps.length cX) ∧ w'.cell? ⟨w.heap.size, 1, none⟩ = some (.slice Y is.length cY) ∧ w'.cell? ⟨w.heap.size, 2, none⟩ = some (.slice Z cs.length cZ) ∧ Below W0.heap.size W0 w')
    ((refine keep3 l0 a0 a1 a2 ?_; (repeat (first | with_reducible exact Below.refl _ _ | with_reducible refine bl_call h7 ?_ | with_reducible refine bl_call h6 ?_ | with_reducible refine bl_call h5 ?_ | with_reducible refine bl_drew ?_))))
    (first
      | (go_at_call 11; ((with_reducible refine (matv_any _ _ _ _ ps is cats cs _ ?_ ?_ ?_ ?_).mono ?_); (refine n1.below ?_; (repeat (first | with_reducible exact Below.refl _ _ | with_reducible refine bl_call h7 ?_ | with_reducible refine bl_call h6 ?_ | with_reducible refine bl_call h5 ?_ | with_reducible refine bl_drew ?_))); (refine n2.below ?_; (repeat (first | with_reducible exact Below.refl _ _ | with_reducible refine bl_call h7 ?_ | with_reducible refine bl_call h6 ?_ | with_reducible refine bl_call h5 ?_ | with_reducible refine bl_drew ?_))); (refine n3.below ?_; (repeat (first | with_reducible exact Below.refl _ _ | with_reducible refine bl_call h7 ?_ | with_reducible refine bl_call h6 ?_ | with_reducible refine bl_call h5 ?_ | with_reducible refine bl_drew ?_))); (refine n4.below ?_; (repeat (first | with_reducible exact Below.refl _ _ | with_reducible refine bl_call h7 ?_ | with_reducible refine bl_call h6 ?_ | with_reducible refine bl_call h5 ?_ | with_reducible refine bl_drew ?_))); (rw [HE'.out]); rintro e w5 ⟨rfl, h5⟩))
      | (go_at_call 12; ((with_reducible refine (rmatv_any _ _ _ _ ps is cats cs _ ?_ ?_ ?_ ?_).mono ?_); (refine n1.below ?_; (repeat (first | with_reducible exact Below.refl _ _ | with_reducible refine bl_call h7 ?_ | with_reducible refine bl_call h6 ?_ | with_reducible refine bl_call h5 ?_ | with_reducible refine bl_drew ?_))); (refine n2.below ?_; (repeat (first | with_reducible exact Below.refl _ _ | with_reducible refine bl_call h7 ?_ | with_reducible refine bl_call h6 ?_ | with_reducible refine bl_call h5 ?_ | with_reducible refine bl_drew ?_))); (refine n3.below ?_; (repeat (first | with_reducible exact Below.refl _ _ | with_reducible refine bl_call h7 ?_ | with_reducible refine bl_call h6 ?_ | with_reducible refine bl_call h5 ?_ | with_reducible refine bl_drew ?_))); (refine n4.below ?_; (repeat (first | with_reducible exact Below.refl _ _ | with_reducible refine bl_call h7 ?_ | with_reducible refine bl_call h6 ?_ | with_reducible refine bl_call h5 ?_ | with_reducible refine bl_drew ?_))); (rw [HE'.out]); rintro e w6 ⟨rfl, h6⟩))
      | (go_at_call 13; ((with_reducible refine (awake_any _).mono ?_); rintro e w7 ⟨rfl, h7⟩)))
  go_wp2_with fail
  go_ret
  refine ⟨rfl, B0.trans (Below.mono ?_ B0.size)⟩
  (repeat (first | with_reducible exact Below.refl _ _ | with_reducible refine bl_call h7 ?_ | with_reducible refine bl_call h6 ?_ | with_reducible refine bl_call h5 ?_ | with_reducible refine bl_drew ?_))
namespace MatrixRules
theorem own : ownKnob Try.prog.godebug = none := by kernel_rfl
theorem laidOut : laidOutB Try.prog = true := by kernel_rfl
theorem readable : ∀ t ∈ Try.f3.params.toList, Try.prog.readableRec t = true ∧ t < Try.prog.types.size := by
  intro t ht
  rw [Try.params3] at ht
  have ht' : t = 22 ∨ t = 25 := by simp at ht; (try rcases ht with h | h); all_goals (subst_vars; simp)
  rcases ht' with rfl | rfl
  · exact ⟨by kernel_rfl, of_decide_eq_true (by kernel_rfl)⟩
  · exact ⟨by kernel_rfl, of_decide_eq_true (by kernel_rfl)⟩
theorem contract (H : Type) (enc : TypeId × Value → H) (W : World) (base : Nat) (args : Array Value) (ds gs : List (DataW H)) (before : List MemPlace)
    (hval : ∀ (j : Nat) t v, Try.f3.params[j]? = some t → args[j]? = some v → Value.okWide Try.prog W .any base t v)
    (hW : DataW.Whole enc Try.prog Try.f3.params.toList Rows.matrixRulesSpec.vars false W args.toList ds gs before) :
    Calls Try.prog 3 args W fun e W' => ∃ v, e = .returned v ∧ Rows.matrixRulesSpec.post enc Try.prog Try.f3 false true false false W args v W' := by
  have hW' := hW
  obtain ⟨p, q, hA0, hV, rfl, hfz, hnd⟩ := hW
  have hA : DataW.TrodAll enc Try.prog W 0 (fun _ => true) true Try.f3.params.toList args.toList ds p := hA0
  rw [Try.params3] at hA hval
  obtain ⟨v0, vs0, d0, ds0, p0, q0, hargs, rfl, rfl, h0, r0⟩ := trodAll_cons hA
  obtain ⟨v1, vs1, d1, ds1, p1, q1, rfl, rfl, rfl, h1, r1⟩ := trodAll_cons r0
  obtain ⟨rfl, rfl, rfl⟩ := trodAll_nil r1
  obtain rfl : args = #[v0, v1] := by cases args; simp_all
  obtain ⟨rfl, rfl⟩ := trodVars_none hV
  obtain ⟨m0, m1, m2, z0, z1, z2, nm, rfl, rfl, rfl, hz0, hz1, hz2⟩ := open_agg3 Try.underlying25 (by kernel_rfl) (show Try.prog.cellsOf 25 = 3 by kernel_rfl) (hval 0 25 v0 rfl rfl) h0
  obtain ⟨ps, hps, wps⟩ := open_nums Try.underlying22 Try.underlying3 (by kernel_rfl) hz0
  obtain ⟨is, his, wis⟩ := open_nums Try.underlying22 Try.underlying3 (by kernel_rfl) hz1
  obtain ⟨cs, hcs⟩ := open_intsL Try.underlying23 (by kernel_rfl) Try.underlying22 Try.underlying3 (by kernel_rfl) hz2
  obtain ⟨Acats, lcats, ccats, rfl⟩ := okWide_slice Try.underlying22 (hval 1 22 v1 rfl rfl)
  obtain ⟨fcats, hfcats⟩ := h1
  obtain ⟨cats, hcats, wcats⟩ := open_nums Try.underlying22 Try.underlying3 (by kernel_rfl) (by simpa [Value.cells] using hfcats)
  refine (rules_all _ _ _ _ ps is cs cats W ⟨hps, his, hcs⟩ hcats).mono fun e W' ⟨he, hb⟩ => ⟨_, he, ?_⟩
  exact law_post laidOut readable rfl rfl Try.underlying4 (ok_one (by kernel_rfl) rfl (okWide_bool_mk Try.underlying4 _)) ⟨rfl, rfl, rfl⟩ hW' hb
set_option maxRecDepth 100000 in
theorem lifted (os : Os) (started : os.Started) (H : Type) (enc : TypeId × Value → H) :
    ReturnsInHanded {} Try.checked os 3 .any (Rows.matrixRulesSpec.pre6 enc Try.prog Try.f3 Rows.matrixRulesRow.domain false) (Rows.matrixRulesSpec.post enc Try.prog Try.f3 false true false false) := by
  refine returnsInHanded_of_change (C := Try.checked) own started (by kernel_rfl) Try.func3
    (ChangeSpec.witness6 (enc := enc) (C := Try.checked) false ⟨#[], #[.agg #[.slice none 0 0, .slice none 0 0, .slice none 0 0], .slice none 0 0], []⟩ 8 (by kernel_rfl) (by kernel_rfl) (by kernel_rfl) (by kernel_rfl)) ?_
  intro W base args ds gs before hval hW _ _
  exact contract H enc W base args ds gs before hval hW
theorem proved : Rows.MatrixRulesSaid :=
  OpenClaim.holds_of_wide 3 Try.f3 rfl rfl rfl rfl rfl rfl rfl ⟨rfl, rfl, rfl, rfl, rfl⟩ rfl rfl rfl rfl rfl (by kernel_rfl) Try.func3 (by kernel_rfl)
    (of_decide_eq_true (by kernel_rfl)) (by unfold Func.isWrapper; first | (rw [if_pos (by decide +kernel)]; kernel_rfl) | (rw [if_neg (by decide +kernel)]; exact ⟨rfl, rfl⟩))
    (fun os started H enc _ => lifted os started H enc)
#print axioms proved
end MatrixRules
end Go.Proofs.Ytgdngopemlajjaa
