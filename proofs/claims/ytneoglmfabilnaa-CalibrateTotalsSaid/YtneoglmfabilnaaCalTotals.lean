/- For every grid, list of models and matrix the law CalibrateTotals returns true; no condition. -/
import Derived.Test.YtneoglmfabilnaaTotC
import Derived.Test.YtneoglmfabilnaaLaw28
import Derived.Test.YtneoglmfabilnaaRows
namespace Go.Proofs.Ytneoglmfabilnaa
open Go.RowKit Go.ChangeShapes Go.WideShapes Go.ChangeAt Go.Joins
set_option linter.unusedVariables false

set_option maxHeartbeats 2000000 in
theorem heavy_any (qv iv cv : Value) (qs is : List Int) (w : World) (hq : Nums .i64 w qv qs) (hi : Nums .i64 w iv is) (hcv : ∃ A n c, cv = .slice A n c) :
    Calls Try.prog 13 #[.agg #[qv, iv, cv]] w fun e w' => ∃ b, e = .returned (.bool b) ∧ Below w.heap.size w w' := by
  obtain ⟨X, cX, rfl, x1, x2, x3⟩ := hq
  obtain ⟨Y, cY, rfl, y1, y2, y3⟩ := hi
  obtain ⟨A, n, c, rfl⟩ := hcv
  clear x3 y3
  unfold maxLen at x2 y2
  have hbox : Below w.heap.size w (w.alloc (.cells #[.slice X qs.length cX, .slice Y is.length cY, .slice A n c] 36)) := (Below.refl _ _).alloc (Nat.le_refl _) _
  generalize qs.length = nq at *
  generalize is.length = ni at *
  rcases h1 : decide (4 < (nq : Int)) <;> rcases h2 : decide ((nq : Int) ≤ 200) <;> rcases h3 : decide (5 < (ni : Int)) <;> rcases h4 : decide ((ni : Int) ≤ 60)
  all_goals
    go_enter Try.func13, Try.ntmps13
    go_wp2_with fail
    go_ret
    exact ⟨_, rfl, hbox⟩
set_option maxHeartbeats 4000000 in
theorem ct_all (pv rv mv qv iv cv : Value) (ps rs : List Int) (ms : List (List (List Int))) (qs is : List Int) (cs : List (List Int)) (w : World) (hp : Nums .i64 w pv ps) (hr : Nums .i64 w rv rs) (hm : ModL w mv ms) (hq : Nums .i64 w qv qs) (hi : Nums .i64 w iv is) (hc : IntsL w cv cs) :
    Calls Try.prog 4 #[.agg #[pv, rv], mv, .agg #[qv, iv, cv]] w fun e w' => e = .returned (.bool true) ∧ Below w.heap.size w w' := by
  have hp0 := hp
  have hr0 := hr
  have hm0 := hm
  have hq0 := hq
  have hi0 := hi
  have hc0 := hc
  obtain ⟨A, c, rfl, hc1, hm1, hsp⟩ := hp
  obtain ⟨B, c', rfl, hc', hm2, hsr⟩ := hr
  obtain ⟨M, cM, us, rfl, k1, k2, hs, hu⟩ := hm
  obtain ⟨X, cX, rfl, x1, x2, x3⟩ := hq
  obtain ⟨Y, cY, rfl, y1, y2, y3⟩ := hi
  obtain ⟨Z, cZ, vs, rfl, z1, z2, hsc, hcu⟩ := hc
  have HC := Lib.hid hcu
  unfold maxLen at k2 x2 y2 z2 hm1 hm2
  clear hu hs hsp hsr x3 y3 hcu
  have hgb := (Row.new w 24 [.slice A ps.length c, .slice B rs.length c']).alloc (.cells #[.slice X qs.length cX, .slice Y is.length cY, .slice Z cs.length cZ] 36)
  have hmb := Row.new (w.alloc (.cells #[.slice A ps.length c, .slice B rs.length c'] 24)) 36 [.slice X qs.length cX, .slice Y is.length cY, .slice Z cs.length cZ]
  have B0 : Below w.heap.size w ((w.alloc (.cells #[.slice A ps.length c, .slice B rs.length c'] 24)).alloc (.cells #[.slice X qs.length cX, .slice Y is.length cY, .slice Z cs.length cZ] 36)) := ((Below.refl _ _).alloc (Nat.le_refl _) _).alloc (by simp) _
  rw [show (w.alloc (.cells #[.slice A ps.length c, .slice B rs.length c'] 24)).heap.size = w.heap.size + 1 by simp] at hmb
  go_enter Try.func4, Try.ntmps4
  go_wp2_with fail
  refine (heavy_any _ _ _ qs is _ (hq0.below B0) (hi0.below B0) ⟨_, _, _, rfl⟩).mono ?_
  rintro e w1 ⟨b, rfl, hb1⟩
  have B1 : Below w.heap.size w w1 := B0.trans (hb1.mono B0.size)
  replace hgb := hgb.keep hb1
  replace hmb := hmb.keep hb1
  clear hb1 B0
  have qg0 : w1.cell? ⟨w.heap.size, 0, none⟩ = some (.slice A ps.length c) := hgb.cell 0
  have qg1 : w1.cell? ⟨w.heap.size, 1, none⟩ = some (.slice B rs.length c') := hgb.cell 1
  have q0 : w1.cell? ⟨w.heap.size + 1, 0, none⟩ = some (.slice X qs.length cX) := hmb.cell 0
  have q1 : w1.cell? ⟨w.heap.size + 1, 1, none⟩ = some (.slice Y is.length cY) := hmb.cell 1
  have q2 : w1.cell? ⟨w.heap.size + 1, 2, none⟩ = some (.slice Z cs.length cZ) := hmb.cell 2
  cases b
  case true =>
    go_wp2_with fail
    go_ret
    exact ⟨rfl, B1⟩
  case false =>
    go_wp2_with fail
    refine (total_any _ _ _ _ _ _ ps rs ms qs is cs _ (hp0.below B1) (hr0.below B1) (hm0.below B1) (hq0.below B1) (hi0.below B1) (hc0.below B1)).mono ?_
    rintro e w2 ⟨v2, rfl, hv2, hb2⟩
    have B2 : Below w.heap.size w w2 := B1.trans (hb2.mono B1.size)
    replace hgb := hgb.keep hb2
    replace hmb := hmb.keep hb2
    clear hb2 B1 qg0 qg1 q0 q1 q2
    have qg0 : w2.cell? ⟨w.heap.size, 0, none⟩ = some (.slice A ps.length c) := hgb.cell 0
    have qg1 : w2.cell? ⟨w.heap.size, 1, none⟩ = some (.slice B rs.length c') := hgb.cell 1
    have q0 : w2.cell? ⟨w.heap.size + 1, 0, none⟩ = some (.slice X qs.length cX) := hmb.cell 0
    have q1 : w2.cell? ⟨w.heap.size + 1, 1, none⟩ = some (.slice Y is.length cY) := hmb.cell 1
    have q2 : w2.cell? ⟨w.heap.size + 1, 2, none⟩ = some (.slice Z cs.length cZ) := hmb.cell 2
    have hv2' := hv2
    obtain ⟨l2, ⟨⟨C2, c2, rfl, _, _, _⟩, _⟩, _⟩ := hv2'
    go_wp2_with fail
    refine (rTotal_any _ _ _ _ _ _ ps rs ms qs is cs _ (hp0.below B2) (hr0.below B2) (hm0.below B2) (hq0.below B2) (hi0.below B2) (hc0.below B2)).mono ?_
    rintro e w3 ⟨v3, rfl, hv3, hb3⟩
    have B3 : Below w.heap.size w w3 := B2.trans (hb3.mono B2.size)
    have hv2'' := hv2.below hb3
    clear hb3 qg0 qg1 q0 q1 q2 hgb hmb B2
    obtain ⟨lim, hl1, hl2, _⟩ := hv2''.same hv3
    have hl2' := hl2
    obtain ⟨⟨C3, c3, rfl, _, _, _⟩, _⟩ := hl2'
    generalize totE ps rs ms qs is cs = E at *
    have hee : (E == E) = true := by simp
    go_wp2_with fail
    refine (limbs_same _ _ lim _ hl1 hl2).mono ?_
    rintro e w4 ⟨rfl, d, rfl⟩
    go_wp2_with fail
    go_ret
    exact ⟨rfl, below_drewN B3 _⟩

namespace CalibrateTotals
theorem own : ownKnob Try.prog.godebug = none := by kernel_rfl
theorem laidOut : laidOutB Try.prog = true := by kernel_rfl
theorem readable : ∀ t ∈ Try.f4.params.toList, Try.prog.readableRec t = true ∧ t < Try.prog.types.size := by
  intro t ht
  rw [Try.params4] at ht
  have ht' : t = 24 ∨ t = 25 ∨ t = 36 := by simp at ht; (try rcases ht with h | h | h); all_goals (subst_vars; simp)
  rcases ht' with rfl | rfl | rfl
  · exact ⟨by kernel_rfl, of_decide_eq_true (by kernel_rfl)⟩
  · exact ⟨by kernel_rfl, of_decide_eq_true (by kernel_rfl)⟩
  · exact ⟨by kernel_rfl, of_decide_eq_true (by kernel_rfl)⟩
theorem contract (H : Type) (enc : TypeId × Value → H) (W : World) (base : Nat) (args : Array Value) (ds gs : List (DataW H)) (before : List MemPlace)
    (hval : ∀ (j : Nat) t v, Try.f4.params[j]? = some t → args[j]? = some v → Value.okWide Try.prog W .any base t v)
    (hW : DataW.Whole enc Try.prog Try.f4.params.toList Rows.calibrateTotalsSpec.vars false W args.toList ds gs before) :
    Calls Try.prog 4 args W fun e W' => ∃ v, e = .returned v ∧ Rows.calibrateTotalsSpec.post enc Try.prog Try.f4 false true false false W args v W' := by
  have hW' := hW
  obtain ⟨p, q, hA0, hV, rfl, hfz, hnd⟩ := hW
  have hA : DataW.TrodAll enc Try.prog W 0 (fun _ => true) true Try.f4.params.toList args.toList ds p := hA0
  rw [Try.params4] at hA hval
  obtain ⟨v0, vs0, d0, ds0, p0, q0, hargs, rfl, rfl, h0, r0⟩ := trodAll_cons hA
  obtain ⟨v1, vs1, d1, ds1, p1, q1, rfl, rfl, rfl, h1, r1⟩ := trodAll_cons r0
  obtain ⟨v2, vs2, d2, ds2, p2, q2, rfl, rfl, rfl, h2, r2⟩ := trodAll_cons r1
  obtain ⟨rfl, rfl, rfl⟩ := trodAll_nil r2
  obtain rfl : args = #[v0, v1, v2] := by cases args; simp_all
  obtain ⟨rfl, rfl⟩ := trodVars_none hV
  obtain ⟨f0, f1, y0, y1, nf, rfl, rfl, rfl, hy0, hy1⟩ := open_agg2 Try.underlying24 (by kernel_rfl) (show Try.prog.cellsOf 24 = 2 by kernel_rfl) (hval 0 24 v0 rfl rfl) h0
  obtain ⟨ps, hps, _⟩ := open_nums Try.underlying22 Try.underlying3 (by kernel_rfl) hy0
  obtain ⟨rs, hrs, _⟩ := open_nums Try.underlying22 Try.underlying3 (by kernel_rfl) hy1
  obtain ⟨Am, lm, cm, rfl⟩ := okWide_slice Try.underlying25 (hval 1 25 v1 rfl rfl)
  obtain ⟨fm, hfm⟩ := h1
  obtain ⟨ms, hms⟩ := open_modL Try.underlying25 (by kernel_rfl) Try.underlying48 (by kernel_rfl) rfl Try.underlying34 (by kernel_rfl) Try.underlying22 Try.underlying3 (by kernel_rfl) (by simpa [Value.cells] using hfm)
  obtain ⟨m0, m1, m2, z0, z1, z2, nm, rfl, rfl, rfl, hz0, hz1, hz2⟩ := open_agg3 Try.underlying36 (by kernel_rfl) (show Try.prog.cellsOf 36 = 3 by kernel_rfl) (hval 2 36 v2 rfl rfl) h2
  obtain ⟨qs, hqs, _⟩ := open_nums Try.underlying22 Try.underlying3 (by kernel_rfl) hz0
  obtain ⟨is, his, _⟩ := open_nums Try.underlying22 Try.underlying3 (by kernel_rfl) hz1
  obtain ⟨cs, hcs⟩ := open_intsL Try.underlying34 (by kernel_rfl) Try.underlying22 Try.underlying3 (by kernel_rfl) hz2
  refine (ct_all _ _ _ _ _ _ ps rs ms qs is cs W hps hrs hms hqs his hcs).mono fun e W' ⟨he, hb⟩ => ⟨_, he, ?_⟩
  exact law_post laidOut readable rfl rfl Try.underlying4 (ok_one (by kernel_rfl) rfl (okWide_bool_mk Try.underlying4 _)) ⟨rfl, rfl, rfl⟩ hW' hb
set_option maxRecDepth 100000 in
theorem lifted (os : Os) (started : os.Started) (H : Type) (enc : TypeId × Value → H) :
    ReturnsInHanded {} Try.checked os 4 .any (Rows.calibrateTotalsSpec.pre6 enc Try.prog Try.f4 Rows.calibrateTotalsRow.domain false) (Rows.calibrateTotalsSpec.post enc Try.prog Try.f4 false true false false) := by
  refine returnsInHanded_of_change (C := Try.checked) own started (by kernel_rfl) Try.func4
    (ChangeSpec.witness6 (enc := enc) (C := Try.checked) false ⟨#[], #[.agg #[.slice none 0 0, .slice none 0 0], .slice none 0 0, .agg #[.slice none 0 0, .slice none 0 0, .slice none 0 0]], []⟩ 8 (by kernel_rfl) (by kernel_rfl) (by kernel_rfl) (by kernel_rfl)) ?_
  intro W base args ds gs before hval hW _ _
  exact contract H enc W base args ds gs before hval hW
theorem proved : Rows.CalibrateTotalsSaid :=
  OpenClaim.holds_of_wide 4 Try.f4 rfl rfl rfl rfl rfl rfl rfl ⟨rfl, rfl, rfl, rfl, rfl⟩ rfl rfl rfl rfl rfl (by kernel_rfl) Try.func4 (by kernel_rfl)
    (of_decide_eq_true (by kernel_rfl)) (by unfold Func.isWrapper; first | (rw [if_pos (by decide +kernel)]; kernel_rfl) | (rw [if_neg (by decide +kernel)]; exact ⟨rfl, rfl⟩))
    (fun os started H enc _ => lifted os started H enc)
#print axioms proved
end CalibrateTotals
end Go.Proofs.Ytneoglmfabilnaa
