/- For every matrix and lists of persons and items the law MatrixParts returns true; no condition. -/
import Derived.Test.YtgdngopemlajjaaMtJ
import Derived.Test.YtgdngopemlajjaaOpenL
import Derived.Test.YtgdngopemlajjaaRows
import Derived.Test.YtgdngopemlajjaaRtB
import Derived.Test.YtgdngopemlajjaaOpenW
namespace Go.Proofs.Ytgdngopemlajjaa
open Go.RowKit Go.ChangeShapes Go.WideShapes Go.ChangeAt Go.Joins
set_option linter.unusedVariables false

set_option maxRecDepth 100000 in
set_option maxHeartbeats 8000000 in
theorem parts_all (pv iv cv xv yv : Value) (ps is : List Int) (cs : List (List Int)) (P I : List Int) (w : World) (hM : Mat w pv iv cv ps is cs) (hx : Nums .i64 w xv P) (hy : Nums .i64 w yv I)
    (wps : I64 ps) (wis : I64 is) (wP : I64 P) (wI : I64 I) (l1 : ps.length * 8 ≤ 140737488351232) (l2 : is.length * 8 ≤ 140737488351232) (l3 : cs.length * 24 ≤ 140737488351232) (l4 : P.length * 8 ≤ 140737488351232) (l5 : I.length * 8 ≤ 140737488351232) :
    Calls Try.prog 4 #[.agg #[pv, iv, cv], xv, yv] w fun e w' => e = .returned (.bool true) ∧ Below w.heap.size w w' := by
  obtain ⟨hp, hi, hc⟩ := hM
  have hM0 : Mat w _ _ _ ps is cs := ⟨hp, hi, hc⟩
  have hx0 := hx
  have hy0 := hy
  obtain ⟨X, cX, rfl, x1, x2, x3⟩ := hp
  obtain ⟨Y, cY, rfl, y1, y2, y3⟩ := hi
  obtain ⟨Z, cZ, us, rfl, z1, z2, hs, hu⟩ := hc
  obtain ⟨XP, cP, rfl, p1, p2, p3⟩ := hx
  obtain ⟨XI, cI, rfl, q1, q2, q3⟩ := hy
  clear hu hs x3 y3 p3 q3
  have hra := Row.new w 25 [.slice X ps.length cX, .slice Y is.length cY, .slice Z cs.length cZ]
  have BB := lit_below w (.cells #[.slice X ps.length cX, .slice Y is.length cY, .slice Z cs.length cZ] 25)
  have hA := hM0.below BB
  have hP := hx0.below BB
  have hQ := hy0.below BB
  clear hM0 hx0 hy0
  go_enter Try.func4, Try.ntmps4
  go_wp2_with fail
  generalize hW : w.alloc (.cells #[.slice X ps.length cX, .slice Y is.length cY, .slice Z cs.length cZ] 25) = w0 at *
  clear hW
  refine (select_any _ _ _ _ _ ps is cs P I _ hA hP hQ wps wis wP wI l1 l2 l3 l4 l5).mono ?_
  rintro e w1 ⟨xp, xi, xc, rfl, hX, hb⟩
  replace hra := hra.keep hb
  replace hA := hA.below hb
  replace hP := hP.below hb
  replace hQ := hQ.below hb
  replace BB : Below w.heap.size w w1 := BB.trans (hb.mono BB.size)
  clear hb
  generalize hEE : selE ps is cs P I = E at *
  have HE := Lib.hid hEE
  clear hEE
  have hee : (E == E) = true := by simp
  have hX0 := hX
  obtain ⟨⟨UA, xac, rfl, _, _, _⟩, ⟨UB, xbc, rfl, _, _, _⟩, ⟨UC, xcc, _, rfl, _, _, _, _⟩⟩ := hX
  obtain ⟨gx, hgx⟩ : ∃ g, w1.heap.size = g := ⟨_, rfl⟩
  have hrgx : Row (w1.alloc (.cells #[.slice UA (onZ E P).length xac, .slice UB (onZ E I).length xbc, .slice UC (onZ E (selC ps is cs P I)).length xcc] 25)) gx 25 [.slice UA (onZ E P).length xac, .slice UB (onZ E I).length xbc, .slice UC (onZ E (selC ps is cs P I)).length xcc] := row_at hgx
  have hl := lit_below w1 (.cells #[.slice UA (onZ E P).length xac, .slice UB (onZ E I).length xbc, .slice UC (onZ E (selC ps is cs P I)).length xcc] 25)
  have a0 : w1.cell? ⟨w.heap.size, 0, none⟩ = some (.slice X ps.length cX) := hra.cell 0
  have a1 : w1.cell? ⟨w.heap.size, 1, none⟩ = some (.slice Y is.length cY) := hra.cell 1
  have a2 : w1.cell? ⟨w.heap.size, 2, none⟩ = some (.slice Z cs.length cZ) := hra.cell 2
  have la0 : (w1.alloc (.cells #[.slice UA (onZ E P).length xac, .slice UB (onZ E I).length xbc, .slice UC (onZ E (selC ps is cs P I)).length xcc] 25)).cell? ⟨w.heap.size, 0, none⟩ = some (.slice X ps.length cX) := (hra.alloc _).cell 0
  have la1 : (w1.alloc (.cells #[.slice UA (onZ E P).length xac, .slice UB (onZ E I).length xbc, .slice UC (onZ E (selC ps is cs P I)).length xcc] 25)).cell? ⟨w.heap.size, 1, none⟩ = some (.slice Y is.length cY) := (hra.alloc _).cell 1
  have la2 : (w1.alloc (.cells #[.slice UA (onZ E P).length xac, .slice UB (onZ E I).length xbc, .slice UC (onZ E (selC ps is cs P I)).length xcc] 25)).cell? ⟨w.heap.size, 2, none⟩ = some (.slice Z cs.length cZ) := (hra.alloc _).cell 2
  go_wp2_with fail
  clear a0 a1 a2
  clear la0 la1 la2
  clear hgx
  generalize (w1.alloc (.cells #[.slice UA (onZ E P).length xac, .slice UB (onZ E I).length xbc, .slice UC (onZ E (selC ps is cs P I)).length xcc] 25)) = w2 at *
  replace hra := hra.keep hl
  replace hA := hA.below hl
  replace hP := hP.below hl
  replace hQ := hQ.below hl
  replace hX0 := hX0.below hl
  replace BB : Below w.heap.size w w2 := BB.trans (hl.mono BB.size)
  clear hl
  refine (rselect_any _ _ _ _ _ ps is cs P I _ hA hP hQ wps wis wP wI l1 l2 l3 l4 l5).mono ?_
  rintro e w3 ⟨yp, yi, yc, rfl, hY, hb⟩
  replace hra := hra.keep hb
  replace hA := hA.below hb
  replace hP := hP.below hb
  replace hQ := hQ.below hb
  replace hX0 := hX0.below hb
  replace hrgx := hrgx.keep hb
  replace BB : Below w.heap.size w w3 := BB.trans (hb.mono BB.size)
  clear hb
  rw [HE.out] at hY
  rw [HE.out]
  have hY0 := hY
  obtain ⟨⟨VA, yac, rfl, _, _, _⟩, ⟨VB, ybc, rfl, _, _, _⟩, ⟨VC, ycc, _, rfl, _, _, _, _⟩⟩ := hY
  obtain ⟨gy, hgy⟩ : ∃ g, w3.heap.size = g := ⟨_, rfl⟩
  have hrgy : Row (w3.alloc (.cells #[.slice VA (onZ E P).length yac, .slice VB (onZ E I).length ybc, .slice VC (onZ E (selC ps is cs P I)).length ycc] 25)) gy 25 [.slice VA (onZ E P).length yac, .slice VB (onZ E I).length ybc, .slice VC (onZ E (selC ps is cs P I)).length ycc] := row_at hgy
  have hl := lit_below w3 (.cells #[.slice VA (onZ E P).length yac, .slice VB (onZ E I).length ybc, .slice VC (onZ E (selC ps is cs P I)).length ycc] 25)
  have a0 : w3.cell? ⟨w.heap.size, 0, none⟩ = some (.slice X ps.length cX) := hra.cell 0
  have a1 : w3.cell? ⟨w.heap.size, 1, none⟩ = some (.slice Y is.length cY) := hra.cell 1
  have a2 : w3.cell? ⟨w.heap.size, 2, none⟩ = some (.slice Z cs.length cZ) := hra.cell 2
  have x0 : w3.cell? ⟨gx, 0, none⟩ = some (.slice UA (onZ E P).length xac) := hrgx.cell 0
  have x1 : w3.cell? ⟨gx, 1, none⟩ = some (.slice UB (onZ E I).length xbc) := hrgx.cell 1
  have x2 : w3.cell? ⟨gx, 2, none⟩ = some (.slice UC (onZ E (selC ps is cs P I)).length xcc) := hrgx.cell 2
  have la0 : (w3.alloc (.cells #[.slice VA (onZ E P).length yac, .slice VB (onZ E I).length ybc, .slice VC (onZ E (selC ps is cs P I)).length ycc] 25)).cell? ⟨w.heap.size, 0, none⟩ = some (.slice X ps.length cX) := (hra.alloc _).cell 0
  have la1 : (w3.alloc (.cells #[.slice VA (onZ E P).length yac, .slice VB (onZ E I).length ybc, .slice VC (onZ E (selC ps is cs P I)).length ycc] 25)).cell? ⟨w.heap.size, 1, none⟩ = some (.slice Y is.length cY) := (hra.alloc _).cell 1
  have la2 : (w3.alloc (.cells #[.slice VA (onZ E P).length yac, .slice VB (onZ E I).length ybc, .slice VC (onZ E (selC ps is cs P I)).length ycc] 25)).cell? ⟨w.heap.size, 2, none⟩ = some (.slice Z cs.length cZ) := (hra.alloc _).cell 2
  have lx0 : (w3.alloc (.cells #[.slice VA (onZ E P).length yac, .slice VB (onZ E I).length ybc, .slice VC (onZ E (selC ps is cs P I)).length ycc] 25)).cell? ⟨gx, 0, none⟩ = some (.slice UA (onZ E P).length xac) := (hrgx.alloc _).cell 0
  have lx1 : (w3.alloc (.cells #[.slice VA (onZ E P).length yac, .slice VB (onZ E I).length ybc, .slice VC (onZ E (selC ps is cs P I)).length ycc] 25)).cell? ⟨gx, 1, none⟩ = some (.slice UB (onZ E I).length xbc) := (hrgx.alloc _).cell 1
  have lx2 : (w3.alloc (.cells #[.slice VA (onZ E P).length yac, .slice VB (onZ E I).length ybc, .slice VC (onZ E (selC ps is cs P I)).length ycc] 25)).cell? ⟨gx, 2, none⟩ = some (.slice UC (onZ E (selC ps is cs P I)).length xcc) := (hrgx.alloc _).cell 2
  go_wp2_with fail
  clear a0 a1 a2 x0 x1 x2
  clear la0 la1 la2 lx0 lx1 lx2
  clear hgy
  generalize (w3.alloc (.cells #[.slice VA (onZ E P).length yac, .slice VB (onZ E I).length ybc, .slice VC (onZ E (selC ps is cs P I)).length ycc] 25)) = w4 at *
  replace hra := hra.keep hl
  replace hA := hA.below hl
  replace hP := hP.below hl
  replace hQ := hQ.below hl
  replace hX0 := hX0.below hl
  replace hrgx := hrgx.keep hl
  replace hY0 := hY0.below hl
  replace BB : Below w.heap.size w w4 := BB.trans (hl.mono BB.size)
  clear hl
  refine (same_any _ _ _ _ _ _ (onZ E P) (onZ E I) (onZ E (selC ps is cs P I)) (onZ E P) (onZ E I) (onZ E (selC ps is cs P I)) _ hX0 hY0).mono ?_
  rw [sameB_refl]
  rintro e w5 ⟨rfl, hb⟩
  replace hra := hra.keep hb
  replace hA := hA.below hb
  replace hP := hP.below hb
  replace hQ := hQ.below hb
  replace hX0 := hX0.below hb
  replace hrgx := hrgx.keep hb
  replace hY0 := hY0.below hb
  replace hrgy := hrgy.keep hb
  replace BB : Below w.heap.size w w5 := BB.trans (hb.mono BB.size)
  clear hb
  have a0 : w5.cell? ⟨w.heap.size, 0, none⟩ = some (.slice X ps.length cX) := hra.cell 0
  have a1 : w5.cell? ⟨w.heap.size, 1, none⟩ = some (.slice Y is.length cY) := hra.cell 1
  have a2 : w5.cell? ⟨w.heap.size, 2, none⟩ = some (.slice Z cs.length cZ) := hra.cell 2
  have x0 : w5.cell? ⟨gx, 0, none⟩ = some (.slice UA (onZ E P).length xac) := hrgx.cell 0
  have x1 : w5.cell? ⟨gx, 1, none⟩ = some (.slice UB (onZ E I).length xbc) := hrgx.cell 1
  have x2 : w5.cell? ⟨gx, 2, none⟩ = some (.slice UC (onZ E (selC ps is cs P I)).length xcc) := hrgx.cell 2
  have y0 : w5.cell? ⟨gy, 0, none⟩ = some (.slice VA (onZ E P).length yac) := hrgy.cell 0
  have y1 : w5.cell? ⟨gy, 1, none⟩ = some (.slice VB (onZ E I).length ybc) := hrgy.cell 1
  have y2 : w5.cell? ⟨gy, 2, none⟩ = some (.slice VC (onZ E (selC ps is cs P I)).length ycc) := hrgy.cell 2
  go_wp2_with fail
  clear a0 a1 a2 x0 x1 x2 y0 y1 y2
  refine (awake_any _).mono ?_
  rintro e w99 ⟨rfl, hb⟩
  go_wp2_with fail
  go_ret
  exact ⟨rfl, BB.trans (hb.mono BB.size)⟩
namespace MatrixParts
theorem own : ownKnob Try.prog.godebug = none := by kernel_rfl
theorem laidOut : laidOutB Try.prog = true := by kernel_rfl
theorem readable : ∀ t ∈ Try.f4.params.toList, Try.prog.readableRec t = true ∧ t < Try.prog.types.size := by
  intro t ht
  rw [Try.params4] at ht
  have ht' : t = 22 ∨ t = 25 := by simp at ht; (try rcases ht with h | h | h); all_goals (subst_vars; simp)
  rcases ht' with rfl | rfl
  · exact ⟨by kernel_rfl, of_decide_eq_true (by kernel_rfl)⟩
  · exact ⟨by kernel_rfl, of_decide_eq_true (by kernel_rfl)⟩
theorem contract (H : Type) (enc : TypeId × Value → H) (W : World) (base : Nat) (args : Array Value) (ds gs : List (DataW H)) (before : List MemPlace)
    (hval : ∀ (j : Nat) t v, Try.f4.params[j]? = some t → args[j]? = some v → Value.okWide Try.prog W .any base t v)
    (hW : DataW.Whole enc Try.prog Try.f4.params.toList Rows.matrixPartsSpec.vars false W args.toList ds gs before)
    (hsz : (DataW.weightsEach Try.prog (Try.f4.params.toList ++ Rows.matrixPartsSpec.plain.varTypes Try.prog) (ds ++ gs)).all (· ≤ reachBytes) = true) :
    Calls Try.prog 4 args W fun e W' => ∃ v, e = .returned v ∧ Rows.matrixPartsSpec.post enc Try.prog Try.f4 false true false false W args v W' := by
  have hW' := hW
  obtain ⟨p, q, hA0, hV, rfl, hfz, hnd⟩ := hW
  have hA : DataW.TrodAll enc Try.prog W 0 (fun _ => true) true Try.f4.params.toList args.toList ds p := hA0
  rw [Try.params4] at hA hval
  obtain ⟨v0, vs0, d0, ds0, p0, q0, hargs, rfl, rfl, h0, r0⟩ := trodAll_cons hA
  obtain ⟨v1, vs1, d1, ds1, p1, q1, rfl, rfl, rfl, h1, r1⟩ := trodAll_cons r0
  obtain ⟨v2, vs2, d2, ds2, p2, q2, rfl, rfl, rfl, h2, r2⟩ := trodAll_cons r1
  obtain ⟨rfl, rfl, rfl⟩ := trodAll_nil r2
  obtain rfl : args = #[v0, v1, v2] := by cases args; simp_all
  obtain ⟨rfl, rfl⟩ := trodVars_none hV
  rw [Try.params4] at hsz
  have szm := sizeAt hsz (j := 0) rfl rfl
  obtain ⟨mm0, mm1, mm2, zm0, zm1, zm2, nmm, rfl, rfl, rfl, hzm0, hzm1, hzm2⟩ := open_agg3 Try.underlying25 (by kernel_rfl) (show Try.prog.cellsOf 25 = 3 by kernel_rfl) (hval 0 25 v0 rfl rfl) h0
  obtain ⟨szm0, szm1, szm2⟩ := size_agg3 Try.underlying25 szm
  obtain ⟨psm, hpsm, wpsm, zpsm⟩ := open_numsS Try.underlying22 Try.underlying3 (by kernel_rfl) hzm0 szm0
  obtain ⟨ism, hism, wism, zism⟩ := open_numsS Try.underlying22 Try.underlying3 (by kernel_rfl) hzm1 szm1
  obtain ⟨csm, hcsm, zcsm⟩ := open_intsLS Try.underlying23 (by kernel_rfl) Try.underlying22 Try.underlying3 (by kernel_rfl) hzm2 szm2
  obtain ⟨AP, lP, cP, rfl⟩ := okWide_slice Try.underlying22 (hval 1 22 v1 rfl rfl)
  obtain ⟨fP, hfP⟩ := h1
  have sP := sizeAt hsz (j := 1) rfl rfl
  obtain ⟨P, hP, wP, zP⟩ := open_numsS Try.underlying22 Try.underlying3 (by kernel_rfl) (by simpa [Value.cells] using hfP) sP
  obtain ⟨AI, lI, cI, rfl⟩ := okWide_slice Try.underlying22 (hval 2 22 v2 rfl rfl)
  obtain ⟨fI, hfI⟩ := h2
  have sI := sizeAt hsz (j := 2) rfl rfl
  obtain ⟨I, hI, wI, zI⟩ := open_numsS Try.underlying22 Try.underlying3 (by kernel_rfl) (by simpa [Value.cells] using hfI) sI
  rw [bytesInt] at zpsm zism zP zI
  rw [bytesInts] at zcsm
  refine (parts_all _ _ _ _ _ psm ism csm P I W ⟨hpsm, hism, hcsm⟩ hP hI wpsm wism wP wI zpsm zism zcsm zP zI).mono fun e W' ⟨he, hb⟩ => ⟨_, he, ?_⟩
  exact law_post laidOut readable rfl rfl Try.underlying4 (ok_one (by kernel_rfl) rfl (okWide_bool_mk Try.underlying4 _)) ⟨rfl, rfl, rfl⟩ hW' hb
set_option maxRecDepth 100000 in
theorem lifted (os : Os) (started : os.Started) (H : Type) (enc : TypeId × Value → H) :
    ReturnsInHanded {} Try.checked os 4 .any (Rows.matrixPartsSpec.pre6 enc Try.prog Try.f4 Rows.matrixPartsRow.domain false) (Rows.matrixPartsSpec.post enc Try.prog Try.f4 false true false false) := by
  refine returnsInHanded_of_change_sized (C := Try.checked) own started (by kernel_rfl) Try.func4
    (ChangeSpec.witness6 (enc := enc) (C := Try.checked) false ⟨#[], #[.agg #[.slice none 0 0, .slice none 0 0, .slice none 0 0], .slice none 0 0, .slice none 0 0], []⟩ 8 (by kernel_rfl) (by kernel_rfl) (by kernel_rfl) (by kernel_rfl)) ?_
  intro W base args ds gs before hval hW _ hsz _
  exact contract H enc W base args ds gs before hval hW hsz
theorem proved : Rows.MatrixPartsSaid :=
  OpenClaim.holds_of_wide 4 Try.f4 rfl rfl rfl rfl rfl rfl rfl ⟨rfl, rfl, rfl, rfl, rfl⟩ rfl rfl rfl rfl rfl (by kernel_rfl) Try.func4 (by kernel_rfl)
    (of_decide_eq_true (by kernel_rfl)) (by unfold Func.isWrapper; first | (rw [if_pos (by decide +kernel)]; kernel_rfl) | (rw [if_neg (by decide +kernel)]; exact ⟨rfl, rfl⟩))
    (fun os started H enc _ => lifted os started H enc)
#print axioms proved
end MatrixParts
end Go.Proofs.Ytgdngopemlajjaa
