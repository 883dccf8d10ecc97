/- For every matrix and lists of persons and items the law MatrixSelects returns true; no condition. -/
import Derived.Test.YtgdngopemlajjaaMtJ
import Derived.Test.YtgdngopemlajjaaOpenL
import Derived.Test.YtgdngopemlajjaaRows
import Derived.Test.YtgdngopemlajjaaMtS
import Derived.Test.YtgdngopemlajjaaOpenW
import Derived.Deep.DeepCutAuto
namespace Go.Proofs.Ytgdngopemlajjaa
open Go.RowKit Go.ChangeShapes Go.WideShapes Go.ChangeAt Go.Joins
set_option linter.unusedVariables false

set_option maxRecDepth 100000 in
set_option maxHeartbeats 16000000 in
theorem selects_all (pv iv cv xv yv : Value) (ps is : List Int) (cs : List (List Int)) (P I : List Int) (w : World) (hM : Mat w pv iv cv ps is cs) (hx : Nums .i64 w xv P) (hy : Nums .i64 w yv I)
    (wps : I64 ps) (wis : I64 is) (wP : I64 P) (wI : I64 I) (l1 : ps.length * 8 ≤ 140737488351232) (l2 : is.length * 8 ≤ 140737488351232) (l3 : cs.length * 24 ≤ 140737488351232) (l4 : P.length * 8 ≤ 140737488351232) (l5 : I.length * 8 ≤ 140737488351232) :
    Calls Try.prog 7 #[.agg #[pv, iv, cv], xv, yv] w fun e w' => e = .returned (.bool true) ∧ Below w.heap.size w w' := by
  obtain ⟨hp, hi, hc⟩ := hM
  have hM0 : Mat w _ _ _ ps is cs := ⟨hp, hi, hc⟩
  have hx0 := hx
  have hy0 := hy
  obtain ⟨X, cX, rfl, x1, x2, x3⟩ := hp
  obtain ⟨Y, cY, rfl, y1, y2, y3⟩ := hi
  obtain ⟨Z, cZ, us, rfl, z1, z2, hs, hu⟩ := hc
  obtain ⟨XP, cP, rfl, p1, p2, p3⟩ := hx
  obtain ⟨XI, cI, rfl, q1, q2, q3⟩ := hy
  unfold maxLen at q2
  clear hu hs x3 y3 p3
  have hra := Row.new w 25 [.slice X ps.length cX, .slice Y is.length cY, .slice Z cs.length cZ]
  have BB := lit_below w (.cells #[.slice X ps.length cX, .slice Y is.length cY, .slice Z cs.length cZ] 25)
  have hA := hM0.below BB
  have hP := hx0.below BB
  have hQ := hy0.below BB
  clear hM0 hx0 hy0
  go_enter Try.func7, Try.ntmps7
  go_wp2_with fail
  generalize hW : w.alloc (.cells #[.slice X ps.length cX, .slice Y is.length cY, .slice Z cs.length cZ] 25) = w0 at *
  clear hW
  refine (select_any _ _ _ _ _ ps is cs ps is _ hA hA.1 hA.2.1 wps wis wps wis l1 l2 l3 l1 l2).mono ?_
  rintro e w1 ⟨xp, xi, xc, rfl, hX, hb⟩
  replace hra := hra.keep hb
  replace hA := hA.below hb
  replace hP := hP.below hb
  replace hQ := hQ.below hb
  replace BB : Below w.heap.size w w1 := BB.trans (hb.mono BB.size)
  clear hb
  have HS1 := Lib.hid (selE_self_iff (ps := ps) (is := is) (cs := cs))
  have HS2 := Lib.hid (fun h => selC_self (ps := ps) (is := is) (cs := cs) h)
  generalize hE1 : selE ps is cs ps is = E1 at *
  clear hE1
  have hX0 := hX
  obtain ⟨⟨UA, xac, rfl, _, _, _⟩, ⟨UB, xbc, rfl, _, _, _⟩, ⟨UC, xcc, _, rfl, _, _, _, _⟩⟩ := hX
  obtain ⟨gx, hgx⟩ : ∃ g, w1.heap.size = g := ⟨_, rfl⟩
  have hrgx : Row (w1.alloc (.cells #[.slice UA (onZ E1 ps).length xac, .slice UB (onZ E1 is).length xbc, .slice UC (onZ E1 (selC ps is cs ps is)).length xcc] 25)) gx 25 [.slice UA (onZ E1 ps).length xac, .slice UB (onZ E1 is).length xbc, .slice UC (onZ E1 (selC ps is cs ps is)).length xcc] := row_at hgx
  have hl := lit_below w1 (.cells #[.slice UA (onZ E1 ps).length xac, .slice UB (onZ E1 is).length xbc, .slice UC (onZ E1 (selC ps is cs ps is)).length xcc] 25)
  have a0 : w1.cell? ⟨w.heap.size, 0, none⟩ = some (.slice X ps.length cX) := hra.cell 0
  have a1 : w1.cell? ⟨w.heap.size, 1, none⟩ = some (.slice Y is.length cY) := hra.cell 1
  have a2 : w1.cell? ⟨w.heap.size, 2, none⟩ = some (.slice Z cs.length cZ) := hra.cell 2
  go_upto_region 2 with fail
  clear a0 a1 a2
  clear hgx
  generalize (w1.alloc (.cells #[.slice UA (onZ E1 ps).length xac, .slice UB (onZ E1 is).length xbc, .slice UC (onZ E1 (selC ps is cs ps is)).length xcc] 25)) = w2 at *
  replace hra := hra.keep hl
  replace hA := hA.below hl
  replace hP := hP.below hl
  replace hQ := hQ.below hl
  replace hX0 := hX0.below hl
  replace BB : Below w.heap.size w w2 := BB.trans (hl.mono BB.size)
  clear hl
  go_cut [44] (fun s44 wx => s44 = .bool false ∧ Below w2.heap.size w2 wx)
  case first =>
    have a0 : w2.cell? ⟨w.heap.size, 0, none⟩ = some (.slice X ps.length cX) := hra.cell 0
    have a1 : w2.cell? ⟨w.heap.size, 1, none⟩ = some (.slice Y is.length cY) := hra.cell 1
    have a2 : w2.cell? ⟨w.heap.size, 2, none⟩ = some (.slice Z cs.length cZ) := hra.cell 2
    have x0 : w2.cell? ⟨gx, 0, none⟩ = some (.slice UA (onZ E1 ps).length xac) := hrgx.cell 0
    have x1 : w2.cell? ⟨gx, 1, none⟩ = some (.slice UB (onZ E1 is).length xbc) := hrgx.cell 1
    have x2 : w2.cell? ⟨gx, 2, none⟩ = some (.slice UC (onZ E1 (selC ps is cs ps is)).length xcc) := hrgx.cell 2
    go_wp2_with fail
    clear a0 a1 a2 x0 x1 x2
    refine (fits_any _ _ _ ps is cs _ hA).mono ?_
    rintro e wf ⟨rfl, hbf⟩
    by_cases e0 : E1 = 0
    · have f1 := HS1.out.1 e0
      have HF := Lib.hid f1
      have hc1 : (E1 == 0) = true := by rw [beq_iff_eq]; exact e0
      rw [HF.out]
      have hX1 := hX0.below hbf
      have HL := Lib.hid (HS2.out f1)
      rw [onZ_zero e0, onZ_zero e0, onZ_zero e0, HL.out] at hX1
      have hA1 := hA.below hbf
      have hrx1 := hrgx.keep hbf
      have hra1 := hra.keep hbf
      rw [onZ_zero e0, onZ_zero e0, onZ_zero e0, HL.out] at hrx1
      have q0 : wf.cell? ⟨gx, 0, none⟩ = some (.slice UA ps.length xac) := hrx1.cell 0
      have q1 : wf.cell? ⟨gx, 1, none⟩ = some (.slice UB is.length xbc) := hrx1.cell 1
      have q2 : wf.cell? ⟨gx, 2, none⟩ = some (.slice UC cs.length xcc) := hrx1.cell 2
      have q3 : wf.cell? ⟨w.heap.size, 0, none⟩ = some (.slice X ps.length cX) := hra1.cell 0
      have q4 : wf.cell? ⟨w.heap.size, 1, none⟩ = some (.slice Y is.length cY) := hra1.cell 1
      have q5 : wf.cell? ⟨w.heap.size, 2, none⟩ = some (.slice Z cs.length cZ) := hra1.cell 2
      clear e0 f1
      go_wp2_with fail
      refine (same_any _ _ _ _ _ _ ps is cs ps is cs _ hX1 hA1).mono ?_
      rw [sameB_refl]
      rintro e wg ⟨rfl, hbg⟩
      go_wp2_with fail
      go_meet
      exact ⟨rfl, hbf.trans (hbg.mono hbf.size)⟩
    · have hc1 : (E1 == 0) = false := by rw [beq_eq_false_iff_ne]; exact e0
      have HF : Hid (fitB ps is cs = false) := by unfold Hid; cases h : fitB ps is cs; rfl; exact absurd (HS1.out.2 h) e0
      rw [HF.out]
      clear e0
      go_wp2_with fail
      go_meet
      exact ⟨rfl, hbf⟩
  case rest =>
    obtain ⟨rfl, hb⟩ := hcut
    clear HS1 HS2
    replace hra := hra.keep hb
    replace hA := hA.below hb
    replace hP := hP.below hb
    replace hQ := hQ.below hb
    replace hX0 := hX0.below hb
    replace hrgx := hrgx.keep hb
    replace BB : Below w.heap.size w wc := BB.trans (hb.mono BB.size)
    clear hb
    have a0 : wc.cell? ⟨w.heap.size, 0, none⟩ = some (.slice X ps.length cX) := hra.cell 0
    have a1 : wc.cell? ⟨w.heap.size, 1, none⟩ = some (.slice Y is.length cY) := hra.cell 1
    have a2 : wc.cell? ⟨w.heap.size, 2, none⟩ = some (.slice Z cs.length cZ) := hra.cell 2
    have x0 : wc.cell? ⟨gx, 0, none⟩ = some (.slice UA (onZ E1 ps).length xac) := hrgx.cell 0
    have x1 : wc.cell? ⟨gx, 1, none⟩ = some (.slice UB (onZ E1 is).length xbc) := hrgx.cell 1
    have x2 : wc.cell? ⟨gx, 2, none⟩ = some (.slice UC (onZ E1 (selC ps is cs ps is)).length xcc) := hrgx.cell 2
    go_wp2_with fail
    clear a0 a1 a2 x0 x1 x2
    refine (select_any _ _ _ _ _ ps is cs P I _ hA hP hQ wps wis wP wI l1 l2 l3 l4 l5).mono ?_
    rintro e w3 ⟨yp, yi, yc, rfl, hY, hb⟩
    replace hra := hra.keep hb
    replace hA := hA.below hb
    replace hP := hP.below hb
    replace hQ := hQ.below hb
    replace hX0 := hX0.below hb
    replace hrgx := hrgx.keep hb
    replace BB : Below w.heap.size w w3 := BB.trans (hb.mono BB.size)
    clear hb
    by_cases e2 : selE ps is cs P I = 0
    case neg =>
      rw [onZ_bad e2, onZ_bad e2, onZ_bad e2] at hY
      have nz : (selE ps is cs P I != 0) = true := by rw [bne_iff_ne]; exact e2
      clear e2
      generalize selE ps is cs P I = E2 at *
      have hY0 := hY
      obtain ⟨⟨VA, yac, rfl, _, _, _⟩, ⟨VB, ybc, rfl, _, _, _⟩, ⟨VC, ycc, _, rfl, _, _, _, _⟩⟩ := hY
      simp only [List.length_nil] at hY0 ⊢
      obtain ⟨gy, hgy⟩ : ∃ g, w3.heap.size = g := ⟨_, rfl⟩
      have hrgy : Row (w3.alloc (.cells #[.slice VA 0 yac, .slice VB 0 ybc, .slice VC 0 ycc] 25)) gy 25 [.slice VA 0 yac, .slice VB 0 ybc, .slice VC 0 ycc] := row_at hgy
      have hl := lit_below w3 (.cells #[.slice VA 0 yac, .slice VB 0 ybc, .slice VC 0 ycc] 25)
      have a0 : w3.cell? ⟨w.heap.size, 0, none⟩ = some (.slice X ps.length cX) := hra.cell 0
      have a1 : w3.cell? ⟨w.heap.size, 1, none⟩ = some (.slice Y is.length cY) := hra.cell 1
      have a2 : w3.cell? ⟨w.heap.size, 2, none⟩ = some (.slice Z cs.length cZ) := hra.cell 2
      have x0 : w3.cell? ⟨gx, 0, none⟩ = some (.slice UA (onZ E1 ps).length xac) := hrgx.cell 0
      have x1 : w3.cell? ⟨gx, 1, none⟩ = some (.slice UB (onZ E1 is).length xbc) := hrgx.cell 1
      have x2 : w3.cell? ⟨gx, 2, none⟩ = some (.slice UC (onZ E1 (selC ps is cs ps is)).length xcc) := hrgx.cell 2
      have la0 : (w3.alloc (.cells #[.slice VA 0 yac, .slice VB 0 ybc, .slice VC 0 ycc] 25)).cell? ⟨w.heap.size, 0, none⟩ = some (.slice X ps.length cX) := (hra.alloc _).cell 0
      have la1 : (w3.alloc (.cells #[.slice VA 0 yac, .slice VB 0 ybc, .slice VC 0 ycc] 25)).cell? ⟨w.heap.size, 1, none⟩ = some (.slice Y is.length cY) := (hra.alloc _).cell 1
      have la2 : (w3.alloc (.cells #[.slice VA 0 yac, .slice VB 0 ybc, .slice VC 0 ycc] 25)).cell? ⟨w.heap.size, 2, none⟩ = some (.slice Z cs.length cZ) := (hra.alloc _).cell 2
      have lx0 : (w3.alloc (.cells #[.slice VA 0 yac, .slice VB 0 ybc, .slice VC 0 ycc] 25)).cell? ⟨gx, 0, none⟩ = some (.slice UA (onZ E1 ps).length xac) := (hrgx.alloc _).cell 0
      have lx1 : (w3.alloc (.cells #[.slice VA 0 yac, .slice VB 0 ybc, .slice VC 0 ycc] 25)).cell? ⟨gx, 1, none⟩ = some (.slice UB (onZ E1 is).length xbc) := (hrgx.alloc _).cell 1
      have lx2 : (w3.alloc (.cells #[.slice VA 0 yac, .slice VB 0 ybc, .slice VC 0 ycc] 25)).cell? ⟨gx, 2, none⟩ = some (.slice UC (onZ E1 (selC ps is cs ps is)).length xcc) := (hrgx.alloc _).cell 2
      go_wp2_with fail
      clear a0 a1 a2 x0 x1 x2
      clear la0 la1 la2 lx0 lx1 lx2
      clear hgy
      generalize (w3.alloc (.cells #[.slice VA 0 yac, .slice VB 0 ybc, .slice VC 0 ycc] 25)) = w4 at *
      replace hra := hra.keep hl
      replace hA := hA.below hl
      replace hP := hP.below hl
      replace hQ := hQ.below hl
      replace hX0 := hX0.below hl
      replace hrgx := hrgx.keep hl
      replace hY0 := hY0.below hl
      replace BB : Below w.heap.size w w4 := BB.trans (hl.mono BB.size)
      clear hl
      refine (same_any _ _ _ _ _ _ [] [] [] [] [] [] _ hY0 (mat_nil _)).mono ?_
      rw [sameB_refl]
      rintro e w5 ⟨rfl, hb⟩
      replace hra := hra.keep hb
      replace hA := hA.below hb
      replace hP := hP.below hb
      replace hQ := hQ.below hb
      replace hX0 := hX0.below hb
      replace hrgx := hrgx.keep hb
      replace hY0 := hY0.below hb
      replace hrgy := hrgy.keep hb
      replace BB : Below w.heap.size w w5 := BB.trans (hb.mono BB.size)
      clear hb
      have a0 : w5.cell? ⟨w.heap.size, 0, none⟩ = some (.slice X ps.length cX) := hra.cell 0
      have a1 : w5.cell? ⟨w.heap.size, 1, none⟩ = some (.slice Y is.length cY) := hra.cell 1
      have a2 : w5.cell? ⟨w.heap.size, 2, none⟩ = some (.slice Z cs.length cZ) := hra.cell 2
      have x0 : w5.cell? ⟨gx, 0, none⟩ = some (.slice UA (onZ E1 ps).length xac) := hrgx.cell 0
      have x1 : w5.cell? ⟨gx, 1, none⟩ = some (.slice UB (onZ E1 is).length xbc) := hrgx.cell 1
      have x2 : w5.cell? ⟨gx, 2, none⟩ = some (.slice UC (onZ E1 (selC ps is cs ps is)).length xcc) := hrgx.cell 2
      have y0 : w5.cell? ⟨gy, 0, none⟩ = some (.slice VA 0 yac) := hrgy.cell 0
      have y1 : w5.cell? ⟨gy, 1, none⟩ = some (.slice VB 0 ybc) := hrgy.cell 1
      have y2 : w5.cell? ⟨gy, 2, none⟩ = some (.slice VC 0 ycc) := hrgy.cell 2
      go_wp2_with fail
      clear a0 a1 a2 x0 x1 x2 y0 y1 y2
      refine (awake_any _).mono ?_
      rintro e w99 ⟨rfl, hb⟩
      go_wp2_with fail
      go_ret
      exact ⟨rfl, BB.trans (hb.mono BB.size)⟩
    case pos =>
      have HFT := Lib.hid (sel_fit e2)
      obtain ⟨k1, k2, k3, k4, k5⟩ := selE_zero e2
      have hpl : P.length ≤ ps.length := ris_len k2 (inAll_mem k3)
      have hcl : cs.length = ps.length := (shp_at k1).1
      have HCl : (selC ps is cs P I).length * 24 ≤ 140737488351232 := by rw [selC_len]; omega
      have HC8 : (selC ps is cs P I).length * 8 ≤ 140737488351232 := by omega
      have HLC := Lib.hid (selC_len (ps := ps) (is := is) (cs := cs) (P := P) (I := I))
      clear k1 k2 k3 k4 k5 hpl hcl
      rw [e2, onZ_zero rfl, onZ_zero rfl, onZ_zero rfl] at hY
      rw [e2]
      clear e2
      generalize selC ps is cs P I = C at *
      have hY0 := hY
      obtain ⟨⟨VA, yac, rfl, _, _, _⟩, ⟨VB, ybc, rfl, _, _, _⟩, ⟨VC, ycc, _, rfl, _, _, _, _⟩⟩ := hY
      obtain ⟨gy, hgy⟩ : ∃ g, w3.heap.size = g := ⟨_, rfl⟩
      have hrgy : Row (w3.alloc (.cells #[.slice VA P.length yac, .slice VB I.length ybc, .slice VC C.length ycc] 25)) gy 25 [.slice VA P.length yac, .slice VB I.length ybc, .slice VC C.length ycc] := row_at hgy
      have hl := lit_below w3 (.cells #[.slice VA P.length yac, .slice VB I.length ybc, .slice VC C.length ycc] 25)
      have a0 : w3.cell? ⟨w.heap.size, 0, none⟩ = some (.slice X ps.length cX) := hra.cell 0
      have a1 : w3.cell? ⟨w.heap.size, 1, none⟩ = some (.slice Y is.length cY) := hra.cell 1
      have a2 : w3.cell? ⟨w.heap.size, 2, none⟩ = some (.slice Z cs.length cZ) := hra.cell 2
      have x0 : w3.cell? ⟨gx, 0, none⟩ = some (.slice UA (onZ E1 ps).length xac) := hrgx.cell 0
      have x1 : w3.cell? ⟨gx, 1, none⟩ = some (.slice UB (onZ E1 is).length xbc) := hrgx.cell 1
      have x2 : w3.cell? ⟨gx, 2, none⟩ = some (.slice UC (onZ E1 (selC ps is cs ps is)).length xcc) := hrgx.cell 2
      have la0 : (w3.alloc (.cells #[.slice VA P.length yac, .slice VB I.length ybc, .slice VC C.length ycc] 25)).cell? ⟨w.heap.size, 0, none⟩ = some (.slice X ps.length cX) := (hra.alloc _).cell 0
      have la1 : (w3.alloc (.cells #[.slice VA P.length yac, .slice VB I.length ybc, .slice VC C.length ycc] 25)).cell? ⟨w.heap.size, 1, none⟩ = some (.slice Y is.length cY) := (hra.alloc _).cell 1
      have la2 : (w3.alloc (.cells #[.slice VA P.length yac, .slice VB I.length ybc, .slice VC C.length ycc] 25)).cell? ⟨w.heap.size, 2, none⟩ = some (.slice Z cs.length cZ) := (hra.alloc _).cell 2
      have lx0 : (w3.alloc (.cells #[.slice VA P.length yac, .slice VB I.length ybc, .slice VC C.length ycc] 25)).cell? ⟨gx, 0, none⟩ = some (.slice UA (onZ E1 ps).length xac) := (hrgx.alloc _).cell 0
      have lx1 : (w3.alloc (.cells #[.slice VA P.length yac, .slice VB I.length ybc, .slice VC C.length ycc] 25)).cell? ⟨gx, 1, none⟩ = some (.slice UB (onZ E1 is).length xbc) := (hrgx.alloc _).cell 1
      have lx2 : (w3.alloc (.cells #[.slice VA P.length yac, .slice VB I.length ybc, .slice VC C.length ycc] 25)).cell? ⟨gx, 2, none⟩ = some (.slice UC (onZ E1 (selC ps is cs ps is)).length xcc) := (hrgx.alloc _).cell 2
      go_wp2_with fail
      clear a0 a1 a2 x0 x1 x2
      clear la0 la1 la2 lx0 lx1 lx2
      clear hgy
      generalize (w3.alloc (.cells #[.slice VA P.length yac, .slice VB I.length ybc, .slice VC C.length ycc] 25)) = w4 at *
      replace hra := hra.keep hl
      replace hA := hA.below hl
      replace hP := hP.below hl
      replace hQ := hQ.below hl
      replace hX0 := hX0.below hl
      replace hrgx := hrgx.keep hl
      replace hY0 := hY0.below hl
      replace BB : Below w.heap.size w w4 := BB.trans (hl.mono BB.size)
      clear hl
      refine (select_any _ _ _ _ _ P I C P I _ hY0 hP hQ wP wI wP wI l4 l5 HCl l4 l5).mono ?_
      rintro e w5 ⟨zp, zi, zc, rfl, hZ, hb⟩
      replace hra := hra.keep hb
      replace hA := hA.below hb
      replace hP := hP.below hb
      replace hQ := hQ.below hb
      replace hX0 := hX0.below hb
      replace hrgx := hrgx.keep hb
      replace hY0 := hY0.below hb
      replace hrgy := hrgy.keep hb
      replace BB : Below w.heap.size w w5 := BB.trans (hb.mono BB.size)
      clear hb
      rw [selE_self_iff.2 HFT.out, onZ_zero rfl, onZ_zero rfl, onZ_zero rfl, selC_self HFT.out] at hZ
      rw [selE_self_iff.2 HFT.out]
      have hZ0 := hZ
      obtain ⟨⟨SA, zac, rfl, _, _, _⟩, ⟨SB, zbc, rfl, _, _, _⟩, ⟨SC, zcc, _, rfl, _, _, _, _⟩⟩ := hZ
      obtain ⟨gz, hgz⟩ : ∃ g, w5.heap.size = g := ⟨_, rfl⟩
      have hrgz : Row (w5.alloc (.cells #[.slice SA P.length zac, .slice SB I.length zbc, .slice SC C.length zcc] 25)) gz 25 [.slice SA P.length zac, .slice SB I.length zbc, .slice SC C.length zcc] := row_at hgz
      have hl := lit_below w5 (.cells #[.slice SA P.length zac, .slice SB I.length zbc, .slice SC C.length zcc] 25)
      have a0 : w5.cell? ⟨w.heap.size, 0, none⟩ = some (.slice X ps.length cX) := hra.cell 0
      have a1 : w5.cell? ⟨w.heap.size, 1, none⟩ = some (.slice Y is.length cY) := hra.cell 1
      have a2 : w5.cell? ⟨w.heap.size, 2, none⟩ = some (.slice Z cs.length cZ) := hra.cell 2
      have x0 : w5.cell? ⟨gx, 0, none⟩ = some (.slice UA (onZ E1 ps).length xac) := hrgx.cell 0
      have x1 : w5.cell? ⟨gx, 1, none⟩ = some (.slice UB (onZ E1 is).length xbc) := hrgx.cell 1
      have x2 : w5.cell? ⟨gx, 2, none⟩ = some (.slice UC (onZ E1 (selC ps is cs ps is)).length xcc) := hrgx.cell 2
      have y0 : w5.cell? ⟨gy, 0, none⟩ = some (.slice VA P.length yac) := hrgy.cell 0
      have y1 : w5.cell? ⟨gy, 1, none⟩ = some (.slice VB I.length ybc) := hrgy.cell 1
      have y2 : w5.cell? ⟨gy, 2, none⟩ = some (.slice VC C.length ycc) := hrgy.cell 2
      have la0 : (w5.alloc (.cells #[.slice SA P.length zac, .slice SB I.length zbc, .slice SC C.length zcc] 25)).cell? ⟨w.heap.size, 0, none⟩ = some (.slice X ps.length cX) := (hra.alloc _).cell 0
      have la1 : (w5.alloc (.cells #[.slice SA P.length zac, .slice SB I.length zbc, .slice SC C.length zcc] 25)).cell? ⟨w.heap.size, 1, none⟩ = some (.slice Y is.length cY) := (hra.alloc _).cell 1
      have la2 : (w5.alloc (.cells #[.slice SA P.length zac, .slice SB I.length zbc, .slice SC C.length zcc] 25)).cell? ⟨w.heap.size, 2, none⟩ = some (.slice Z cs.length cZ) := (hra.alloc _).cell 2
      have lx0 : (w5.alloc (.cells #[.slice SA P.length zac, .slice SB I.length zbc, .slice SC C.length zcc] 25)).cell? ⟨gx, 0, none⟩ = some (.slice UA (onZ E1 ps).length xac) := (hrgx.alloc _).cell 0
      have lx1 : (w5.alloc (.cells #[.slice SA P.length zac, .slice SB I.length zbc, .slice SC C.length zcc] 25)).cell? ⟨gx, 1, none⟩ = some (.slice UB (onZ E1 is).length xbc) := (hrgx.alloc _).cell 1
      have lx2 : (w5.alloc (.cells #[.slice SA P.length zac, .slice SB I.length zbc, .slice SC C.length zcc] 25)).cell? ⟨gx, 2, none⟩ = some (.slice UC (onZ E1 (selC ps is cs ps is)).length xcc) := (hrgx.alloc _).cell 2
      have ly0 : (w5.alloc (.cells #[.slice SA P.length zac, .slice SB I.length zbc, .slice SC C.length zcc] 25)).cell? ⟨gy, 0, none⟩ = some (.slice VA P.length yac) := (hrgy.alloc _).cell 0
      have ly1 : (w5.alloc (.cells #[.slice SA P.length zac, .slice SB I.length zbc, .slice SC C.length zcc] 25)).cell? ⟨gy, 1, none⟩ = some (.slice VB I.length ybc) := (hrgy.alloc _).cell 1
      have ly2 : (w5.alloc (.cells #[.slice SA P.length zac, .slice SB I.length zbc, .slice SC C.length zcc] 25)).cell? ⟨gy, 2, none⟩ = some (.slice VC C.length ycc) := (hrgy.alloc _).cell 2
      go_wp2_with fail
      clear a0 a1 a2 x0 x1 x2 y0 y1 y2
      clear la0 la1 la2 lx0 lx1 lx2 ly0 ly1 ly2
      clear hgz
      generalize (w5.alloc (.cells #[.slice SA P.length zac, .slice SB I.length zbc, .slice SC C.length zcc] 25)) = w6 at *
      replace hra := hra.keep hl
      replace hA := hA.below hl
      replace hP := hP.below hl
      replace hQ := hQ.below hl
      replace hX0 := hX0.below hl
      replace hrgx := hrgx.keep hl
      replace hY0 := hY0.below hl
      replace hrgy := hrgy.keep hl
      replace hZ0 := hZ0.below hl
      replace BB : Below w.heap.size w w6 := BB.trans (hl.mono BB.size)
      clear hl
      refine (same_any _ _ _ _ _ _ P I C P I C _ hY0 hZ0).mono ?_
      rw [sameB_refl]
      rintro e w7 ⟨rfl, hb⟩
      replace hra := hra.keep hb
      replace hA := hA.below hb
      replace hP := hP.below hb
      replace hQ := hQ.below hb
      replace hX0 := hX0.below hb
      replace hrgx := hrgx.keep hb
      replace hY0 := hY0.below hb
      replace hrgy := hrgy.keep hb
      replace hZ0 := hZ0.below hb
      replace hrgz := hrgz.keep hb
      replace BB : Below w.heap.size w w7 := BB.trans (hb.mono BB.size)
      clear hb
      have a0 : w7.cell? ⟨w.heap.size, 0, none⟩ = some (.slice X ps.length cX) := hra.cell 0
      have a1 : w7.cell? ⟨w.heap.size, 1, none⟩ = some (.slice Y is.length cY) := hra.cell 1
      have a2 : w7.cell? ⟨w.heap.size, 2, none⟩ = some (.slice Z cs.length cZ) := hra.cell 2
      have x0 : w7.cell? ⟨gx, 0, none⟩ = some (.slice UA (onZ E1 ps).length xac) := hrgx.cell 0
      have x1 : w7.cell? ⟨gx, 1, none⟩ = some (.slice UB (onZ E1 is).length xbc) := hrgx.cell 1
      have x2 : w7.cell? ⟨gx, 2, none⟩ = some (.slice UC (onZ E1 (selC ps is cs ps is)).length xcc) := hrgx.cell 2
      have y0 : w7.cell? ⟨gy, 0, none⟩ = some (.slice VA P.length yac) := hrgy.cell 0
      have y1 : w7.cell? ⟨gy, 1, none⟩ = some (.slice VB I.length ybc) := hrgy.cell 1
      have y2 : w7.cell? ⟨gy, 2, none⟩ = some (.slice VC C.length ycc) := hrgy.cell 2
      have z0 : w7.cell? ⟨gz, 0, none⟩ = some (.slice SA P.length zac) := hrgz.cell 0
      have z1 : w7.cell? ⟨gz, 1, none⟩ = some (.slice SB I.length zbc) := hrgz.cell 1
      have z2 : w7.cell? ⟨gz, 2, none⟩ = some (.slice SC C.length zcc) := hrgz.cell 2
      go_wp2_with fail
      clear a0 a1 a2 x0 x1 x2 y0 y1 y2 z0 z1 z2
      refine (equal_yes _ _ P _ hY0.1 hP).mono ?_
      rintro e w8 ⟨rfl, hb⟩
      replace hra := hra.keep hb
      replace hA := hA.below hb
      replace hP := hP.below hb
      replace hQ := hQ.below hb
      replace hX0 := hX0.below hb
      replace hrgx := hrgx.keep hb
      replace hY0 := hY0.below hb
      replace hrgy := hrgy.keep hb
      replace hZ0 := hZ0.below hb
      replace hrgz := hrgz.keep hb
      replace BB : Below w.heap.size w w8 := BB.trans (hb.mono BB.size)
      clear hb
      have a0 : w8.cell? ⟨w.heap.size, 0, none⟩ = some (.slice X ps.length cX) := hra.cell 0
      have a1 : w8.cell? ⟨w.heap.size, 1, none⟩ = some (.slice Y is.length cY) := hra.cell 1
      have a2 : w8.cell? ⟨w.heap.size, 2, none⟩ = some (.slice Z cs.length cZ) := hra.cell 2
      have x0 : w8.cell? ⟨gx, 0, none⟩ = some (.slice UA (onZ E1 ps).length xac) := hrgx.cell 0
      have x1 : w8.cell? ⟨gx, 1, none⟩ = some (.slice UB (onZ E1 is).length xbc) := hrgx.cell 1
      have x2 : w8.cell? ⟨gx, 2, none⟩ = some (.slice UC (onZ E1 (selC ps is cs ps is)).length xcc) := hrgx.cell 2
      have y0 : w8.cell? ⟨gy, 0, none⟩ = some (.slice VA P.length yac) := hrgy.cell 0
      have y1 : w8.cell? ⟨gy, 1, none⟩ = some (.slice VB I.length ybc) := hrgy.cell 1
      have y2 : w8.cell? ⟨gy, 2, none⟩ = some (.slice VC C.length ycc) := hrgy.cell 2
      have z0 : w8.cell? ⟨gz, 0, none⟩ = some (.slice SA P.length zac) := hrgz.cell 0
      have z1 : w8.cell? ⟨gz, 1, none⟩ = some (.slice SB I.length zbc) := hrgz.cell 1
      have z2 : w8.cell? ⟨gz, 2, none⟩ = some (.slice SC C.length zcc) := hrgz.cell 2
      go_wp2_with fail
      clear a0 a1 a2 x0 x1 x2 y0 y1 y2 z0 z1 z2
      refine (equal_yes _ _ I _ hY0.2.1 hQ).mono ?_
      rintro e w9 ⟨rfl, hb⟩
      replace hra := hra.keep hb
      replace hA := hA.below hb
      replace hP := hP.below hb
      replace hQ := hQ.below hb
      replace hX0 := hX0.below hb
      replace hrgx := hrgx.keep hb
      replace hY0 := hY0.below hb
      replace hrgy := hrgy.keep hb
      replace hZ0 := hZ0.below hb
      replace hrgz := hrgz.keep hb
      replace BB : Below w.heap.size w w9 := BB.trans (hb.mono BB.size)
      clear hb
      have a0 : w9.cell? ⟨w.heap.size, 0, none⟩ = some (.slice X ps.length cX) := hra.cell 0
      have a1 : w9.cell? ⟨w.heap.size, 1, none⟩ = some (.slice Y is.length cY) := hra.cell 1
      have a2 : w9.cell? ⟨w.heap.size, 2, none⟩ = some (.slice Z cs.length cZ) := hra.cell 2
      have x0 : w9.cell? ⟨gx, 0, none⟩ = some (.slice UA (onZ E1 ps).length xac) := hrgx.cell 0
      have x1 : w9.cell? ⟨gx, 1, none⟩ = some (.slice UB (onZ E1 is).length xbc) := hrgx.cell 1
      have x2 : w9.cell? ⟨gx, 2, none⟩ = some (.slice UC (onZ E1 (selC ps is cs ps is)).length xcc) := hrgx.cell 2
      have y0 : w9.cell? ⟨gy, 0, none⟩ = some (.slice VA P.length yac) := hrgy.cell 0
      have y1 : w9.cell? ⟨gy, 1, none⟩ = some (.slice VB I.length ybc) := hrgy.cell 1
      have y2 : w9.cell? ⟨gy, 2, none⟩ = some (.slice VC C.length ycc) := hrgy.cell 2
      have z0 : w9.cell? ⟨gz, 0, none⟩ = some (.slice SA P.length zac) := hrgz.cell 0
      have z1 : w9.cell? ⟨gz, 1, none⟩ = some (.slice SB I.length zbc) := hrgz.cell 1
      have z2 : w9.cell? ⟨gz, 2, none⟩ = some (.slice SC C.length zcc) := hrgz.cell 2
      go_wp2_with fail
      clear a0 a1 a2 x0 x1 x2 y0 y1 y2 z0 z1 z2
      obtain ⟨ni, hni⟩ : ∃ n, I.length = n := ⟨_, rfl⟩
      have HNI := Lib.hid hni
      rw [hni] at q1 q3 l5 hQ hrgy hrgz hY0 ⊢
      clear hni
      go_loopw [91] (fun i wr => ∃ k : Nat, k ≤ ni ∧ i = .int .i64 (k : Int) ∧ Below w9.heap.size w9 wr) (fun i _ => ni - (intOf i).toNat)
      case atStart => exact ⟨0, by omega, rfl, Below.refl _ _⟩
      case round =>
        obtain ⟨k, hk, rfl, hb⟩ := hrel
        have HBX := hb
        clear hrgx hX0 hZ0 hrgz hA
        replace hra := hra.keep hb
        replace hY0 := hY0.below hb
        replace hP := hP.below hb
        replace hQ := hQ.below hb
        replace hrgy := hrgy.keep hb
        replace BB : Below w.heap.size w wr := BB.trans (hb.mono BB.size)
        clear hb
        by_cases hlt : k < ni
        case neg =>
          have a0 : wr.cell? ⟨w.heap.size, 0, none⟩ = some (.slice X ps.length cX) := hra.cell 0
          have a1 : wr.cell? ⟨w.heap.size, 1, none⟩ = some (.slice Y is.length cY) := hra.cell 1
          have a2 : wr.cell? ⟨w.heap.size, 2, none⟩ = some (.slice Z cs.length cZ) := hra.cell 2
          have y0 : wr.cell? ⟨gy, 0, none⟩ = some (.slice VA P.length yac) := hrgy.cell 0
          have y1 : wr.cell? ⟨gy, 1, none⟩ = some (.slice VB ni ybc) := hrgy.cell 1
          have y2 : wr.cell? ⟨gy, 2, none⟩ = some (.slice VC C.length ycc) := hrgy.cell 2
          go_wp2_with fail
          clear a0 a1 a2 y0 y1 y2
          refine (awake_any _).mono ?_
          rintro e w99 ⟨rfl, hb⟩
          go_wp2_with fail
          go_ret
          exact ⟨rfl, BB.trans (hb.mono BB.size)⟩
        case pos =>
          obtain ⟨b3, o3, rfl, hb3, hc3⟩ := q3.num hlt
          have g3 : wr.cell? ⟨b3, o3 + k, none⟩ = some (.int .i64 (I.getD k 0)) := (BB.cell (p := ⟨b3, o3 + k, none⟩) hb3).trans (hc3 k hlt)
          have hki : Hid (k < I.length) := by unfold Hid; rw [HNI.out]; exact hlt
          clear hc3
          have wN := wI.get hki.out
          have HCO := Lib.hid (fit_col HFT.out hki.out)
          have HOE := Lib.hid (one_E HFT.out hki.out)
          have HOC := Lib.hid (one_C HFT.out hki.out)
          generalize I.getD k 0 = N at *
          have a0 : wr.cell? ⟨w.heap.size, 0, none⟩ = some (.slice X ps.length cX) := hra.cell 0
          have a1 : wr.cell? ⟨w.heap.size, 1, none⟩ = some (.slice Y is.length cY) := hra.cell 1
          have a2 : wr.cell? ⟨w.heap.size, 2, none⟩ = some (.slice Z cs.length cZ) := hra.cell 2
          have y0 : wr.cell? ⟨gy, 0, none⟩ = some (.slice VA P.length yac) := hrgy.cell 0
          have y1 : wr.cell? ⟨gy, 1, none⟩ = some (.slice VB ni ybc) := hrgy.cell 1
          have y2 : wr.cell? ⟨gy, 2, none⟩ = some (.slice VC C.length ycc) := hrgy.cell 2
          go_wp2_with fail
          clear a0 a1 a2 y0 y1 y2
          refine (column_any _ _ _ P I C (k : Int) _ hY0.1 hY0.2.1 hY0.2.2 HC8).mono ?_
          rintro e w10 ⟨col, rfl, hcol, hb⟩
          replace hra := hra.keep hb
          replace hY0 := hY0.below hb
          replace hP := hP.below hb
          replace hQ := hQ.below hb
          replace hrgy := hrgy.keep hb
          replace BB : Below w.heap.size w w10 := BB.trans (hb.mono BB.size)
          replace HBX : Below w9.heap.size w9 w10 := HBX.trans (hb.mono HBX.size)
          clear hb
          rw [HCO.out]
          rw [onB_true HCO.out] at hcol
          have HLN : Hid ((colL C (k : Int)).length = P.length) := by unfold Hid; rw [colL_len, HLC.out]
          have hcol0 := hcol
          obtain ⟨KA, kc, rfl, _, _, _⟩ := hcol
          rw [HLN.out] at hcol0 ⊢
          have hnn : ((P.length : Int) != (P.length : Int)) = false := by simp
          have a0 : w10.cell? ⟨w.heap.size, 0, none⟩ = some (.slice X ps.length cX) := hra.cell 0
          have a1 : w10.cell? ⟨w.heap.size, 1, none⟩ = some (.slice Y is.length cY) := hra.cell 1
          have a2 : w10.cell? ⟨w.heap.size, 2, none⟩ = some (.slice Z cs.length cZ) := hra.cell 2
          have y0 : w10.cell? ⟨gy, 0, none⟩ = some (.slice VA P.length yac) := hrgy.cell 0
          have y1 : w10.cell? ⟨gy, 1, none⟩ = some (.slice VB ni ybc) := hrgy.cell 1
          have y2 : w10.cell? ⟨gy, 2, none⟩ = some (.slice VC C.length ycc) := hrgy.cell 2
          go_wp2_with fail
          clear a0 a1 a2 y0 y1 y2
          have hl := lit_below w10 (.cells #[.int .i64 N] 3)
          have hn1 := lit_at (t := 3) [N] (w := w10) rfl rfl (by simp)
          refine (select_any _ _ _ _ _ P I C P [N] _ (hY0.below hl) (hP.below hl) hn1 wP wI wP (fun z hz => by simp only [List.mem_cons, List.not_mem_nil, or_false] at hz; rw [hz]; exact wN) l4 (by rw [HNI.out]; exact l5) HCl l4 (by simp)).mono ?_
          rintro e w11 ⟨op, oi, oc, rfl, hO, hb⟩
          replace hb : Below w10.heap.size w10 w11 := hl.trans (hb.mono hl.size)
          clear hl hn1
          replace hra := hra.keep hb
          replace hY0 := hY0.below hb
          replace hP := hP.below hb
          replace hQ := hQ.below hb
          replace hrgy := hrgy.keep hb
          replace hcol0 := hcol0.below hb
          replace BB : Below w.heap.size w w11 := BB.trans (hb.mono BB.size)
          replace HBX : Below w9.heap.size w9 w11 := HBX.trans (hb.mono HBX.size)
          clear hb
          rw [HOE.out, onZ_zero rfl, onZ_zero rfl, onZ_zero rfl] at hO
          rw [HOE.out]
          have HLO := Lib.hid (selC_len (ps := P) (is := I) (cs := C) (P := P) (I := [N]))
          have HOK := Lib.hid (one_ok (ps := P) (is := I) (cs := C) (P := P) (n := N))
          generalize selC P I C P [N] = D at *
          have hO0 := hO
          obtain ⟨⟨TA, oac, rfl, _, _, _⟩, ⟨TB, obc, rfl, _, _, _⟩, ⟨TC, occ, _, rfl, _, _, _, _⟩⟩ := hO
          obtain ⟨go1, hgo1⟩ : ∃ g, w11.heap.size = g := ⟨_, rfl⟩
          have hrgo1 : Row (w11.alloc (.cells #[.slice TA P.length oac, .slice TB 1 obc, .slice TC D.length occ] 25)) go1 25 [.slice TA P.length oac, .slice TB 1 obc, .slice TC D.length occ] := row_at hgo1
          have hl := lit_below w11 (.cells #[.slice TA P.length oac, .slice TB 1 obc, .slice TC D.length occ] 25)
          have a0 : w11.cell? ⟨w.heap.size, 0, none⟩ = some (.slice X ps.length cX) := hra.cell 0
          have a1 : w11.cell? ⟨w.heap.size, 1, none⟩ = some (.slice Y is.length cY) := hra.cell 1
          have a2 : w11.cell? ⟨w.heap.size, 2, none⟩ = some (.slice Z cs.length cZ) := hra.cell 2
          have y0 : w11.cell? ⟨gy, 0, none⟩ = some (.slice VA P.length yac) := hrgy.cell 0
          have y1 : w11.cell? ⟨gy, 1, none⟩ = some (.slice VB ni ybc) := hrgy.cell 1
          have y2 : w11.cell? ⟨gy, 2, none⟩ = some (.slice VC C.length ycc) := hrgy.cell 2
          have la0 : (w11.alloc (.cells #[.slice TA P.length oac, .slice TB 1 obc, .slice TC D.length occ] 25)).cell? ⟨w.heap.size, 0, none⟩ = some (.slice X ps.length cX) := (hra.alloc _).cell 0
          have la1 : (w11.alloc (.cells #[.slice TA P.length oac, .slice TB 1 obc, .slice TC D.length occ] 25)).cell? ⟨w.heap.size, 1, none⟩ = some (.slice Y is.length cY) := (hra.alloc _).cell 1
          have la2 : (w11.alloc (.cells #[.slice TA P.length oac, .slice TB 1 obc, .slice TC D.length occ] 25)).cell? ⟨w.heap.size, 2, none⟩ = some (.slice Z cs.length cZ) := (hra.alloc _).cell 2
          have ly0 : (w11.alloc (.cells #[.slice TA P.length oac, .slice TB 1 obc, .slice TC D.length occ] 25)).cell? ⟨gy, 0, none⟩ = some (.slice VA P.length yac) := (hrgy.alloc _).cell 0
          have ly1 : (w11.alloc (.cells #[.slice TA P.length oac, .slice TB 1 obc, .slice TC D.length occ] 25)).cell? ⟨gy, 1, none⟩ = some (.slice VB ni ybc) := (hrgy.alloc _).cell 1
          have ly2 : (w11.alloc (.cells #[.slice TA P.length oac, .slice TB 1 obc, .slice TC D.length occ] 25)).cell? ⟨gy, 2, none⟩ = some (.slice VC C.length ycc) := (hrgy.alloc _).cell 2
          go_wp2_with fail
          clear a0 a1 a2 y0 y1 y2
          clear la0 la1 la2 ly0 ly1 ly2
          clear hgo1
          generalize (w11.alloc (.cells #[.slice TA P.length oac, .slice TB 1 obc, .slice TC D.length occ] 25)) = w12 at *
          replace hra := hra.keep hl
          replace hY0 := hY0.below hl
          replace hP := hP.below hl
          replace hQ := hQ.below hl
          replace hrgy := hrgy.keep hl
          replace hcol0 := hcol0.below hl
          replace hO0 := hO0.below hl
          replace BB : Below w.heap.size w w12 := BB.trans (hl.mono BB.size)
          replace HBX : Below w9.heap.size w9 w12 := HBX.trans (hl.mono HBX.size)
          clear hl
          refine (column_any _ _ _ P [N] D 0 _ hO0.1 hO0.2.1 hO0.2.2 (by rw [HLO.out]; exact l4)).mono ?_
          rintro e w13 ⟨fst, rfl, hfst, hb⟩
          replace hra := hra.keep hb
          replace hY0 := hY0.below hb
          replace hP := hP.below hb
          replace hQ := hQ.below hb
          replace hrgy := hrgy.keep hb
          replace hcol0 := hcol0.below hb
          replace hO0 := hO0.below hb
          replace hrgo1 := hrgo1.keep hb
          replace BB : Below w.heap.size w w13 := BB.trans (hb.mono BB.size)
          replace HBX : Below w9.heap.size w9 w13 := HBX.trans (hb.mono HBX.size)
          clear hb
          rw [HOK.out]
          rw [onB_true HOK.out, HOC.out] at hfst
          have hfst0 := hfst
          obtain ⟨FA, fc, rfl, _, _, _⟩ := hfst
          have a0 : w13.cell? ⟨w.heap.size, 0, none⟩ = some (.slice X ps.length cX) := hra.cell 0
          have a1 : w13.cell? ⟨w.heap.size, 1, none⟩ = some (.slice Y is.length cY) := hra.cell 1
          have a2 : w13.cell? ⟨w.heap.size, 2, none⟩ = some (.slice Z cs.length cZ) := hra.cell 2
          have y0 : w13.cell? ⟨gy, 0, none⟩ = some (.slice VA P.length yac) := hrgy.cell 0
          have y1 : w13.cell? ⟨gy, 1, none⟩ = some (.slice VB ni ybc) := hrgy.cell 1
          have y2 : w13.cell? ⟨gy, 2, none⟩ = some (.slice VC C.length ycc) := hrgy.cell 2
          have o0 : w13.cell? ⟨go1, 0, none⟩ = some (.slice TA P.length oac) := hrgo1.cell 0
          have o1 : w13.cell? ⟨go1, 1, none⟩ = some (.slice TB 1 obc) := hrgo1.cell 1
          have o2 : w13.cell? ⟨go1, 2, none⟩ = some (.slice TC D.length occ) := hrgo1.cell 2
          go_wp2_with fail
          clear a0 a1 a2 y0 y1 y2 o0 o1 o2
          refine (equal_yes _ _ (colL C (k : Int)) _ hcol0 hfst0).mono ?_
          rintro e w14 ⟨rfl, hb⟩
          replace hra := hra.keep hb
          replace hY0 := hY0.below hb
          replace hP := hP.below hb
          replace hQ := hQ.below hb
          replace hrgy := hrgy.keep hb
          replace hcol0 := hcol0.below hb
          replace hO0 := hO0.below hb
          replace hrgo1 := hrgo1.keep hb
          replace hfst0 := hfst0.below hb
          replace BB : Below w.heap.size w w14 := BB.trans (hb.mono BB.size)
          replace HBX : Below w9.heap.size w9 w14 := HBX.trans (hb.mono HBX.size)
          clear hb
          go_wp2_with fail
          go_roundw
          case rel => exact ⟨k + 1, by omega, by go_num, HBX⟩
          case measure => simp [intOf]; omega
namespace MatrixSelects
theorem own : ownKnob Try.prog.godebug = none := by kernel_rfl
theorem laidOut : laidOutB Try.prog = true := by kernel_rfl
theorem readable : ∀ t ∈ Try.f7.params.toList, Try.prog.readableRec t = true ∧ t < Try.prog.types.size := by
  intro t ht
  rw [Try.params7] at ht
  have ht' : t = 22 ∨ t = 25 := by simp at ht; (try rcases ht with h | h | h); all_goals (subst_vars; simp)
  rcases ht' with rfl | rfl
  · exact ⟨by kernel_rfl, of_decide_eq_true (by kernel_rfl)⟩
  · exact ⟨by kernel_rfl, of_decide_eq_true (by kernel_rfl)⟩
theorem contract (H : Type) (enc : TypeId × Value → H) (W : World) (base : Nat) (args : Array Value) (ds gs : List (DataW H)) (before : List MemPlace)
    (hval : ∀ (j : Nat) t v, Try.f7.params[j]? = some t → args[j]? = some v → Value.okWide Try.prog W .any base t v)
    (hW : DataW.Whole enc Try.prog Try.f7.params.toList Rows.matrixSelectsSpec.vars false W args.toList ds gs before)
    (hsz : (DataW.weightsEach Try.prog (Try.f7.params.toList ++ Rows.matrixSelectsSpec.plain.varTypes Try.prog) (ds ++ gs)).all (· ≤ reachBytes) = true) :
    Calls Try.prog 7 args W fun e W' => ∃ v, e = .returned v ∧ Rows.matrixSelectsSpec.post enc Try.prog Try.f7 false true false false W args v W' := by
  have hW' := hW
  obtain ⟨p, q, hA0, hV, rfl, hfz, hnd⟩ := hW
  have hA : DataW.TrodAll enc Try.prog W 0 (fun _ => true) true Try.f7.params.toList args.toList ds p := hA0
  rw [Try.params7] at hA hval
  obtain ⟨v0, vs0, d0, ds0, p0, q0, hargs, rfl, rfl, h0, r0⟩ := trodAll_cons hA
  obtain ⟨v1, vs1, d1, ds1, p1, q1, rfl, rfl, rfl, h1, r1⟩ := trodAll_cons r0
  obtain ⟨v2, vs2, d2, ds2, p2, q2, rfl, rfl, rfl, h2, r2⟩ := trodAll_cons r1
  obtain ⟨rfl, rfl, rfl⟩ := trodAll_nil r2
  obtain rfl : args = #[v0, v1, v2] := by cases args; simp_all
  obtain ⟨rfl, rfl⟩ := trodVars_none hV
  rw [Try.params7] at hsz
  have szm := sizeAt hsz (j := 0) rfl rfl
  obtain ⟨mm0, mm1, mm2, zm0, zm1, zm2, nmm, rfl, rfl, rfl, hzm0, hzm1, hzm2⟩ := open_agg3 Try.underlying25 (by kernel_rfl) (show Try.prog.cellsOf 25 = 3 by kernel_rfl) (hval 0 25 v0 rfl rfl) h0
  obtain ⟨szm0, szm1, szm2⟩ := size_agg3 Try.underlying25 szm
  obtain ⟨psm, hpsm, wpsm, zpsm⟩ := open_numsS Try.underlying22 Try.underlying3 (by kernel_rfl) hzm0 szm0
  obtain ⟨ism, hism, wism, zism⟩ := open_numsS Try.underlying22 Try.underlying3 (by kernel_rfl) hzm1 szm1
  obtain ⟨csm, hcsm, zcsm⟩ := open_intsLS Try.underlying23 (by kernel_rfl) Try.underlying22 Try.underlying3 (by kernel_rfl) hzm2 szm2
  obtain ⟨AP, lP, cP, rfl⟩ := okWide_slice Try.underlying22 (hval 1 22 v1 rfl rfl)
  obtain ⟨fP, hfP⟩ := h1
  have sP := sizeAt hsz (j := 1) rfl rfl
  obtain ⟨P, hP, wP, zP⟩ := open_numsS Try.underlying22 Try.underlying3 (by kernel_rfl) (by simpa [Value.cells] using hfP) sP
  obtain ⟨AI, lI, cI, rfl⟩ := okWide_slice Try.underlying22 (hval 2 22 v2 rfl rfl)
  obtain ⟨fI, hfI⟩ := h2
  have sI := sizeAt hsz (j := 2) rfl rfl
  obtain ⟨I, hI, wI, zI⟩ := open_numsS Try.underlying22 Try.underlying3 (by kernel_rfl) (by simpa [Value.cells] using hfI) sI
  rw [bytesInt] at zpsm zism zP zI
  rw [bytesInts] at zcsm
  refine (selects_all _ _ _ _ _ psm ism csm P I W ⟨hpsm, hism, hcsm⟩ hP hI wpsm wism wP wI zpsm zism zcsm zP zI).mono fun e W' ⟨he, hb⟩ => ⟨_, he, ?_⟩
  exact law_post laidOut readable rfl rfl Try.underlying4 (ok_one (by kernel_rfl) rfl (okWide_bool_mk Try.underlying4 _)) ⟨rfl, rfl, rfl⟩ hW' hb
set_option maxRecDepth 100000 in
theorem lifted (os : Os) (started : os.Started) (H : Type) (enc : TypeId × Value → H) :
    ReturnsInHanded {} Try.checked os 7 .any (Rows.matrixSelectsSpec.pre6 enc Try.prog Try.f7 Rows.matrixSelectsRow.domain false) (Rows.matrixSelectsSpec.post enc Try.prog Try.f7 false true false false) := by
  refine returnsInHanded_of_change_sized (C := Try.checked) own started (by kernel_rfl) Try.func7
    (ChangeSpec.witness6 (enc := enc) (C := Try.checked) false ⟨#[], #[.agg #[.slice none 0 0, .slice none 0 0, .slice none 0 0], .slice none 0 0, .slice none 0 0], []⟩ 8 (by kernel_rfl) (by kernel_rfl) (by kernel_rfl) (by kernel_rfl)) ?_
  intro W base args ds gs before hval hW _ hsz _
  exact contract H enc W base args ds gs before hval hW hsz
theorem proved : Rows.MatrixSelectsSaid :=
  OpenClaim.holds_of_wide 7 Try.f7 rfl rfl rfl rfl rfl rfl rfl ⟨rfl, rfl, rfl, rfl, rfl⟩ rfl rfl rfl rfl rfl (by kernel_rfl) Try.func7 (by kernel_rfl)
    (of_decide_eq_true (by kernel_rfl)) (by unfold Func.isWrapper; first | (rw [if_pos (by decide +kernel)]; kernel_rfl) | (rw [if_neg (by decide +kernel)]; exact ⟨rfl, rfl⟩))
    (fun os started H enc _ => lifted os started H enc)
#print axioms proved
end MatrixSelects
end Go.Proofs.Ytgdngopemlajjaa
