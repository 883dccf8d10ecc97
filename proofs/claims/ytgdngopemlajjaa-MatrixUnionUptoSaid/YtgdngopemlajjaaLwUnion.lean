/- For every two matrices, of bulk at most 1048576 together, the law MatrixUnion returns true. -/
import Derived.Test.YtgdngopemlajjaaMtJ
import Derived.Test.YtgdngopemlajjaaOpenL
import Derived.Test.YtgdngopemlajjaaRows
import Derived.Test.YtgdngopemlajjaaMtR
import Derived.Deep.DeepCutAuto
import Derived.Test.YtgdngopemlajjaaOpenU
namespace Go.Proofs.Ytgdngopemlajjaa
open Go.RowKit Go.ChangeShapes Go.WideShapes Go.ChangeAt Go.Joins
set_option linter.unusedVariables false

set_option maxRecDepth 100000 in
set_option maxHeartbeats 16000000 in
theorem union_all (pv iv cv pv2 iv2 cv2 : Value) (pa ia : List Int) (ca : List (List Int)) (pb ib : List Int) (cb : List (List Int)) (w : World) (hA : Mat w pv iv cv pa ia ca) (hB : Mat w pv2 iv2 cv2 pb ib cb)
    (wpa : I64 pa) (wia : I64 ia) (wpb : I64 pb) (wib : I64 ib) (l1 : pa.length ≤ 1048576) (l2 : ia.length ≤ 1048576) (l3 : pb.length ≤ 1048576) (l4 : ib.length ≤ 1048576) (l5 : ca.length ≤ 1048576) (l6 : cb.length ≤ 1048576) :
    Calls Try.prog 8 #[.agg #[pv, iv, cv], .agg #[pv2, iv2, cv2]] w fun e w' => e = .returned (.bool true) ∧ Below w.heap.size w w' := by
  obtain ⟨hp, hi, hc⟩ := hA
  obtain ⟨hp2, hi2, hc2⟩ := hB
  have hA0 : Mat w _ _ _ pa ia ca := ⟨hp, hi, hc⟩
  have hB0 : Mat w _ _ _ pb ib cb := ⟨hp2, hi2, hc2⟩
  obtain ⟨X, cX, rfl, x1, x2, x3⟩ := hp
  obtain ⟨Y, cY, rfl, y1, y2, y3⟩ := hi
  obtain ⟨Z, cZ, us, rfl, z1, z2, hs, hu⟩ := hc
  obtain ⟨X2, cX2, rfl, x21, x22, x23⟩ := hp2
  obtain ⟨Y2, cY2, rfl, y21, y22, y23⟩ := hi2
  obtain ⟨Z2, cZ2, us2, rfl, z21, z22, hs2, hu2⟩ := hc2
  clear hu hs x3 y3 hu2 hs2 x23 y23
  have hra := (Row.new w 25 [.slice X pa.length cX, .slice Y ia.length cY, .slice Z ca.length cZ]).alloc (.cells #[.slice X2 pb.length cX2, .slice Y2 ib.length cY2, .slice Z2 cb.length cZ2] 25)
  have hrb := Row.new (w.alloc (.cells #[.slice X pa.length cX, .slice Y ia.length cY, .slice Z ca.length cZ] 25)) 25 [.slice X2 pb.length cX2, .slice Y2 ib.length cY2, .slice Z2 cb.length cZ2]
  rw [show (w.alloc (.cells #[.slice X pa.length cX, .slice Y ia.length cY, .slice Z ca.length cZ] 25)).heap.size = w.heap.size + 1 by simp] at hrb
  have BB : Below w.heap.size w ((w.alloc (.cells #[.slice X pa.length cX, .slice Y ia.length cY, .slice Z ca.length cZ] 25)).alloc (.cells #[.slice X2 pb.length cX2, .slice Y2 ib.length cY2, .slice Z2 cb.length cZ2] 25)) := lit_more (lit_below _ _) _
  have hA := hA0.below BB
  have hB := hB0.below BB
  clear hA0 hB0
  go_enter Try.func8, Try.ntmps8
  go_wp2_with fail
  generalize hW : (w.alloc (.cells #[.slice X pa.length cX, .slice Y ia.length cY, .slice Z ca.length cZ] 25)).alloc (.cells #[.slice X2 pb.length cX2, .slice Y2 ib.length cY2, .slice Z2 cb.length cZ2] 25) = w0 at *
  clear hW
  refine (merge_any _ _ _ _ _ _ pa ia ca pa ia ca _ hA hA wpa wia wpa wia (by omega) (by omega)).mono ?_
  rintro e w1 ⟨xp, xi, xc, rfl, hX, hb⟩
  replace hra := hra.keep hb
  replace hrb := hrb.keep hb
  replace hA := hA.below hb
  replace hB := hB.below hb
  replace BB : Below w.heap.size w w1 := BB.trans (hb.mono BB.size)
  clear hb
  have HS1 := Lib.hid (merE_self_iff (pa := pa) (ia := ia) (ca := ca))
  have HS2 := Lib.hid (fun h => merC_self (pa := pa) (ia := ia) (ca := ca) h)
  rw [uni_self, uni_self] at hX
  generalize hE1 : merE pa ia ca pa ia ca = E1 at *
  have HE1 := Lib.hid hE1
  clear hE1
  have hX0 := hX
  obtain ⟨⟨XA, xac, rfl, _, _, _⟩, ⟨XB, xbc, rfl, _, _, _⟩, ⟨XC, xcc, _, rfl, _, _, _, _⟩⟩ := hX
  have HSM := Lib.hid (show decide (pa.length ≤ 200 ∧ ia.length ≤ 60) = decide (pa.length ≤ 200 ∧ ia.length ≤ 60) from rfl)
  generalize hsm : decide (pa.length ≤ 200 ∧ ia.length ≤ 60) = sm at HSM
  have HSM' := Lib.hid hsm
  clear HSM hsm
  obtain ⟨gx, hgx⟩ : ∃ g, w1.heap.size = g := ⟨_, rfl⟩
  have hrgx : Row (w1.alloc (.cells #[.slice XA (onZ E1 pa).length xac, .slice XB (onZ E1 ia).length xbc, .slice XC (onZ E1 (merC pa ia ca pa ia ca)).length xcc] 25)) gx 25 [.slice XA (onZ E1 pa).length xac, .slice XB (onZ E1 ia).length xbc, .slice XC (onZ E1 (merC pa ia ca pa ia ca)).length xcc] := row_at hgx
  have hl := lit_below w1 (.cells #[.slice XA (onZ E1 pa).length xac, .slice XB (onZ E1 ia).length xbc, .slice XC (onZ E1 (merC pa ia ca pa ia ca)).length xcc] 25)
  have a0 : w1.cell? ⟨w.heap.size, 0, none⟩ = some (.slice X pa.length cX) := hra.cell 0
  have a1 : w1.cell? ⟨w.heap.size, 1, none⟩ = some (.slice Y ia.length cY) := hra.cell 1
  have a2 : w1.cell? ⟨w.heap.size, 2, none⟩ = some (.slice Z ca.length cZ) := hra.cell 2
  have b0 : w1.cell? ⟨w.heap.size + 1, 0, none⟩ = some (.slice X2 pb.length cX2) := hrb.cell 0
  have b1 : w1.cell? ⟨w.heap.size + 1, 1, none⟩ = some (.slice Y2 ib.length cY2) := hrb.cell 1
  have b2 : w1.cell? ⟨w.heap.size + 1, 2, none⟩ = some (.slice Z2 cb.length cZ2) := hrb.cell 2
  go_upto_region 2 with fail
  clear a0 a1 a2 b0 b1 b2
  clear hgx
  generalize w1.alloc (.cells #[.slice XA (onZ E1 pa).length xac, .slice XB (onZ E1 ia).length xbc, .slice XC (onZ E1 (merC pa ia ca pa ia ca)).length xcc] 25) = w2 at *
  replace hra := hra.keep hl
  replace hrb := hrb.keep hl
  replace hA := hA.below hl
  replace hB := hB.below hl
  replace hX0 := hX0.below hl
  replace BB : Below w.heap.size w w2 := BB.trans (hl.mono BB.size)
  clear hl
  go_cut [7] (fun s7 wx => s7 = .bool sm ∧ wx = w2)
  case first =>
    have a0 : w2.cell? ⟨w.heap.size, 0, none⟩ = some (.slice X pa.length cX) := hra.cell 0
    have a1 : w2.cell? ⟨w.heap.size, 1, none⟩ = some (.slice Y ia.length cY) := hra.cell 1
    have a2 : w2.cell? ⟨w.heap.size, 2, none⟩ = some (.slice Z ca.length cZ) := hra.cell 2
    have b0 : w2.cell? ⟨w.heap.size + 1, 0, none⟩ = some (.slice X2 pb.length cX2) := hrb.cell 0
    have b1 : w2.cell? ⟨w.heap.size + 1, 1, none⟩ = some (.slice Y2 ib.length cY2) := hrb.cell 1
    have b2 : w2.cell? ⟨w.heap.size + 1, 2, none⟩ = some (.slice Z2 cb.length cZ2) := hrb.cell 2
    have x0 : w2.cell? ⟨gx, 0, none⟩ = some (.slice XA (onZ E1 pa).length xac) := hrgx.cell 0
    have x1 : w2.cell? ⟨gx, 1, none⟩ = some (.slice XB (onZ E1 ia).length xbc) := hrgx.cell 1
    have x2 : w2.cell? ⟨gx, 2, none⟩ = some (.slice XC (onZ E1 (merC pa ia ca pa ia ca)).length xcc) := hrgx.cell 2
    by_cases s1 : pa.length ≤ 200
    · have d1 : decide ((pa.length : Int) ≤ 200) = true := decide_eq_true (by omega)
      by_cases s2 : ia.length ≤ 60
      · have d2 : decide ((ia.length : Int) ≤ 60) = true := decide_eq_true (by omega)
        have HB : Hid (sm = true) := by unfold Hid; rw [← HSM'.out]; exact decide_eq_true ⟨s1, s2⟩
        go_wp2_with fail
        go_meet
        exact ⟨by rw [HB.out], rfl⟩
      · have d2 : decide ((ia.length : Int) ≤ 60) = false := decide_eq_false (by omega)
        have HB : Hid (sm = false) := by unfold Hid; rw [← HSM'.out]; exact decide_eq_false (fun h => s2 h.2)
        go_wp2_with fail
        go_meet
        exact ⟨by rw [HB.out], rfl⟩
    · have d1 : decide ((pa.length : Int) ≤ 200) = false := decide_eq_false (by omega)
      have HB : Hid (sm = false) := by unfold Hid; rw [← HSM'.out]; exact decide_eq_false (fun h => s1 h.1)
      go_wp2_with fail
      go_meet
      exact ⟨by rw [HB.out], rfl⟩
  case rest =>
    obtain ⟨rfl, rfl⟩ := hcut
    obtain ⟨wp, rfl⟩ : ∃ x : World, x = wc := ⟨_, rfl⟩
    have a0 : wp.cell? ⟨w.heap.size, 0, none⟩ = some (.slice X pa.length cX) := hra.cell 0
    have a1 : wp.cell? ⟨w.heap.size, 1, none⟩ = some (.slice Y ia.length cY) := hra.cell 1
    have a2 : wp.cell? ⟨w.heap.size, 2, none⟩ = some (.slice Z ca.length cZ) := hra.cell 2
    have b0 : wp.cell? ⟨w.heap.size + 1, 0, none⟩ = some (.slice X2 pb.length cX2) := hrb.cell 0
    have b1 : wp.cell? ⟨w.heap.size + 1, 1, none⟩ = some (.slice Y2 ib.length cY2) := hrb.cell 1
    have b2 : wp.cell? ⟨w.heap.size + 1, 2, none⟩ = some (.slice Z2 cb.length cZ2) := hrb.cell 2
    have x0 : wp.cell? ⟨gx, 0, none⟩ = some (.slice XA (onZ E1 pa).length xac) := hrgx.cell 0
    have x1 : wp.cell? ⟨gx, 1, none⟩ = some (.slice XB (onZ E1 ia).length xbc) := hrgx.cell 1
    have x2 : wp.cell? ⟨gx, 2, none⟩ = some (.slice XC (onZ E1 (merC pa ia ca pa ia ca)).length xcc) := hrgx.cell 2
    go_upto_region 3 with fail
    clear a0 a1 a2 b0 b1 b2 x0 x1 x2
    go_cut [7, 49] (fun s7 s49 wx => s7 = .bool sm ∧ s49 = .bool false ∧ Below wp.heap.size wp wx)
    case first =>
      have a0 : wp.cell? ⟨w.heap.size, 0, none⟩ = some (.slice X pa.length cX) := hra.cell 0
      have a1 : wp.cell? ⟨w.heap.size, 1, none⟩ = some (.slice Y ia.length cY) := hra.cell 1
      have a2 : wp.cell? ⟨w.heap.size, 2, none⟩ = some (.slice Z ca.length cZ) := hra.cell 2
      have b0 : wp.cell? ⟨w.heap.size + 1, 0, none⟩ = some (.slice X2 pb.length cX2) := hrb.cell 0
      have b1 : wp.cell? ⟨w.heap.size + 1, 1, none⟩ = some (.slice Y2 ib.length cY2) := hrb.cell 1
      have b2 : wp.cell? ⟨w.heap.size + 1, 2, none⟩ = some (.slice Z2 cb.length cZ2) := hrb.cell 2
      have x0 : wp.cell? ⟨gx, 0, none⟩ = some (.slice XA (onZ E1 pa).length xac) := hrgx.cell 0
      have x1 : wp.cell? ⟨gx, 1, none⟩ = some (.slice XB (onZ E1 ia).length xbc) := hrgx.cell 1
      have x2 : wp.cell? ⟨gx, 2, none⟩ = some (.slice XC (onZ E1 (merC pa ia ca pa ia ca)).length xcc) := hrgx.cell 2
      go_wp2_with fail
      clear a0 a1 a2 b0 b1 b2 x0 x1 x2
      refine (fits_any _ _ _ pa ia ca _ hA).mono ?_
      rintro e wf ⟨rfl, hbf⟩
      by_cases e0 : E1 = 0
      · obtain ⟨f1, f2, f3⟩ := HS1.out.1 e0
        have HF := Lib.hid f1
        have HB : Hid (sm = true) := by unfold Hid; rw [← HSM'.out]; exact decide_eq_true ⟨f2, f3⟩
        have hc1 : (E1 == 0) = true := by rw [beq_iff_eq]; exact e0
        rw [HF.out, HB.out]
        have hX1 := hX0.below hbf
        have HL := Lib.hid (HS2.out f1)
        rw [onZ_zero e0, onZ_zero e0, onZ_zero e0, HL.out] at hX1
        have hA1 := hA.below hbf
        have hrx1 := hrgx.keep hbf
        have hra1 := hra.keep hbf
        rw [onZ_zero e0, onZ_zero e0, onZ_zero e0, HL.out] at hrx1
        have q0 : wf.cell? ⟨gx, 0, none⟩ = some (.slice XA pa.length xac) := hrx1.cell 0
        have q1 : wf.cell? ⟨gx, 1, none⟩ = some (.slice XB ia.length xbc) := hrx1.cell 1
        have q2 : wf.cell? ⟨gx, 2, none⟩ = some (.slice XC ca.length xcc) := hrx1.cell 2
        have q3 : wf.cell? ⟨w.heap.size, 0, none⟩ = some (.slice X pa.length cX) := hra1.cell 0
        have q4 : wf.cell? ⟨w.heap.size, 1, none⟩ = some (.slice Y ia.length cY) := hra1.cell 1
        have q5 : wf.cell? ⟨w.heap.size, 2, none⟩ = some (.slice Z ca.length cZ) := hra1.cell 2
        clear e0 f1 f2 f3
        go_wp2_with fail
        refine (same_any _ _ _ _ _ _ pa ia ca pa ia ca _ hX1 hA1).mono ?_
        rw [sameB_refl]
        rintro e wg ⟨rfl, hbg⟩
        go_wp2_with fail
        go_meet
        exact ⟨by rw [HB.out], rfl, hbf.trans (hbg.mono hbf.size)⟩
      · have hc1 : (E1 == 0) = false := by rw [beq_eq_false_iff_ne]; exact e0
        cases hF : fitB pa ia ca with
        | false =>
          clear e0 hF
          go_wp2_with fail
          go_meet
          exact ⟨rfl, rfl, hbf⟩
        | true =>
          have HB : Hid (sm = false) := by unfold Hid; rw [← HSM'.out]; exact decide_eq_false (fun h => e0 (HS1.out.2 ⟨hF, h.1, h.2⟩))
          rw [HB.out]
          clear e0 hF
          go_wp2_with fail
          go_meet
          exact ⟨by rw [HB.out], rfl, hbf⟩
    case rest =>
      obtain ⟨rfl, rfl, hb⟩ := hcut
      clear HS1 HS2 HE1 HSM'
      replace hra := hra.keep hb
      replace hrb := hrb.keep hb
      replace hA := hA.below hb
      replace hB := hB.below hb
      replace hX0 := hX0.below hb
      replace hrgx := hrgx.keep hb
      replace BB : Below w.heap.size w wc := BB.trans (hb.mono BB.size)
      clear hb
      have a0 : wc.cell? ⟨w.heap.size, 0, none⟩ = some (.slice X pa.length cX) := hra.cell 0
      have a1 : wc.cell? ⟨w.heap.size, 1, none⟩ = some (.slice Y ia.length cY) := hra.cell 1
      have a2 : wc.cell? ⟨w.heap.size, 2, none⟩ = some (.slice Z ca.length cZ) := hra.cell 2
      have b0 : wc.cell? ⟨w.heap.size + 1, 0, none⟩ = some (.slice X2 pb.length cX2) := hrb.cell 0
      have b1 : wc.cell? ⟨w.heap.size + 1, 1, none⟩ = some (.slice Y2 ib.length cY2) := hrb.cell 1
      have b2 : wc.cell? ⟨w.heap.size + 1, 2, none⟩ = some (.slice Z2 cb.length cZ2) := hrb.cell 2
      have x0 : wc.cell? ⟨gx, 0, none⟩ = some (.slice XA (onZ E1 pa).length xac) := hrgx.cell 0
      have x1 : wc.cell? ⟨gx, 1, none⟩ = some (.slice XB (onZ E1 ia).length xbc) := hrgx.cell 1
      have x2 : wc.cell? ⟨gx, 2, none⟩ = some (.slice XC (onZ E1 (merC pa ia ca pa ia ca)).length xcc) := hrgx.cell 2
      go_wp2_with fail
      clear a0 a1 a2 b0 b1 b2 x0 x1 x2
      refine (merge_any _ _ _ _ _ _ pa ia ca pb ib cb _ hA hB wpa wia wpb wib (by omega) (by omega)).mono ?_
      rintro e w3 ⟨yp, yi, yc, rfl, hY, hb⟩
      replace hra := hra.keep hb
      replace hrb := hrb.keep hb
      replace hA := hA.below hb
      replace hB := hB.below hb
      replace hX0 := hX0.below hb
      replace hrgx := hrgx.keep hb
      replace BB : Below w.heap.size w w3 := BB.trans (hb.mono BB.size)
      clear hb
      have HC := Lib.hid (merE_comm (pa := pb) (ia := ib) (ca := cb) (pb := pa) (ib := ia) (cb := ca))
      by_cases e2 : merE pa ia ca pb ib cb = 0
      case pos =>
        have HE2 := Lib.hid e2
        have HCF := Lib.hid (merE_zero e2).2.2.2.2.2.2.1
        obtain ⟨lu1, lu2⟩ := (merE_zero e2).2.2.2.2.2.2.2
        rw [e2, onZ_zero rfl, onZ_zero rfl, onZ_zero rfl] at hY
        rw [e2]
        clear e2
        have hY0 := hY
        obtain ⟨⟨YA, yac, rfl, _, _, _⟩, ⟨YB, ybc, rfl, _, _, _⟩, ⟨YC, ycc, _, rfl, _, _, _, _⟩⟩ := hY
        obtain ⟨gy, hgy⟩ : ∃ g, w3.heap.size = g := ⟨_, rfl⟩
        have hrgy : Row (w3.alloc (.cells #[.slice YA (uni pa pb).length yac, .slice YB (uni ia ib).length ybc, .slice YC (merC pa ia ca pb ib cb).length ycc] 25)) gy 25 [.slice YA (uni pa pb).length yac, .slice YB (uni ia ib).length ybc, .slice YC (merC pa ia ca pb ib cb).length ycc] := row_at hgy
        have hl := lit_below w3 (.cells #[.slice YA (uni pa pb).length yac, .slice YB (uni ia ib).length ybc, .slice YC (merC pa ia ca pb ib cb).length ycc] 25)
        have a0 : w3.cell? ⟨w.heap.size, 0, none⟩ = some (.slice X pa.length cX) := hra.cell 0
        have a1 : w3.cell? ⟨w.heap.size, 1, none⟩ = some (.slice Y ia.length cY) := hra.cell 1
        have a2 : w3.cell? ⟨w.heap.size, 2, none⟩ = some (.slice Z ca.length cZ) := hra.cell 2
        have b0 : w3.cell? ⟨w.heap.size + 1, 0, none⟩ = some (.slice X2 pb.length cX2) := hrb.cell 0
        have b1 : w3.cell? ⟨w.heap.size + 1, 1, none⟩ = some (.slice Y2 ib.length cY2) := hrb.cell 1
        have b2 : w3.cell? ⟨w.heap.size + 1, 2, none⟩ = some (.slice Z2 cb.length cZ2) := hrb.cell 2
        have x0 : w3.cell? ⟨gx, 0, none⟩ = some (.slice XA (onZ E1 pa).length xac) := hrgx.cell 0
        have x1 : w3.cell? ⟨gx, 1, none⟩ = some (.slice XB (onZ E1 ia).length xbc) := hrgx.cell 1
        have x2 : w3.cell? ⟨gx, 2, none⟩ = some (.slice XC (onZ E1 (merC pa ia ca pa ia ca)).length xcc) := hrgx.cell 2
        have la0 : (w3.alloc (.cells #[.slice YA (uni pa pb).length yac, .slice YB (uni ia ib).length ybc, .slice YC (merC pa ia ca pb ib cb).length ycc] 25)).cell? ⟨w.heap.size, 0, none⟩ = some (.slice X pa.length cX) := (hra.alloc _).cell 0
        have la1 : (w3.alloc (.cells #[.slice YA (uni pa pb).length yac, .slice YB (uni ia ib).length ybc, .slice YC (merC pa ia ca pb ib cb).length ycc] 25)).cell? ⟨w.heap.size, 1, none⟩ = some (.slice Y ia.length cY) := (hra.alloc _).cell 1
        have la2 : (w3.alloc (.cells #[.slice YA (uni pa pb).length yac, .slice YB (uni ia ib).length ybc, .slice YC (merC pa ia ca pb ib cb).length ycc] 25)).cell? ⟨w.heap.size, 2, none⟩ = some (.slice Z ca.length cZ) := (hra.alloc _).cell 2
        have lb0 : (w3.alloc (.cells #[.slice YA (uni pa pb).length yac, .slice YB (uni ia ib).length ybc, .slice YC (merC pa ia ca pb ib cb).length ycc] 25)).cell? ⟨w.heap.size + 1, 0, none⟩ = some (.slice X2 pb.length cX2) := (hrb.alloc _).cell 0
        have lb1 : (w3.alloc (.cells #[.slice YA (uni pa pb).length yac, .slice YB (uni ia ib).length ybc, .slice YC (merC pa ia ca pb ib cb).length ycc] 25)).cell? ⟨w.heap.size + 1, 1, none⟩ = some (.slice Y2 ib.length cY2) := (hrb.alloc _).cell 1
        have lb2 : (w3.alloc (.cells #[.slice YA (uni pa pb).length yac, .slice YB (uni ia ib).length ybc, .slice YC (merC pa ia ca pb ib cb).length ycc] 25)).cell? ⟨w.heap.size + 1, 2, none⟩ = some (.slice Z2 cb.length cZ2) := (hrb.alloc _).cell 2
        have lx0 : (w3.alloc (.cells #[.slice YA (uni pa pb).length yac, .slice YB (uni ia ib).length ybc, .slice YC (merC pa ia ca pb ib cb).length ycc] 25)).cell? ⟨gx, 0, none⟩ = some (.slice XA (onZ E1 pa).length xac) := (hrgx.alloc _).cell 0
        have lx1 : (w3.alloc (.cells #[.slice YA (uni pa pb).length yac, .slice YB (uni ia ib).length ybc, .slice YC (merC pa ia ca pb ib cb).length ycc] 25)).cell? ⟨gx, 1, none⟩ = some (.slice XB (onZ E1 ia).length xbc) := (hrgx.alloc _).cell 1
        have lx2 : (w3.alloc (.cells #[.slice YA (uni pa pb).length yac, .slice YB (uni ia ib).length ybc, .slice YC (merC pa ia ca pb ib cb).length ycc] 25)).cell? ⟨gx, 2, none⟩ = some (.slice XC (onZ E1 (merC pa ia ca pa ia ca)).length xcc) := (hrgx.alloc _).cell 2
        go_wp2_with fail
        clear a0 a1 a2 b0 b1 b2 x0 x1 x2
        clear la0 la1 la2 lb0 lb1 lb2 lx0 lx1 lx2
        have hzgy : (w3.alloc (.cells #[.slice YA (uni pa pb).length yac, .slice YB (uni ia ib).length ybc, .slice YC (merC pa ia ca pb ib cb).length ycc] 25)).heap.size = gy + 1 := by simp [hgy]
        clear hgy
        generalize w3.alloc (.cells #[.slice YA (uni pa pb).length yac, .slice YB (uni ia ib).length ybc, .slice YC (merC pa ia ca pb ib cb).length ycc] 25) = w4 at *
        clear hzgy
        replace hra := hra.keep hl
        replace hrb := hrb.keep hl
        replace hA := hA.below hl
        replace hB := hB.below hl
        replace hX0 := hX0.below hl
        replace hrgx := hrgx.keep hl
        replace hY0 := hY0.below hl
        replace BB : Below w.heap.size w w4 := BB.trans (hl.mono BB.size)
        clear hl
        refine (merge_any _ _ _ _ _ _ pb ib cb pa ia ca _ hB hA wpb wib wpa wia (by omega) (by omega)).mono ?_
        rintro e w5 ⟨tp, ti, tc, rfl, hZ, hb⟩
        replace hra := hra.keep hb
        replace hrb := hrb.keep hb
        replace hA := hA.below hb
        replace hB := hB.below hb
        replace hX0 := hX0.below hb
        replace hrgx := hrgx.keep hb
        replace hY0 := hY0.below hb
        replace hrgy := hrgy.keep hb
        replace BB : Below w.heap.size w w5 := BB.trans (hb.mono BB.size)
        clear hb
        rw [HC.out, HE2.out] at hZ
        rw [HC.out, HE2.out]
        rw [onZ_zero rfl, onZ_zero rfl, onZ_zero rfl, uni_comm pb pa, uni_comm ib ia, ← merC_comm HCF.out] at hZ
        have hZ0 := hZ
        obtain ⟨⟨ZA, zac, rfl, _, _, _⟩, ⟨ZB, zbc, rfl, _, _, _⟩, ⟨ZC, zcc, _, rfl, _, _, _, _⟩⟩ := hZ
        obtain ⟨gz, hgz⟩ : ∃ g, w5.heap.size = g := ⟨_, rfl⟩
        have hrgz : Row (w5.alloc (.cells #[.slice ZA (uni pa pb).length zac, .slice ZB (uni ia ib).length zbc, .slice ZC (merC pa ia ca pb ib cb).length zcc] 25)) gz 25 [.slice ZA (uni pa pb).length zac, .slice ZB (uni ia ib).length zbc, .slice ZC (merC pa ia ca pb ib cb).length zcc] := row_at hgz
        have hl := lit_below w5 (.cells #[.slice ZA (uni pa pb).length zac, .slice ZB (uni ia ib).length zbc, .slice ZC (merC pa ia ca pb ib cb).length zcc] 25)
        have a0 : w5.cell? ⟨w.heap.size, 0, none⟩ = some (.slice X pa.length cX) := hra.cell 0
        have a1 : w5.cell? ⟨w.heap.size, 1, none⟩ = some (.slice Y ia.length cY) := hra.cell 1
        have a2 : w5.cell? ⟨w.heap.size, 2, none⟩ = some (.slice Z ca.length cZ) := hra.cell 2
        have b0 : w5.cell? ⟨w.heap.size + 1, 0, none⟩ = some (.slice X2 pb.length cX2) := hrb.cell 0
        have b1 : w5.cell? ⟨w.heap.size + 1, 1, none⟩ = some (.slice Y2 ib.length cY2) := hrb.cell 1
        have b2 : w5.cell? ⟨w.heap.size + 1, 2, none⟩ = some (.slice Z2 cb.length cZ2) := hrb.cell 2
        have x0 : w5.cell? ⟨gx, 0, none⟩ = some (.slice XA (onZ E1 pa).length xac) := hrgx.cell 0
        have x1 : w5.cell? ⟨gx, 1, none⟩ = some (.slice XB (onZ E1 ia).length xbc) := hrgx.cell 1
        have x2 : w5.cell? ⟨gx, 2, none⟩ = some (.slice XC (onZ E1 (merC pa ia ca pa ia ca)).length xcc) := hrgx.cell 2
        have y0 : w5.cell? ⟨gy, 0, none⟩ = some (.slice YA (uni pa pb).length yac) := hrgy.cell 0
        have y1 : w5.cell? ⟨gy, 1, none⟩ = some (.slice YB (uni ia ib).length ybc) := hrgy.cell 1
        have y2 : w5.cell? ⟨gy, 2, none⟩ = some (.slice YC (merC pa ia ca pb ib cb).length ycc) := hrgy.cell 2
        have la0 : (w5.alloc (.cells #[.slice ZA (uni pa pb).length zac, .slice ZB (uni ia ib).length zbc, .slice ZC (merC pa ia ca pb ib cb).length zcc] 25)).cell? ⟨w.heap.size, 0, none⟩ = some (.slice X pa.length cX) := (hra.alloc _).cell 0
        have la1 : (w5.alloc (.cells #[.slice ZA (uni pa pb).length zac, .slice ZB (uni ia ib).length zbc, .slice ZC (merC pa ia ca pb ib cb).length zcc] 25)).cell? ⟨w.heap.size, 1, none⟩ = some (.slice Y ia.length cY) := (hra.alloc _).cell 1
        have la2 : (w5.alloc (.cells #[.slice ZA (uni pa pb).length zac, .slice ZB (uni ia ib).length zbc, .slice ZC (merC pa ia ca pb ib cb).length zcc] 25)).cell? ⟨w.heap.size, 2, none⟩ = some (.slice Z ca.length cZ) := (hra.alloc _).cell 2
        have lb0 : (w5.alloc (.cells #[.slice ZA (uni pa pb).length zac, .slice ZB (uni ia ib).length zbc, .slice ZC (merC pa ia ca pb ib cb).length zcc] 25)).cell? ⟨w.heap.size + 1, 0, none⟩ = some (.slice X2 pb.length cX2) := (hrb.alloc _).cell 0
        have lb1 : (w5.alloc (.cells #[.slice ZA (uni pa pb).length zac, .slice ZB (uni ia ib).length zbc, .slice ZC (merC pa ia ca pb ib cb).length zcc] 25)).cell? ⟨w.heap.size + 1, 1, none⟩ = some (.slice Y2 ib.length cY2) := (hrb.alloc _).cell 1
        have lb2 : (w5.alloc (.cells #[.slice ZA (uni pa pb).length zac, .slice ZB (uni ia ib).length zbc, .slice ZC (merC pa ia ca pb ib cb).length zcc] 25)).cell? ⟨w.heap.size + 1, 2, none⟩ = some (.slice Z2 cb.length cZ2) := (hrb.alloc _).cell 2
        have lx0 : (w5.alloc (.cells #[.slice ZA (uni pa pb).length zac, .slice ZB (uni ia ib).length zbc, .slice ZC (merC pa ia ca pb ib cb).length zcc] 25)).cell? ⟨gx, 0, none⟩ = some (.slice XA (onZ E1 pa).length xac) := (hrgx.alloc _).cell 0
        have lx1 : (w5.alloc (.cells #[.slice ZA (uni pa pb).length zac, .slice ZB (uni ia ib).length zbc, .slice ZC (merC pa ia ca pb ib cb).length zcc] 25)).cell? ⟨gx, 1, none⟩ = some (.slice XB (onZ E1 ia).length xbc) := (hrgx.alloc _).cell 1
        have lx2 : (w5.alloc (.cells #[.slice ZA (uni pa pb).length zac, .slice ZB (uni ia ib).length zbc, .slice ZC (merC pa ia ca pb ib cb).length zcc] 25)).cell? ⟨gx, 2, none⟩ = some (.slice XC (onZ E1 (merC pa ia ca pa ia ca)).length xcc) := (hrgx.alloc _).cell 2
        have ly0 : (w5.alloc (.cells #[.slice ZA (uni pa pb).length zac, .slice ZB (uni ia ib).length zbc, .slice ZC (merC pa ia ca pb ib cb).length zcc] 25)).cell? ⟨gy, 0, none⟩ = some (.slice YA (uni pa pb).length yac) := (hrgy.alloc _).cell 0
        have ly1 : (w5.alloc (.cells #[.slice ZA (uni pa pb).length zac, .slice ZB (uni ia ib).length zbc, .slice ZC (merC pa ia ca pb ib cb).length zcc] 25)).cell? ⟨gy, 1, none⟩ = some (.slice YB (uni ia ib).length ybc) := (hrgy.alloc _).cell 1
        have ly2 : (w5.alloc (.cells #[.slice ZA (uni pa pb).length zac, .slice ZB (uni ia ib).length zbc, .slice ZC (merC pa ia ca pb ib cb).length zcc] 25)).cell? ⟨gy, 2, none⟩ = some (.slice YC (merC pa ia ca pb ib cb).length ycc) := (hrgy.alloc _).cell 2
        go_wp2_with fail
        clear a0 a1 a2 b0 b1 b2 x0 x1 x2 y0 y1 y2
        clear la0 la1 la2 lb0 lb1 lb2 lx0 lx1 lx2 ly0 ly1 ly2
        have hzgz : (w5.alloc (.cells #[.slice ZA (uni pa pb).length zac, .slice ZB (uni ia ib).length zbc, .slice ZC (merC pa ia ca pb ib cb).length zcc] 25)).heap.size = gz + 1 := by simp [hgz]
        clear hgz
        generalize w5.alloc (.cells #[.slice ZA (uni pa pb).length zac, .slice ZB (uni ia ib).length zbc, .slice ZC (merC pa ia ca pb ib cb).length zcc] 25) = w6 at *
        clear hzgz
        replace hra := hra.keep hl
        replace hrb := hrb.keep hl
        replace hA := hA.below hl
        replace hB := hB.below hl
        replace hX0 := hX0.below hl
        replace hrgx := hrgx.keep hl
        replace hY0 := hY0.below hl
        replace hrgy := hrgy.keep hl
        replace hZ0 := hZ0.below hl
        replace BB : Below w.heap.size w w6 := BB.trans (hl.mono BB.size)
        clear hl
        refine (same_any _ _ _ _ _ _ (uni pa pb) (uni ia ib) (merC pa ia ca pb ib cb) (uni pa pb) (uni ia ib) (merC pa ia ca pb ib cb) _ hY0 hZ0).mono ?_
        rw [sameB_refl]
        rintro e w7 ⟨rfl, hb⟩
        replace hra := hra.keep hb
        replace hrb := hrb.keep hb
        replace hA := hA.below hb
        replace hB := hB.below hb
        replace hX0 := hX0.below hb
        replace hrgx := hrgx.keep hb
        replace hY0 := hY0.below hb
        replace hrgy := hrgy.keep hb
        replace hZ0 := hZ0.below hb
        replace hrgz := hrgz.keep hb
        replace BB : Below w.heap.size w w7 := BB.trans (hb.mono BB.size)
        clear hb
        have S1 := sel_left HE2.out
        have S2 := sel_left (pa := pb) (ia := ib) (ca := cb) (pb := pa) (ib := ia) (cb := ca) (by rw [HC.out]; exact HE2.out)
        rw [uni_comm pb pa, uni_comm ib ia, ← merC_comm HCF.out] at S2
        have HS1 := Lib.hid S1
        have HS2 := Lib.hid S2
        clear S1 S2
        have HML : (merC pa ia ca pb ib cb).length ≤ 200 := by rw [merC_len]; exact lu1
        have a0 : w7.cell? ⟨w.heap.size, 0, none⟩ = some (.slice X pa.length cX) := hra.cell 0
        have a1 : w7.cell? ⟨w.heap.size, 1, none⟩ = some (.slice Y ia.length cY) := hra.cell 1
        have a2 : w7.cell? ⟨w.heap.size, 2, none⟩ = some (.slice Z ca.length cZ) := hra.cell 2
        have b0 : w7.cell? ⟨w.heap.size + 1, 0, none⟩ = some (.slice X2 pb.length cX2) := hrb.cell 0
        have b1 : w7.cell? ⟨w.heap.size + 1, 1, none⟩ = some (.slice Y2 ib.length cY2) := hrb.cell 1
        have b2 : w7.cell? ⟨w.heap.size + 1, 2, none⟩ = some (.slice Z2 cb.length cZ2) := hrb.cell 2
        have x0 : w7.cell? ⟨gx, 0, none⟩ = some (.slice XA (onZ E1 pa).length xac) := hrgx.cell 0
        have x1 : w7.cell? ⟨gx, 1, none⟩ = some (.slice XB (onZ E1 ia).length xbc) := hrgx.cell 1
        have x2 : w7.cell? ⟨gx, 2, none⟩ = some (.slice XC (onZ E1 (merC pa ia ca pa ia ca)).length xcc) := hrgx.cell 2
        have y0 : w7.cell? ⟨gy, 0, none⟩ = some (.slice YA (uni pa pb).length yac) := hrgy.cell 0
        have y1 : w7.cell? ⟨gy, 1, none⟩ = some (.slice YB (uni ia ib).length ybc) := hrgy.cell 1
        have y2 : w7.cell? ⟨gy, 2, none⟩ = some (.slice YC (merC pa ia ca pb ib cb).length ycc) := hrgy.cell 2
        have z0 : w7.cell? ⟨gz, 0, none⟩ = some (.slice ZA (uni pa pb).length zac) := hrgz.cell 0
        have z1 : w7.cell? ⟨gz, 1, none⟩ = some (.slice ZB (uni ia ib).length zbc) := hrgz.cell 1
        have z2 : w7.cell? ⟨gz, 2, none⟩ = some (.slice ZC (merC pa ia ca pb ib cb).length zcc) := hrgz.cell 2
        go_wp2_with fail
        clear a0 a1 a2 b0 b1 b2 x0 x1 x2 y0 y1 y2 z0 z1 z2
        refine (select_any _ _ _ _ _ (uni pa pb) (uni ia ib) (merC pa ia ca pb ib cb) pa ia _ hY0 hA.1 hA.2.1 (uni_i64 wpa wpb) (uni_i64 wia wib) wpa wia (by omega) (by omega) (by omega) (by omega) (by omega)).mono ?_
        rintro e w8 ⟨q1p, q1i, q1c, rfl, hQ1, hb⟩
        replace hra := hra.keep hb
        replace hrb := hrb.keep hb
        replace hA := hA.below hb
        replace hB := hB.below hb
        replace hX0 := hX0.below hb
        replace hrgx := hrgx.keep hb
        replace hY0 := hY0.below hb
        replace hrgy := hrgy.keep hb
        replace hZ0 := hZ0.below hb
        replace hrgz := hrgz.keep hb
        replace BB : Below w.heap.size w w8 := BB.trans (hb.mono BB.size)
        clear hb
        rw [HS1.out.1, onZ_zero rfl, onZ_zero rfl, onZ_zero rfl, HS1.out.2] at hQ1
        rw [HS1.out.1]
        have hQ10 := hQ1
        obtain ⟨⟨UA, q1ac, rfl, _, _, _⟩, ⟨UB, q1bc, rfl, _, _, _⟩, ⟨UC, q1cc, _, rfl, _, _, _, _⟩⟩ := hQ1
        obtain ⟨gp, hgp⟩ : ∃ g, w8.heap.size = g := ⟨_, rfl⟩
        have hrgp : Row (w8.alloc (.cells #[.slice UA pa.length q1ac, .slice UB ia.length q1bc, .slice UC ca.length q1cc] 25)) gp 25 [.slice UA pa.length q1ac, .slice UB ia.length q1bc, .slice UC ca.length q1cc] := row_at hgp
        have hl := lit_below w8 (.cells #[.slice UA pa.length q1ac, .slice UB ia.length q1bc, .slice UC ca.length q1cc] 25)
        have a0 : w8.cell? ⟨w.heap.size, 0, none⟩ = some (.slice X pa.length cX) := hra.cell 0
        have a1 : w8.cell? ⟨w.heap.size, 1, none⟩ = some (.slice Y ia.length cY) := hra.cell 1
        have a2 : w8.cell? ⟨w.heap.size, 2, none⟩ = some (.slice Z ca.length cZ) := hra.cell 2
        have b0 : w8.cell? ⟨w.heap.size + 1, 0, none⟩ = some (.slice X2 pb.length cX2) := hrb.cell 0
        have b1 : w8.cell? ⟨w.heap.size + 1, 1, none⟩ = some (.slice Y2 ib.length cY2) := hrb.cell 1
        have b2 : w8.cell? ⟨w.heap.size + 1, 2, none⟩ = some (.slice Z2 cb.length cZ2) := hrb.cell 2
        have x0 : w8.cell? ⟨gx, 0, none⟩ = some (.slice XA (onZ E1 pa).length xac) := hrgx.cell 0
        have x1 : w8.cell? ⟨gx, 1, none⟩ = some (.slice XB (onZ E1 ia).length xbc) := hrgx.cell 1
        have x2 : w8.cell? ⟨gx, 2, none⟩ = some (.slice XC (onZ E1 (merC pa ia ca pa ia ca)).length xcc) := hrgx.cell 2
        have y0 : w8.cell? ⟨gy, 0, none⟩ = some (.slice YA (uni pa pb).length yac) := hrgy.cell 0
        have y1 : w8.cell? ⟨gy, 1, none⟩ = some (.slice YB (uni ia ib).length ybc) := hrgy.cell 1
        have y2 : w8.cell? ⟨gy, 2, none⟩ = some (.slice YC (merC pa ia ca pb ib cb).length ycc) := hrgy.cell 2
        have z0 : w8.cell? ⟨gz, 0, none⟩ = some (.slice ZA (uni pa pb).length zac) := hrgz.cell 0
        have z1 : w8.cell? ⟨gz, 1, none⟩ = some (.slice ZB (uni ia ib).length zbc) := hrgz.cell 1
        have z2 : w8.cell? ⟨gz, 2, none⟩ = some (.slice ZC (merC pa ia ca pb ib cb).length zcc) := hrgz.cell 2
        have la0 : (w8.alloc (.cells #[.slice UA pa.length q1ac, .slice UB ia.length q1bc, .slice UC ca.length q1cc] 25)).cell? ⟨w.heap.size, 0, none⟩ = some (.slice X pa.length cX) := (hra.alloc _).cell 0
        have la1 : (w8.alloc (.cells #[.slice UA pa.length q1ac, .slice UB ia.length q1bc, .slice UC ca.length q1cc] 25)).cell? ⟨w.heap.size, 1, none⟩ = some (.slice Y ia.length cY) := (hra.alloc _).cell 1
        have la2 : (w8.alloc (.cells #[.slice UA pa.length q1ac, .slice UB ia.length q1bc, .slice UC ca.length q1cc] 25)).cell? ⟨w.heap.size, 2, none⟩ = some (.slice Z ca.length cZ) := (hra.alloc _).cell 2
        have lb0 : (w8.alloc (.cells #[.slice UA pa.length q1ac, .slice UB ia.length q1bc, .slice UC ca.length q1cc] 25)).cell? ⟨w.heap.size + 1, 0, none⟩ = some (.slice X2 pb.length cX2) := (hrb.alloc _).cell 0
        have lb1 : (w8.alloc (.cells #[.slice UA pa.length q1ac, .slice UB ia.length q1bc, .slice UC ca.length q1cc] 25)).cell? ⟨w.heap.size + 1, 1, none⟩ = some (.slice Y2 ib.length cY2) := (hrb.alloc _).cell 1
        have lb2 : (w8.alloc (.cells #[.slice UA pa.length q1ac, .slice UB ia.length q1bc, .slice UC ca.length q1cc] 25)).cell? ⟨w.heap.size + 1, 2, none⟩ = some (.slice Z2 cb.length cZ2) := (hrb.alloc _).cell 2
        have lx0 : (w8.alloc (.cells #[.slice UA pa.length q1ac, .slice UB ia.length q1bc, .slice UC ca.length q1cc] 25)).cell? ⟨gx, 0, none⟩ = some (.slice XA (onZ E1 pa).length xac) := (hrgx.alloc _).cell 0
        have lx1 : (w8.alloc (.cells #[.slice UA pa.length q1ac, .slice UB ia.length q1bc, .slice UC ca.length q1cc] 25)).cell? ⟨gx, 1, none⟩ = some (.slice XB (onZ E1 ia).length xbc) := (hrgx.alloc _).cell 1
        have lx2 : (w8.alloc (.cells #[.slice UA pa.length q1ac, .slice UB ia.length q1bc, .slice UC ca.length q1cc] 25)).cell? ⟨gx, 2, none⟩ = some (.slice XC (onZ E1 (merC pa ia ca pa ia ca)).length xcc) := (hrgx.alloc _).cell 2
        have ly0 : (w8.alloc (.cells #[.slice UA pa.length q1ac, .slice UB ia.length q1bc, .slice UC ca.length q1cc] 25)).cell? ⟨gy, 0, none⟩ = some (.slice YA (uni pa pb).length yac) := (hrgy.alloc _).cell 0
        have ly1 : (w8.alloc (.cells #[.slice UA pa.length q1ac, .slice UB ia.length q1bc, .slice UC ca.length q1cc] 25)).cell? ⟨gy, 1, none⟩ = some (.slice YB (uni ia ib).length ybc) := (hrgy.alloc _).cell 1
        have ly2 : (w8.alloc (.cells #[.slice UA pa.length q1ac, .slice UB ia.length q1bc, .slice UC ca.length q1cc] 25)).cell? ⟨gy, 2, none⟩ = some (.slice YC (merC pa ia ca pb ib cb).length ycc) := (hrgy.alloc _).cell 2
        have lz0 : (w8.alloc (.cells #[.slice UA pa.length q1ac, .slice UB ia.length q1bc, .slice UC ca.length q1cc] 25)).cell? ⟨gz, 0, none⟩ = some (.slice ZA (uni pa pb).length zac) := (hrgz.alloc _).cell 0
        have lz1 : (w8.alloc (.cells #[.slice UA pa.length q1ac, .slice UB ia.length q1bc, .slice UC ca.length q1cc] 25)).cell? ⟨gz, 1, none⟩ = some (.slice ZB (uni ia ib).length zbc) := (hrgz.alloc _).cell 1
        have lz2 : (w8.alloc (.cells #[.slice UA pa.length q1ac, .slice UB ia.length q1bc, .slice UC ca.length q1cc] 25)).cell? ⟨gz, 2, none⟩ = some (.slice ZC (merC pa ia ca pb ib cb).length zcc) := (hrgz.alloc _).cell 2
        go_wp2_with fail
        clear a0 a1 a2 b0 b1 b2 x0 x1 x2 y0 y1 y2 z0 z1 z2
        clear la0 la1 la2 lb0 lb1 lb2 lx0 lx1 lx2 ly0 ly1 ly2 lz0 lz1 lz2
        have hzgp : (w8.alloc (.cells #[.slice UA pa.length q1ac, .slice UB ia.length q1bc, .slice UC ca.length q1cc] 25)).heap.size = gp + 1 := by simp [hgp]
        clear hgp
        generalize w8.alloc (.cells #[.slice UA pa.length q1ac, .slice UB ia.length q1bc, .slice UC ca.length q1cc] 25) = w9 at *
        clear hzgp
        replace hra := hra.keep hl
        replace hrb := hrb.keep hl
        replace hA := hA.below hl
        replace hB := hB.below hl
        replace hX0 := hX0.below hl
        replace hrgx := hrgx.keep hl
        replace hY0 := hY0.below hl
        replace hrgy := hrgy.keep hl
        replace hZ0 := hZ0.below hl
        replace hrgz := hrgz.keep hl
        replace hQ10 := hQ10.below hl
        replace BB : Below w.heap.size w w9 := BB.trans (hl.mono BB.size)
        clear hl
        refine (select_any _ _ _ _ _ (uni pa pb) (uni ia ib) (merC pa ia ca pb ib cb) pb ib _ hY0 hB.1 hB.2.1 (uni_i64 wpa wpb) (uni_i64 wia wib) wpb wib (by omega) (by omega) (by omega) (by omega) (by omega)).mono ?_
        rintro e w10 ⟨q2p, q2i, q2c, rfl, hQ2, hb⟩
        replace hra := hra.keep hb
        replace hrb := hrb.keep hb
        replace hA := hA.below hb
        replace hB := hB.below hb
        replace hX0 := hX0.below hb
        replace hrgx := hrgx.keep hb
        replace hY0 := hY0.below hb
        replace hrgy := hrgy.keep hb
        replace hZ0 := hZ0.below hb
        replace hrgz := hrgz.keep hb
        replace hQ10 := hQ10.below hb
        replace hrgp := hrgp.keep hb
        replace BB : Below w.heap.size w w10 := BB.trans (hb.mono BB.size)
        clear hb
        rw [HS2.out.1, onZ_zero rfl, onZ_zero rfl, onZ_zero rfl, HS2.out.2] at hQ2
        rw [HS2.out.1]
        have hQ20 := hQ2
        obtain ⟨⟨VA, q2ac, rfl, _, _, _⟩, ⟨VB, q2bc, rfl, _, _, _⟩, ⟨VC, q2cc, _, rfl, _, _, _, _⟩⟩ := hQ2
        obtain ⟨gq, hgq⟩ : ∃ g, w10.heap.size = g := ⟨_, rfl⟩
        have hrgq : Row (w10.alloc (.cells #[.slice VA pb.length q2ac, .slice VB ib.length q2bc, .slice VC cb.length q2cc] 25)) gq 25 [.slice VA pb.length q2ac, .slice VB ib.length q2bc, .slice VC cb.length q2cc] := row_at hgq
        have hl := lit_below w10 (.cells #[.slice VA pb.length q2ac, .slice VB ib.length q2bc, .slice VC cb.length q2cc] 25)
        have a0 : w10.cell? ⟨w.heap.size, 0, none⟩ = some (.slice X pa.length cX) := hra.cell 0
        have a1 : w10.cell? ⟨w.heap.size, 1, none⟩ = some (.slice Y ia.length cY) := hra.cell 1
        have a2 : w10.cell? ⟨w.heap.size, 2, none⟩ = some (.slice Z ca.length cZ) := hra.cell 2
        have b0 : w10.cell? ⟨w.heap.size + 1, 0, none⟩ = some (.slice X2 pb.length cX2) := hrb.cell 0
        have b1 : w10.cell? ⟨w.heap.size + 1, 1, none⟩ = some (.slice Y2 ib.length cY2) := hrb.cell 1
        have b2 : w10.cell? ⟨w.heap.size + 1, 2, none⟩ = some (.slice Z2 cb.length cZ2) := hrb.cell 2
        have x0 : w10.cell? ⟨gx, 0, none⟩ = some (.slice XA (onZ E1 pa).length xac) := hrgx.cell 0
        have x1 : w10.cell? ⟨gx, 1, none⟩ = some (.slice XB (onZ E1 ia).length xbc) := hrgx.cell 1
        have x2 : w10.cell? ⟨gx, 2, none⟩ = some (.slice XC (onZ E1 (merC pa ia ca pa ia ca)).length xcc) := hrgx.cell 2
        have y0 : w10.cell? ⟨gy, 0, none⟩ = some (.slice YA (uni pa pb).length yac) := hrgy.cell 0
        have y1 : w10.cell? ⟨gy, 1, none⟩ = some (.slice YB (uni ia ib).length ybc) := hrgy.cell 1
        have y2 : w10.cell? ⟨gy, 2, none⟩ = some (.slice YC (merC pa ia ca pb ib cb).length ycc) := hrgy.cell 2
        have z0 : w10.cell? ⟨gz, 0, none⟩ = some (.slice ZA (uni pa pb).length zac) := hrgz.cell 0
        have z1 : w10.cell? ⟨gz, 1, none⟩ = some (.slice ZB (uni ia ib).length zbc) := hrgz.cell 1
        have z2 : w10.cell? ⟨gz, 2, none⟩ = some (.slice ZC (merC pa ia ca pb ib cb).length zcc) := hrgz.cell 2
        have q10 : w10.cell? ⟨gp, 0, none⟩ = some (.slice UA pa.length q1ac) := hrgp.cell 0
        have q11 : w10.cell? ⟨gp, 1, none⟩ = some (.slice UB ia.length q1bc) := hrgp.cell 1
        have q12 : w10.cell? ⟨gp, 2, none⟩ = some (.slice UC ca.length q1cc) := hrgp.cell 2
        have la0 : (w10.alloc (.cells #[.slice VA pb.length q2ac, .slice VB ib.length q2bc, .slice VC cb.length q2cc] 25)).cell? ⟨w.heap.size, 0, none⟩ = some (.slice X pa.length cX) := (hra.alloc _).cell 0
        have la1 : (w10.alloc (.cells #[.slice VA pb.length q2ac, .slice VB ib.length q2bc, .slice VC cb.length q2cc] 25)).cell? ⟨w.heap.size, 1, none⟩ = some (.slice Y ia.length cY) := (hra.alloc _).cell 1
        have la2 : (w10.alloc (.cells #[.slice VA pb.length q2ac, .slice VB ib.length q2bc, .slice VC cb.length q2cc] 25)).cell? ⟨w.heap.size, 2, none⟩ = some (.slice Z ca.length cZ) := (hra.alloc _).cell 2
        have lb0 : (w10.alloc (.cells #[.slice VA pb.length q2ac, .slice VB ib.length q2bc, .slice VC cb.length q2cc] 25)).cell? ⟨w.heap.size + 1, 0, none⟩ = some (.slice X2 pb.length cX2) := (hrb.alloc _).cell 0
        have lb1 : (w10.alloc (.cells #[.slice VA pb.length q2ac, .slice VB ib.length q2bc, .slice VC cb.length q2cc] 25)).cell? ⟨w.heap.size + 1, 1, none⟩ = some (.slice Y2 ib.length cY2) := (hrb.alloc _).cell 1
        have lb2 : (w10.alloc (.cells #[.slice VA pb.length q2ac, .slice VB ib.length q2bc, .slice VC cb.length q2cc] 25)).cell? ⟨w.heap.size + 1, 2, none⟩ = some (.slice Z2 cb.length cZ2) := (hrb.alloc _).cell 2
        have lx0 : (w10.alloc (.cells #[.slice VA pb.length q2ac, .slice VB ib.length q2bc, .slice VC cb.length q2cc] 25)).cell? ⟨gx, 0, none⟩ = some (.slice XA (onZ E1 pa).length xac) := (hrgx.alloc _).cell 0
        have lx1 : (w10.alloc (.cells #[.slice VA pb.length q2ac, .slice VB ib.length q2bc, .slice VC cb.length q2cc] 25)).cell? ⟨gx, 1, none⟩ = some (.slice XB (onZ E1 ia).length xbc) := (hrgx.alloc _).cell 1
        have lx2 : (w10.alloc (.cells #[.slice VA pb.length q2ac, .slice VB ib.length q2bc, .slice VC cb.length q2cc] 25)).cell? ⟨gx, 2, none⟩ = some (.slice XC (onZ E1 (merC pa ia ca pa ia ca)).length xcc) := (hrgx.alloc _).cell 2
        have ly0 : (w10.alloc (.cells #[.slice VA pb.length q2ac, .slice VB ib.length q2bc, .slice VC cb.length q2cc] 25)).cell? ⟨gy, 0, none⟩ = some (.slice YA (uni pa pb).length yac) := (hrgy.alloc _).cell 0
        have ly1 : (w10.alloc (.cells #[.slice VA pb.length q2ac, .slice VB ib.length q2bc, .slice VC cb.length q2cc] 25)).cell? ⟨gy, 1, none⟩ = some (.slice YB (uni ia ib).length ybc) := (hrgy.alloc _).cell 1
        have ly2 : (w10.alloc (.cells #[.slice VA pb.length q2ac, .slice VB ib.length q2bc, .slice VC cb.length q2cc] 25)).cell? ⟨gy, 2, none⟩ = some (.slice YC (merC pa ia ca pb ib cb).length ycc) := (hrgy.alloc _).cell 2
        have lz0 : (w10.alloc (.cells #[.slice VA pb.length q2ac, .slice VB ib.length q2bc, .slice VC cb.length q2cc] 25)).cell? ⟨gz, 0, none⟩ = some (.slice ZA (uni pa pb).length zac) := (hrgz.alloc _).cell 0
        have lz1 : (w10.alloc (.cells #[.slice VA pb.length q2ac, .slice VB ib.length q2bc, .slice VC cb.length q2cc] 25)).cell? ⟨gz, 1, none⟩ = some (.slice ZB (uni ia ib).length zbc) := (hrgz.alloc _).cell 1
        have lz2 : (w10.alloc (.cells #[.slice VA pb.length q2ac, .slice VB ib.length q2bc, .slice VC cb.length q2cc] 25)).cell? ⟨gz, 2, none⟩ = some (.slice ZC (merC pa ia ca pb ib cb).length zcc) := (hrgz.alloc _).cell 2
        have lq10 : (w10.alloc (.cells #[.slice VA pb.length q2ac, .slice VB ib.length q2bc, .slice VC cb.length q2cc] 25)).cell? ⟨gp, 0, none⟩ = some (.slice UA pa.length q1ac) := (hrgp.alloc _).cell 0
        have lq11 : (w10.alloc (.cells #[.slice VA pb.length q2ac, .slice VB ib.length q2bc, .slice VC cb.length q2cc] 25)).cell? ⟨gp, 1, none⟩ = some (.slice UB ia.length q1bc) := (hrgp.alloc _).cell 1
        have lq12 : (w10.alloc (.cells #[.slice VA pb.length q2ac, .slice VB ib.length q2bc, .slice VC cb.length q2cc] 25)).cell? ⟨gp, 2, none⟩ = some (.slice UC ca.length q1cc) := (hrgp.alloc _).cell 2
        go_wp2_with fail
        clear a0 a1 a2 b0 b1 b2 x0 x1 x2 y0 y1 y2 z0 z1 z2 q10 q11 q12
        clear la0 la1 la2 lb0 lb1 lb2 lx0 lx1 lx2 ly0 ly1 ly2 lz0 lz1 lz2 lq10 lq11 lq12
        have hzgq : (w10.alloc (.cells #[.slice VA pb.length q2ac, .slice VB ib.length q2bc, .slice VC cb.length q2cc] 25)).heap.size = gq + 1 := by simp [hgq]
        clear hgq
        generalize w10.alloc (.cells #[.slice VA pb.length q2ac, .slice VB ib.length q2bc, .slice VC cb.length q2cc] 25) = w11 at *
        clear hzgq
        replace hra := hra.keep hl
        replace hrb := hrb.keep hl
        replace hA := hA.below hl
        replace hB := hB.below hl
        replace hX0 := hX0.below hl
        replace hrgx := hrgx.keep hl
        replace hY0 := hY0.below hl
        replace hrgy := hrgy.keep hl
        replace hZ0 := hZ0.below hl
        replace hrgz := hrgz.keep hl
        replace hQ10 := hQ10.below hl
        replace hrgp := hrgp.keep hl
        replace hQ20 := hQ20.below hl
        replace BB : Below w.heap.size w w11 := BB.trans (hl.mono BB.size)
        clear hl
        refine (same_any _ _ _ _ _ _ pa ia ca pa ia ca _ hQ10 hA).mono ?_
        rw [sameB_refl]
        rintro e w12 ⟨rfl, hb⟩
        replace hra := hra.keep hb
        replace hrb := hrb.keep hb
        replace hA := hA.below hb
        replace hB := hB.below hb
        replace hX0 := hX0.below hb
        replace hrgx := hrgx.keep hb
        replace hY0 := hY0.below hb
        replace hrgy := hrgy.keep hb
        replace hZ0 := hZ0.below hb
        replace hrgz := hrgz.keep hb
        replace hQ10 := hQ10.below hb
        replace hrgp := hrgp.keep hb
        replace hQ20 := hQ20.below hb
        replace hrgq := hrgq.keep hb
        replace BB : Below w.heap.size w w12 := BB.trans (hb.mono BB.size)
        clear hb
        have a0 : w12.cell? ⟨w.heap.size, 0, none⟩ = some (.slice X pa.length cX) := hra.cell 0
        have a1 : w12.cell? ⟨w.heap.size, 1, none⟩ = some (.slice Y ia.length cY) := hra.cell 1
        have a2 : w12.cell? ⟨w.heap.size, 2, none⟩ = some (.slice Z ca.length cZ) := hra.cell 2
        have b0 : w12.cell? ⟨w.heap.size + 1, 0, none⟩ = some (.slice X2 pb.length cX2) := hrb.cell 0
        have b1 : w12.cell? ⟨w.heap.size + 1, 1, none⟩ = some (.slice Y2 ib.length cY2) := hrb.cell 1
        have b2 : w12.cell? ⟨w.heap.size + 1, 2, none⟩ = some (.slice Z2 cb.length cZ2) := hrb.cell 2
        have x0 : w12.cell? ⟨gx, 0, none⟩ = some (.slice XA (onZ E1 pa).length xac) := hrgx.cell 0
        have x1 : w12.cell? ⟨gx, 1, none⟩ = some (.slice XB (onZ E1 ia).length xbc) := hrgx.cell 1
        have x2 : w12.cell? ⟨gx, 2, none⟩ = some (.slice XC (onZ E1 (merC pa ia ca pa ia ca)).length xcc) := hrgx.cell 2
        have y0 : w12.cell? ⟨gy, 0, none⟩ = some (.slice YA (uni pa pb).length yac) := hrgy.cell 0
        have y1 : w12.cell? ⟨gy, 1, none⟩ = some (.slice YB (uni ia ib).length ybc) := hrgy.cell 1
        have y2 : w12.cell? ⟨gy, 2, none⟩ = some (.slice YC (merC pa ia ca pb ib cb).length ycc) := hrgy.cell 2
        have z0 : w12.cell? ⟨gz, 0, none⟩ = some (.slice ZA (uni pa pb).length zac) := hrgz.cell 0
        have z1 : w12.cell? ⟨gz, 1, none⟩ = some (.slice ZB (uni ia ib).length zbc) := hrgz.cell 1
        have z2 : w12.cell? ⟨gz, 2, none⟩ = some (.slice ZC (merC pa ia ca pb ib cb).length zcc) := hrgz.cell 2
        have q10 : w12.cell? ⟨gp, 0, none⟩ = some (.slice UA pa.length q1ac) := hrgp.cell 0
        have q11 : w12.cell? ⟨gp, 1, none⟩ = some (.slice UB ia.length q1bc) := hrgp.cell 1
        have q12 : w12.cell? ⟨gp, 2, none⟩ = some (.slice UC ca.length q1cc) := hrgp.cell 2
        have q20 : w12.cell? ⟨gq, 0, none⟩ = some (.slice VA pb.length q2ac) := hrgq.cell 0
        have q21 : w12.cell? ⟨gq, 1, none⟩ = some (.slice VB ib.length q2bc) := hrgq.cell 1
        have q22 : w12.cell? ⟨gq, 2, none⟩ = some (.slice VC cb.length q2cc) := hrgq.cell 2
        go_wp2_with fail
        clear a0 a1 a2 b0 b1 b2 x0 x1 x2 y0 y1 y2 z0 z1 z2 q10 q11 q12 q20 q21 q22
        refine (same_any _ _ _ _ _ _ pb ib cb pb ib cb _ hQ20 hB).mono ?_
        rw [sameB_refl]
        rintro e w13 ⟨rfl, hb⟩
        replace hra := hra.keep hb
        replace hrb := hrb.keep hb
        replace hA := hA.below hb
        replace hB := hB.below hb
        replace hX0 := hX0.below hb
        replace hrgx := hrgx.keep hb
        replace hY0 := hY0.below hb
        replace hrgy := hrgy.keep hb
        replace hZ0 := hZ0.below hb
        replace hrgz := hrgz.keep hb
        replace hQ10 := hQ10.below hb
        replace hrgp := hrgp.keep hb
        replace hQ20 := hQ20.below hb
        replace hrgq := hrgq.keep hb
        replace BB : Below w.heap.size w w13 := BB.trans (hb.mono BB.size)
        clear hb
        have a0 : w13.cell? ⟨w.heap.size, 0, none⟩ = some (.slice X pa.length cX) := hra.cell 0
        have a1 : w13.cell? ⟨w.heap.size, 1, none⟩ = some (.slice Y ia.length cY) := hra.cell 1
        have a2 : w13.cell? ⟨w.heap.size, 2, none⟩ = some (.slice Z ca.length cZ) := hra.cell 2
        have b0 : w13.cell? ⟨w.heap.size + 1, 0, none⟩ = some (.slice X2 pb.length cX2) := hrb.cell 0
        have b1 : w13.cell? ⟨w.heap.size + 1, 1, none⟩ = some (.slice Y2 ib.length cY2) := hrb.cell 1
        have b2 : w13.cell? ⟨w.heap.size + 1, 2, none⟩ = some (.slice Z2 cb.length cZ2) := hrb.cell 2
        have x0 : w13.cell? ⟨gx, 0, none⟩ = some (.slice XA (onZ E1 pa).length xac) := hrgx.cell 0
        have x1 : w13.cell? ⟨gx, 1, none⟩ = some (.slice XB (onZ E1 ia).length xbc) := hrgx.cell 1
        have x2 : w13.cell? ⟨gx, 2, none⟩ = some (.slice XC (onZ E1 (merC pa ia ca pa ia ca)).length xcc) := hrgx.cell 2
        have y0 : w13.cell? ⟨gy, 0, none⟩ = some (.slice YA (uni pa pb).length yac) := hrgy.cell 0
        have y1 : w13.cell? ⟨gy, 1, none⟩ = some (.slice YB (uni ia ib).length ybc) := hrgy.cell 1
        have y2 : w13.cell? ⟨gy, 2, none⟩ = some (.slice YC (merC pa ia ca pb ib cb).length ycc) := hrgy.cell 2
        have z0 : w13.cell? ⟨gz, 0, none⟩ = some (.slice ZA (uni pa pb).length zac) := hrgz.cell 0
        have z1 : w13.cell? ⟨gz, 1, none⟩ = some (.slice ZB (uni ia ib).length zbc) := hrgz.cell 1
        have z2 : w13.cell? ⟨gz, 2, none⟩ = some (.slice ZC (merC pa ia ca pb ib cb).length zcc) := hrgz.cell 2
        have q10 : w13.cell? ⟨gp, 0, none⟩ = some (.slice UA pa.length q1ac) := hrgp.cell 0
        have q11 : w13.cell? ⟨gp, 1, none⟩ = some (.slice UB ia.length q1bc) := hrgp.cell 1
        have q12 : w13.cell? ⟨gp, 2, none⟩ = some (.slice UC ca.length q1cc) := hrgp.cell 2
        have q20 : w13.cell? ⟨gq, 0, none⟩ = some (.slice VA pb.length q2ac) := hrgq.cell 0
        have q21 : w13.cell? ⟨gq, 1, none⟩ = some (.slice VB ib.length q2bc) := hrgq.cell 1
        have q22 : w13.cell? ⟨gq, 2, none⟩ = some (.slice VC cb.length q2cc) := hrgq.cell 2
        go_wp2_with fail
        clear a0 a1 a2 b0 b1 b2 x0 x1 x2 y0 y1 y2 z0 z1 z2 q10 q11 q12 q20 q21 q22
        refine (awake_any _).mono ?_
        rintro e w99 ⟨rfl, hb⟩
        go_wp2_with fail
        go_ret
        exact ⟨rfl, BB.trans (hb.mono BB.size)⟩
      case neg =>
        have HN2 := Lib.hid e2
        rw [onZ_bad e2, onZ_bad e2, onZ_bad e2] at hY
        generalize hE2 : merE pa ia ca pb ib cb = E2 at *
        have HE2 := Lib.hid hE2
        clear hE2 e2
        have hY0 := hY
        obtain ⟨⟨YA, yac, rfl, _, _, _⟩, ⟨YB, ybc, rfl, _, _, _⟩, ⟨YC, ycc, _, rfl, _, _, _, _⟩⟩ := hY
        simp only [List.length_nil] at hY0 ⊢
        obtain ⟨gy, hgy⟩ : ∃ g, w3.heap.size = g := ⟨_, rfl⟩
        have hrgy : Row (w3.alloc (.cells #[.slice YA 0 yac, .slice YB 0 ybc, .slice YC 0 ycc] 25)) gy 25 [.slice YA 0 yac, .slice YB 0 ybc, .slice YC 0 ycc] := row_at hgy
        have hl := lit_below w3 (.cells #[.slice YA 0 yac, .slice YB 0 ybc, .slice YC 0 ycc] 25)
        have a0 : w3.cell? ⟨w.heap.size, 0, none⟩ = some (.slice X pa.length cX) := hra.cell 0
        have a1 : w3.cell? ⟨w.heap.size, 1, none⟩ = some (.slice Y ia.length cY) := hra.cell 1
        have a2 : w3.cell? ⟨w.heap.size, 2, none⟩ = some (.slice Z ca.length cZ) := hra.cell 2
        have b0 : w3.cell? ⟨w.heap.size + 1, 0, none⟩ = some (.slice X2 pb.length cX2) := hrb.cell 0
        have b1 : w3.cell? ⟨w.heap.size + 1, 1, none⟩ = some (.slice Y2 ib.length cY2) := hrb.cell 1
        have b2 : w3.cell? ⟨w.heap.size + 1, 2, none⟩ = some (.slice Z2 cb.length cZ2) := hrb.cell 2
        have x0 : w3.cell? ⟨gx, 0, none⟩ = some (.slice XA (onZ E1 pa).length xac) := hrgx.cell 0
        have x1 : w3.cell? ⟨gx, 1, none⟩ = some (.slice XB (onZ E1 ia).length xbc) := hrgx.cell 1
        have x2 : w3.cell? ⟨gx, 2, none⟩ = some (.slice XC (onZ E1 (merC pa ia ca pa ia ca)).length xcc) := hrgx.cell 2
        have la0 : (w3.alloc (.cells #[.slice YA 0 yac, .slice YB 0 ybc, .slice YC 0 ycc] 25)).cell? ⟨w.heap.size, 0, none⟩ = some (.slice X pa.length cX) := (hra.alloc _).cell 0
        have la1 : (w3.alloc (.cells #[.slice YA 0 yac, .slice YB 0 ybc, .slice YC 0 ycc] 25)).cell? ⟨w.heap.size, 1, none⟩ = some (.slice Y ia.length cY) := (hra.alloc _).cell 1
        have la2 : (w3.alloc (.cells #[.slice YA 0 yac, .slice YB 0 ybc, .slice YC 0 ycc] 25)).cell? ⟨w.heap.size, 2, none⟩ = some (.slice Z ca.length cZ) := (hra.alloc _).cell 2
        have lb0 : (w3.alloc (.cells #[.slice YA 0 yac, .slice YB 0 ybc, .slice YC 0 ycc] 25)).cell? ⟨w.heap.size + 1, 0, none⟩ = some (.slice X2 pb.length cX2) := (hrb.alloc _).cell 0
        have lb1 : (w3.alloc (.cells #[.slice YA 0 yac, .slice YB 0 ybc, .slice YC 0 ycc] 25)).cell? ⟨w.heap.size + 1, 1, none⟩ = some (.slice Y2 ib.length cY2) := (hrb.alloc _).cell 1
        have lb2 : (w3.alloc (.cells #[.slice YA 0 yac, .slice YB 0 ybc, .slice YC 0 ycc] 25)).cell? ⟨w.heap.size + 1, 2, none⟩ = some (.slice Z2 cb.length cZ2) := (hrb.alloc _).cell 2
        have lx0 : (w3.alloc (.cells #[.slice YA 0 yac, .slice YB 0 ybc, .slice YC 0 ycc] 25)).cell? ⟨gx, 0, none⟩ = some (.slice XA (onZ E1 pa).length xac) := (hrgx.alloc _).cell 0
        have lx1 : (w3.alloc (.cells #[.slice YA 0 yac, .slice YB 0 ybc, .slice YC 0 ycc] 25)).cell? ⟨gx, 1, none⟩ = some (.slice XB (onZ E1 ia).length xbc) := (hrgx.alloc _).cell 1
        have lx2 : (w3.alloc (.cells #[.slice YA 0 yac, .slice YB 0 ybc, .slice YC 0 ycc] 25)).cell? ⟨gx, 2, none⟩ = some (.slice XC (onZ E1 (merC pa ia ca pa ia ca)).length xcc) := (hrgx.alloc _).cell 2
        go_wp2_with fail
        clear a0 a1 a2 b0 b1 b2 x0 x1 x2
        clear la0 la1 la2 lb0 lb1 lb2 lx0 lx1 lx2
        have hzgy : (w3.alloc (.cells #[.slice YA 0 yac, .slice YB 0 ybc, .slice YC 0 ycc] 25)).heap.size = gy + 1 := by simp [hgy]
        clear hgy
        generalize w3.alloc (.cells #[.slice YA 0 yac, .slice YB 0 ybc, .slice YC 0 ycc] 25) = w4 at *
        clear hzgy
        replace hra := hra.keep hl
        replace hrb := hrb.keep hl
        replace hA := hA.below hl
        replace hB := hB.below hl
        replace hX0 := hX0.below hl
        replace hrgx := hrgx.keep hl
        replace hY0 := hY0.below hl
        replace BB : Below w.heap.size w w4 := BB.trans (hl.mono BB.size)
        clear hl
        refine (merge_any _ _ _ _ _ _ pb ib cb pa ia ca _ hB hA wpb wib wpa wia (by omega) (by omega)).mono ?_
        rintro e w5 ⟨tp, ti, tc, rfl, hZ, hb⟩
        replace hra := hra.keep hb
        replace hrb := hrb.keep hb
        replace hA := hA.below hb
        replace hB := hB.below hb
        replace hX0 := hX0.below hb
        replace hrgx := hrgx.keep hb
        replace hY0 := hY0.below hb
        replace hrgy := hrgy.keep hb
        replace BB : Below w.heap.size w w5 := BB.trans (hb.mono BB.size)
        clear hb
        rw [HC.out] at hZ
        rw [HC.out]
        rw [onZ_bad HN2.out, onZ_bad HN2.out, onZ_bad HN2.out] at hZ
        have hZ0 := hZ
        obtain ⟨⟨ZA, zac, rfl, _, _, _⟩, ⟨ZB, zbc, rfl, _, _, _⟩, ⟨ZC, zcc, _, rfl, _, _, _, _⟩⟩ := hZ
        simp only [List.length_nil] at hZ0 ⊢
        have ne2 : (E2 != E2) = false := by simp
        have nz2 : (E2 != 0) = true := by rw [bne_iff_ne]; exact HN2.out
        obtain ⟨gz, hgz⟩ : ∃ g, w5.heap.size = g := ⟨_, rfl⟩
        have hrgz : Row (w5.alloc (.cells #[.slice ZA 0 zac, .slice ZB 0 zbc, .slice ZC 0 zcc] 25)) gz 25 [.slice ZA 0 zac, .slice ZB 0 zbc, .slice ZC 0 zcc] := row_at hgz
        have hl := lit_below w5 (.cells #[.slice ZA 0 zac, .slice ZB 0 zbc, .slice ZC 0 zcc] 25)
        have a0 : w5.cell? ⟨w.heap.size, 0, none⟩ = some (.slice X pa.length cX) := hra.cell 0
        have a1 : w5.cell? ⟨w.heap.size, 1, none⟩ = some (.slice Y ia.length cY) := hra.cell 1
        have a2 : w5.cell? ⟨w.heap.size, 2, none⟩ = some (.slice Z ca.length cZ) := hra.cell 2
        have b0 : w5.cell? ⟨w.heap.size + 1, 0, none⟩ = some (.slice X2 pb.length cX2) := hrb.cell 0
        have b1 : w5.cell? ⟨w.heap.size + 1, 1, none⟩ = some (.slice Y2 ib.length cY2) := hrb.cell 1
        have b2 : w5.cell? ⟨w.heap.size + 1, 2, none⟩ = some (.slice Z2 cb.length cZ2) := hrb.cell 2
        have x0 : w5.cell? ⟨gx, 0, none⟩ = some (.slice XA (onZ E1 pa).length xac) := hrgx.cell 0
        have x1 : w5.cell? ⟨gx, 1, none⟩ = some (.slice XB (onZ E1 ia).length xbc) := hrgx.cell 1
        have x2 : w5.cell? ⟨gx, 2, none⟩ = some (.slice XC (onZ E1 (merC pa ia ca pa ia ca)).length xcc) := hrgx.cell 2
        have y0 : w5.cell? ⟨gy, 0, none⟩ = some (.slice YA 0 yac) := hrgy.cell 0
        have y1 : w5.cell? ⟨gy, 1, none⟩ = some (.slice YB 0 ybc) := hrgy.cell 1
        have y2 : w5.cell? ⟨gy, 2, none⟩ = some (.slice YC 0 ycc) := hrgy.cell 2
        have la0 : (w5.alloc (.cells #[.slice ZA 0 zac, .slice ZB 0 zbc, .slice ZC 0 zcc] 25)).cell? ⟨w.heap.size, 0, none⟩ = some (.slice X pa.length cX) := (hra.alloc _).cell 0
        have la1 : (w5.alloc (.cells #[.slice ZA 0 zac, .slice ZB 0 zbc, .slice ZC 0 zcc] 25)).cell? ⟨w.heap.size, 1, none⟩ = some (.slice Y ia.length cY) := (hra.alloc _).cell 1
        have la2 : (w5.alloc (.cells #[.slice ZA 0 zac, .slice ZB 0 zbc, .slice ZC 0 zcc] 25)).cell? ⟨w.heap.size, 2, none⟩ = some (.slice Z ca.length cZ) := (hra.alloc _).cell 2
        have lb0 : (w5.alloc (.cells #[.slice ZA 0 zac, .slice ZB 0 zbc, .slice ZC 0 zcc] 25)).cell? ⟨w.heap.size + 1, 0, none⟩ = some (.slice X2 pb.length cX2) := (hrb.alloc _).cell 0
        have lb1 : (w5.alloc (.cells #[.slice ZA 0 zac, .slice ZB 0 zbc, .slice ZC 0 zcc] 25)).cell? ⟨w.heap.size + 1, 1, none⟩ = some (.slice Y2 ib.length cY2) := (hrb.alloc _).cell 1
        have lb2 : (w5.alloc (.cells #[.slice ZA 0 zac, .slice ZB 0 zbc, .slice ZC 0 zcc] 25)).cell? ⟨w.heap.size + 1, 2, none⟩ = some (.slice Z2 cb.length cZ2) := (hrb.alloc _).cell 2
        have lx0 : (w5.alloc (.cells #[.slice ZA 0 zac, .slice ZB 0 zbc, .slice ZC 0 zcc] 25)).cell? ⟨gx, 0, none⟩ = some (.slice XA (onZ E1 pa).length xac) := (hrgx.alloc _).cell 0
        have lx1 : (w5.alloc (.cells #[.slice ZA 0 zac, .slice ZB 0 zbc, .slice ZC 0 zcc] 25)).cell? ⟨gx, 1, none⟩ = some (.slice XB (onZ E1 ia).length xbc) := (hrgx.alloc _).cell 1
        have lx2 : (w5.alloc (.cells #[.slice ZA 0 zac, .slice ZB 0 zbc, .slice ZC 0 zcc] 25)).cell? ⟨gx, 2, none⟩ = some (.slice XC (onZ E1 (merC pa ia ca pa ia ca)).length xcc) := (hrgx.alloc _).cell 2
        have ly0 : (w5.alloc (.cells #[.slice ZA 0 zac, .slice ZB 0 zbc, .slice ZC 0 zcc] 25)).cell? ⟨gy, 0, none⟩ = some (.slice YA 0 yac) := (hrgy.alloc _).cell 0
        have ly1 : (w5.alloc (.cells #[.slice ZA 0 zac, .slice ZB 0 zbc, .slice ZC 0 zcc] 25)).cell? ⟨gy, 1, none⟩ = some (.slice YB 0 ybc) := (hrgy.alloc _).cell 1
        have ly2 : (w5.alloc (.cells #[.slice ZA 0 zac, .slice ZB 0 zbc, .slice ZC 0 zcc] 25)).cell? ⟨gy, 2, none⟩ = some (.slice YC 0 ycc) := (hrgy.alloc _).cell 2
        go_wp2_with fail
        clear a0 a1 a2 b0 b1 b2 x0 x1 x2 y0 y1 y2
        clear la0 la1 la2 lb0 lb1 lb2 lx0 lx1 lx2 ly0 ly1 ly2
        have hzgz : (w5.alloc (.cells #[.slice ZA 0 zac, .slice ZB 0 zbc, .slice ZC 0 zcc] 25)).heap.size = gz + 1 := by simp [hgz]
        clear hgz
        generalize w5.alloc (.cells #[.slice ZA 0 zac, .slice ZB 0 zbc, .slice ZC 0 zcc] 25) = w6 at *
        clear hzgz
        replace hra := hra.keep hl
        replace hrb := hrb.keep hl
        replace hA := hA.below hl
        replace hB := hB.below hl
        replace hX0 := hX0.below hl
        replace hrgx := hrgx.keep hl
        replace hY0 := hY0.below hl
        replace hrgy := hrgy.keep hl
        replace hZ0 := hZ0.below hl
        replace BB : Below w.heap.size w w6 := BB.trans (hl.mono BB.size)
        clear hl
        refine (same_any _ _ _ _ _ _ ([] : List Int) ([] : List Int) ([] : List (List Int)) ([] : List Int) ([] : List Int) ([] : List (List Int)) _ hY0 hZ0).mono ?_
        rw [sameB_refl]
        rintro e w7 ⟨rfl, hb⟩
        replace hra := hra.keep hb
        replace hrb := hrb.keep hb
        replace hA := hA.below hb
        replace hB := hB.below hb
        replace hX0 := hX0.below hb
        replace hrgx := hrgx.keep hb
        replace hY0 := hY0.below hb
        replace hrgy := hrgy.keep hb
        replace hZ0 := hZ0.below hb
        replace hrgz := hrgz.keep hb
        replace BB : Below w.heap.size w w7 := BB.trans (hb.mono BB.size)
        clear hb
        have a0 : w7.cell? ⟨w.heap.size, 0, none⟩ = some (.slice X pa.length cX) := hra.cell 0
        have a1 : w7.cell? ⟨w.heap.size, 1, none⟩ = some (.slice Y ia.length cY) := hra.cell 1
        have a2 : w7.cell? ⟨w.heap.size, 2, none⟩ = some (.slice Z ca.length cZ) := hra.cell 2
        have b0 : w7.cell? ⟨w.heap.size + 1, 0, none⟩ = some (.slice X2 pb.length cX2) := hrb.cell 0
        have b1 : w7.cell? ⟨w.heap.size + 1, 1, none⟩ = some (.slice Y2 ib.length cY2) := hrb.cell 1
        have b2 : w7.cell? ⟨w.heap.size + 1, 2, none⟩ = some (.slice Z2 cb.length cZ2) := hrb.cell 2
        have x0 : w7.cell? ⟨gx, 0, none⟩ = some (.slice XA (onZ E1 pa).length xac) := hrgx.cell 0
        have x1 : w7.cell? ⟨gx, 1, none⟩ = some (.slice XB (onZ E1 ia).length xbc) := hrgx.cell 1
        have x2 : w7.cell? ⟨gx, 2, none⟩ = some (.slice XC (onZ E1 (merC pa ia ca pa ia ca)).length xcc) := hrgx.cell 2
        have y0 : w7.cell? ⟨gy, 0, none⟩ = some (.slice YA 0 yac) := hrgy.cell 0
        have y1 : w7.cell? ⟨gy, 1, none⟩ = some (.slice YB 0 ybc) := hrgy.cell 1
        have y2 : w7.cell? ⟨gy, 2, none⟩ = some (.slice YC 0 ycc) := hrgy.cell 2
        have z0 : w7.cell? ⟨gz, 0, none⟩ = some (.slice ZA 0 zac) := hrgz.cell 0
        have z1 : w7.cell? ⟨gz, 1, none⟩ = some (.slice ZB 0 zbc) := hrgz.cell 1
        have z2 : w7.cell? ⟨gz, 2, none⟩ = some (.slice ZC 0 zcc) := hrgz.cell 2
        go_wp2_with fail
        clear a0 a1 a2 b0 b1 b2 x0 x1 x2 y0 y1 y2 z0 z1 z2
        refine (awake_any _).mono ?_
        rintro e w99 ⟨rfl, hb⟩
        go_wp2_with fail
        go_ret
        exact ⟨rfl, BB.trans (hb.mono BB.size)⟩
namespace MatrixUnion
theorem own : ownKnob Try.prog.godebug = none := by kernel_rfl
theorem laidOut : laidOutB Try.prog = true := by kernel_rfl
theorem readable : ∀ t ∈ Try.f8.params.toList, Try.prog.readableRec t = true ∧ t < Try.prog.types.size := by
  intro t ht
  rw [Try.params8] at ht
  have ht' : t = 25 := by simp at ht; (try rcases ht with h | h); all_goals (subst_vars; simp)
  subst ht'
  exact ⟨by kernel_rfl, of_decide_eq_true (by kernel_rfl)⟩
theorem contract (H : Type) (enc : TypeId × Value → H) (W : World) (base : Nat) (args : Array Value) (ds gs : List (DataW H)) (before : List MemPlace)
    (hval : ∀ (j : Nat) t v, Try.f8.params[j]? = some t → args[j]? = some v → Value.okWide Try.prog W .any base t v)
    (hW : DataW.Whole enc Try.prog Try.f8.params.toList Rows.matrixUnionSpec.vars false W args.toList ds gs before) (hk : Rows.uptoSmall H (ds ++ gs) = true) :
    Calls Try.prog 8 args W fun e W' => ∃ v, e = .returned v ∧ Rows.matrixUnionSpec.post enc Try.prog Try.f8 false true false false W args v W' := by
  have hW' := hW
  obtain ⟨p, q, hA0, hV, rfl, hfz, hnd⟩ := hW
  have hA : DataW.TrodAll enc Try.prog W 0 (fun _ => true) true Try.f8.params.toList args.toList ds p := hA0
  rw [Try.params8] at hA hval
  obtain ⟨v0, vs0, d0, ds0, p0, q0, hargs, rfl, rfl, h0, r0⟩ := trodAll_cons hA
  obtain ⟨v1, vs1, d1, ds1, p1, q1, rfl, rfl, rfl, h1, r1⟩ := trodAll_cons r0
  obtain ⟨rfl, rfl, rfl⟩ := trodAll_nil r1
  obtain rfl : args = #[v0, v1] := by cases args; simp_all
  obtain ⟨rfl, rfl⟩ := trodVars_none hV
  obtain ⟨m10, m11, m12, z10, z11, z12, nm1, rfl, rfl, rfl, hz10, hz11, hz12⟩ := open_agg3 Try.underlying25 (by kernel_rfl) (show Try.prog.cellsOf 25 = 3 by kernel_rfl) (hval 0 25 v0 rfl rfl) h0
  obtain ⟨ps1, hps1, wps1, bps1⟩ := open_numsU Try.underlying22 Try.underlying3 (by kernel_rfl) hz10
  obtain ⟨is1, his1, wis1, bis1⟩ := open_numsU Try.underlying22 Try.underlying3 (by kernel_rfl) hz11
  obtain ⟨cs1, hcs1, bcs1⟩ := open_intsLU Try.underlying23 (by kernel_rfl) Try.underlying22 Try.underlying3 (by kernel_rfl) hz12
  obtain ⟨m20, m21, m22, z20, z21, z22, nm2, rfl, rfl, rfl, hz20, hz21, hz22⟩ := open_agg3 Try.underlying25 (by kernel_rfl) (show Try.prog.cellsOf 25 = 3 by kernel_rfl) (hval 1 25 v1 rfl rfl) h1
  obtain ⟨ps2, hps2, wps2, bps2⟩ := open_numsU Try.underlying22 Try.underlying3 (by kernel_rfl) hz20
  obtain ⟨is2, his2, wis2, bis2⟩ := open_numsU Try.underlying22 Try.underlying3 (by kernel_rfl) hz21
  obtain ⟨cs2, hcs2, bcs2⟩ := open_intsLU Try.underlying23 (by kernel_rfl) Try.underlying22 Try.underlying3 (by kernel_rfl) hz22
  have hk' := of_decide_eq_true hk
  simp only [List.append_nil, Rows.uptoBulkAll, Rows.uptoBulk] at hk'
  refine (union_all _ _ _ _ _ _ ps1 is1 cs1 ps2 is2 cs2 W ⟨hps1, his1, hcs1⟩ ⟨hps2, his2, hcs2⟩ wps1 wis1 wps2 wis2 (by omega) (by omega) (by omega) (by omega) (by omega) (by omega)).mono fun e W' ⟨he, hb⟩ => ⟨_, he, ?_⟩
  exact law_post laidOut readable rfl rfl Try.underlying4 (ok_one (by kernel_rfl) rfl (okWide_bool_mk Try.underlying4 _)) ⟨rfl, rfl, rfl⟩ hW' hb
set_option maxRecDepth 100000 in
theorem lifted (os : Os) (started : os.Started) (H : Type) (enc : TypeId × Value → H) (F : Stop.Interp) :
    ReturnsInHanded {} Try.checked os 8 .any ((Rows.OpenSpec.upto Rows.matrixUnionSpec).pre6 enc Try.prog Try.f8 Rows.matrixUnionUptoRow.domain false) (((Rows.OpenSpec.upto Rows.matrixUnionSpec).at F).post enc Try.prog Try.f8 false true false false) := by
  refine returnsInHanded_of_cond (C := Try.checked) (s := Rows.OpenSpec.upto Rows.matrixUnionSpec) (k := Rows.uptoSmall) rfl own started (by kernel_rfl) Try.func8
    (OpenSpec.witness (enc := enc) (C := Try.checked) (s := Rows.OpenSpec.upto Rows.matrixUnionSpec) (k := Rows.uptoSmall) rfl false ⟨#[], #[.agg #[.slice none 0 0, .slice none 0 0, .slice none 0 0], .agg #[.slice none 0 0, .slice none 0 0, .slice none 0 0]], []⟩ 8 (by kernel_rfl) (by kernel_rfl) (by kernel_rfl)
      (x := ([.agg [.nil, .nil, .nil], .agg [.nil, .nil, .nil]], [], [])) (by kernel_rfl) rfl (by kernel_rfl)) ?_
  intro W base args ds gs before hval hW _ hk _
  exact contract H enc W base args ds gs before hval hW hk
theorem proved : Rows.MatrixUnionUptoSaid :=
  OpenClaim.holds_of_cond 8 Try.f8 rfl rfl rfl rfl rfl rfl rfl ⟨rfl, rfl, rfl, rfl, rfl⟩ rfl rfl rfl rfl rfl (by kernel_rfl) Try.func8 (by kernel_rfl)
    (of_decide_eq_true (by kernel_rfl)) (by unfold Func.isWrapper; first | (rw [if_pos (by decide +kernel)]; kernel_rfl) | (rw [if_neg (by decide +kernel)]; exact ⟨rfl, rfl⟩))
    (fun os started H enc _ F => lifted os started H enc F)
#print axioms proved
end MatrixUnion
end Go.Proofs.Ytgdngopemlajjaa
