/- For every two matrices, of bulk at most 1048576 together, the law MatrixMerges returns true. -/
import Derived.Test.YtgdngopemlajjaaMtJ
import Derived.Test.YtgdngopemlajjaaOpenL
import Derived.Test.YtgdngopemlajjaaRows
import Derived.Test.YtgdngopemlajjaaMtR
import Derived.Test.YtgdngopemlajjaaRtF
import Derived.Test.YtgdngopemlajjaaOpenU
namespace Go.Proofs.Ytgdngopemlajjaa
open Go.RowKit Go.ChangeShapes Go.WideShapes Go.ChangeAt Go.Joins
set_option linter.unusedVariables false

set_option maxRecDepth 100000 in
set_option maxHeartbeats 8000000 in
theorem merges_all (pv iv cv pv2 iv2 cv2 : Value) (pa ia : List Int) (ca : List (List Int)) (pb ib : List Int) (cb : List (List Int)) (w : World) (hA : Mat w pv iv cv pa ia ca) (hB : Mat w pv2 iv2 cv2 pb ib cb)
    (wpa : I64 pa) (wia : I64 ia) (wpb : I64 pb) (wib : I64 ib) (l1 : pa.length ≤ 1048576) (l2 : ia.length ≤ 1048576) (l3 : pb.length ≤ 1048576) (l4 : ib.length ≤ 1048576) :
    Calls Try.prog 5 #[.agg #[pv, iv, cv], .agg #[pv2, iv2, cv2]] w fun e w' => e = .returned (.bool true) ∧ Below w.heap.size w w' := by
  obtain ⟨hp, hi, hc⟩ := hA
  obtain ⟨hp2, hi2, hc2⟩ := hB
  have hA0 : Mat w _ _ _ pa ia ca := ⟨hp, hi, hc⟩
  have hB0 : Mat w _ _ _ pb ib cb := ⟨hp2, hi2, hc2⟩
  obtain ⟨X, cX, rfl, x1, x2, x3⟩ := hp
  obtain ⟨Y, cY, rfl, y1, y2, y3⟩ := hi
  obtain ⟨Z, cZ, us, rfl, z1, z2, hs, hu⟩ := hc
  obtain ⟨X2, cX2, rfl, x21, x22, x23⟩ := hp2
  obtain ⟨Y2, cY2, rfl, y21, y22, y23⟩ := hi2
  obtain ⟨Z2, cZ2, us2, rfl, z21, z22, hs2, hu2⟩ := hc2
  clear hu hs x3 y3 hu2 hs2 x23 y23
  have hra := (Row.new w 25 [.slice X pa.length cX, .slice Y ia.length cY, .slice Z ca.length cZ]).alloc (.cells #[.slice X2 pb.length cX2, .slice Y2 ib.length cY2, .slice Z2 cb.length cZ2] 25)
  have hrb := Row.new (w.alloc (.cells #[.slice X pa.length cX, .slice Y ia.length cY, .slice Z ca.length cZ] 25)) 25 [.slice X2 pb.length cX2, .slice Y2 ib.length cY2, .slice Z2 cb.length cZ2]
  rw [show (w.alloc (.cells #[.slice X pa.length cX, .slice Y ia.length cY, .slice Z ca.length cZ] 25)).heap.size = w.heap.size + 1 by simp] at hrb
  have BB : Below w.heap.size w ((w.alloc (.cells #[.slice X pa.length cX, .slice Y ia.length cY, .slice Z ca.length cZ] 25)).alloc (.cells #[.slice X2 pb.length cX2, .slice Y2 ib.length cY2, .slice Z2 cb.length cZ2] 25)) := lit_more (lit_below _ _) _
  have hA := hA0.below BB
  have hB := hB0.below BB
  clear hA0 hB0
  go_enter Try.func5, Try.ntmps5
  go_wp2_with fail
  generalize hW : (w.alloc (.cells #[.slice X pa.length cX, .slice Y ia.length cY, .slice Z ca.length cZ] 25)).alloc (.cells #[.slice X2 pb.length cX2, .slice Y2 ib.length cY2, .slice Z2 cb.length cZ2] 25) = w0 at *
  clear hW
  refine (merge_any _ _ _ _ _ _ pa ia ca pb ib cb _ hA hB wpa wia wpb wib (by omega) (by omega)).mono ?_
  rintro e w1 ⟨xp, xi, xc, rfl, hX, hb⟩
  replace hra := hra.keep hb
  replace hrb := hrb.keep hb
  replace hA := hA.below hb
  replace hB := hB.below hb
  replace BB : Below w.heap.size w w1 := BB.trans (hb.mono BB.size)
  clear hb
  generalize hEE : merE pa ia ca pb ib cb = E at *
  have HE := Lib.hid hEE
  clear hEE
  have hee : (E == E) = true := by simp
  have hX0 := hX
  obtain ⟨⟨UA, xac, rfl, _, _, _⟩, ⟨UB, xbc, rfl, _, _, _⟩, ⟨UC, xcc, _, rfl, _, _, _, _⟩⟩ := hX
  obtain ⟨gx, hgx⟩ : ∃ g, w1.heap.size = g := ⟨_, rfl⟩
  have hrgx : Row (w1.alloc (.cells #[.slice UA (onZ E (uni pa pb)).length xac, .slice UB (onZ E (uni ia ib)).length xbc, .slice UC (onZ E (merC pa ia ca pb ib cb)).length xcc] 25)) gx 25 [.slice UA (onZ E (uni pa pb)).length xac, .slice UB (onZ E (uni ia ib)).length xbc, .slice UC (onZ E (merC pa ia ca pb ib cb)).length xcc] := row_at hgx
  have hl := lit_below w1 (.cells #[.slice UA (onZ E (uni pa pb)).length xac, .slice UB (onZ E (uni ia ib)).length xbc, .slice UC (onZ E (merC pa ia ca pb ib cb)).length xcc] 25)
  have a0 : w1.cell? ⟨w.heap.size, 0, none⟩ = some (.slice X pa.length cX) := hra.cell 0
  have a1 : w1.cell? ⟨w.heap.size, 1, none⟩ = some (.slice Y ia.length cY) := hra.cell 1
  have a2 : w1.cell? ⟨w.heap.size, 2, none⟩ = some (.slice Z ca.length cZ) := hra.cell 2
  have b0 : w1.cell? ⟨w.heap.size + 1, 0, none⟩ = some (.slice X2 pb.length cX2) := hrb.cell 0
  have b1 : w1.cell? ⟨w.heap.size + 1, 1, none⟩ = some (.slice Y2 ib.length cY2) := hrb.cell 1
  have b2 : w1.cell? ⟨w.heap.size + 1, 2, none⟩ = some (.slice Z2 cb.length cZ2) := hrb.cell 2
  have la0 : (w1.alloc (.cells #[.slice UA (onZ E (uni pa pb)).length xac, .slice UB (onZ E (uni ia ib)).length xbc, .slice UC (onZ E (merC pa ia ca pb ib cb)).length xcc] 25)).cell? ⟨w.heap.size, 0, none⟩ = some (.slice X pa.length cX) := (hra.alloc _).cell 0
  have la1 : (w1.alloc (.cells #[.slice UA (onZ E (uni pa pb)).length xac, .slice UB (onZ E (uni ia ib)).length xbc, .slice UC (onZ E (merC pa ia ca pb ib cb)).length xcc] 25)).cell? ⟨w.heap.size, 1, none⟩ = some (.slice Y ia.length cY) := (hra.alloc _).cell 1
  have la2 : (w1.alloc (.cells #[.slice UA (onZ E (uni pa pb)).length xac, .slice UB (onZ E (uni ia ib)).length xbc, .slice UC (onZ E (merC pa ia ca pb ib cb)).length xcc] 25)).cell? ⟨w.heap.size, 2, none⟩ = some (.slice Z ca.length cZ) := (hra.alloc _).cell 2
  have lb0 : (w1.alloc (.cells #[.slice UA (onZ E (uni pa pb)).length xac, .slice UB (onZ E (uni ia ib)).length xbc, .slice UC (onZ E (merC pa ia ca pb ib cb)).length xcc] 25)).cell? ⟨w.heap.size + 1, 0, none⟩ = some (.slice X2 pb.length cX2) := (hrb.alloc _).cell 0
  have lb1 : (w1.alloc (.cells #[.slice UA (onZ E (uni pa pb)).length xac, .slice UB (onZ E (uni ia ib)).length xbc, .slice UC (onZ E (merC pa ia ca pb ib cb)).length xcc] 25)).cell? ⟨w.heap.size + 1, 1, none⟩ = some (.slice Y2 ib.length cY2) := (hrb.alloc _).cell 1
  have lb2 : (w1.alloc (.cells #[.slice UA (onZ E (uni pa pb)).length xac, .slice UB (onZ E (uni ia ib)).length xbc, .slice UC (onZ E (merC pa ia ca pb ib cb)).length xcc] 25)).cell? ⟨w.heap.size + 1, 2, none⟩ = some (.slice Z2 cb.length cZ2) := (hrb.alloc _).cell 2
  go_wp2_with fail
  clear a0 a1 a2 b0 b1 b2
  clear la0 la1 la2 lb0 lb1 lb2
  clear hgx
  generalize (w1.alloc (.cells #[.slice UA (onZ E (uni pa pb)).length xac, .slice UB (onZ E (uni ia ib)).length xbc, .slice UC (onZ E (merC pa ia ca pb ib cb)).length xcc] 25)) = w2 at *
  replace hra := hra.keep hl
  replace hrb := hrb.keep hl
  replace hA := hA.below hl
  replace hB := hB.below hl
  replace hX0 := hX0.below hl
  replace BB : Below w.heap.size w w2 := BB.trans (hl.mono BB.size)
  clear hl
  refine (rmerge_any _ _ _ _ _ _ pa ia ca pb ib cb _ hA hB (by omega) (by omega) (by omega)).mono ?_
  rintro e w3 ⟨yp, yi, yc, rfl, hY, hb⟩
  replace hra := hra.keep hb
  replace hrb := hrb.keep hb
  replace hA := hA.below hb
  replace hB := hB.below hb
  replace hX0 := hX0.below hb
  replace hrgx := hrgx.keep hb
  replace BB : Below w.heap.size w w3 := BB.trans (hb.mono BB.size)
  clear hb
  rw [HE.out] at hY
  rw [HE.out]
  have hY0 := hY
  obtain ⟨⟨VA, yac, rfl, _, _, _⟩, ⟨VB, ybc, rfl, _, _, _⟩, ⟨VC, ycc, _, rfl, _, _, _, _⟩⟩ := hY
  obtain ⟨gy, hgy⟩ : ∃ g, w3.heap.size = g := ⟨_, rfl⟩
  have hrgy : Row (w3.alloc (.cells #[.slice VA (onZ E (uni pa pb)).length yac, .slice VB (onZ E (uni ia ib)).length ybc, .slice VC (onZ E (merC pa ia ca pb ib cb)).length ycc] 25)) gy 25 [.slice VA (onZ E (uni pa pb)).length yac, .slice VB (onZ E (uni ia ib)).length ybc, .slice VC (onZ E (merC pa ia ca pb ib cb)).length ycc] := row_at hgy
  have hl := lit_below w3 (.cells #[.slice VA (onZ E (uni pa pb)).length yac, .slice VB (onZ E (uni ia ib)).length ybc, .slice VC (onZ E (merC pa ia ca pb ib cb)).length ycc] 25)
  have a0 : w3.cell? ⟨w.heap.size, 0, none⟩ = some (.slice X pa.length cX) := hra.cell 0
  have a1 : w3.cell? ⟨w.heap.size, 1, none⟩ = some (.slice Y ia.length cY) := hra.cell 1
  have a2 : w3.cell? ⟨w.heap.size, 2, none⟩ = some (.slice Z ca.length cZ) := hra.cell 2
  have b0 : w3.cell? ⟨w.heap.size + 1, 0, none⟩ = some (.slice X2 pb.length cX2) := hrb.cell 0
  have b1 : w3.cell? ⟨w.heap.size + 1, 1, none⟩ = some (.slice Y2 ib.length cY2) := hrb.cell 1
  have b2 : w3.cell? ⟨w.heap.size + 1, 2, none⟩ = some (.slice Z2 cb.length cZ2) := hrb.cell 2
  have x0 : w3.cell? ⟨gx, 0, none⟩ = some (.slice UA (onZ E (uni pa pb)).length xac) := hrgx.cell 0
  have x1 : w3.cell? ⟨gx, 1, none⟩ = some (.slice UB (onZ E (uni ia ib)).length xbc) := hrgx.cell 1
  have x2 : w3.cell? ⟨gx, 2, none⟩ = some (.slice UC (onZ E (merC pa ia ca pb ib cb)).length xcc) := hrgx.cell 2
  have la0 : (w3.alloc (.cells #[.slice VA (onZ E (uni pa pb)).length yac, .slice VB (onZ E (uni ia ib)).length ybc, .slice VC (onZ E (merC pa ia ca pb ib cb)).length ycc] 25)).cell? ⟨w.heap.size, 0, none⟩ = some (.slice X pa.length cX) := (hra.alloc _).cell 0
  have la1 : (w3.alloc (.cells #[.slice VA (onZ E (uni pa pb)).length yac, .slice VB (onZ E (uni ia ib)).length ybc, .slice VC (onZ E (merC pa ia ca pb ib cb)).length ycc] 25)).cell? ⟨w.heap.size, 1, none⟩ = some (.slice Y ia.length cY) := (hra.alloc _).cell 1
  have la2 : (w3.alloc (.cells #[.slice VA (onZ E (uni pa pb)).length yac, .slice VB (onZ E (uni ia ib)).length ybc, .slice VC (onZ E (merC pa ia ca pb ib cb)).length ycc] 25)).cell? ⟨w.heap.size, 2, none⟩ = some (.slice Z ca.length cZ) := (hra.alloc _).cell 2
  have lb0 : (w3.alloc (.cells #[.slice VA (onZ E (uni pa pb)).length yac, .slice VB (onZ E (uni ia ib)).length ybc, .slice VC (onZ E (merC pa ia ca pb ib cb)).length ycc] 25)).cell? ⟨w.heap.size + 1, 0, none⟩ = some (.slice X2 pb.length cX2) := (hrb.alloc _).cell 0
  have lb1 : (w3.alloc (.cells #[.slice VA (onZ E (uni pa pb)).length yac, .slice VB (onZ E (uni ia ib)).length ybc, .slice VC (onZ E (merC pa ia ca pb ib cb)).length ycc] 25)).cell? ⟨w.heap.size + 1, 1, none⟩ = some (.slice Y2 ib.length cY2) := (hrb.alloc _).cell 1
  have lb2 : (w3.alloc (.cells #[.slice VA (onZ E (uni pa pb)).length yac, .slice VB (onZ E (uni ia ib)).length ybc, .slice VC (onZ E (merC pa ia ca pb ib cb)).length ycc] 25)).cell? ⟨w.heap.size + 1, 2, none⟩ = some (.slice Z2 cb.length cZ2) := (hrb.alloc _).cell 2
  have lx0 : (w3.alloc (.cells #[.slice VA (onZ E (uni pa pb)).length yac, .slice VB (onZ E (uni ia ib)).length ybc, .slice VC (onZ E (merC pa ia ca pb ib cb)).length ycc] 25)).cell? ⟨gx, 0, none⟩ = some (.slice UA (onZ E (uni pa pb)).length xac) := (hrgx.alloc _).cell 0
  have lx1 : (w3.alloc (.cells #[.slice VA (onZ E (uni pa pb)).length yac, .slice VB (onZ E (uni ia ib)).length ybc, .slice VC (onZ E (merC pa ia ca pb ib cb)).length ycc] 25)).cell? ⟨gx, 1, none⟩ = some (.slice UB (onZ E (uni ia ib)).length xbc) := (hrgx.alloc _).cell 1
  have lx2 : (w3.alloc (.cells #[.slice VA (onZ E (uni pa pb)).length yac, .slice VB (onZ E (uni ia ib)).length ybc, .slice VC (onZ E (merC pa ia ca pb ib cb)).length ycc] 25)).cell? ⟨gx, 2, none⟩ = some (.slice UC (onZ E (merC pa ia ca pb ib cb)).length xcc) := (hrgx.alloc _).cell 2
  go_wp2_with fail
  clear a0 a1 a2 b0 b1 b2 x0 x1 x2
  clear la0 la1 la2 lb0 lb1 lb2 lx0 lx1 lx2
  clear hgy
  generalize (w3.alloc (.cells #[.slice VA (onZ E (uni pa pb)).length yac, .slice VB (onZ E (uni ia ib)).length ybc, .slice VC (onZ E (merC pa ia ca pb ib cb)).length ycc] 25)) = w4 at *
  replace hra := hra.keep hl
  replace hrb := hrb.keep hl
  replace hA := hA.below hl
  replace hB := hB.below hl
  replace hX0 := hX0.below hl
  replace hrgx := hrgx.keep hl
  replace hY0 := hY0.below hl
  replace BB : Below w.heap.size w w4 := BB.trans (hl.mono BB.size)
  clear hl
  refine (same_any _ _ _ _ _ _ (onZ E (uni pa pb)) (onZ E (uni ia ib)) (onZ E (merC pa ia ca pb ib cb)) (onZ E (uni pa pb)) (onZ E (uni ia ib)) (onZ E (merC pa ia ca pb ib cb)) _ hX0 hY0).mono ?_
  rw [sameB_refl]
  rintro e w5 ⟨rfl, hb⟩
  replace hra := hra.keep hb
  replace hrb := hrb.keep hb
  replace hA := hA.below hb
  replace hB := hB.below hb
  replace hX0 := hX0.below hb
  replace hrgx := hrgx.keep hb
  replace hY0 := hY0.below hb
  replace hrgy := hrgy.keep hb
  replace BB : Below w.heap.size w w5 := BB.trans (hb.mono BB.size)
  clear hb
  have a0 : w5.cell? ⟨w.heap.size, 0, none⟩ = some (.slice X pa.length cX) := hra.cell 0
  have a1 : w5.cell? ⟨w.heap.size, 1, none⟩ = some (.slice Y ia.length cY) := hra.cell 1
  have a2 : w5.cell? ⟨w.heap.size, 2, none⟩ = some (.slice Z ca.length cZ) := hra.cell 2
  have b0 : w5.cell? ⟨w.heap.size + 1, 0, none⟩ = some (.slice X2 pb.length cX2) := hrb.cell 0
  have b1 : w5.cell? ⟨w.heap.size + 1, 1, none⟩ = some (.slice Y2 ib.length cY2) := hrb.cell 1
  have b2 : w5.cell? ⟨w.heap.size + 1, 2, none⟩ = some (.slice Z2 cb.length cZ2) := hrb.cell 2
  have x0 : w5.cell? ⟨gx, 0, none⟩ = some (.slice UA (onZ E (uni pa pb)).length xac) := hrgx.cell 0
  have x1 : w5.cell? ⟨gx, 1, none⟩ = some (.slice UB (onZ E (uni ia ib)).length xbc) := hrgx.cell 1
  have x2 : w5.cell? ⟨gx, 2, none⟩ = some (.slice UC (onZ E (merC pa ia ca pb ib cb)).length xcc) := hrgx.cell 2
  have y0 : w5.cell? ⟨gy, 0, none⟩ = some (.slice VA (onZ E (uni pa pb)).length yac) := hrgy.cell 0
  have y1 : w5.cell? ⟨gy, 1, none⟩ = some (.slice VB (onZ E (uni ia ib)).length ybc) := hrgy.cell 1
  have y2 : w5.cell? ⟨gy, 2, none⟩ = some (.slice VC (onZ E (merC pa ia ca pb ib cb)).length ycc) := hrgy.cell 2
  go_wp2_with fail
  clear a0 a1 a2 b0 b1 b2 x0 x1 x2 y0 y1 y2
  refine (awake_any _).mono ?_
  rintro e w99 ⟨rfl, hb⟩
  go_wp2_with fail
  go_ret
  exact ⟨rfl, BB.trans (hb.mono BB.size)⟩
namespace MatrixMerges
theorem own : ownKnob Try.prog.godebug = none := by kernel_rfl
theorem laidOut : laidOutB Try.prog = true := by kernel_rfl
theorem readable : ∀ t ∈ Try.f5.params.toList, Try.prog.readableRec t = true ∧ t < Try.prog.types.size := by
  intro t ht
  rw [Try.params5] at ht
  have ht' : t = 25 := by simp at ht; (try rcases ht with h | h); all_goals (subst_vars; simp)
  subst ht'
  exact ⟨by kernel_rfl, of_decide_eq_true (by kernel_rfl)⟩
theorem contract (H : Type) (enc : TypeId × Value → H) (W : World) (base : Nat) (args : Array Value) (ds gs : List (DataW H)) (before : List MemPlace)
    (hval : ∀ (j : Nat) t v, Try.f5.params[j]? = some t → args[j]? = some v → Value.okWide Try.prog W .any base t v)
    (hW : DataW.Whole enc Try.prog Try.f5.params.toList Rows.matrixMergesSpec.vars false W args.toList ds gs before) (hk : Rows.uptoSmall H (ds ++ gs) = true) :
    Calls Try.prog 5 args W fun e W' => ∃ v, e = .returned v ∧ Rows.matrixMergesSpec.post enc Try.prog Try.f5 false true false false W args v W' := by
  have hW' := hW
  obtain ⟨p, q, hA0, hV, rfl, hfz, hnd⟩ := hW
  have hA : DataW.TrodAll enc Try.prog W 0 (fun _ => true) true Try.f5.params.toList args.toList ds p := hA0
  rw [Try.params5] at hA hval
  obtain ⟨v0, vs0, d0, ds0, p0, q0, hargs, rfl, rfl, h0, r0⟩ := trodAll_cons hA
  obtain ⟨v1, vs1, d1, ds1, p1, q1, rfl, rfl, rfl, h1, r1⟩ := trodAll_cons r0
  obtain ⟨rfl, rfl, rfl⟩ := trodAll_nil r1
  obtain rfl : args = #[v0, v1] := by cases args; simp_all
  obtain ⟨rfl, rfl⟩ := trodVars_none hV
  obtain ⟨m10, m11, m12, z10, z11, z12, nm1, rfl, rfl, rfl, hz10, hz11, hz12⟩ := open_agg3 Try.underlying25 (by kernel_rfl) (show Try.prog.cellsOf 25 = 3 by kernel_rfl) (hval 0 25 v0 rfl rfl) h0
  obtain ⟨ps1, hps1, wps1, bps1⟩ := open_numsU Try.underlying22 Try.underlying3 (by kernel_rfl) hz10
  obtain ⟨is1, his1, wis1, bis1⟩ := open_numsU Try.underlying22 Try.underlying3 (by kernel_rfl) hz11
  obtain ⟨cs1, hcs1, bcs1⟩ := open_intsLU Try.underlying23 (by kernel_rfl) Try.underlying22 Try.underlying3 (by kernel_rfl) hz12
  obtain ⟨m20, m21, m22, z20, z21, z22, nm2, rfl, rfl, rfl, hz20, hz21, hz22⟩ := open_agg3 Try.underlying25 (by kernel_rfl) (show Try.prog.cellsOf 25 = 3 by kernel_rfl) (hval 1 25 v1 rfl rfl) h1
  obtain ⟨ps2, hps2, wps2, bps2⟩ := open_numsU Try.underlying22 Try.underlying3 (by kernel_rfl) hz20
  obtain ⟨is2, his2, wis2, bis2⟩ := open_numsU Try.underlying22 Try.underlying3 (by kernel_rfl) hz21
  obtain ⟨cs2, hcs2, bcs2⟩ := open_intsLU Try.underlying23 (by kernel_rfl) Try.underlying22 Try.underlying3 (by kernel_rfl) hz22
  have hk' := of_decide_eq_true hk
  simp only [List.append_nil, Rows.uptoBulkAll, Rows.uptoBulk] at hk'
  refine (merges_all _ _ _ _ _ _ ps1 is1 cs1 ps2 is2 cs2 W ⟨hps1, his1, hcs1⟩ ⟨hps2, his2, hcs2⟩ wps1 wis1 wps2 wis2 (by omega) (by omega) (by omega) (by omega)).mono fun e W' ⟨he, hb⟩ => ⟨_, he, ?_⟩
  exact law_post laidOut readable rfl rfl Try.underlying4 (ok_one (by kernel_rfl) rfl (okWide_bool_mk Try.underlying4 _)) ⟨rfl, rfl, rfl⟩ hW' hb
set_option maxRecDepth 100000 in
theorem lifted (os : Os) (started : os.Started) (H : Type) (enc : TypeId × Value → H) (F : Stop.Interp) :
    ReturnsInHanded {} Try.checked os 5 .any ((Rows.OpenSpec.upto Rows.matrixMergesSpec).pre6 enc Try.prog Try.f5 Rows.matrixMergesUptoRow.domain false) (((Rows.OpenSpec.upto Rows.matrixMergesSpec).at F).post enc Try.prog Try.f5 false true false false) := by
  refine returnsInHanded_of_cond (C := Try.checked) (s := Rows.OpenSpec.upto Rows.matrixMergesSpec) (k := Rows.uptoSmall) rfl own started (by kernel_rfl) Try.func5
    (OpenSpec.witness (enc := enc) (C := Try.checked) (s := Rows.OpenSpec.upto Rows.matrixMergesSpec) (k := Rows.uptoSmall) rfl false ⟨#[], #[.agg #[.slice none 0 0, .slice none 0 0, .slice none 0 0], .agg #[.slice none 0 0, .slice none 0 0, .slice none 0 0]], []⟩ 8 (by kernel_rfl) (by kernel_rfl) (by kernel_rfl)
      (x := ([.agg [.nil, .nil, .nil], .agg [.nil, .nil, .nil]], [], [])) (by kernel_rfl) rfl (by kernel_rfl)) ?_
  intro W base args ds gs before hval hW _ hk _
  exact contract H enc W base args ds gs before hval hW hk
theorem proved : Rows.MatrixMergesUptoSaid :=
  OpenClaim.holds_of_cond 5 Try.f5 rfl rfl rfl rfl rfl rfl rfl ⟨rfl, rfl, rfl, rfl, rfl⟩ rfl rfl rfl rfl rfl (by kernel_rfl) Try.func5 (by kernel_rfl)
    (of_decide_eq_true (by kernel_rfl)) (by unfold Func.isWrapper; first | (rw [if_pos (by decide +kernel)]; kernel_rfl) | (rw [if_neg (by decide +kernel)]; exact ⟨rfl, rfl⟩))
    (fun os started H enc _ F => lifted os started H enc F)
#print axioms proved
end MatrixMerges
end Go.Proofs.Ytgdngopemlajjaa
