/- The walk of the reference's Merge. -/
import Derived.Test.YtgdngopemlajjaaRtE
import Derived.Test.YtgdngopemlajjaaMtQ
namespace Go.Proofs.Ytgdngopemlajjaa
open Go.RowKit
set_option linter.unusedVariables false

theorem off3 {kk : IntKind} {w : World} {v : Value} {zs : List Int} {g : Nat} {a b c : Value} (h : Nums kk w v zs) (ho : Off (some g) v) : Nums kk (((w.setCell ⟨g, 0, none⟩ a).setCell ⟨g, 1, none⟩ b).setCell ⟨g, 2, none⟩ c) v zs :=
  ((h.grown grown_set ho).grown grown_set ho).grown grown_set ho
theorem off_row {kk : IntKind} {w : World} {v : Value} {zs : List Int} (h : Nums kk w v zs) {n base e k : Nat} {u : Value} {ws : List Value} {w0 : World} (hn : w.heap.size ≤ base) (ho : w0.ownsRow base e 1 u k ws) : Off u.ownBlock v := by
  rcases hq : u.ownBlock with _ | q
  · exact Off.none_ _
  · exact h.off (Nat.le_trans hn (ho.lt q hq).1)
section
variable {pa ia : List Int} {ca : List (List Int)} {pb ib : List Int} {cb : List (List Int)}
theorem conf_of {p i x y : Int} (h : mcell pa ia ca p i = some x) (h2 : mcell pb ib cb p i = some y) (hne : y ≠ x) : conf pa ia ca pb ib cb = true := by
  cases h1 : fidx pa p with
  | none => rw [mcell_none1 h1] at h; cases h
  | some a =>
    cases h3 : fidx ia i with
    | none => rw [mcell_none2 h3] at h; cases h
    | some b =>
      rw [mcell_at h1 h3] at h
      obtain ⟨e1, e2, _⟩ := fidx_lt h1
      obtain ⟨e3, e4, _⟩ := fidx_lt h3
      exact conf_yes (p := a) (i := b) (y := y) e1 e3 (by rw [e2, e4]; exact h2) (by injection h with h; rw [h]; exact hne)
theorem conf_none (ha : ris pa = true) (hi : ris ia = true) (h : ∀ k, k < (uni pa pb).length → ∀ j, j < (uni ia ib).length → ∀ x y, mcell pa ia ca ((uni pa pb).getD k 0) ((uni ia ib).getD j 0) = some x → mcell pb ib cb ((uni pa pb).getD k 0) ((uni ia ib).getD j 0) = some y → y = x) : conf pa ia ca pb ib cb = false := by
  refine conf_no fun p hp i hi' y hy => ?_
  have m1 : pa.getD p 0 ∈ uni pa pb := (mem_uni _ _ _).2 (.inl (getD_mem pa 0 hp))
  have m2 : ia.getD i 0 ∈ uni ia ib := (mem_uni _ _ _).2 (.inl (getD_mem ia 0 hi'))
  obtain ⟨k, hk, e1⟩ := mem_getD 0 m1
  obtain ⟨j, hj, e2⟩ := mem_getD 0 m2
  exact h k hk j hj _ y (by rw [e1, e2]; exact mcell_at (fidx_ris ha hp) (fidx_ris hi hi')) (by rw [e1, e2]; exact hy)
end

set_option maxRecDepth 100000 in
set_option maxHeartbeats 16000000 in
theorem rmerge_any (pv iv cv pv2 iv2 cv2 : Value) (pa ia : List Int) (ca : List (List Int)) (pb ib : List Int) (cb : List (List Int)) (w : World) (hA : Mat w pv iv cv pa ia ca) (hB : Mat w pv2 iv2 cv2 pb ib cb)
    (l1 : (pa.length + pb.length) * 8 ≤ 140737488351232) (l3 : (pa.length + pb.length) * 24 ≤ 140737488351232) (l2 : (ia.length + ib.length) * 8 ≤ 140737488351232) :
    Calls Try.prog 18 #[.agg #[pv, iv, cv], .agg #[pv2, iv2, cv2]] w (MerPost w pa ia ca pb ib cb) := by
  obtain ⟨hp, hi, hc⟩ := hA
  obtain ⟨hp2, hi2, hc2⟩ := hB
  have hp0 := hp
  have hi0 := hi
  have hc0 := hc
  have hp20 := hp2
  have hi20 := hi2
  have hc20 := hc2
  obtain ⟨X, cX, rfl, x1, x2, x3⟩ := hp
  obtain ⟨Y, cY, rfl, y1, y2, y3⟩ := hi
  obtain ⟨Z, cZ, us, rfl, z1, z2, hs, hu⟩ := hc
  obtain ⟨X2, cX2, rfl, x21, x22, x23⟩ := hp2
  obtain ⟨Y2, cY2, rfl, y21, y22, y23⟩ := hi2
  obtain ⟨Z2, cZ2, us2, rfl, z21, z22, hs2, hu2⟩ := hc2
  have HU := Lib.hid hu
  unfold maxLen at x2 y2 z2 x22 y22 z22
  clear hu hu2 hs2 x23 y23
  have hra := ((Row.new w 25 [.slice X pa.length cX, .slice Y ia.length cY, .slice Z ca.length cZ]).alloc (.cells #[.slice X2 pb.length cX2, .slice Y2 ib.length cY2, .slice Z2 cb.length cZ2] 25)).alloc (.cells #[.slice none 0 0, .slice none 0 0, .slice none 0 0] 25)
  have hrb := (Row.new (w.alloc (.cells #[.slice X pa.length cX, .slice Y ia.length cY, .slice Z ca.length cZ] 25)) 25 [.slice X2 pb.length cX2, .slice Y2 ib.length cY2, .slice Z2 cb.length cZ2]).alloc (.cells #[.slice none 0 0, .slice none 0 0, .slice none 0 0] 25)
  rw [show (w.alloc (.cells #[.slice X pa.length cX, .slice Y ia.length cY, .slice Z ca.length cZ] 25)).heap.size = w.heap.size + 1 by simp] at hrb
  have hre := Row.new ((w.alloc (.cells #[.slice X pa.length cX, .slice Y ia.length cY, .slice Z ca.length cZ] 25)).alloc (.cells #[.slice X2 pb.length cX2, .slice Y2 ib.length cY2, .slice Z2 cb.length cZ2] 25)) 25 [.slice none 0 0, .slice none 0 0, .slice none 0 0]
  rw [show ((w.alloc (.cells #[.slice X pa.length cX, .slice Y ia.length cY, .slice Z ca.length cZ] 25)).alloc (.cells #[.slice X2 pb.length cX2, .slice Y2 ib.length cY2, .slice Z2 cb.length cZ2] 25)).heap.size = w.heap.size + 2 by simp] at hre
  have B0 : Below w.heap.size w (((w.alloc (.cells #[.slice X pa.length cX, .slice Y ia.length cY, .slice Z ca.length cZ] 25)).alloc (.cells #[.slice X2 pb.length cX2, .slice Y2 ib.length cY2, .slice Z2 cb.length cZ2] 25)).alloc (.cells #[.slice none 0 0, .slice none 0 0, .slice none 0 0] 25)) := (((Below.refl _ _).alloc (Nat.le_refl _) _).alloc (by simp) _).alloc (by simp; omega) _
  go_enter Try.func18, Try.ntmps18
  go_wp2_with fail
  refine (rshp_any _ _ _ pa ia ca _ (hp0.below B0) (hi0.below B0) (hc0.below B0)).mono ?_
  rintro e w1 ⟨rfl, hb⟩
  have B1 : Below w.heap.size w w1 := B0.trans (hb.mono B0.size)
  replace hra := hra.keep hb
  replace hrb := hrb.keep hb
  replace hre := hre.keep hb
  clear hb B0
  have a0 : w1.cell? ⟨w.heap.size, 0, none⟩ = some (.slice X pa.length cX) := hra.cell 0
  have a1 : w1.cell? ⟨w.heap.size, 1, none⟩ = some (.slice Y ia.length cY) := hra.cell 1
  have a2 : w1.cell? ⟨w.heap.size, 2, none⟩ = some (.slice Z ca.length cZ) := hra.cell 2
  have b0 : w1.cell? ⟨w.heap.size + 1, 0, none⟩ = some (.slice X2 pb.length cX2) := hrb.cell 0
  have b1 : w1.cell? ⟨w.heap.size + 1, 1, none⟩ = some (.slice Y2 ib.length cY2) := hrb.cell 1
  have b2 : w1.cell? ⟨w.heap.size + 1, 2, none⟩ = some (.slice Z2 cb.length cZ2) := hrb.cell 2
  have r0 : w1.cell? ⟨w.heap.size + 2, 0, none⟩ = some (.slice none 0 0) := hre.cell 0
  have r1 : w1.cell? ⟨w.heap.size + 2, 1, none⟩ = some (.slice none 0 0) := hre.cell 1
  have r2 : w1.cell? ⟨w.heap.size + 2, 2, none⟩ = some (.slice none 0 0) := hre.cell 2
  have f0 : w1.frozen? ⟨w.heap.size + 2, 0, none⟩ = false := hre.frozen 0
  have f1 : w1.frozen? ⟨w.heap.size + 2, 1, none⟩ = false := hre.frozen 1
  have f2 : w1.frozen? ⟨w.heap.size + 2, 2, none⟩ = false := hre.frozen 2
  cases hsh : shp pa ia ca with
  | false =>
    have HE := Lib.hid (merE_1 (pb := pb) (ib := ib) (cb := cb) (.inl hsh))
    go_wp2_with fail
    exact bodyPost_ret (v := .tuple #[.agg #[.slice none 0 0, .slice none 0 0, .slice none 0 0], .int .i64 (1)]) (by simp [results, Try.results18, go_sem, r0, r1, r2]) rfl (MerPost.bad HE.out (by omega) ((((B1).setCell (show w.heap.size ≤ w.heap.size + 2 by omega) _).setCell (show w.heap.size ≤ w.heap.size + 2 by omega) _).setCell (show w.heap.size ≤ w.heap.size + 2 by omega) _))
  | true =>
  have HSH := Lib.hid hsh
  clear hsh
  go_wp2_with fail
  refine (rshp_any _ _ _ pb ib cb _ (hp20.below B1) (hi20.below B1) (hc20.below B1)).mono ?_
  rintro e w2 ⟨rfl, hb⟩
  clear a0 a1 a2 b0 b1 b2 r0 r1 r2 f0 f1 f2
  have B2 : Below w.heap.size w w2 := B1.trans (hb.mono B1.size)
  replace hra := hra.keep hb
  replace hrb := hrb.keep hb
  replace hre := hre.keep hb
  clear hb B1
  have a0 : w2.cell? ⟨w.heap.size, 0, none⟩ = some (.slice X pa.length cX) := hra.cell 0
  have a1 : w2.cell? ⟨w.heap.size, 1, none⟩ = some (.slice Y ia.length cY) := hra.cell 1
  have a2 : w2.cell? ⟨w.heap.size, 2, none⟩ = some (.slice Z ca.length cZ) := hra.cell 2
  have b0 : w2.cell? ⟨w.heap.size + 1, 0, none⟩ = some (.slice X2 pb.length cX2) := hrb.cell 0
  have b1 : w2.cell? ⟨w.heap.size + 1, 1, none⟩ = some (.slice Y2 ib.length cY2) := hrb.cell 1
  have b2 : w2.cell? ⟨w.heap.size + 1, 2, none⟩ = some (.slice Z2 cb.length cZ2) := hrb.cell 2
  have r0 : w2.cell? ⟨w.heap.size + 2, 0, none⟩ = some (.slice none 0 0) := hre.cell 0
  have r1 : w2.cell? ⟨w.heap.size + 2, 1, none⟩ = some (.slice none 0 0) := hre.cell 1
  have r2 : w2.cell? ⟨w.heap.size + 2, 2, none⟩ = some (.slice none 0 0) := hre.cell 2
  have f0 : w2.frozen? ⟨w.heap.size + 2, 0, none⟩ = false := hre.frozen 0
  have f1 : w2.frozen? ⟨w.heap.size + 2, 1, none⟩ = false := hre.frozen 1
  have f2 : w2.frozen? ⟨w.heap.size + 2, 2, none⟩ = false := hre.frozen 2
  cases hsh : shp pb ib cb with
  | false =>
    have HE := Lib.hid (merE_1 (pa := pa) (ia := ia) (ca := ca) (.inr hsh))
    go_wp2_with fail
    exact bodyPost_ret (v := .tuple #[.agg #[.slice none 0 0, .slice none 0 0, .slice none 0 0], .int .i64 (1)]) (by simp [results, Try.results18, go_sem, r0, r1, r2]) rfl (MerPost.bad HE.out (by omega) ((((B2).setCell (show w.heap.size ≤ w.heap.size + 2 by omega) _).setCell (show w.heap.size ≤ w.heap.size + 2 by omega) _).setCell (show w.heap.size ≤ w.heap.size + 2 by omega) _))
  | true =>
  have HSH2 := Lib.hid hsh
  clear hsh
  go_wp2_with fail
  refine (rris_any _ pa _ (hp0.below B2)).mono ?_
  rintro e w' ⟨rfl, rfl⟩
  cases hr0 : ris pa with
  | false =>
    have HE := Lib.hid (merE_2 (pb := pb) (ib := ib) HSH.out HSH2.out (.inl (by rw [hr0]; simp)))
    go_wp2_with fail
    exact bodyPost_ret (v := .tuple #[.agg #[.slice none 0 0, .slice none 0 0, .slice none 0 0], .int .i64 (23)]) (by simp [results, Try.results18, go_sem, r0, r1, r2]) rfl (MerPost.bad HE.out (by omega) ((((B2).setCell (show w.heap.size ≤ w.heap.size + 2 by omega) _).setCell (show w.heap.size ≤ w.heap.size + 2 by omega) _).setCell (show w.heap.size ≤ w.heap.size + 2 by omega) _))
  | true =>
  have HR0 := Lib.hid hr0
  clear hr0
  go_wp2_with fail
  refine (rris_any _ ia _ (hi0.below B2)).mono ?_
  rintro e w' ⟨rfl, rfl⟩
  cases hr1 : ris ia with
  | false =>
    have HE := Lib.hid (merE_2 (pb := pb) (ib := ib) HSH.out HSH2.out (.inl (by rw [hr1]; simp)))
    go_wp2_with fail
    exact bodyPost_ret (v := .tuple #[.agg #[.slice none 0 0, .slice none 0 0, .slice none 0 0], .int .i64 (23)]) (by simp [results, Try.results18, go_sem, r0, r1, r2]) rfl (MerPost.bad HE.out (by omega) ((((B2).setCell (show w.heap.size ≤ w.heap.size + 2 by omega) _).setCell (show w.heap.size ≤ w.heap.size + 2 by omega) _).setCell (show w.heap.size ≤ w.heap.size + 2 by omega) _))
  | true =>
  have HR1 := Lib.hid hr1
  clear hr1
  go_wp2_with fail
  refine (rris_any _ pb _ (hp20.below B2)).mono ?_
  rintro e w' ⟨rfl, rfl⟩
  cases hr2 : ris pb with
  | false =>
    have HE := Lib.hid (merE_2 (pa := pa) (ia := ia) HSH.out HSH2.out (.inr (by rw [hr2]; simp)))
    go_wp2_with fail
    exact bodyPost_ret (v := .tuple #[.agg #[.slice none 0 0, .slice none 0 0, .slice none 0 0], .int .i64 (23)]) (by simp [results, Try.results18, go_sem, r0, r1, r2]) rfl (MerPost.bad HE.out (by omega) ((((B2).setCell (show w.heap.size ≤ w.heap.size + 2 by omega) _).setCell (show w.heap.size ≤ w.heap.size + 2 by omega) _).setCell (show w.heap.size ≤ w.heap.size + 2 by omega) _))
  | true =>
  have HR2 := Lib.hid hr2
  clear hr2
  go_wp2_with fail
  refine (rris_any _ ib _ (hi20.below B2)).mono ?_
  rintro e w' ⟨rfl, rfl⟩
  cases hr3 : ris ib with
  | false =>
    have HE := Lib.hid (merE_2 (pa := pa) (ia := ia) HSH.out HSH2.out (.inr (by rw [hr3]; simp)))
    go_wp2_with fail
    exact bodyPost_ret (v := .tuple #[.agg #[.slice none 0 0, .slice none 0 0, .slice none 0 0], .int .i64 (23)]) (by simp [results, Try.results18, go_sem, r0, r1, r2]) rfl (MerPost.bad HE.out (by omega) ((((B2).setCell (show w.heap.size ≤ w.heap.size + 2 by omega) _).setCell (show w.heap.size ≤ w.heap.size + 2 by omega) _).setCell (show w.heap.size ≤ w.heap.size + 2 by omega) _))
  | true =>
  have HR3 := Lib.hid hr3
  clear hr3
  go_wp2_with fail
  have HOR : Hid ((ris pa && ris ia) = true) := by unfold Hid; rw [HR0.out, HR1.out]; rfl
  have HOR2 : Hid ((ris pb && ris ib) = true) := by unfold Hid; rw [HR2.out, HR3.out]; rfl
  have la0 := hra.lt
  have lb0 := hrb.lt
  have n1 := hp0.below B2
  have n2 := hi0.below B2
  have m1 := hp20.below B2
  have m2 := hi20.below B2
  go_cut [6] (fun s6 wx => ∃ (g : Nat) (UA VA : Option Addr) (uc vc : Nat), s6 = .pointer (some ⟨g, 0, none⟩) ∧ Row wx g 25 [.slice UA (uni pa pb).length uc, .slice VA (uni ia ib).length vc, .slice none 0 0] ∧ Nums .i64 wx (.slice UA (uni pa pb).length uc) (uni pa pb) ∧ Nums .i64 wx (.slice VA (uni ia ib).length vc) (uni ia ib) ∧ Off (some g) (.slice UA (uni pa pb).length uc) ∧ Off (some g) (.slice VA (uni ia ib).length vc) ∧ Fresh w2.heap.size (.slice UA (uni pa pb).length uc) ∧ Fresh w2.heap.size (.slice VA (uni ia ib).length vc) ∧ w2.heap.size ≤ g ∧ Below w2.heap.size w2 wx)
  case first =>
    go_region_held3 (fun w' => w'.cell? ⟨w.heap.size, 0, none⟩ = some (.slice X pa.length cX) ∧ w'.cell? ⟨w.heap.size, 1, none⟩ = some (.slice Y ia.length cY) ∧ w'.cell? ⟨w.heap.size, 2, none⟩ = some (.slice Z ca.length cZ) ∧ w'.cell? ⟨w.heap.size + 1, 0, none⟩ = some (.slice X2 pb.length cX2) ∧ w'.cell? ⟨w.heap.size + 1, 1, none⟩ = some (.slice Y2 ib.length cY2) ∧ w'.cell? ⟨w.heap.size + 1, 2, none⟩ = some (.slice Z2 cb.length cZ2) ∧ Below w2.heap.size w2 w')
      ((refine keep6 la0 lb0 a0 a1 a2 b0 b1 b2 ?_; (repeat (first | with_reducible exact Below.refl _ _ | ((with_reducible refine bl_set3 ?_ ?_); rotate_left; (first | exact z25 | exact z26 | exact Nat.le_refl _ | exact Nat.le_add_right _ _ | exact Nat.le_trans z25 (Nat.le_add_right _ _) | exact Nat.le_trans z26 (Nat.le_add_right _ _))) | with_reducible refine bl_call h62 ?_ | with_reducible refine bl_call h52 ?_ | with_reducible refine bl_drew ?_ | with_reducible refine bl_alloc ?_ _))))
      (first
        | (go_at_call 38; ((with_reducible refine (runion_any (.slice X pa.length cX) (.slice X2 pb.length cX2) pa pb _ ?_ ?_ l1).mono ?_); (refine n1.below ?_; (repeat (first | with_reducible exact Below.refl _ _ | ((with_reducible refine bl_set3 ?_ ?_); rotate_left; (first | exact z25 | exact z26 | exact Nat.le_refl _ | exact Nat.le_add_right _ _ | exact Nat.le_trans z25 (Nat.le_add_right _ _) | exact Nat.le_trans z26 (Nat.le_add_right _ _))) | with_reducible refine bl_call h62 ?_ | with_reducible refine bl_call h52 ?_ | with_reducible refine bl_drew ?_ | with_reducible refine bl_alloc ?_ _))); (refine m1.below ?_; (repeat (first | with_reducible exact Below.refl _ _ | ((with_reducible refine bl_set3 ?_ ?_); rotate_left; (first | exact z25 | exact z26 | exact Nat.le_refl _ | exact Nat.le_add_right _ _ | exact Nat.le_trans z25 (Nat.le_add_right _ _) | exact Nat.le_trans z26 (Nat.le_add_right _ _))) | with_reducible refine bl_call h62 ?_ | with_reducible refine bl_call h52 ?_ | with_reducible refine bl_drew ?_ | with_reducible refine bl_alloc ?_ _))); rintro e w5 ⟨uv, rfl, hU, hfU, h52⟩; have U5 := hU; obtain ⟨UA, uc, rfl, _, _, _⟩ := hU; (have z25 : w2.heap.size ≤ w5.heap.size := (show Below w2.heap.size w2 w5 by (repeat (first | with_reducible exact Below.refl _ _ | ((with_reducible refine bl_set3 ?_ ?_); rotate_left; (first | exact z25 | exact z26 | exact Nat.le_refl _ | exact Nat.le_add_right _ _ | exact Nat.le_trans z25 (Nat.le_add_right _ _) | exact Nat.le_trans z26 (Nat.le_add_right _ _))) | with_reducible refine bl_call h62 ?_ | with_reducible refine bl_call h52 ?_ | with_reducible refine bl_drew ?_ | with_reducible refine bl_alloc ?_ _))).size); (try (have R50 : Row w5 w2.heap.size 25 [.slice none 0 0, .slice none 0 0, .slice none 0 0] := Row.keep (by first | with_reducible exact (Row.new w2 25 [.slice none 0 0, .slice none 0 0, .slice none 0 0]).drew | with_reducible exact Row.new w2 25 [.slice none 0 0, .slice none 0 0, .slice none 0 0]) h52)); (try (have R50z := R50.lt))))
        | (go_at_call 38; ((with_reducible refine (runion_any (.slice Y ia.length cY) (.slice Y2 ib.length cY2) ia ib _ ?_ ?_ l2).mono ?_); (refine n2.below ?_; (repeat (first | with_reducible exact Below.refl _ _ | ((with_reducible refine bl_set3 ?_ ?_); rotate_left; (first | exact z25 | exact z26 | exact Nat.le_refl _ | exact Nat.le_add_right _ _ | exact Nat.le_trans z25 (Nat.le_add_right _ _) | exact Nat.le_trans z26 (Nat.le_add_right _ _))) | with_reducible refine bl_call h62 ?_ | with_reducible refine bl_call h52 ?_ | with_reducible refine bl_drew ?_ | with_reducible refine bl_alloc ?_ _))); (refine m2.below ?_; (repeat (first | with_reducible exact Below.refl _ _ | ((with_reducible refine bl_set3 ?_ ?_); rotate_left; (first | exact z25 | exact z26 | exact Nat.le_refl _ | exact Nat.le_add_right _ _ | exact Nat.le_trans z25 (Nat.le_add_right _ _) | exact Nat.le_trans z26 (Nat.le_add_right _ _))) | with_reducible refine bl_call h62 ?_ | with_reducible refine bl_call h52 ?_ | with_reducible refine bl_drew ?_ | with_reducible refine bl_alloc ?_ _))); rintro e w6 ⟨vv, rfl, hV, hfV, h62⟩; have V6 := hV; obtain ⟨VA, vc, rfl, _, _, _⟩ := hV; (have z56 : w5.heap.size ≤ w6.heap.size := (show Below w5.heap.size w5 w6 by (repeat (first | with_reducible exact Below.refl _ _ | ((with_reducible refine bl_set3 ?_ ?_); rotate_left; (first | exact z25 | exact z26 | exact Nat.le_refl _ | exact Nat.le_add_right _ _ | exact Nat.le_trans z25 (Nat.le_add_right _ _) | exact Nat.le_trans z26 (Nat.le_add_right _ _))) | with_reducible refine bl_call h62 ?_ | with_reducible refine bl_call h52 ?_ | with_reducible refine bl_drew ?_ | with_reducible refine bl_alloc ?_ _))).size); (have z26 : w2.heap.size ≤ w6.heap.size := Nat.le_trans z25 z56); (try (have R60 : Row w6 w2.heap.size 25 [.slice none 0 0, .slice none 0 0, .slice none 0 0] := Row.keep (by first | with_reducible exact R50 | with_reducible exact R50.drew) h62)); (try (have R62 : Row w6 w5.heap.size 25 [.slice none 0 0, .slice none 0 0, .slice none 0 0] := Row.keep (by first | with_reducible exact Row.new w5 25 [.slice none 0 0, .slice none 0 0, .slice none 0 0] | with_reducible exact (Row.new w5 25 [.slice none 0 0, .slice none 0 0, .slice none 0 0]).drew) h62)); (try (have R60z := R60.lt)); (try (have R62z := R62.lt)); (have U6 : Nums .i64 w6 (.slice UA (uni pa pb).length uc) (uni pa pb) := U5.below (show Below w5.heap.size w5 w6 by (repeat (first | with_reducible exact Below.refl _ _ | ((with_reducible refine bl_set3 ?_ ?_); rotate_left; (first | exact z25 | exact z26 | exact Nat.le_refl _ | exact Nat.le_add_right _ _ | exact Nat.le_trans z25 (Nat.le_add_right _ _) | exact Nat.le_trans z26 (Nat.le_add_right _ _))) | with_reducible refine bl_call h62 ?_ | with_reducible refine bl_call h52 ?_ | with_reducible refine bl_drew ?_ | with_reducible refine bl_alloc ?_ _)))); (try (have R60c0 : w6.cell? ⟨w2.heap.size, 0, none⟩ = some (.slice none 0 0) := R60.cell 0)); (try (have R60c1 : w6.cell? ⟨w2.heap.size, 1, none⟩ = some (.slice none 0 0) := R60.cell 1)); (try (have R60c2 : w6.cell? ⟨w2.heap.size, 2, none⟩ = some (.slice none 0 0) := R60.cell 2)); (try (have R60f0 : w6.frozen? ⟨w2.heap.size, 0, none⟩ = false := R60.frozen 0)); (try (have R60f1 : w6.frozen? ⟨w2.heap.size, 1, none⟩ = false := R60.frozen 1)); (try (have R60f2 : w6.frozen? ⟨w2.heap.size, 2, none⟩ = false := R60.frozen 2)); (try (have R62c0 : w6.cell? ⟨w5.heap.size, 0, none⟩ = some (.slice none 0 0) := R62.cell 0)); (try (have R62c1 : w6.cell? ⟨w5.heap.size, 1, none⟩ = some (.slice none 0 0) := R62.cell 1)); (try (have R62c2 : w6.cell? ⟨w5.heap.size, 2, none⟩ = some (.slice none 0 0) := R62.cell 2)); (try (have R62f0 : w6.frozen? ⟨w5.heap.size, 0, none⟩ = false := R62.frozen 0)); (try (have R62f1 : w6.frozen? ⟨w5.heap.size, 1, none⟩ = false := R62.frozen 1)); (try (have R62f2 : w6.frozen? ⟨w5.heap.size, 2, none⟩ = false := R62.frozen 2)))))
    all_goals go_wp2_with fail
    all_goals go_meet
    all_goals go_light
    all_goals
      refine ⟨_, UA, VA, uc, vc, rfl, ?_, ?_, ?_, ?_, ?_, ?_, ?_, ?_, ?_⟩
      · (repeat (first | with_reducible exact Row.new _ _ _ | with_reducible exact R60 | with_reducible exact R62 | with_reducible refine row_st3 (x := .slice none 0 0) (y := .slice none 0 0) (z := .slice none 0 0) ?_ | with_reducible refine Row.alloc ?_ _))
      · (first | exact off3 U6 (by (first | exact U6.off (Nat.le_refl _) | exact U5.off (Nat.le_refl _) | exact Off.of_fresh hfU (by simp))) | exact U6.below ((Below.refl _ _).alloc (Nat.le_refl _) _) | exact off3 (U6.below ((Below.refl _ _).alloc (Nat.le_refl _) _)) (by assumption))
      · (first | exact off3 V6 (by (first | exact V6.off (Nat.le_refl _) | exact Off.of_fresh hfV R50z | exact Off.of_fresh hfV (by simp) | exact Off.of_fresh hfV (by simp; omega) | exact Off.of_fresh hfV (by omega))) | exact V6.below ((Below.refl _ _).alloc (Nat.le_refl _) _) | exact off3 (V6.below ((Below.refl _ _).alloc (Nat.le_refl _) _)) (by assumption))
      · (first | exact U6.off (Nat.le_refl _) | exact U5.off (Nat.le_refl _) | exact Off.of_fresh hfU (by simp))
      · (first | exact V6.off (Nat.le_refl _) | exact Off.of_fresh hfV R50z | exact Off.of_fresh hfV (by simp) | exact Off.of_fresh hfV (by simp; omega) | exact Off.of_fresh hfV (by omega))
      · (first | exact hfU | exact hfU.mono (by simp) | exact hfU.mono (by simp; omega))
      · (first | exact hfV.mono z25 | exact hfV.mono (by simp; omega))
      · (first | exact Nat.le_refl _ | exact z25 | exact z26)
      · (repeat (first | with_reducible exact Below.refl _ _ | ((with_reducible refine bl_set3 ?_ ?_); rotate_left; (first | exact z25 | exact z26 | exact Nat.le_refl _ | exact Nat.le_add_right _ _ | exact Nat.le_trans z25 (Nat.le_add_right _ _) | exact Nat.le_trans z26 (Nat.le_add_right _ _))) | with_reducible refine bl_call h62 ?_ | with_reducible refine bl_call h52 ?_ | with_reducible refine bl_drew ?_ | with_reducible refine bl_alloc ?_ _))
  case rest =>
    obtain ⟨g, UA, VA, uc, vc, rfl, hrg, hU, hV, hoU, hoV, hfU, hfV, hg2, hbx⟩ := hcut
    clear a0 a1 a2 b0 b1 b2 r0 r1 r2 f0 f1 f2 n1 n2 m1 m2 la0 lb0
    have hre2 := hre
    replace hra := hra.keep hbx
    replace hrb := hrb.keep hbx
    replace hre := hre.keep hbx
    have B5 : Below w.heap.size w wc := B2.trans (hbx.mono B2.size)
    have hz2 : w.heap.size + 2 < w2.heap.size := hre2.lt
    clear hbx hre2 B2
    have HE3 := Lib.hid (merE_3 HSH.out HSH2.out HOR.out HOR2.out)
    have HLU := Lib.hid (uni_len pa pb)
    have HLV := Lib.hid (uni_len ia ib)
    obtain ⟨nu, hnu⟩ : ∃ n, (uni pa pb).length = n := ⟨_, rfl⟩
    have HNU := Lib.hid hnu
    rw [hnu] at hrg hU hoU hfU
    obtain ⟨nv, hnv⟩ : ∃ n, (uni ia ib).length = n := ⟨_, rfl⟩
    have HNV := Lib.hid hnv
    rw [hnv] at hrg hV hoV hfV
    have lu : nu * 24 ≤ 140737488351232 := by have := HLU.out; omega
    have lv : nv * 8 ≤ 140737488351232 := by have := HLV.out; omega
    clear hnu hnv l1 l2 l3
    have hgl := hrg.lt
    have hMA : Mat w (.slice X pa.length cX) (.slice Y ia.length cY) (.slice Z ca.length cZ) pa ia ca := ⟨hp0, hi0, hc0⟩
    have hMB : Mat w (.slice X2 pb.length cX2) (.slice Y2 ib.length cY2) (.slice Z2 cb.length cZ2) pb ib cb := ⟨hp20, hi20, hc20⟩
    clear hp0 hi0 hc0 hp20 hi20 hc20
    obtain ⟨h, hh⟩ : ∃ h, wc.heap.size = h := ⟨_, rfl⟩
    have HH := Lib.hid hh
    have HOU : Hid (∀ q, h ≤ q → Off (some q) (.slice UA nu uc)) := fun q hq => hU.off (by omega)
    have HOV : Hid (∀ q, h ≤ q → Off (some q) (.slice VA nv vc)) := fun q hq => hV.off (by omega)
    have c0 : wc.cell? ⟨g, 0, none⟩ = some (.slice UA nu uc) := hrg.cell 0
    rw [hh] at hgl
    clear hh
    go_wp2_with fail
    clear c0
    go_loopw [62] (fun i wr => ∃ (k : Nat) (V : Option Addr) (cv : Nat) (ws : List Value), k ≤ nu ∧ i = .int .i64 (k : Int) ∧ Row wr g 25 [.slice UA nu uc, .slice VA nv vc, .slice V k cv] ∧ wr.ownsRow h 22 1 (.slice V k cv) k ws ∧ CollI wr ws (merC pa ia ca pb ib cb) k h (Value.slice V k cv).ownBlock ∧ Nums .i64 wr (.slice UA nu uc) (uni pa pb) ∧ Nums .i64 wr (.slice VA nv vc) (uni ia ib) ∧ Row wr (w.heap.size) 25 [.slice X pa.length cX, .slice Y ia.length cY, .slice Z ca.length cZ] ∧ Row wr (w.heap.size + 1) 25 [.slice X2 pb.length cX2, .slice Y2 ib.length cY2, .slice Z2 cb.length cZ2] ∧ Row wr (w.heap.size + 2) 25 [.slice none 0 0, .slice none 0 0, .slice none 0 0] ∧ Hid (∀ p, p < k → ∀ i, i < (uni ia ib).length → ∀ x y, mcell pa ia ca ((uni pa pb).getD p 0) ((uni ia ib).getD i 0) = some x → mcell pb ib cb ((uni pa pb).getD p 0) ((uni ia ib).getD i 0) = some y → y = x) ∧ h ≤ wr.heap.size ∧ Below w.heap.size w wr) (fun i _ => nu - (intOf i).toNat)
    case atStart => exact ⟨0, none, 0, [], by omega, rfl, hrg, World.ownsRow_nil _ _ _ _, CollI.zero _ _ _ _, hU, hV, hra, hrb, hre, fun p hp => by omega, Nat.le_of_eq HH.out.symm, B5⟩
    case round =>
      clear hU hV hra hrb hre hrg B5
      obtain ⟨k, V, cv, ws, hk, rfl, hrow, hown, hcol, hU, hV, hra, hrb, hre, hinv, hhs, BW⟩ := hrel
      obtain ⟨wo, rfl⟩ : ∃ wo : World, wo = wr := ⟨_, rfl⟩
      by_cases hlt : k < nu
      · obtain ⟨b1, o1, hUA, hb1, hc1⟩ := (by obtain ⟨A', c', e, _, _, s⟩ := hU; rw [HNU.out] at e s; injection e with e1 e2 e3; subst e1; exact s.num hlt : ∃ b o, UA = some ⟨b, o, none⟩ ∧ b < wo.heap.size ∧ ∀ j, j < nu → wo.cell? ⟨b, o + j, none⟩ = some (.int .i64 ((uni pa pb).getD j 0)))
        subst hUA
        have g1 := hc1 k hlt
        have hkU : Hid (k < (uni pa pb).length) := by unfold Hid; rw [HNU.out]; exact hlt
        have HSG := Lib.hid (merC_get (ia := ia) (ca := ca) (ib := ib) (cb := cb) hkU.out)
        have HSN := Lib.hid (fun h => all_snoc (p := fun p => ∀ i, i < (uni ia ib).length → ∀ x y, mcell pa ia ca ((uni pa pb).getD p 0) ((uni ia ib).getD i 0) = some x → mcell pb ib cb ((uni pa pb).getD p 0) ((uni ia ib).getD i 0) = some y → y = x) (k := k) hinv.out h)
        clear hc1 hinv
        generalize (uni pa pb).getD k 0 = P0 at g1 HSG HSN
        have c1 : wo.cell? ⟨g, 1, none⟩ = some (.slice VA nv vc) := hrow.cell 1
        go_wp2_with fail
        clear c1 g1
        go_loopw [9, 69] (fun v i wr => ∃ (j : Nat) (C : Option Addr) (cc' : Nat), j ≤ nv ∧ i = .int .i64 (j : Int) ∧ v = .slice C j cc' ∧ wr.ownsRow wo.heap.size 3 1 (.slice C j cc') j ((((merC pa ia ca pb ib cb).getD k []).take j).map (Value.int .i64)) ∧ Hid (∀ i, i < j → ∀ x y, mcell pa ia ca P0 ((uni ia ib).getD i 0) = some x → mcell pb ib cb P0 ((uni ia ib).getD i 0) = some y → y = x) ∧ Below wo.heap.size wo wr) (fun _ i _ => nv - (intOf i).toNat)
        case atStart => exact ⟨0, none, 0, by omega, rfl, rfl, World.ownsRow_nil _ _ _ _, fun i hi => by omega, Below.refl _ _⟩
        case round =>
          obtain ⟨j, C, cc', hj, rfl, rfl, howr, hinv2, hbr⟩ := hrel
          have BR : Below w.heap.size w wr := BW.trans (hbr.mono BW.size)
          by_cases hlt2 : j < nv
          · obtain ⟨b3, o3, hVA, hb3, hc3⟩ := (by have := hV.below hbr; obtain ⟨A', c', e, _, _, s⟩ := this; rw [HNV.out] at e s; injection e with e1 e2 e3; subst e1; exact s.num hlt2 : ∃ b o, VA = some ⟨b, o, none⟩ ∧ b < wr.heap.size ∧ ∀ j, j < nv → wr.cell? ⟨b, o + j, none⟩ = some (.int .i64 ((uni ia ib).getD j 0)))
            subst hVA
            have g3 := hc3 j hlt2
            have hjV : Hid (j < (uni ia ib).length) := by unfold Hid; rw [HNV.out]; exact hlt2
            have HT : Hid (((merC pa ia ca pb ib cb).getD k []).take (j + 1) = ((merC pa ia ca pb ib cb).getD k []).take j ++ [mer1 pa ia ca pb ib cb P0 ((uni ia ib).getD j 0)]) := by
              unfold Hid
              rw [take_succ_getD _ 0 (by rw [HSG.out, List.length_map]; exact hjV.out), HSG.out, getD_map _ _ 0 0 hjV.out]
            have HYes := Lib.hid (fun h => all_snoc (p := fun i => ∀ x y, mcell pa ia ca P0 ((uni ia ib).getD i 0) = some x → mcell pb ib cb P0 ((uni ia ib).getD i 0) = some y → y = x) (k := j) hinv2.out h)
            clear hc3 hinv2
            generalize (uni ia ib).getD j 0 = I0 at g3 HT HYes
            have hrar := hra.keep hbr
            have hrbr := hrb.keep hbr
            have a0 : wr.cell? ⟨w.heap.size, 0, none⟩ = some (.slice X pa.length cX) := hrar.cell 0
            have a1 : wr.cell? ⟨w.heap.size, 1, none⟩ = some (.slice Y ia.length cY) := hrar.cell 1
            have a2 : wr.cell? ⟨w.heap.size, 2, none⟩ = some (.slice Z ca.length cZ) := hrar.cell 2
            go_wp2_with fail
            clear g3 a0 a1 a2 hrar
            refine (rcell_any _ _ _ pa ia ca P0 I0 _ (hMA.below BR) HSH.out).mono ?_
            rintro e w10 ⟨rfl, hb10⟩
            have hbr10 : Below wo.heap.size wo w10 := hbr.trans (hb10.mono hbr.size)
            have howr10 := own_keep howr hb10
            replace hrbr := hrbr.keep hb10
            have BR10 : Below w.heap.size w w10 := BR.trans (hb10.mono BR.size)
            clear hbr hb10 howr BR
            have b0 : w10.cell? ⟨w.heap.size + 1, 0, none⟩ = some (.slice X2 pb.length cX2) := hrbr.cell 0
            have b1 : w10.cell? ⟨w.heap.size + 1, 1, none⟩ = some (.slice Y2 ib.length cY2) := hrbr.cell 1
            have b2 : w10.cell? ⟨w.heap.size + 1, 2, none⟩ = some (.slice Z2 cb.length cZ2) := hrbr.cell 2
            cases hm : mcell pa ia ca P0 I0 with
            | some x =>
              have e1 : (some x).getD (-1) = x := rfl
              have e2 : (some x).isSome = true := rfl
              rw [e1, e2]
              clear e1 e2
              go_wp2_with fail
              clear b0 b1 b2 hrbr
              refine (rcell_any _ _ _ pb ib cb P0 I0 _ (hMB.below BR10) HSH2.out).mono ?_
              rintro e w11 ⟨rfl, hb11⟩
              have hbr11 : Below wo.heap.size wo w11 := hbr10.trans (hb11.mono hbr10.size)
              have howr11 := own_keep howr10 hb11
              have BR11 : Below w.heap.size w w11 := BR10.trans (hb11.mono BR10.size)
              have zb11 : wo.heap.size ≤ w11.heap.size := hbr11.size
              clear hbr10 hb11 howr10 BR10
              cases hm2 : mcell pb ib cb P0 I0 with
              | some y =>
                have e1 : (some y).getD (-1) = y := rfl
                have e2 : (some y).isSome = true := rfl
                rw [e1, e2]
                clear e1 e2
                by_cases hxy : x = y
                · have HZ : Hid (mer1 pa ia ca pb ib cb P0 I0 = y) := by unfold Hid; rw [mer1_left hm]; exact hxy
                  have HI := Lib.hid (HYes.out (fun x' y' h1 h2 => by rw [hm] at h1; rw [hm2] at h2; injection h1 with h1; injection h2 with h2; rw [← h1, ← h2, hxy]))
                  subst hxy
                  have ne0 : (x != x) = false := by simp
                  clear hm hm2 HYes
                  go_wp2_with (at_builtin; refine wpList_append_one w11 rfl (.tmp 99) (.tmp 101) 22 rfl wo.heap.size 3 (.int .i64 0) 8 Try.underlying22 mInfoInt rfl (.slice C j cc') j _ (.int .i64 (x)) rfl rfl howr11 rfl (by unfold maxLen; omega) (by omega) zb11 ?_; intro A' c4 w12 hown3 hb12)
                  go_roundw
                  case rel =>
                    refine ⟨j + 1, A', c4, by omega, by go_num, rfl, ?_, HI.out, hbr11.trans hb12⟩
                    rw [HT.out, HZ.out, List.map_append, List.map_cons, List.map_nil]
                    exact hown3
                  case measure => simp [intOf]; omega
                · have HCF := Lib.hid (conf_of hm hm2 (fun e => hxy e.symm))
                  have HE : Hid (merE pa ia ca pb ib cb = 11) := by unfold Hid; rw [HE3.out, if_pos HCF.out]
                  have ne0 : (x != y) = true := by rw [bne_iff_ne]; exact hxy
                  clear hm hm2 HYes hxy HCF
                  have hre7 := hre.keep hbr11
                  have r0 : w11.cell? ⟨w.heap.size + 2, 0, none⟩ = some (.slice none 0 0) := hre7.cell 0
                  have r1 : w11.cell? ⟨w.heap.size + 2, 1, none⟩ = some (.slice none 0 0) := hre7.cell 1
                  have r2 : w11.cell? ⟨w.heap.size + 2, 2, none⟩ = some (.slice none 0 0) := hre7.cell 2
                  have f0 : w11.frozen? ⟨w.heap.size + 2, 0, none⟩ = false := hre7.frozen 0
                  have f1 : w11.frozen? ⟨w.heap.size + 2, 1, none⟩ = false := hre7.frozen 1
                  have f2 : w11.frozen? ⟨w.heap.size + 2, 2, none⟩ = false := hre7.frozen 2
                  go_wp2_with fail
                  exact bodyPost_ret (v := .tuple #[.agg #[.slice none 0 0, .slice none 0 0, .slice none 0 0], .int .i64 (11)]) (by simp [results, Try.results18, go_sem, r0, r1, r2]) rfl (MerPost.bad HE.out (by omega) ((((BR11).setCell (show w.heap.size ≤ w.heap.size + 2 by omega) _).setCell (show w.heap.size ≤ w.heap.size + 2 by omega) _).setCell (show w.heap.size ≤ w.heap.size + 2 by omega) _))
              | none =>
                have e1 : (none : Option Int).getD (-1) = -1 := rfl
                have e2 : (none : Option Int).isSome = false := rfl
                rw [e1, e2]
                clear e1 e2
                have HZ : Hid (mer1 pa ia ca pb ib cb P0 I0 = x) := by unfold Hid; rw [mer1_left hm]
                have HI := Lib.hid (HYes.out (fun x' y' h1 h2 => by rw [hm2] at h2; cases h2))
                clear hm hm2 HYes
                go_wp2_with (at_builtin; refine wpList_append_one w11 rfl (.tmp 99) (.tmp 101) 22 rfl wo.heap.size 3 (.int .i64 0) 8 Try.underlying22 mInfoInt rfl (.slice C j cc') j _ (.int .i64 (x)) rfl rfl howr11 rfl (by unfold maxLen; omega) (by omega) zb11 ?_; intro A' c4 w12 hown3 hb12)
                go_roundw
                case rel =>
                  refine ⟨j + 1, A', c4, by omega, by go_num, rfl, ?_, HI.out, hbr11.trans hb12⟩
                  rw [HT.out, HZ.out, List.map_append, List.map_cons, List.map_nil]
                  exact hown3
                case measure => simp [intOf]; omega
            | none =>
              have e1 : (none : Option Int).getD (-1) = -1 := rfl
              have e2 : (none : Option Int).isSome = false := rfl
              rw [e1, e2]
              clear e1 e2
              have HI := Lib.hid (HYes.out (fun x' y' h1 h2 => by rw [hm] at h1; cases h1))
              clear HYes
              go_wp2_with fail
              clear b0 b1 b2 hrbr
              refine (rcell_any _ _ _ pb ib cb P0 I0 _ (hMB.below BR10) HSH2.out).mono ?_
              rintro e w11 ⟨rfl, hb11⟩
              have hbr11 : Below wo.heap.size wo w11 := hbr10.trans (hb11.mono hbr10.size)
              have howr11 := own_keep howr10 hb11
              have BR11 : Below w.heap.size w w11 := BR10.trans (hb11.mono BR10.size)
              have zb11 : wo.heap.size ≤ w11.heap.size := hbr11.size
              clear hbr10 hb11 howr10 BR10
              cases hm2 : mcell pb ib cb P0 I0 with
              | some y =>
                have e1 : (some y).getD (-1) = y := rfl
                have e2 : (some y).isSome = true := rfl
                rw [e1, e2]
                clear e1 e2
                have HZ : Hid (mer1 pa ia ca pb ib cb P0 I0 = y) := by unfold Hid; rw [mer1_none hm, hm2]; rfl
                clear hm hm2
                go_wp2_with (at_builtin; refine wpList_append_one w11 rfl (.tmp 99) (.tmp 101) 22 rfl wo.heap.size 3 (.int .i64 0) 8 Try.underlying22 mInfoInt rfl (.slice C j cc') j _ (.int .i64 (y)) rfl rfl howr11 rfl (by unfold maxLen; omega) (by omega) zb11 ?_; intro A' c4 w12 hown3 hb12)
                go_roundw
                case rel =>
                  refine ⟨j + 1, A', c4, by omega, by go_num, rfl, ?_, HI.out, hbr11.trans hb12⟩
                  rw [HT.out, HZ.out, List.map_append, List.map_cons, List.map_nil]
                  exact hown3
                case measure => simp [intOf]; omega
              | none =>
                have e1 : (none : Option Int).getD (-1) = -1 := rfl
                have e2 : (none : Option Int).isSome = false := rfl
                rw [e1, e2]
                clear e1 e2
                have HZ : Hid (mer1 pa ia ca pb ib cb P0 I0 = -1) := by unfold Hid; rw [mer1_none hm, hm2]; rfl
                clear hm hm2
                go_wp2_with (at_builtin; refine wpList_append_one w11 rfl (.tmp 99) (.tmp 101) 22 rfl wo.heap.size 3 (.int .i64 0) 8 Try.underlying22 mInfoInt rfl (.slice C j cc') j _ (.int .i64 (-1)) rfl rfl howr11 rfl (by unfold maxLen; omega) (by omega) zb11 ?_; intro A' c4 w12 hown3 hb12)
                go_roundw
                case rel =>
                  refine ⟨j + 1, A', c4, by omega, by go_num, rfl, ?_, HI.out, hbr11.trans hb12⟩
                  rw [HT.out, HZ.out, List.map_append, List.map_cons, List.map_nil]
                  exact hown3
                case measure => simp [intOf]; omega
          · obtain rfl : j = nv := by omega
            have HL2 : Hid (((merC pa ia ca pb ib cb).getD k []).length = j) := by unfold Hid; rw [HSG.out, List.length_map, HNV.out]
            have HW : Hid (((merC pa ia ca pb ib cb).getD k []).take j = (merC pa ia ca pb ib cb).getD k []) := by unfold Hid; apply List.take_of_length_le; rw [HL2.out]; exact Nat.le_refl _
            rw [HW.out] at howr
            have HI := Lib.hid (HSN.out (fun i hi => hinv2.out i (by rw [HNV.out] at hi; exact hi)))
            clear HSN hinv2
            have hrow2 := hrow.keep hbr
            have hown2 := own_keep hown hbr
            have hcol2 := hcol.below hbr
            have hU2 := hU.below hbr
            have hV2 := hV.below hbr
            have hra2 := hra.keep hbr
            have hrb2 := hrb.keep hbr
            have hre2 := hre.keep hbr
            have c0 : wr.cell? ⟨g, 2, none⟩ = some (.slice V k cv) := hrow2.cell 2
            have zb : h ≤ wr.heap.size := by have := hbr.size; omega
            have hnu' := Nums.of_own howr
            have hfr : Fresh wo.heap.size (.slice C j cc') := fresh_own howr
            have hof : Off (Value.slice V k cv).ownBlock (.slice C j cc') := by
              rcases hq : (Value.slice V k cv).ownBlock with _ | q
              · exact Off.none_ _
              · exact Off.of_fresh hfr ((hown.lt q hq).2)
            have hoU2 : Off (Value.slice V k cv).ownBlock (.slice (some ⟨b1, o1, none⟩) nu uc) := by
              rcases hq : (Value.slice V k cv).ownBlock with _ | q
              · exact Off.none_ _
              · exact HOU.out q ((hown.lt q hq).1)
            have hoV2 : Off (Value.slice V k cv).ownBlock (.slice VA j vc) := by
              rcases hq : (Value.slice V k cv).ownBlock with _ | q
              · exact Off.none_ _
              · exact HOV.out q ((hown.lt q hq).1)
            go_wp2_with (at_builtin; refine wpList_append_oneG wr rfl (.tmp 105) (.tmp 107) 23 rfl h 22 (.slice none 0 0) 24 Try.underlying23 mInfoInts rfl (.slice V k cv) k _ (.slice C j cc') rfl rfl hown2 rfl (by unfold maxLen; omega) (by omega) zb ?_; intro A' c4 w12 hown3 hb12 hgr hloc; have hrow3 := hrow2.below hb12 hgl; have d0 : w12.cell? ⟨g, 2, none⟩ = some (.slice V k cv) := hrow3.cell 2; have d1 : w12.frozen? ⟨g, 2, none⟩ = false := hrow3.frozen 2)
            have hco3 := (hcol2.snoc hnu' hof (hfr.mono (by omega))).grown hgr hloc
            have hz12 := hb12.size
            go_roundw
            case rel =>
              refine ⟨k + 1, A', c4, _, by omega, by go_num, hrow3.set_ 2 _, own_far hown3 (p := ⟨g, 2, none⟩) hgl _, hco3.set_ (p := ⟨g, 2, none⟩) hgl _, (hU2.grown hgr hoU2).grown grown_set hoU, (hV2.grown hgr hoV2).grown grown_set hoV, (hra2.below hb12 (by omega)).far (p := ⟨g, 2, none⟩) (show w.heap.size ≠ g by omega) _, (hrb2.below hb12 (by omega)).far (p := ⟨g, 2, none⟩) (show w.heap.size + 1 ≠ g by omega) _, (hre2.below hb12 (by omega)).far (p := ⟨g, 2, none⟩) (show w.heap.size + 2 ≠ g by omega) _, HI.out, by simp; omega, ?_⟩
              exact ((BR.trans (hb12.mono (by omega))).setCell (by simp; omega) _)
            case measure => simp [intOf]; omega
      · obtain rfl : k = nu := by omega
        have HCF := Lib.hid (conf_none (pb := pb) (ib := ib) (cb := cb) (ca := ca) HR0.out HR1.out (fun p hp => hinv.out p (by rw [HNU.out] at hp; exact hp)))
        have HLc : Hid ((merC pa ia ca pb ib cb).length = k) := by unfold Hid; rw [merC_len, HNU.out]
        clear hinv hlt
        have c0 : wo.cell? ⟨g, 0, none⟩ = some (.slice UA k uc) := hrow.cell 0
        have c1 : wo.cell? ⟨g, 1, none⟩ = some (.slice VA nv vc) := hrow.cell 1
        have c2 : wo.cell? ⟨g, 2, none⟩ = some (.slice V k cv) := hrow.cell 2
        have r0 : wo.cell? ⟨w.heap.size + 2, 0, none⟩ = some (.slice none 0 0) := hre.cell 0
        have r1 : wo.cell? ⟨w.heap.size + 2, 1, none⟩ = some (.slice none 0 0) := hre.cell 1
        have r2 : wo.cell? ⟨w.heap.size + 2, 2, none⟩ = some (.slice none 0 0) := hre.cell 2
        have f0 : wo.frozen? ⟨w.heap.size + 2, 0, none⟩ = false := hre.frozen 0
        have f1 : wo.frozen? ⟨w.heap.size + 2, 1, none⟩ = false := hre.frozen 1
        have f2 : wo.frozen? ⟨w.heap.size + 2, 2, none⟩ = false := hre.frozen 2
        have HE4 : Hid (merE pa ia ca pb ib cb = if 200 < k ∨ 60 < nv then 5 else 0) := by unfold Hid; rw [HE3.out, if_neg (by rw [HCF.out]; simp), HNU.out, HNV.out]
        by_cases c1' : 200 < k
        case pos =>
          have d1 : decide (200 < (k : Int)) = true := decide_eq_true (by omega)
          have HE : Hid (merE pa ia ca pb ib cb = 5) := by unfold Hid; rw [HE4.out, if_pos (.inl c1')]
          go_wp2_with fail
          exact bodyPost_ret (v := .tuple #[.agg #[.slice none 0 0, .slice none 0 0, .slice none 0 0], .int .i64 (5)]) (by simp [results, Try.results18, go_sem, r0, r1, r2]) rfl (MerPost.bad HE.out (by omega) ((((BW).setCell (show w.heap.size ≤ w.heap.size + 2 by omega) _).setCell (show w.heap.size ≤ w.heap.size + 2 by omega) _).setCell (show w.heap.size ≤ w.heap.size + 2 by omega) _))
        have d1 : decide (200 < (k : Int)) = false := decide_eq_false (by omega)
        by_cases c2' : 60 < nv
        case pos =>
          have d2 : decide (60 < (nv : Int)) = true := decide_eq_true (by omega)
          have HE : Hid (merE pa ia ca pb ib cb = 5) := by unfold Hid; rw [HE4.out, if_pos (.inr c2')]
          go_wp2_with fail
          exact bodyPost_ret (v := .tuple #[.agg #[.slice none 0 0, .slice none 0 0, .slice none 0 0], .int .i64 (5)]) (by simp [results, Try.results18, go_sem, r0, r1, r2]) rfl (MerPost.bad HE.out (by omega) ((((BW).setCell (show w.heap.size ≤ w.heap.size + 2 by omega) _).setCell (show w.heap.size ≤ w.heap.size + 2 by omega) _).setCell (show w.heap.size ≤ w.heap.size + 2 by omega) _))
        have d2 : decide (60 < (nv : Int)) = false := decide_eq_false (by omega)
        have HE : Hid (merE pa ia ca pb ib cb = 0) := by unfold Hid; rw [HE4.out, if_neg (by omega)]
        clear HE4 HE3
        go_wp2_with fail
        refine bodyPost_ret (v := .tuple #[.agg #[.slice UA k uc, .slice VA nv vc, .slice V k cv], .int .i64 0]) (by simp [results, Try.results18, go_sem, r0, r1, r2]) rfl ⟨_, _, _, by rw [HE.out], ?_, ?_⟩
        · rw [HE.out, onZ_zero rfl, onZ_zero rfl, onZ_zero rfl]
          refine ⟨set3 hU hfU (by omega) _ _ _, set3 hV hfV (by omega) _ _ _, ?_⟩
          exact (((hcol.set_ (p := ⟨w.heap.size + 2, 0, none⟩) (show w.heap.size + 2 < h by omega) _).set_ (p := ⟨w.heap.size + 2, 1, none⟩) (show w.heap.size + 2 < h by omega) _).set_ (p := ⟨w.heap.size + 2, 2, none⟩) (show w.heap.size + 2 < h by omega) _).intsL HLc.out (own_far (own_far (own_far hown (p := ⟨w.heap.size + 2, 0, none⟩) (show w.heap.size + 2 < h by omega) _) (p := ⟨w.heap.size + 2, 1, none⟩) (show w.heap.size + 2 < h by omega) _) (p := ⟨w.heap.size + 2, 2, none⟩) (show w.heap.size + 2 < h by omega) _)
        · exact (((BW).setCell (show w.heap.size ≤ w.heap.size + 2 by omega) _).setCell (show w.heap.size ≤ w.heap.size + 2 by omega) _).setCell (show w.heap.size ≤ w.heap.size + 2 by omega) _
end Go.Proofs.Ytgdngopemlajjaa
