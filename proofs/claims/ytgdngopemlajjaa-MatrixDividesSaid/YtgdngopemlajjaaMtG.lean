/- The walk of matrix.Merge. -/
import Derived.Test.YtgdngopemlajjaaMtD
import Derived.Test.YtgdngopemlajjaaMtE
import Derived.Test.YtgdngopemlajjaaMtF
import Derived.Deep.DeepCutAuto
import Derived.Deep.Light
namespace Go.Proofs.Ytgdngopemlajjaa
open Go.RowKit
set_option linter.unusedVariables false

section
variable {pa ia : List Int} {ca : List (List Int)} {pb ib : List Int} {cb : List (List Int)}
theorem merE_1 (h : shp pa ia ca = false ∨ shp pb ib cb = false) : merE pa ia ca pb ib cb = 1 := if_pos h
theorem merE_2 (h1 : shp pa ia ca = true) (h2 : shp pb ib cb = true) (h : (ris pa && ris ia) = false ∨ (ris pb && ris ib) = false) : merE pa ia ca pb ib cb = 23 := by
  unfold merE
  rw [if_neg (by simp [h1, h2]), if_pos]
  simp only [Bool.and_eq_false_iff] at h
  rcases h with (h | h) | h | h <;> simp [h]
theorem and_ris {a b : List Int} (h : (ris a && ris b) = true) : ris a = true ∧ ris b = true := by simpa using h
theorem merE_3 (h1 : shp pa ia ca = true) (h2 : shp pb ib cb = true) (h3 : (ris pa && ris ia) = true) (h4 : (ris pb && ris ib) = true) : merE pa ia ca pb ib cb = if conf pa ia ca pb ib cb = true then 11 else if 200 < (uni pa pb).length ∨ 60 < (uni ia ib).length then 5 else 0 := by
  obtain ⟨a, b⟩ := and_ris h3
  obtain ⟨c, d⟩ := and_ris h4
  unfold merE
  rw [if_neg (by simp [h1, h2]), if_neg (by simp [a, b, c, d])]
theorem merE_zero (h : merE pa ia ca pb ib cb = 0) : shp pa ia ca = true ∧ shp pb ib cb = true ∧ ris pa = true ∧ ris ia = true ∧ ris pb = true ∧ ris ib = true ∧ conf pa ia ca pb ib cb = false ∧ (uni pa pb).length ≤ 200 ∧ (uni ia ib).length ≤ 60 := by
  unfold merE at h
  split at h
  · omega
  split at h
  · omega
  split at h
  · omega
  split at h
  · omega
  rename_i h1 h2 h3 h4
  simp only [not_or, Bool.not_eq_false, Bool.not_eq_true] at h1 h2 h3 h4
  exact ⟨h1.1, h1.2, h2.1, h2.2.1, h2.2.2.1, h2.2.2.2, h3, by omega, by omega⟩
theorem merC_len : (merC pa ia ca pb ib cb).length = (uni pa pb).length := by simp [merC]
theorem merC_get {k : Nat} (h : k < (uni pa pb).length) : (merC pa ia ca pb ib cb).getD k [] = (uni ia ib).map fun i => mer1 pa ia ca pb ib cb ((uni pa pb).getD k 0) i := by
  unfold merC; rw [getD_map _ _ 0 [] h]
end
/-- What Merge returns. -/
def MerPost (w : World) (pa ia : List Int) (ca : List (List Int)) (pb ib : List Int) (cb : List (List Int)) (e : Ending) (w' : World) : Prop :=
  ∃ pv iv cv, e = .returned (.tuple #[.agg #[pv, iv, cv], .int .i64 (merE pa ia ca pb ib cb)]) ∧
    Mat w' pv iv cv (onZ (merE pa ia ca pb ib cb) (uni pa pb)) (onZ (merE pa ia ca pb ib cb) (uni ia ib)) (onZ (merE pa ia ca pb ib cb) (merC pa ia ca pb ib cb)) ∧ Below w.heap.size w w'
theorem MerPost.bad {w w' : World} {pa ia : List Int} {ca : List (List Int)} {pb ib : List Int} {cb : List (List Int)} {E : Int} (hE : merE pa ia ca pb ib cb = E) (h0 : E ≠ 0) (hb : Below w.heap.size w w') :
    MerPost w pa ia ca pb ib cb (.returned (.tuple #[.agg #[.slice none 0 0, .slice none 0 0, .slice none 0 0], .int .i64 E])) w' := by
  refine ⟨_, _, _, by rw [hE], ?_, hb⟩
  rw [hE, onZ_bad h0, onZ_bad h0, onZ_bad h0]
  exact mat_nil w'

theorem uni_i64 {a b : List Int} (ha : I64 a) (hb : I64 b) : I64 (uni a b) := fun z hz => by
  rcases (mem_uni z a b).1 hz with h | h
  · exact ha z h
  · exact hb z h
theorem bl_call {a W w1 : World} (h : Below W.heap.size W w1) (h0 : Below a.heap.size a W) : Below a.heap.size a w1 := h0.trans (h.mono h0.size)
theorem bl_drew {a w : World} (h : Below a.heap.size a w) : Below a.heap.size a w.drew := h.drew
theorem bl_alloc {a w : World} (h : Below a.heap.size a w) (o : Obj) : Below a.heap.size a (w.alloc o) := h.alloc h.size _
theorem bl_grown {a W w' : World} {g : Nat} (hg : W.grownBy w' (some g)) (h0 : Below a.heap.size a W) (hle : a.heap.size ≤ g) : Below a.heap.size a w' := h0.grown hg h0.size (fun j hj => by cases hj; exact hle)
theorem bl_set3 {a w : World} {g : Nat} {x y z : Value} (h0 : Below a.heap.size a w) (hle : a.heap.size ≤ g) : Below a.heap.size a (((w.setCell ⟨g, 0, none⟩ x).setCell ⟨g, 1, none⟩ y).setCell ⟨g, 2, none⟩ z) :=
  ((h0.setCell (p := ⟨g, 0, none⟩) hle x).setCell (p := ⟨g, 1, none⟩) hle y).setCell (p := ⟨g, 2, none⟩) hle z
theorem row_grown {W w' : World} {g g' t : Nat} {xs : List Value} (h : Row W g t xs) (hg : W.grownBy w' (some g')) (hne : g ≠ g') : Row w' g t xs := (hg.block g h.lt (fun e => hne (by cases e; rfl))).trans h
theorem grown_set {w : World} {g i : Nat} {u : Value} : w.grownBy (w.setCell ⟨g, i, none⟩ u) (some g) :=
  ⟨rfl, rfl, rfl, by simp, fun k _ hne => Below.heap_setCell w ⟨g, i, none⟩ u k (fun e => hne (by simp at e; rw [e]))⟩
theorem rowN2 (w : World) (t : Nat) (xs ys : List Value) : Row ((w.alloc (.cells xs.toArray t)).alloc (.cells ys.toArray t)) (w.heap.size + 1) t ys := by
  have := Row.new (w.alloc (.cells xs.toArray t)) t ys
  rwa [show (w.alloc (.cells xs.toArray t)).heap.size = w.heap.size + 1 by simp] at this
theorem rowN3 {w : World} {g : Nat} {a b c : Value} (t : Nat) (xs : List Value) : Row ((((w.setCell ⟨g, 0, none⟩ a).setCell ⟨g, 1, none⟩ b).setCell ⟨g, 2, none⟩ c).alloc (.cells xs.toArray t)) w.heap.size t xs := by
  have := Row.new (((w.setCell ⟨g, 0, none⟩ a).setCell ⟨g, 1, none⟩ b).setCell ⟨g, 2, none⟩ c) t xs
  simpa using this
theorem row_st3 {w : World} {g t : Nat} {x y z a b c : Value} (h : Row w g t [x, y, z]) : Row (((w.setCell ⟨g, 0, none⟩ a).setCell ⟨g, 1, none⟩ b).setCell ⟨g, 2, none⟩ c) g t [a, b, c] := ((h.set_ 0 a).set_ 1 b).set_ 2 c
theorem row_far3 {w : World} {g g' t : Nat} {xs : List Value} {a b c : Value} (h : Row w g t xs) (hne : g ≠ g') : Row (((w.setCell ⟨g', 0, none⟩ a).setCell ⟨g', 1, none⟩ b).setCell ⟨g', 2, none⟩ c) g t xs :=
  ((h.far (p := ⟨g', 0, none⟩) hne a).far (p := ⟨g', 1, none⟩) hne b).far (p := ⟨g', 2, none⟩) hne c
theorem map_ne {w : World} {P : Program} {k b n g t : Nat} {R : Value → Option (DataW Unit × List MemPlace)} {D : DataW Unit} {xs : List Value} (h : w.ownsMap P k R b n D) (hr : Row w g t xs) : b ≠ g := by
  rintro rfl
  obtain ⟨es, ck, hh, _⟩ := h
  unfold Row at hr
  rw [hr] at hh
  cases hh
theorem map_set3 {w : World} {P : Program} {k b n g t : Nat} {R : Value → Option (DataW Unit × List MemPlace)} {D : DataW Unit} {xs : List Value} {a b' c : Value} (h : w.ownsMap P k R b n D) (hr : Row w g t xs) : (((w.setCell ⟨g, 0, none⟩ a).setCell ⟨g, 1, none⟩ b').setCell ⟨g, 2, none⟩ c).ownsMap P k R b n D := by
  have hne := map_ne h hr
  exact ((h.setCell (a := ⟨g, 0, none⟩) hne a).setCell (a := ⟨g, 1, none⟩) hne b').setCell (a := ⟨g, 2, none⟩) hne c
theorem mb {w w' : World} {P : Program} {k b n : Nat} {R : Value → Option (DataW Unit × List MemPlace)} {D : DataW Unit} (hb : Below w.heap.size w w') (h : w.ownsMap P k R b n D) : w'.ownsMap P k R b n D := ownsMap_below h hb
theorem keep6 {W w' : World} {a b : Nat} {x y z x2 y2 z2 : Value} (la : a < W.heap.size) (lb : b < W.heap.size) (h0 : W.cell? ⟨a, 0, none⟩ = some x) (h1 : W.cell? ⟨a, 1, none⟩ = some y) (h2 : W.cell? ⟨a, 2, none⟩ = some z) (k0 : W.cell? ⟨b, 0, none⟩ = some x2) (k1 : W.cell? ⟨b, 1, none⟩ = some y2) (k2 : W.cell? ⟨b, 2, none⟩ = some z2) (hb : Below W.heap.size W w') :
    w'.cell? ⟨a, 0, none⟩ = some x ∧ w'.cell? ⟨a, 1, none⟩ = some y ∧ w'.cell? ⟨a, 2, none⟩ = some z ∧ w'.cell? ⟨b, 0, none⟩ = some x2 ∧ w'.cell? ⟨b, 1, none⟩ = some y2 ∧ w'.cell? ⟨b, 2, none⟩ = some z2 ∧ Below W.heap.size W w' :=
  ⟨(hb.cell (p := ⟨a, 0, none⟩) la).trans h0, (hb.cell (p := ⟨a, 1, none⟩) la).trans h1, (hb.cell (p := ⟨a, 2, none⟩) la).trans h2, (hb.cell (p := ⟨b, 0, none⟩) lb).trans k0, (hb.cell (p := ⟨b, 1, none⟩) lb).trans k1, (hb.cell (p := ⟨b, 2, none⟩) lb).trans k2, hb⟩

set_option maxRecDepth 100000 in
set_option maxHeartbeats 16000000 in
theorem merge_any (pv iv cv pv2 iv2 cv2 : Value) (pa ia : List Int) (ca : List (List Int)) (pb ib : List Int) (cb : List (List Int)) (w : World) (hA : Mat w pv iv cv pa ia ca) (hB : Mat w pv2 iv2 cv2 pb ib cb)
    (wpa : I64 pa) (wia : I64 ia) (wpb : I64 pb) (wib : I64 ib) (l1 : (pa.length + pb.length) * 8 ≤ 140737488351232) (l2 : (ia.length + ib.length) * 8 ≤ 140737488351232) :
    Calls Try.prog 17 #[.agg #[pv, iv, cv], .agg #[pv2, iv2, cv2]] w (MerPost w pa ia ca pb ib cb) := by
  obtain ⟨hp, hi, hc⟩ := hA
  obtain ⟨hp2, hi2, hc2⟩ := hB
  have hp0 := hp
  have hi0 := hi
  have hc0 := hc
  have hp20 := hp2
  have hi20 := hi2
  have hc20 := hc2
  obtain ⟨X, cX, rfl, x1, x2, x3⟩ := hp
  obtain ⟨Y, cY, rfl, y1, y2, y3⟩ := hi
  obtain ⟨Z, cZ, us, rfl, z1, z2, hs, hu⟩ := hc
  obtain ⟨X2, cX2, rfl, x21, x22, x23⟩ := hp2
  obtain ⟨Y2, cY2, rfl, y21, y22, y23⟩ := hi2
  obtain ⟨Z2, cZ2, us2, rfl, z21, z22, hs2, hu2⟩ := hc2
  have HU := Lib.hid hu
  unfold maxLen at x2 y2 z2 x22 y22 z22
  clear hu hu2 hs2 x23 y23
  have hra := ((Row.new w 25 [.slice X pa.length cX, .slice Y ia.length cY, .slice Z ca.length cZ]).alloc (.cells #[.slice X2 pb.length cX2, .slice Y2 ib.length cY2, .slice Z2 cb.length cZ2] 25)).alloc (.cells #[.slice none 0 0, .slice none 0 0, .slice none 0 0] 25)
  have hrb := (Row.new (w.alloc (.cells #[.slice X pa.length cX, .slice Y ia.length cY, .slice Z ca.length cZ] 25)) 25 [.slice X2 pb.length cX2, .slice Y2 ib.length cY2, .slice Z2 cb.length cZ2]).alloc (.cells #[.slice none 0 0, .slice none 0 0, .slice none 0 0] 25)
  rw [show (w.alloc (.cells #[.slice X pa.length cX, .slice Y ia.length cY, .slice Z ca.length cZ] 25)).heap.size = w.heap.size + 1 by simp] at hrb
  have hre := Row.new ((w.alloc (.cells #[.slice X pa.length cX, .slice Y ia.length cY, .slice Z ca.length cZ] 25)).alloc (.cells #[.slice X2 pb.length cX2, .slice Y2 ib.length cY2, .slice Z2 cb.length cZ2] 25)) 25 [.slice none 0 0, .slice none 0 0, .slice none 0 0]
  rw [show ((w.alloc (.cells #[.slice X pa.length cX, .slice Y ia.length cY, .slice Z ca.length cZ] 25)).alloc (.cells #[.slice X2 pb.length cX2, .slice Y2 ib.length cY2, .slice Z2 cb.length cZ2] 25)).heap.size = w.heap.size + 2 by simp] at hre
  have B0 : Below w.heap.size w (((w.alloc (.cells #[.slice X pa.length cX, .slice Y ia.length cY, .slice Z ca.length cZ] 25)).alloc (.cells #[.slice X2 pb.length cX2, .slice Y2 ib.length cY2, .slice Z2 cb.length cZ2] 25)).alloc (.cells #[.slice none 0 0, .slice none 0 0, .slice none 0 0] 25)) := (((Below.refl _ _).alloc (Nat.le_refl _) _).alloc (by simp) _).alloc (by simp; omega) _
  go_enter Try.func17, Try.ntmps17
  go_wp2_with fail
  refine (mshp_any _ _ _ pa ia ca _ (hp0.below B0) (hi0.below B0) (hc0.below B0)).mono ?_
  rintro e w1 ⟨rfl, hb⟩
  have B1 : Below w.heap.size w w1 := B0.trans (hb.mono B0.size)
  replace hra := hra.keep hb
  replace hrb := hrb.keep hb
  replace hre := hre.keep hb
  clear hb B0
  have a0 : w1.cell? ⟨w.heap.size, 0, none⟩ = some (.slice X pa.length cX) := hra.cell 0
  have a1 : w1.cell? ⟨w.heap.size, 1, none⟩ = some (.slice Y ia.length cY) := hra.cell 1
  have a2 : w1.cell? ⟨w.heap.size, 2, none⟩ = some (.slice Z ca.length cZ) := hra.cell 2
  have b0 : w1.cell? ⟨w.heap.size + 1, 0, none⟩ = some (.slice X2 pb.length cX2) := hrb.cell 0
  have b1 : w1.cell? ⟨w.heap.size + 1, 1, none⟩ = some (.slice Y2 ib.length cY2) := hrb.cell 1
  have b2 : w1.cell? ⟨w.heap.size + 1, 2, none⟩ = some (.slice Z2 cb.length cZ2) := hrb.cell 2
  have r0 : w1.cell? ⟨w.heap.size + 2, 0, none⟩ = some (.slice none 0 0) := hre.cell 0
  have r1 : w1.cell? ⟨w.heap.size + 2, 1, none⟩ = some (.slice none 0 0) := hre.cell 1
  have r2 : w1.cell? ⟨w.heap.size + 2, 2, none⟩ = some (.slice none 0 0) := hre.cell 2
  have f0 : w1.frozen? ⟨w.heap.size + 2, 0, none⟩ = false := hre.frozen 0
  have f1 : w1.frozen? ⟨w.heap.size + 2, 1, none⟩ = false := hre.frozen 1
  have f2 : w1.frozen? ⟨w.heap.size + 2, 2, none⟩ = false := hre.frozen 2
  cases hsh : shp pa ia ca with
  | false =>
    have HE := Lib.hid (merE_1 (pb := pb) (ib := ib) (cb := cb) (.inl hsh))
    go_wp2_with fail
    exact bodyPost_ret (v := .tuple #[.agg #[.slice none 0 0, .slice none 0 0, .slice none 0 0], .int .i64 (1)]) (by simp [results, Try.results17, go_sem, r0, r1, r2]) rfl (MerPost.bad HE.out (by omega) ((((B1).setCell (show w.heap.size ≤ w.heap.size + 2 by omega) _).setCell (show w.heap.size ≤ w.heap.size + 2 by omega) _).setCell (show w.heap.size ≤ w.heap.size + 2 by omega) _))
  | true =>
  have HSH := Lib.hid hsh
  clear hsh
  go_wp2_with fail
  refine (mshp_any _ _ _ pb ib cb _ (hp20.below B1) (hi20.below B1) (hc20.below B1)).mono ?_
  rintro e w2 ⟨rfl, hb⟩
  clear a0 a1 a2 b0 b1 b2 r0 r1 r2 f0 f1 f2
  have B2 : Below w.heap.size w w2 := B1.trans (hb.mono B1.size)
  replace hra := hra.keep hb
  replace hrb := hrb.keep hb
  replace hre := hre.keep hb
  clear hb B1
  have a0 : w2.cell? ⟨w.heap.size, 0, none⟩ = some (.slice X pa.length cX) := hra.cell 0
  have a1 : w2.cell? ⟨w.heap.size, 1, none⟩ = some (.slice Y ia.length cY) := hra.cell 1
  have a2 : w2.cell? ⟨w.heap.size, 2, none⟩ = some (.slice Z ca.length cZ) := hra.cell 2
  have b0 : w2.cell? ⟨w.heap.size + 1, 0, none⟩ = some (.slice X2 pb.length cX2) := hrb.cell 0
  have b1 : w2.cell? ⟨w.heap.size + 1, 1, none⟩ = some (.slice Y2 ib.length cY2) := hrb.cell 1
  have b2 : w2.cell? ⟨w.heap.size + 1, 2, none⟩ = some (.slice Z2 cb.length cZ2) := hrb.cell 2
  have r0 : w2.cell? ⟨w.heap.size + 2, 0, none⟩ = some (.slice none 0 0) := hre.cell 0
  have r1 : w2.cell? ⟨w.heap.size + 2, 1, none⟩ = some (.slice none 0 0) := hre.cell 1
  have r2 : w2.cell? ⟨w.heap.size + 2, 2, none⟩ = some (.slice none 0 0) := hre.cell 2
  have f0 : w2.frozen? ⟨w.heap.size + 2, 0, none⟩ = false := hre.frozen 0
  have f1 : w2.frozen? ⟨w.heap.size + 2, 1, none⟩ = false := hre.frozen 1
  have f2 : w2.frozen? ⟨w.heap.size + 2, 2, none⟩ = false := hre.frozen 2
  cases hsh : shp pb ib cb with
  | false =>
    have HE := Lib.hid (merE_1 (pa := pa) (ia := ia) (ca := ca) (.inr hsh))
    go_wp2_with fail
    exact bodyPost_ret (v := .tuple #[.agg #[.slice none 0 0, .slice none 0 0, .slice none 0 0], .int .i64 (1)]) (by simp [results, Try.results17, go_sem, r0, r1, r2]) rfl (MerPost.bad HE.out (by omega) ((((B2).setCell (show w.heap.size ≤ w.heap.size + 2 by omega) _).setCell (show w.heap.size ≤ w.heap.size + 2 by omega) _).setCell (show w.heap.size ≤ w.heap.size + 2 by omega) _))
  | true =>
  have HSH2 := Lib.hid hsh
  clear hsh
  go_wp2_with fail
  refine (mord_any _ _ _ pa ia _ (hp0.below B2) (hi0.below B2) ⟨_, _, _, rfl⟩).mono ?_
  rintro e w3 ⟨rfl, hb⟩
  clear a0 a1 a2 b0 b1 b2 r0 r1 r2 f0 f1 f2
  have B3 : Below w.heap.size w w3 := B2.trans (hb.mono B2.size)
  replace hra := hra.keep hb
  replace hrb := hrb.keep hb
  replace hre := hre.keep hb
  clear hb B2
  have a0 : w3.cell? ⟨w.heap.size, 0, none⟩ = some (.slice X pa.length cX) := hra.cell 0
  have a1 : w3.cell? ⟨w.heap.size, 1, none⟩ = some (.slice Y ia.length cY) := hra.cell 1
  have a2 : w3.cell? ⟨w.heap.size, 2, none⟩ = some (.slice Z ca.length cZ) := hra.cell 2
  have b0 : w3.cell? ⟨w.heap.size + 1, 0, none⟩ = some (.slice X2 pb.length cX2) := hrb.cell 0
  have b1 : w3.cell? ⟨w.heap.size + 1, 1, none⟩ = some (.slice Y2 ib.length cY2) := hrb.cell 1
  have b2 : w3.cell? ⟨w.heap.size + 1, 2, none⟩ = some (.slice Z2 cb.length cZ2) := hrb.cell 2
  have r0 : w3.cell? ⟨w.heap.size + 2, 0, none⟩ = some (.slice none 0 0) := hre.cell 0
  have r1 : w3.cell? ⟨w.heap.size + 2, 1, none⟩ = some (.slice none 0 0) := hre.cell 1
  have r2 : w3.cell? ⟨w.heap.size + 2, 2, none⟩ = some (.slice none 0 0) := hre.cell 2
  have f0 : w3.frozen? ⟨w.heap.size + 2, 0, none⟩ = false := hre.frozen 0
  have f1 : w3.frozen? ⟨w.heap.size + 2, 1, none⟩ = false := hre.frozen 1
  have f2 : w3.frozen? ⟨w.heap.size + 2, 2, none⟩ = false := hre.frozen 2
  cases hor : (ris pa && ris ia) with
  | false =>
    have HE := Lib.hid (merE_2 (pb := pb) (ib := ib) HSH.out HSH2.out (.inl hor))
    go_wp2_with fail
    exact bodyPost_ret (v := .tuple #[.agg #[.slice none 0 0, .slice none 0 0, .slice none 0 0], .int .i64 (23)]) (by simp [results, Try.results17, go_sem, r0, r1, r2]) rfl (MerPost.bad HE.out (by omega) ((((B3).setCell (show w.heap.size ≤ w.heap.size + 2 by omega) _).setCell (show w.heap.size ≤ w.heap.size + 2 by omega) _).setCell (show w.heap.size ≤ w.heap.size + 2 by omega) _))
  | true =>
  have HOR := Lib.hid hor
  clear hor
  go_wp2_with fail
  refine (mord_any _ _ _ pb ib _ (hp20.below B3) (hi20.below B3) ⟨_, _, _, rfl⟩).mono ?_
  rintro e w4 ⟨rfl, hb⟩
  clear a0 a1 a2 b0 b1 b2 r0 r1 r2 f0 f1 f2
  have B4 : Below w.heap.size w w4 := B3.trans (hb.mono B3.size)
  replace hra := hra.keep hb
  replace hrb := hrb.keep hb
  replace hre := hre.keep hb
  clear hb B3
  have a0 : w4.cell? ⟨w.heap.size, 0, none⟩ = some (.slice X pa.length cX) := hra.cell 0
  have a1 : w4.cell? ⟨w.heap.size, 1, none⟩ = some (.slice Y ia.length cY) := hra.cell 1
  have a2 : w4.cell? ⟨w.heap.size, 2, none⟩ = some (.slice Z ca.length cZ) := hra.cell 2
  have b0 : w4.cell? ⟨w.heap.size + 1, 0, none⟩ = some (.slice X2 pb.length cX2) := hrb.cell 0
  have b1 : w4.cell? ⟨w.heap.size + 1, 1, none⟩ = some (.slice Y2 ib.length cY2) := hrb.cell 1
  have b2 : w4.cell? ⟨w.heap.size + 1, 2, none⟩ = some (.slice Z2 cb.length cZ2) := hrb.cell 2
  have r0 : w4.cell? ⟨w.heap.size + 2, 0, none⟩ = some (.slice none 0 0) := hre.cell 0
  have r1 : w4.cell? ⟨w.heap.size + 2, 1, none⟩ = some (.slice none 0 0) := hre.cell 1
  have r2 : w4.cell? ⟨w.heap.size + 2, 2, none⟩ = some (.slice none 0 0) := hre.cell 2
  have f0 : w4.frozen? ⟨w.heap.size + 2, 0, none⟩ = false := hre.frozen 0
  have f1 : w4.frozen? ⟨w.heap.size + 2, 1, none⟩ = false := hre.frozen 1
  have f2 : w4.frozen? ⟨w.heap.size + 2, 2, none⟩ = false := hre.frozen 2
  cases hor : (ris pb && ris ib) with
  | false =>
    have HE := Lib.hid (merE_2 (pa := pa) (ia := ia) HSH.out HSH2.out (.inr hor))
    go_wp2_with fail
    exact bodyPost_ret (v := .tuple #[.agg #[.slice none 0 0, .slice none 0 0, .slice none 0 0], .int .i64 (23)]) (by simp [results, Try.results17, go_sem, r0, r1, r2]) rfl (MerPost.bad HE.out (by omega) ((((B4).setCell (show w.heap.size ≤ w.heap.size + 2 by omega) _).setCell (show w.heap.size ≤ w.heap.size + 2 by omega) _).setCell (show w.heap.size ≤ w.heap.size + 2 by omega) _))
  | true =>
  have HOR2 := Lib.hid hor
  clear hor
  go_wp2_with fail
  have la0 := hra.lt
  have lb0 := hrb.lt
  have n1 := hp0.below B4
  have n2 := hi0.below B4
  have n3 := hc0.below B4
  have m1 := hp20.below B4
  have m2 := hi20.below B4
  have m3 := hc20.below B4
  go_cut [6, 7] (fun s6 s7 wx => ∃ gL gR b5 b5' b6 b6' : Nat, s6 = .pointer (some ⟨gL, 0, none⟩) ∧ s7 = .pointer (some ⟨gR, 0, none⟩) ∧ Row wx gL 53 [.slice Z ca.length cZ, .map (some b5), .map (some b5')] ∧ Row wx gR 53 [.slice Z2 cb.length cZ2, .map (some b6), .map (some b6')] ∧ Tab wx (.slice Z ca.length cZ) (.map (some b5)) (.map (some b5')) pa ia ca ∧ Tab wx (.slice Z2 cb.length cZ2) (.map (some b6)) (.map (some b6')) pb ib cb ∧ Below w4.heap.size w4 wx)
  case first =>
    go_region_held3 (fun w' => w'.cell? ⟨w.heap.size, 0, none⟩ = some (.slice X pa.length cX) ∧ w'.cell? ⟨w.heap.size, 1, none⟩ = some (.slice Y ia.length cY) ∧ w'.cell? ⟨w.heap.size, 2, none⟩ = some (.slice Z ca.length cZ) ∧ w'.cell? ⟨w.heap.size + 1, 0, none⟩ = some (.slice X2 pb.length cX2) ∧ w'.cell? ⟨w.heap.size + 1, 1, none⟩ = some (.slice Y2 ib.length cY2) ∧ w'.cell? ⟨w.heap.size + 1, 2, none⟩ = some (.slice Z2 cb.length cZ2) ∧ Below w4.heap.size w4 w')
      ((refine keep6 la0 lb0 a0 a1 a2 b0 b1 b2 ?_; (repeat (first | with_reducible exact Below.refl _ _ | ((with_reducible refine bl_set3 ?_ ?_); rotate_left; (first | exact z45 | exact z46 | exact Nat.le_refl _ | exact Nat.le_add_right _ _ | exact Nat.le_trans z45 (Nat.le_add_right _ _) | exact Nat.le_trans z46 (Nat.le_add_right _ _))) | with_reducible refine bl_call h62 ?_ | with_reducible refine bl_call h52 ?_ | with_reducible refine bl_drew ?_ | with_reducible refine bl_alloc ?_ _))))
      (first
        | (go_at_call 35; ((with_reducible refine (index_any (.slice X pa.length cX) (.slice Y ia.length cY) (.slice Z ca.length cZ) pa ia ca _ ?_ ?_ ?_ wpa wia (by omega) (by omega)).mono ?_); (refine n1.below ?_; (repeat (first | with_reducible exact Below.refl _ _ | ((with_reducible refine bl_set3 ?_ ?_); rotate_left; (first | exact z45 | exact z46 | exact Nat.le_refl _ | exact Nat.le_add_right _ _ | exact Nat.le_trans z45 (Nat.le_add_right _ _) | exact Nat.le_trans z46 (Nat.le_add_right _ _))) | with_reducible refine bl_call h62 ?_ | with_reducible refine bl_call h52 ?_ | with_reducible refine bl_drew ?_ | with_reducible refine bl_alloc ?_ _))); (refine n2.below ?_; (repeat (first | with_reducible exact Below.refl _ _ | ((with_reducible refine bl_set3 ?_ ?_); rotate_left; (first | exact z45 | exact z46 | exact Nat.le_refl _ | exact Nat.le_add_right _ _ | exact Nat.le_trans z45 (Nat.le_add_right _ _) | exact Nat.le_trans z46 (Nat.le_add_right _ _))) | with_reducible refine bl_call h62 ?_ | with_reducible refine bl_call h52 ?_ | with_reducible refine bl_drew ?_ | with_reducible refine bl_alloc ?_ _))); (refine n3.below ?_; (repeat (first | with_reducible exact Below.refl _ _ | ((with_reducible refine bl_set3 ?_ ?_); rotate_left; (first | exact z45 | exact z46 | exact Nat.le_refl _ | exact Nat.le_add_right _ _ | exact Nat.le_trans z45 (Nat.le_add_right _ _) | exact Nat.le_trans z46 (Nat.le_add_right _ _))) | with_reducible refine bl_call h62 ?_ | with_reducible refine bl_call h52 ?_ | with_reducible refine bl_drew ?_ | with_reducible refine bl_alloc ?_ _))); rintro e w5 ⟨mp, mi, rfl, ⟨hc5, ⟨b5, D5, rfl, h53, h54⟩, ⟨b5', D5', rfl, h55, h56⟩⟩, h52⟩; (have z45 : w4.heap.size ≤ w5.heap.size := (show Below w4.heap.size w4 w5 by (repeat (first | with_reducible exact Below.refl _ _ | ((with_reducible refine bl_set3 ?_ ?_); rotate_left; (first | exact z45 | exact z46 | exact Nat.le_refl _ | exact Nat.le_add_right _ _ | exact Nat.le_trans z45 (Nat.le_add_right _ _) | exact Nat.le_trans z46 (Nat.le_add_right _ _))) | with_reducible refine bl_call h62 ?_ | with_reducible refine bl_call h52 ?_ | with_reducible refine bl_drew ?_ | with_reducible refine bl_alloc ?_ _))).size); (try (have R50 : Row w5 w4.heap.size 53 [.slice none 0 0, .map none, .map none] := Row.keep (by first | with_reducible exact (Row.new w4 53 [.slice none 0 0, .map none, .map none]).drew | with_reducible exact ((Row.new w4 53 [.slice none 0 0, .map none, .map none]).alloc _).drew) h52)); (try (have R51 : Row w5 (w4.heap.size + 1) 53 [.slice none 0 0, .map none, .map none] := Row.keep (by with_reducible exact (rowN2 w4 53 [.slice none 0 0, .map none, .map none] [.slice none 0 0, .map none, .map none]).drew) h52)); (try (have R50z := R50.lt)); (try (have R51z := R51.lt))))
        | (go_at_call 35; ((with_reducible refine (index_any (.slice X2 pb.length cX2) (.slice Y2 ib.length cY2) (.slice Z2 cb.length cZ2) pb ib cb _ ?_ ?_ ?_ wpb wib (by omega) (by omega)).mono ?_); (refine m1.below ?_; (repeat (first | with_reducible exact Below.refl _ _ | ((with_reducible refine bl_set3 ?_ ?_); rotate_left; (first | exact z45 | exact z46 | exact Nat.le_refl _ | exact Nat.le_add_right _ _ | exact Nat.le_trans z45 (Nat.le_add_right _ _) | exact Nat.le_trans z46 (Nat.le_add_right _ _))) | with_reducible refine bl_call h62 ?_ | with_reducible refine bl_call h52 ?_ | with_reducible refine bl_drew ?_ | with_reducible refine bl_alloc ?_ _))); (refine m2.below ?_; (repeat (first | with_reducible exact Below.refl _ _ | ((with_reducible refine bl_set3 ?_ ?_); rotate_left; (first | exact z45 | exact z46 | exact Nat.le_refl _ | exact Nat.le_add_right _ _ | exact Nat.le_trans z45 (Nat.le_add_right _ _) | exact Nat.le_trans z46 (Nat.le_add_right _ _))) | with_reducible refine bl_call h62 ?_ | with_reducible refine bl_call h52 ?_ | with_reducible refine bl_drew ?_ | with_reducible refine bl_alloc ?_ _))); (refine m3.below ?_; (repeat (first | with_reducible exact Below.refl _ _ | ((with_reducible refine bl_set3 ?_ ?_); rotate_left; (first | exact z45 | exact z46 | exact Nat.le_refl _ | exact Nat.le_add_right _ _ | exact Nat.le_trans z45 (Nat.le_add_right _ _) | exact Nat.le_trans z46 (Nat.le_add_right _ _))) | with_reducible refine bl_call h62 ?_ | with_reducible refine bl_call h52 ?_ | with_reducible refine bl_drew ?_ | with_reducible refine bl_alloc ?_ _))); rintro e w6 ⟨mp2, mi2, rfl, ⟨hc6, ⟨b6, D6, rfl, h63, h64⟩, ⟨b6', D6', rfl, h65, h66⟩⟩, h62⟩; (have z56 : w5.heap.size ≤ w6.heap.size := (show Below w5.heap.size w5 w6 by (repeat (first | with_reducible exact Below.refl _ _ | ((with_reducible refine bl_set3 ?_ ?_); rotate_left; (first | exact z45 | exact z46 | exact Nat.le_refl _ | exact Nat.le_add_right _ _ | exact Nat.le_trans z45 (Nat.le_add_right _ _) | exact Nat.le_trans z46 (Nat.le_add_right _ _))) | with_reducible refine bl_call h62 ?_ | with_reducible refine bl_call h52 ?_ | with_reducible refine bl_drew ?_ | with_reducible refine bl_alloc ?_ _))).size); (have z46 : w4.heap.size ≤ w6.heap.size := Nat.le_trans z45 z56); (try (have R60 : Row w6 w4.heap.size 53 [.slice none 0 0, .map none, .map none] := Row.keep (by first | with_reducible exact R50 | with_reducible exact R50.alloc _ | with_reducible exact (R50.alloc _).alloc _) h62)); (try (have R61 : Row w6 (w4.heap.size + 1) 53 [.slice none 0 0, .map none, .map none] := Row.keep (by first | with_reducible exact R51 | with_reducible exact R51.alloc _) h62)); (try (have R62 : Row w6 w5.heap.size 53 [.slice none 0 0, .map none, .map none] := Row.keep (by first | with_reducible exact Row.new w5 53 [.slice none 0 0, .map none, .map none] | with_reducible exact (Row.new w5 53 [.slice none 0 0, .map none, .map none]).alloc _) h62)); (try (have R63 : Row w6 (w5.heap.size + 1) 53 [.slice none 0 0, .map none, .map none] := Row.keep (by with_reducible exact rowN2 w5 53 [.slice none 0 0, .map none, .map none] [.slice none 0 0, .map none, .map none]) h62)); (try (have R60z := R60.lt)); (try (have R61z := R61.lt)); (try (have R62z := R62.lt)); (try (have R63z := R63.lt)); (have M53 : w6.ownsMap Try.prog 3 (plainElem Try.prog 3) b5 pa.length D5 := mb h62 (by first | with_reducible exact h53 | with_reducible exact h53.alloc _ | with_reducible exact (h53.alloc _).alloc _)); (have M55 : w6.ownsMap Try.prog 3 (plainElem Try.prog 3) b5' ia.length D5' := mb h62 (by first | with_reducible exact h55 | with_reducible exact h55.alloc _ | with_reducible exact (h55.alloc _).alloc _)); (try (have R60c0 : w6.cell? ⟨w4.heap.size, 0, none⟩ = some (.slice none 0 0) := R60.cell 0)); (try (have R60c1 : w6.cell? ⟨w4.heap.size, 1, none⟩ = some (.map none) := R60.cell 1)); (try (have R60c2 : w6.cell? ⟨w4.heap.size, 2, none⟩ = some (.map none) := R60.cell 2)); (try (have R60f0 : w6.frozen? ⟨w4.heap.size, 0, none⟩ = false := R60.frozen 0)); (try (have R60f1 : w6.frozen? ⟨w4.heap.size, 1, none⟩ = false := R60.frozen 1)); (try (have R60f2 : w6.frozen? ⟨w4.heap.size, 2, none⟩ = false := R60.frozen 2)); (try (have R60ac0 : (w6.alloc (.cells #[.slice none 0 0, .map none, .map none] 53)).cell? ⟨w4.heap.size, 0, none⟩ = some (.slice none 0 0) := (R60.alloc _).cell 0)); (try (have R60ac1 : (w6.alloc (.cells #[.slice none 0 0, .map none, .map none] 53)).cell? ⟨w4.heap.size, 1, none⟩ = some (.map none) := (R60.alloc _).cell 1)); (try (have R60ac2 : (w6.alloc (.cells #[.slice none 0 0, .map none, .map none] 53)).cell? ⟨w4.heap.size, 2, none⟩ = some (.map none) := (R60.alloc _).cell 2)); (try (have R60af0 : (w6.alloc (.cells #[.slice none 0 0, .map none, .map none] 53)).frozen? ⟨w4.heap.size, 0, none⟩ = false := (R60.alloc _).frozen 0)); (try (have R60af1 : (w6.alloc (.cells #[.slice none 0 0, .map none, .map none] 53)).frozen? ⟨w4.heap.size, 1, none⟩ = false := (R60.alloc _).frozen 1)); (try (have R60af2 : (w6.alloc (.cells #[.slice none 0 0, .map none, .map none] 53)).frozen? ⟨w4.heap.size, 2, none⟩ = false := (R60.alloc _).frozen 2)); (try (have R60n := Nat.ne_of_lt R60.lt)); (try (have R60m := Ne.symm (Nat.ne_of_lt R60.lt))); (try (have R61c0 : w6.cell? ⟨w4.heap.size + 1, 0, none⟩ = some (.slice none 0 0) := R61.cell 0)); (try (have R61c1 : w6.cell? ⟨w4.heap.size + 1, 1, none⟩ = some (.map none) := R61.cell 1)); (try (have R61c2 : w6.cell? ⟨w4.heap.size + 1, 2, none⟩ = some (.map none) := R61.cell 2)); (try (have R61f0 : w6.frozen? ⟨w4.heap.size + 1, 0, none⟩ = false := R61.frozen 0)); (try (have R61f1 : w6.frozen? ⟨w4.heap.size + 1, 1, none⟩ = false := R61.frozen 1)); (try (have R61f2 : w6.frozen? ⟨w4.heap.size + 1, 2, none⟩ = false := R61.frozen 2)); (try (have R61ac0 : (w6.alloc (.cells #[.slice none 0 0, .map none, .map none] 53)).cell? ⟨w4.heap.size + 1, 0, none⟩ = some (.slice none 0 0) := (R61.alloc _).cell 0)); (try (have R61ac1 : (w6.alloc (.cells #[.slice none 0 0, .map none, .map none] 53)).cell? ⟨w4.heap.size + 1, 1, none⟩ = some (.map none) := (R61.alloc _).cell 1)); (try (have R61ac2 : (w6.alloc (.cells #[.slice none 0 0, .map none, .map none] 53)).cell? ⟨w4.heap.size + 1, 2, none⟩ = some (.map none) := (R61.alloc _).cell 2)); (try (have R61af0 : (w6.alloc (.cells #[.slice none 0 0, .map none, .map none] 53)).frozen? ⟨w4.heap.size + 1, 0, none⟩ = false := (R61.alloc _).frozen 0)); (try (have R61af1 : (w6.alloc (.cells #[.slice none 0 0, .map none, .map none] 53)).frozen? ⟨w4.heap.size + 1, 1, none⟩ = false := (R61.alloc _).frozen 1)); (try (have R61af2 : (w6.alloc (.cells #[.slice none 0 0, .map none, .map none] 53)).frozen? ⟨w4.heap.size + 1, 2, none⟩ = false := (R61.alloc _).frozen 2)); (try (have R61n := Nat.ne_of_lt R61.lt)); (try (have R61m := Ne.symm (Nat.ne_of_lt R61.lt))); (try (have R62c0 : w6.cell? ⟨w5.heap.size, 0, none⟩ = some (.slice none 0 0) := R62.cell 0)); (try (have R62c1 : w6.cell? ⟨w5.heap.size, 1, none⟩ = some (.map none) := R62.cell 1)); (try (have R62c2 : w6.cell? ⟨w5.heap.size, 2, none⟩ = some (.map none) := R62.cell 2)); (try (have R62f0 : w6.frozen? ⟨w5.heap.size, 0, none⟩ = false := R62.frozen 0)); (try (have R62f1 : w6.frozen? ⟨w5.heap.size, 1, none⟩ = false := R62.frozen 1)); (try (have R62f2 : w6.frozen? ⟨w5.heap.size, 2, none⟩ = false := R62.frozen 2)); (try (have R62ac0 : (w6.alloc (.cells #[.slice none 0 0, .map none, .map none] 53)).cell? ⟨w5.heap.size, 0, none⟩ = some (.slice none 0 0) := (R62.alloc _).cell 0)); (try (have R62ac1 : (w6.alloc (.cells #[.slice none 0 0, .map none, .map none] 53)).cell? ⟨w5.heap.size, 1, none⟩ = some (.map none) := (R62.alloc _).cell 1)); (try (have R62ac2 : (w6.alloc (.cells #[.slice none 0 0, .map none, .map none] 53)).cell? ⟨w5.heap.size, 2, none⟩ = some (.map none) := (R62.alloc _).cell 2)); (try (have R62af0 : (w6.alloc (.cells #[.slice none 0 0, .map none, .map none] 53)).frozen? ⟨w5.heap.size, 0, none⟩ = false := (R62.alloc _).frozen 0)); (try (have R62af1 : (w6.alloc (.cells #[.slice none 0 0, .map none, .map none] 53)).frozen? ⟨w5.heap.size, 1, none⟩ = false := (R62.alloc _).frozen 1)); (try (have R62af2 : (w6.alloc (.cells #[.slice none 0 0, .map none, .map none] 53)).frozen? ⟨w5.heap.size, 2, none⟩ = false := (R62.alloc _).frozen 2)); (try (have R62n := Nat.ne_of_lt R62.lt)); (try (have R62m := Ne.symm (Nat.ne_of_lt R62.lt))); (try (have R63c0 : w6.cell? ⟨w5.heap.size + 1, 0, none⟩ = some (.slice none 0 0) := R63.cell 0)); (try (have R63c1 : w6.cell? ⟨w5.heap.size + 1, 1, none⟩ = some (.map none) := R63.cell 1)); (try (have R63c2 : w6.cell? ⟨w5.heap.size + 1, 2, none⟩ = some (.map none) := R63.cell 2)); (try (have R63f0 : w6.frozen? ⟨w5.heap.size + 1, 0, none⟩ = false := R63.frozen 0)); (try (have R63f1 : w6.frozen? ⟨w5.heap.size + 1, 1, none⟩ = false := R63.frozen 1)); (try (have R63f2 : w6.frozen? ⟨w5.heap.size + 1, 2, none⟩ = false := R63.frozen 2)); (try (have R63ac0 : (w6.alloc (.cells #[.slice none 0 0, .map none, .map none] 53)).cell? ⟨w5.heap.size + 1, 0, none⟩ = some (.slice none 0 0) := (R63.alloc _).cell 0)); (try (have R63ac1 : (w6.alloc (.cells #[.slice none 0 0, .map none, .map none] 53)).cell? ⟨w5.heap.size + 1, 1, none⟩ = some (.map none) := (R63.alloc _).cell 1)); (try (have R63ac2 : (w6.alloc (.cells #[.slice none 0 0, .map none, .map none] 53)).cell? ⟨w5.heap.size + 1, 2, none⟩ = some (.map none) := (R63.alloc _).cell 2)); (try (have R63af0 : (w6.alloc (.cells #[.slice none 0 0, .map none, .map none] 53)).frozen? ⟨w5.heap.size + 1, 0, none⟩ = false := (R63.alloc _).frozen 0)); (try (have R63af1 : (w6.alloc (.cells #[.slice none 0 0, .map none, .map none] 53)).frozen? ⟨w5.heap.size + 1, 1, none⟩ = false := (R63.alloc _).frozen 1)); (try (have R63af2 : (w6.alloc (.cells #[.slice none 0 0, .map none, .map none] 53)).frozen? ⟨w5.heap.size + 1, 2, none⟩ = false := (R63.alloc _).frozen 2)); (try (have R63n := Nat.ne_of_lt R63.lt)); (try (have R63m := Ne.symm (Nat.ne_of_lt R63.lt))); (try (have n45 := Nat.ne_of_lt R50z)); (try (have m45 := Ne.symm (Nat.ne_of_lt R50z))))))
    all_goals go_wp2_with fail
    all_goals go_meet
    all_goals go_light
    all_goals (try clear R60n)
    all_goals (try clear R60m)
    all_goals (try clear R61n)
    all_goals (try clear R61m)
    all_goals (try clear R62n)
    all_goals (try clear R62m)
    all_goals (try clear R63n)
    all_goals (try clear R63m)
    all_goals (try clear n45)
    all_goals (try clear m45)
    all_goals
      refine ⟨_, _, b5, b5', b6, b6', rfl, rfl, ?_, ?_, ⟨?_, ⟨b5, D5, rfl, ?_, h54⟩, ⟨b5', D5', rfl, ?_, h56⟩⟩, ⟨?_, ⟨b6, D6, rfl, ?_, h64⟩, ⟨b6', D6', rfl, ?_, h66⟩⟩, ?_⟩
      · (repeat (first | with_reducible exact Row.new _ _ _ | with_reducible exact rowN2 _ _ _ _ | with_reducible exact rowN3 _ _ | with_reducible exact R60 | with_reducible exact R61 | with_reducible exact R62 | with_reducible exact R63 | with_reducible refine row_st3 (x := .slice none 0 0) (y := .map none) (z := .map none) ?_ | ((with_reducible refine row_far3 ?_ ?_); rotate_left; omega) | with_reducible refine Row.alloc ?_ _))
      · (repeat (first | with_reducible exact Row.new _ _ _ | with_reducible exact rowN2 _ _ _ _ | with_reducible exact rowN3 _ _ | with_reducible exact R60 | with_reducible exact R61 | with_reducible exact R62 | with_reducible exact R63 | with_reducible refine row_st3 (x := .slice none 0 0) (y := .map none) (z := .map none) ?_ | ((with_reducible refine row_far3 ?_ ?_); rotate_left; omega) | with_reducible refine Row.alloc ?_ _))
      · (refine n3.below ?_; (repeat (first | with_reducible exact Below.refl _ _ | ((with_reducible refine bl_set3 ?_ ?_); rotate_left; (first | exact z45 | exact z46 | exact Nat.le_refl _ | exact Nat.le_add_right _ _ | exact Nat.le_trans z45 (Nat.le_add_right _ _) | exact Nat.le_trans z46 (Nat.le_add_right _ _))) | with_reducible refine bl_call h62 ?_ | with_reducible refine bl_call h52 ?_ | with_reducible refine bl_drew ?_ | with_reducible refine bl_alloc ?_ _)))
      · (first | with_reducible exact (M53.alloc _).alloc _ | with_reducible exact (map_set3 M53 R60).alloc _ | with_reducible exact (map_set3 M53 R61).alloc _ | with_reducible exact (map_set3 M53 R62).alloc _ | with_reducible exact (map_set3 M53 R63).alloc _ | with_reducible exact map_set3 (map_set3 M53 R60) (row_far3 R61 (by omega)) | with_reducible exact map_set3 (map_set3 M53 R61) (row_far3 R60 (by omega)) | with_reducible exact map_set3 (map_set3 M53 R60) (row_far3 R62 (by omega)) | with_reducible exact map_set3 (map_set3 M53 R62) (row_far3 R60 (by omega)) | with_reducible exact map_set3 (map_set3 M53 R62) (row_far3 R63 (by omega)) | with_reducible exact map_set3 (map_set3 M53 R63) (row_far3 R62 (by omega)))
      · (first | with_reducible exact (M55.alloc _).alloc _ | with_reducible exact (map_set3 M55 R60).alloc _ | with_reducible exact (map_set3 M55 R61).alloc _ | with_reducible exact (map_set3 M55 R62).alloc _ | with_reducible exact (map_set3 M55 R63).alloc _ | with_reducible exact map_set3 (map_set3 M55 R60) (row_far3 R61 (by omega)) | with_reducible exact map_set3 (map_set3 M55 R61) (row_far3 R60 (by omega)) | with_reducible exact map_set3 (map_set3 M55 R60) (row_far3 R62 (by omega)) | with_reducible exact map_set3 (map_set3 M55 R62) (row_far3 R60 (by omega)) | with_reducible exact map_set3 (map_set3 M55 R62) (row_far3 R63 (by omega)) | with_reducible exact map_set3 (map_set3 M55 R63) (row_far3 R62 (by omega)))
      · (refine m3.below ?_; (repeat (first | with_reducible exact Below.refl _ _ | ((with_reducible refine bl_set3 ?_ ?_); rotate_left; (first | exact z45 | exact z46 | exact Nat.le_refl _ | exact Nat.le_add_right _ _ | exact Nat.le_trans z45 (Nat.le_add_right _ _) | exact Nat.le_trans z46 (Nat.le_add_right _ _))) | with_reducible refine bl_call h62 ?_ | with_reducible refine bl_call h52 ?_ | with_reducible refine bl_drew ?_ | with_reducible refine bl_alloc ?_ _)))
      · (first | with_reducible exact (h63.alloc _).alloc _ | with_reducible exact (map_set3 h63 R60).alloc _ | with_reducible exact (map_set3 h63 R61).alloc _ | with_reducible exact (map_set3 h63 R62).alloc _ | with_reducible exact (map_set3 h63 R63).alloc _ | with_reducible exact map_set3 (map_set3 h63 R60) (row_far3 R61 (by omega)) | with_reducible exact map_set3 (map_set3 h63 R61) (row_far3 R60 (by omega)) | with_reducible exact map_set3 (map_set3 h63 R60) (row_far3 R62 (by omega)) | with_reducible exact map_set3 (map_set3 h63 R62) (row_far3 R60 (by omega)) | with_reducible exact map_set3 (map_set3 h63 R62) (row_far3 R63 (by omega)) | with_reducible exact map_set3 (map_set3 h63 R63) (row_far3 R62 (by omega)))
      · (first | with_reducible exact (h65.alloc _).alloc _ | with_reducible exact (map_set3 h65 R60).alloc _ | with_reducible exact (map_set3 h65 R61).alloc _ | with_reducible exact (map_set3 h65 R62).alloc _ | with_reducible exact (map_set3 h65 R63).alloc _ | with_reducible exact map_set3 (map_set3 h65 R60) (row_far3 R61 (by omega)) | with_reducible exact map_set3 (map_set3 h65 R61) (row_far3 R60 (by omega)) | with_reducible exact map_set3 (map_set3 h65 R60) (row_far3 R62 (by omega)) | with_reducible exact map_set3 (map_set3 h65 R62) (row_far3 R60 (by omega)) | with_reducible exact map_set3 (map_set3 h65 R62) (row_far3 R63 (by omega)) | with_reducible exact map_set3 (map_set3 h65 R63) (row_far3 R62 (by omega)))
      · (repeat (first | with_reducible exact Below.refl _ _ | ((with_reducible refine bl_set3 ?_ ?_); rotate_left; (first | exact z45 | exact z46 | exact Nat.le_refl _ | exact Nat.le_add_right _ _ | exact Nat.le_trans z45 (Nat.le_add_right _ _) | exact Nat.le_trans z46 (Nat.le_add_right _ _))) | with_reducible refine bl_call h62 ?_ | with_reducible refine bl_call h52 ?_ | with_reducible refine bl_drew ?_ | with_reducible refine bl_alloc ?_ _))
  case rest =>
    obtain ⟨gL, gR, b5, b5', b6, b6', rfl, rfl, hL, hR, hTL, hTR, hbx⟩ := hcut
    clear a0 a1 a2 b0 b1 b2 r0 r1 r2 f0 f1 f2 n1 n2 n3 m1 m2 m3 la0 lb0
    replace hra := hra.keep hbx
    replace hrb := hrb.keep hbx
    replace hre := hre.keep hbx
    have B5 : Below w.heap.size w wc := B4.trans (hbx.mono B4.size)
    clear hbx B4 hc20
    obtain ⟨ra1, ra2⟩ := and_ris HOR.out
    obtain ⟨rb1, rb2⟩ := and_ris HOR2.out
    have RA1 := Lib.hid ra1
    have RA2 := Lib.hid ra2
    have RB1 := Lib.hid rb1
    have RB2 := Lib.hid rb2
    clear ra1 ra2 rb1 rb2
    have HE3 := Lib.hid (merE_3 HSH.out HSH2.out HOR.out HOR2.out)
    have HCL : Hid (ca.length = pa.length) := (shp_at HSH.out).1
    have a0 : wc.cell? ⟨w.heap.size, 0, none⟩ = some (.slice X pa.length cX) := hra.cell 0
    obtain ⟨na, hna⟩ : ∃ n, pa.length = n := ⟨_, rfl⟩
    have HNA := Lib.hid hna
    obtain ⟨ni, hni⟩ : ∃ n, ia.length = n := ⟨_, rfl⟩
    have HNI := Lib.hid hni
    rw [hna] at x1 x3 l1 hra a0 hp0 ⊢
    rw [hni] at y1 y3 l2 hra hi0 ⊢
    clear hna hni
    go_wp2_with fail
    go_loopw [49] (fun i wr => ∃ k : Nat, k ≤ na ∧ i = .int .i64 (k : Int) ∧ Hid (∀ p, p < k → ∀ i, i < ia.length → ∀ y, mcell pb ib cb (pa.getD p 0) (ia.getD i 0) = some y → y = (ca.getD p []).getD i 0) ∧ Below wc.heap.size wc wr) (fun i _ => na - (intOf i).toNat)
    case atStart => exact ⟨0, by omega, rfl, fun p hp => by omega, Below.refl _ _⟩
    case round =>
      obtain ⟨k, hk, rfl, hinv, hbo⟩ := hrel
      have BW : Below w.heap.size w wr := B5.trans (hbo.mono B5.size)
      by_cases hlt : k < na
      · obtain ⟨bx, ox, rfl, hbx, hcx⟩ := x3.num hlt
        have g1 : wr.cell? ⟨bx, ox + k, none⟩ = some (.int .i64 (pa.getD k 0)) := (BW.cell (p := ⟨bx, ox + k, none⟩) hbx).trans (hcx k hlt)
        have hkp : Hid (k < pa.length) := by unfold Hid; rw [HNA.out]; exact hlt
        have wP := wpa.get hkp.out
        have a1 : wr.cell? ⟨w.heap.size, 1, none⟩ = some (.slice Y ni cY) := (hra.keep hbo).cell 1
        have hkc : k < ca.length := by rw [HCL.out]; exact hkp.out
        obtain ⟨b2, o2, u2, rfl, hb2, g2, hI⟩ := lst_at hs HU.out hkc
        have hlen : Hid ((ca.getD k []).length = ni) := by unfold Hid; rw [← HNI.out]; exact (shp_at HSH.out).2 k hkc
        obtain ⟨R, cR, rfl, rq1, rq2, rq3⟩ := hI
        rw [hlen.out] at rq1 rq3
        unfold maxLen at rq2
        clear hcx
        generalize hP0 : pa.getD k 0 = P0 at g1 wP
        have HP0 := Lib.hid hP0
        clear hP0
        obtain ⟨wo, rfl⟩ : ∃ wo : World, wo = wr := ⟨_, rfl⟩
        go_wp2_with fail
        go_loopw [57] (fun i wr => ∃ j : Nat, j ≤ ni ∧ i = .int .i64 (j : Int) ∧ Hid (∀ i, i < j → ∀ y, mcell pb ib cb P0 (ia.getD i 0) = some y → y = (ca.getD k []).getD i 0) ∧ Below wc.heap.size wc wr) (fun i _ => ni - (intOf i).toNat)
        case atStart => exact ⟨0, by omega, rfl, fun i hi => by omega, hbo⟩
        case round =>
          obtain ⟨j, hj, rfl, hinv2, hbr⟩ := hrel
          have BR : Below w.heap.size w wr := B5.trans (hbr.mono B5.size)
          by_cases hlt2 : j < ni
          · obtain ⟨by_, oy, rfl, hby, hcy⟩ := y3.num hlt2
            have g3 : wr.cell? ⟨by_, oy + j, none⟩ = some (.int .i64 (ia.getD j 0)) := (BR.cell (p := ⟨by_, oy + j, none⟩) hby).trans (hcy j hlt2)
            have hji : Hid (j < ia.length) := by unfold Hid; rw [HNI.out]; exact hlt2
            have wI := wia.get hji.out
            have HYes := Lib.hid (fun h => all_snoc (p := fun i => ∀ y, mcell pb ib cb P0 (ia.getD i 0) = some y → y = (ca.getD k []).getD i 0) (k := j) hinv2.out h)
            have HNo := Lib.hid (fun (y : Int) h1 h2 => conf_yes (pa := pa) (ia := ia) (ca := ca) (pb := pb) (ib := ib) (cb := cb) (p := k) (i := j) (y := y) hkp.out hji.out h1 h2)
            rw [HP0.out] at HNo
            clear hcy hinv2
            generalize ia.getD j 0 = I0 at *
            have hRr := hR.keep hbr
            have t0 : wr.cell? ⟨gR, 0, none⟩ = some (.slice Z2 cb.length cZ2) := hRr.cell 0
            have t1 : wr.cell? ⟨gR, 1, none⟩ = some (.map (some b6)) := hRr.cell 1
            have t2 : wr.cell? ⟨gR, 2, none⟩ = some (.map (some b6')) := hRr.cell 2
            have hTr := hTR.below hbr
            go_wp2_with fail
            refine (cell_any _ _ _ pb ib cb P0 I0 _ hTr HSH2.out wP wI).mono ?_
            rintro e w7 ⟨rfl, hb7⟩
            have hbr7 : Below wc.heap.size wc w7 := hbr.trans (hb7.mono hbr.size)
            have B7 : Below w.heap.size w w7 := B5.trans (hbr7.mono B5.size)
            clear t0 t1 t2 hRr hTr
            cases hm : mcell pb ib cb P0 I0 with
            | none =>
              have HI := Lib.hid (HYes.out (fun y hy => by rw [hm] at hy; cases hy))
              clear hm HYes HNo
              go_wp2_with fail
              go_roundw
              case rel => exact ⟨j + 1, by omega, by go_num, HI.out, hbr7⟩
              case measure => simp [intOf]; omega
            | some y =>
              obtain ⟨b4, o4, rfl, hb4, hc4⟩ := rq3.num hlt2
              have g4 : w7.cell? ⟨b4, o4 + j, none⟩ = some (.int .i64 ((ca.getD k []).getD j 0)) := (B7.cell (p := ⟨b4, o4 + j, none⟩) hb4).trans (hc4 j hlt2)
              have g5 : w7.cell? ⟨b2, o2 + k, none⟩ = some (.slice (some ⟨b4, o4, none⟩) (ca.getD k []).length cR) := (B7.cell (p := ⟨b2, o2 + k, none⟩) hb2).trans g2
              rw [hlen.out] at g5
              have g6 : w7.cell? ⟨w.heap.size, 2, none⟩ = some (.slice (some ⟨b2, o2, none⟩) ca.length cZ) := (hra.keep hbr7).cell 2
              clear hc4 g2
              by_cases hyz : y = (ca.getD k []).getD j 0
              · have HI := Lib.hid (HYes.out (fun y' hy => by rw [hm] at hy; injection hy with hy; rw [← hy]; exact hyz))
                rw [← hyz] at g4
                have ne0 : (y != y) = false := by simp
                clear hm HYes HNo hyz
                go_wp2_with fail
                go_roundw
                case rel => exact ⟨j + 1, by omega, by go_num, HI.out, hbr7⟩
                case measure => simp [intOf]; omega
              · have HE : Hid (merE pa ia ca pb ib cb = 11) := by unfold Hid; rw [HE3.out, if_pos (HNo.out y hm hyz)]
                have ne0 : (y != (ca.getD k []).getD j 0) = true := by rw [bne_iff_ne]; exact hyz
                clear hm HYes HNo hyz
                generalize (ca.getD k []).getD j 0 = z at *
                have hre7 := hre.keep hbr7
                have r0 : w7.cell? ⟨w.heap.size + 2, 0, none⟩ = some (.slice none 0 0) := hre7.cell 0
                have r1 : w7.cell? ⟨w.heap.size + 2, 1, none⟩ = some (.slice none 0 0) := hre7.cell 1
                have r2 : w7.cell? ⟨w.heap.size + 2, 2, none⟩ = some (.slice none 0 0) := hre7.cell 2
                have f0 : w7.frozen? ⟨w.heap.size + 2, 0, none⟩ = false := hre7.frozen 0
                have f1 : w7.frozen? ⟨w.heap.size + 2, 1, none⟩ = false := hre7.frozen 1
                have f2 : w7.frozen? ⟨w.heap.size + 2, 2, none⟩ = false := hre7.frozen 2
                go_wp2_with fail
                exact bodyPost_ret (v := .tuple #[.agg #[.slice none 0 0, .slice none 0 0, .slice none 0 0], .int .i64 (11)]) (by simp [results, Try.results17, go_sem, r0, r1, r2]) rfl (MerPost.bad HE.out (by omega) ((((B7).setCell (show w.heap.size ≤ w.heap.size + 2 by omega) _).setCell (show w.heap.size ≤ w.heap.size + 2 by omega) _).setCell (show w.heap.size ≤ w.heap.size + 2 by omega) _))
          · have HI := Lib.hid (all_snoc (p := fun p => ∀ i, i < ia.length → ∀ y, mcell pb ib cb (pa.getD p 0) (ia.getD i 0) = some y → y = (ca.getD p []).getD i 0) (k := k) hinv.out (fun i hi y hy => hinv2.out i (by have := HNI.out; omega) y (by rw [← HP0.out]; exact hy)))
            clear hinv2
            go_wp2_with fail
            go_roundw
            case rel => exact ⟨k + 1, by omega, by go_num, HI.out, hbr⟩
            case measure => simp [intOf]; omega
      · obtain rfl : k = na := by omega
        have HCF := Lib.hid (conf_no (pb := pb) (ib := ib) (cb := cb) (ca := ca) (fun p hp => hinv.out p (by rw [HNA.out] at hp; omega)))
        clear hinv hlt
        replace hra := hra.keep hbo
        replace hrb := hrb.keep hbo
        replace hre := hre.keep hbo
        replace hL := hL.keep hbo
        replace hR := hR.keep hbo
        replace hTL := hTL.below hbo
        replace hTR := hTR.below hbo
        clear a0 hbo B5
        have a0 : wr.cell? ⟨w.heap.size, 0, none⟩ = some (.slice X k cX) := hra.cell 0
        have a1 : wr.cell? ⟨w.heap.size, 1, none⟩ = some (.slice Y ni cY) := hra.cell 1
        have b0 : wr.cell? ⟨w.heap.size + 1, 0, none⟩ = some (.slice X2 pb.length cX2) := hrb.cell 0
        have b1 : wr.cell? ⟨w.heap.size + 1, 1, none⟩ = some (.slice Y2 ib.length cY2) := hrb.cell 1
        go_wp2_with fail
        refine (union_any _ _ pa pb _ (hp0.below BW) (hp20.below BW) (by rw [HNA.out]; exact l1)).mono ?_
        rintro e w8 ⟨uv, rfl, hU, hfU, hb⟩
        have hreU := hre
        replace hra := hra.keep hb
        replace hrb := hrb.keep hb
        replace hre := hre.keep hb
        replace hL := hL.keep hb
        replace hR := hR.keep hb
        replace hTL := hTL.below hb
        replace hTR := hTR.below hb
        have B8 : Below w.heap.size w w8 := BW.trans (hb.mono BW.size)
        clear hb BW a0 a1 b0 b1
        have a0 : w8.cell? ⟨w.heap.size, 0, none⟩ = some (.slice X k cX) := hra.cell 0
        have a1 : w8.cell? ⟨w.heap.size, 1, none⟩ = some (.slice Y ni cY) := hra.cell 1
        have b0 : w8.cell? ⟨w.heap.size + 1, 0, none⟩ = some (.slice X2 pb.length cX2) := hrb.cell 0
        have b1 : w8.cell? ⟨w.heap.size + 1, 1, none⟩ = some (.slice Y2 ib.length cY2) := hrb.cell 1
        replace hfU := hfU.mono (show w.heap.size + 3 ≤ wr.heap.size by have := hreU.lt; omega)
        clear hreU
        have hU0 := hU
        obtain ⟨UA, uc, rfl, u1, u2, u3⟩ := hU
        obtain ⟨nu, hnu⟩ : ∃ n, (uni pa pb).length = n := ⟨_, rfl⟩
        have HNU := Lib.hid hnu
        rw [hnu] at u1 u3 hU0 hfU ⊢
        clear hnu
        unfold maxLen at u2
        go_wp2_with fail
        refine (union_any _ _ ia ib _ (hi0.below B8) (hi20.below B8) (by rw [HNI.out]; exact l2)).mono ?_
        rintro e w9 ⟨vv, rfl, hV, hfV, hb⟩
        have hU9 := hU0.below hb
        have hreV := hre
        replace hra := hra.keep hb
        replace hrb := hrb.keep hb
        replace hre := hre.keep hb
        replace hL := hL.keep hb
        replace hR := hR.keep hb
        replace hTL := hTL.below hb
        replace hTR := hTR.below hb
        have B9 : Below w.heap.size w w9 := B8.trans (hb.mono B8.size)
        clear hb B8 a0 a1 b0 b1 u3
        have r0 : w9.cell? ⟨w.heap.size + 2, 0, none⟩ = some (.slice none 0 0) := hre.cell 0
        have r1 : w9.cell? ⟨w.heap.size + 2, 1, none⟩ = some (.slice none 0 0) := hre.cell 1
        have r2 : w9.cell? ⟨w.heap.size + 2, 2, none⟩ = some (.slice none 0 0) := hre.cell 2
        have f0 : w9.frozen? ⟨w.heap.size + 2, 0, none⟩ = false := hre.frozen 0
        have f1 : w9.frozen? ⟨w.heap.size + 2, 1, none⟩ = false := hre.frozen 1
        have f2 : w9.frozen? ⟨w.heap.size + 2, 2, none⟩ = false := hre.frozen 2
        replace hfV := hfV.mono (show w.heap.size + 3 ≤ w8.heap.size by have := hreV.lt; omega)
        clear hreV
        have hV0 := hV
        obtain ⟨VA, vc, rfl, v1, v2, v3⟩ := hV
        obtain ⟨nv, hnv⟩ : ∃ n, (uni ia ib).length = n := ⟨_, rfl⟩
        have HNV := Lib.hid hnv
        rw [hnv] at v1 v3 hV0 hfV ⊢
        clear hnv v3
        unfold maxLen at v2
        have HE4 : Hid (merE pa ia ca pb ib cb = if 200 < nu ∨ 60 < nv then 5 else 0) := by unfold Hid; rw [HE3.out, if_neg (by rw [HCF.out]; simp), HNU.out, HNV.out]
        by_cases c1 : 200 < nu
        case pos =>
          have d1 : decide (200 < (nu : Int)) = true := decide_eq_true (by omega)
          have HE : Hid (merE pa ia ca pb ib cb = 5) := by unfold Hid; rw [HE4.out, if_pos (.inl c1)]
          go_wp2_with fail
          exact bodyPost_ret (v := .tuple #[.agg #[.slice none 0 0, .slice none 0 0, .slice none 0 0], .int .i64 (5)]) (by simp [results, Try.results17, go_sem, r0, r1, r2]) rfl (MerPost.bad HE.out (by omega) ((((B9).setCell (show w.heap.size ≤ w.heap.size + 2 by omega) _).setCell (show w.heap.size ≤ w.heap.size + 2 by omega) _).setCell (show w.heap.size ≤ w.heap.size + 2 by omega) _))
        have d1 : decide (200 < (nu : Int)) = false := decide_eq_false (by omega)
        by_cases c2 : 60 < nv
        case pos =>
          have d2 : decide (60 < (nv : Int)) = true := decide_eq_true (by omega)
          have HE : Hid (merE pa ia ca pb ib cb = 5) := by unfold Hid; rw [HE4.out, if_pos (.inr c2)]
          go_wp2_with fail
          exact bodyPost_ret (v := .tuple #[.agg #[.slice none 0 0, .slice none 0 0, .slice none 0 0], .int .i64 (5)]) (by simp [results, Try.results17, go_sem, r0, r1, r2]) rfl (MerPost.bad HE.out (by omega) ((((B9).setCell (show w.heap.size ≤ w.heap.size + 2 by omega) _).setCell (show w.heap.size ≤ w.heap.size + 2 by omega) _).setCell (show w.heap.size ≤ w.heap.size + 2 by omega) _))
        have d2 : decide (60 < (nv : Int)) = false := decide_eq_false (by omega)
        have HE : Hid (merE pa ia ca pb ib cb = 0) := by unfold Hid; rw [HE4.out, if_neg (by omega)]
        clear HE4 HE3
        have hg2 := hre.lt
        clear r0 r1 r2 f0 f1 f2
        have hbp := Row.new w9 25 [.slice UA nu uc, .slice VA nv vc, .slice none 0 0]
        have B10 : Below w9.heap.size w9 (w9.alloc (.cells #[.slice UA nu uc, .slice VA nv vc, .slice none 0 0] 25)) := (Below.refl _ _).alloc (Nat.le_refl _) _
        go_wp2_with fail
        obtain ⟨g, hg⟩ : ∃ g, w9.heap.size = g := ⟨_, rfl⟩
        have HG := Lib.hid hg
        rw [hg] at hbp hg2 ⊢
        clear hg
        have hmk := run_mk0 (P := Try.prog) Try.underlying22 mInfoInt rfl nv (by omega) (by omega)
        go_loopw [109] (fun i wr => ∃ (k : Nat) (V : Option Addr) (cv : Nat) (ws : List Value), k ≤ nu ∧ i = .int .i64 (k : Int) ∧ Row wr g 25 [.slice UA nu uc, .slice VA nv vc, .slice V k cv] ∧ wr.ownsRow (g + 1) 22 1 (.slice V k cv) k ws ∧ CollI wr ws (merC pa ia ca pb ib cb) k (g + 1) (Value.slice V k cv).ownBlock ∧ Below g w9 wr) (fun i _ => nu - (intOf i).toNat)
        case atStart => exact ⟨0, none, 0, [], by omega, rfl, hbp, World.ownsRow_nil _ _ _ _, CollI.zero _ _ _ _, by have := HG.out; subst this; exact B10⟩
        case round =>
          obtain ⟨k, V, cv, ws, hk, rfl, hrow, hown, hcol, hb⟩ := hrel
          obtain ⟨wo, rfl⟩ : ∃ wo : World, wo = wr := ⟨_, rfl⟩
          have hg5 : Hid (Below w9.heap.size w9 wo) := by unfold Hid; rw [HG.out]; exact hb
          have BW : Below w.heap.size w wo := B9.trans (hg5.out.mono B9.size)
          have hreo := hre.keep hg5.out
          have go_ := hrow.lt
          by_cases hlt : k < nu
          · obtain ⟨b1, o1, hUA, hb1, hc1⟩ := (by have := hU9.below hg5.out; obtain ⟨A', c', e, _, _, s⟩ := this; rw [HNU.out] at e s; injection e with e1 e2 e3; subst e1; exact s.num hlt : ∃ b o, UA = some ⟨b, o, none⟩ ∧ b < wo.heap.size ∧ ∀ j, j < nu → wo.cell? ⟨b, o + j, none⟩ = some (.int .i64 ((uni pa pb).getD j 0)))
            subst hUA
            have g1 := hc1 k hlt
            have hkU : Hid (k < (uni pa pb).length) := by unfold Hid; rw [HNU.out]; exact hlt
            have wP := (uni_i64 wpa wpb).get hkU.out
            have HSG := Lib.hid (merC_get (ia := ia) (ca := ca) (ib := ib) (cb := cb) hkU.out)
            clear hc1
            generalize (uni pa pb).getD k 0 = P0 at *
            have zo : w9.heap.size ≤ wo.heap.size := hg5.out.size
            go_wp2_with fail
            go_loopw [19, 118] (fun v i wr => ∃ (j : Nat) (C : Option Addr) (cc' : Nat), j ≤ nv ∧ i = .int .i64 (j : Int) ∧ v = .slice C j cc' ∧ wr.ownsRow wo.heap.size 3 1 (.slice C j cc') j ((((merC pa ia ca pb ib cb).getD k []).take j).map (Value.int .i64)) ∧ Below wo.heap.size wo wr) (fun _ i _ => nv - (intOf i).toNat)
            case atStart => exact ⟨0, _, nv, by omega, rfl, rfl, own_zero wo (.int .i64 0) 3 nv (by unfold maxLen; omega), (Below.refl _ _).alloc (Nat.le_refl _) _⟩
            case round =>
              obtain ⟨j, C, cc', hj, rfl, rfl, howr, hbr⟩ := hrel
              have BR : Below w.heap.size w wr := BW.trans (hbr.mono BW.size)
              by_cases hlt2 : j < nv
              · obtain ⟨b3, o3, hVA, hb3, hc3⟩ := (by have := (hV0.below hg5.out).below hbr; obtain ⟨A', c', e, _, _, s⟩ := this; rw [HNV.out] at e s; injection e with e1 e2 e3; subst e1; exact s.num hlt2 : ∃ b o, VA = some ⟨b, o, none⟩ ∧ b < wr.heap.size ∧ ∀ j, j < nv → wr.cell? ⟨b, o + j, none⟩ = some (.int .i64 ((uni ia ib).getD j 0)))
                subst hVA
                have g3 := hc3 j hlt2
                have hjV : Hid (j < (uni ia ib).length) := by unfold Hid; rw [HNV.out]; exact hlt2
                have wI := (uni_i64 wia wib).get hjV.out
                have HT : Hid (((merC pa ia ca pb ib cb).getD k []).take (j + 1) = ((merC pa ia ca pb ib cb).getD k []).take j ++ [mer1 pa ia ca pb ib cb P0 ((uni ia ib).getD j 0)]) := by
                  unfold Hid
                  rw [take_succ_getD _ 0 (by rw [HSG.out, List.length_map]; exact hjV.out), HSG.out, getD_map _ _ 0 0 hjV.out]
                clear hc3
                generalize (uni ia ib).getD j 0 = I0 at *
                have hLr := (hL.keep hg5.out).keep hbr
                have hRr := (hR.keep hg5.out).keep hbr
                have hTLr := (hTL.below hg5.out).below hbr
                have hTRr := (hTR.below hg5.out).below hbr
                have t0 : wr.cell? ⟨gL, 0, none⟩ = some (.slice Z ca.length cZ) := hLr.cell 0
                have t1 : wr.cell? ⟨gL, 1, none⟩ = some (.map (some b5)) := hLr.cell 1
                have t2 : wr.cell? ⟨gL, 2, none⟩ = some (.map (some b5')) := hLr.cell 2
                go_wp2_with fail
                refine (cell_any _ _ _ pa ia ca P0 I0 _ hTLr HSH.out wP wI).mono ?_
                rintro e w10 ⟨rfl, hb10⟩
                have hbr10 : Below wo.heap.size wo w10 := hbr.trans (hb10.mono hbr.size)
                have howr10 := own_keep howr hb10
                replace hRr := hRr.keep hb10
                replace hTRr := hTRr.below hb10
                clear t0 t1 t2 hLr hTLr
                have zb : wo.heap.size ≤ w10.heap.size := hbr10.size
                cases hm : mcell pa ia ca P0 I0 with
                | some x =>
                  have HZ : Hid (mer1 pa ia ca pb ib cb P0 I0 = x) := by unfold Hid mer1; rw [hm]
                  clear hm
                  go_wp2_with (at_builtin; refine wpList_append_one w10 rfl (.tmp 140) (.tmp 142) 22 rfl wo.heap.size 3 (.int .i64 0) 8 Try.underlying22 mInfoInt rfl (.slice C j cc') j _ (.int .i64 (x)) rfl rfl howr10 rfl (by unfold maxLen; omega) (by omega) zb ?_; intro A' c4 w12 hown3 hb12)
                  go_roundw
                  case rel =>
                    refine ⟨j + 1, A', c4, by omega, by go_num, rfl, ?_, hbr10.trans hb12⟩
                    rw [HT.out, HZ.out, List.map_append, List.map_cons, List.map_nil]
                    exact hown3
                  case measure => simp [intOf]; omega
                | none =>
                  have t0 : w10.cell? ⟨gR, 0, none⟩ = some (.slice Z2 cb.length cZ2) := hRr.cell 0
                  have t1 : w10.cell? ⟨gR, 1, none⟩ = some (.map (some b6)) := hRr.cell 1
                  have t2 : w10.cell? ⟨gR, 2, none⟩ = some (.map (some b6')) := hRr.cell 2
                  go_wp2_with fail
                  refine (cell_any _ _ _ pb ib cb P0 I0 _ hTRr HSH2.out wP wI).mono ?_
                  rintro e w11 ⟨rfl, hb11⟩
                  have hbr11 : Below wo.heap.size wo w11 := hbr10.trans (hb11.mono hbr10.size)
                  have howr11 := own_keep howr10 hb11
                  have zb11 : wo.heap.size ≤ w11.heap.size := hbr11.size
                  clear t0 t1 t2 hRr hTRr
                  cases hm2 : mcell pb ib cb P0 I0 with
                  | some y =>
                    have HZ : Hid (mer1 pa ia ca pb ib cb P0 I0 = y) := by unfold Hid mer1; rw [hm, hm2]; rfl
                    clear hm hm2
                    go_wp2_with (at_builtin; refine wpList_append_one w11 rfl (.tmp 140) (.tmp 142) 22 rfl wo.heap.size 3 (.int .i64 0) 8 Try.underlying22 mInfoInt rfl (.slice C j cc') j _ (.int .i64 (y)) rfl rfl howr11 rfl (by unfold maxLen; omega) (by omega) zb11 ?_; intro A' c4 w12 hown3 hb12)
                    go_roundw
                    case rel =>
                      refine ⟨j + 1, A', c4, by omega, by go_num, rfl, ?_, hbr11.trans hb12⟩
                      rw [HT.out, HZ.out, List.map_append, List.map_cons, List.map_nil]
                      exact hown3
                    case measure => simp [intOf]; omega
                  | none =>
                    have HZ : Hid (mer1 pa ia ca pb ib cb P0 I0 = -1) := by unfold Hid mer1; rw [hm, hm2]; rfl
                    clear hm hm2
                    go_wp2_with (at_builtin; refine wpList_append_one w11 rfl (.tmp 140) (.tmp 142) 22 rfl wo.heap.size 3 (.int .i64 0) 8 Try.underlying22 mInfoInt rfl (.slice C j cc') j _ (.int .i64 (-1)) rfl rfl howr11 rfl (by unfold maxLen; omega) (by omega) zb11 ?_; intro A' c4 w12 hown3 hb12)
                    go_roundw
                    case rel =>
                      refine ⟨j + 1, A', c4, by omega, by go_num, rfl, ?_, hbr11.trans hb12⟩
                      rw [HT.out, HZ.out, List.map_append, List.map_cons, List.map_nil]
                      exact hown3
                    case measure => simp [intOf]; omega
              · obtain rfl : j = nv := by omega
                have HL2 : Hid (((merC pa ia ca pb ib cb).getD k []).length = j) := by unfold Hid; rw [HSG.out, List.length_map, HNV.out]
                have HW : Hid (((merC pa ia ca pb ib cb).getD k []).take j = (merC pa ia ca pb ib cb).getD k []) := by unfold Hid; apply List.take_of_length_le; rw [HL2.out]; exact Nat.le_refl _
                rw [HW.out] at howr
                have hrow2 := hrow.keep hbr
                have hown2 := own_keep hown hbr
                have hcol2 := hcol.below hbr
                have c0 : wr.cell? ⟨g, 2, none⟩ = some (.slice V k cv) := hrow2.cell 2
                have zb : g + 1 ≤ wr.heap.size := by have := hbr.size; omega
                have hnu' := Nums.of_own howr
                have hfr : Fresh wo.heap.size (.slice C j cc') := fresh_own howr
                have hof : Off (Value.slice V k cv).ownBlock (.slice C j cc') := by
                  rcases hq : (Value.slice V k cv).ownBlock with _ | q
                  · exact Off.none_ _
                  · exact Off.of_fresh hfr ((hown.lt q hq).2)
                go_wp2_with (at_builtin; refine wpList_append_oneG wr rfl (.tmp 146) (.tmp 148) 23 rfl (g + 1) 22 (.slice none 0 0) 24 Try.underlying23 mInfoInts rfl (.slice V k cv) k _ (.slice C j cc') rfl rfl hown2 rfl (by unfold maxLen; omega) (by omega) zb ?_; intro A' c4 w12 hown3 hb12 hgr hloc; have hrow3 := hrow2.below hb12 (show g < g + 1 by omega); have d0 : w12.cell? ⟨g, 2, none⟩ = some (.slice V k cv) := hrow3.cell 2; have d1 : w12.frozen? ⟨g, 2, none⟩ = false := hrow3.frozen 2)
                have hco3 := (hcol2.snoc hnu' hof (hfr.mono (by omega))).grown hgr hloc
                go_roundw
                case rel =>
                  refine ⟨k + 1, A', c4, _, by omega, by go_num, hrow3.set_ 2 _, own_far hown3 (p := ⟨g, 2, none⟩) (by simp) _, hco3.set_ (p := ⟨g, 2, none⟩) (by simp) _, ?_⟩
                  exact ((hb.trans (hbr.mono (by omega))).trans (hb12.mono (by omega))).setCell (by simp) _
                case measure => simp [intOf]; omega
          · obtain rfl : k = nu := by omega
            have HLc : Hid ((merC pa ia ca pb ib cb).length = k) := by unfold Hid; rw [merC_len, HNU.out]
            have a0 : wo.cell? ⟨g, 0, none⟩ = some (.slice UA k uc) := hrow.cell 0
            have a1 : wo.cell? ⟨g, 1, none⟩ = some (.slice VA nv vc) := hrow.cell 1
            have a2 : wo.cell? ⟨g, 2, none⟩ = some (.slice V k cv) := hrow.cell 2
            have r0 : wo.cell? ⟨w.heap.size + 2, 0, none⟩ = some (.slice none 0 0) := hreo.cell 0
            have r1 : wo.cell? ⟨w.heap.size + 2, 1, none⟩ = some (.slice none 0 0) := hreo.cell 1
            have r2 : wo.cell? ⟨w.heap.size + 2, 2, none⟩ = some (.slice none 0 0) := hreo.cell 2
            have f0 : wo.frozen? ⟨w.heap.size + 2, 0, none⟩ = false := hreo.frozen 0
            have f1 : wo.frozen? ⟨w.heap.size + 2, 1, none⟩ = false := hreo.frozen 1
            have f2 : wo.frozen? ⟨w.heap.size + 2, 2, none⟩ = false := hreo.frozen 2
            have n1 := hU9.below hg5.out
            have n2 := hV0.below hg5.out
            go_wp2_with fail
            refine bodyPost_ret (v := .tuple #[.agg #[.slice UA k uc, .slice VA nv vc, .slice V k cv], .int .i64 0]) (by simp [results, Try.results17, go_sem, r0, r1, r2]) rfl ⟨_, _, _, by rw [HE.out], ?_, ?_⟩
            · rw [HE.out, onZ_zero rfl, onZ_zero rfl, onZ_zero rfl]
              refine ⟨set3 n1 hfU (by omega) _ _ _, set3 n2 hfV (by omega) _ _ _, ?_⟩
              exact (((hcol.set_ (p := ⟨w.heap.size + 2, 0, none⟩) (show w.heap.size + 2 < g + 1 by omega) _).set_ (p := ⟨w.heap.size + 2, 1, none⟩) (show w.heap.size + 2 < g + 1 by omega) _).set_ (p := ⟨w.heap.size + 2, 2, none⟩) (show w.heap.size + 2 < g + 1 by omega) _).intsL HLc.out (own_far (own_far (own_far hown (p := ⟨w.heap.size + 2, 0, none⟩) (show w.heap.size + 2 < g + 1 by omega) _) (p := ⟨w.heap.size + 2, 1, none⟩) (show w.heap.size + 2 < g + 1 by omega) _) (p := ⟨w.heap.size + 2, 2, none⟩) (show w.heap.size + 2 < g + 1 by omega) _)
            · exact (((BW).setCell (show w.heap.size ≤ w.heap.size + 2 by omega) _).setCell (show w.heap.size ≤ w.heap.size + 2 by omega) _).setCell (show w.heap.size ≤ w.heap.size + 2 by omega) _
end Go.Proofs.Ytgdngopemlajjaa
