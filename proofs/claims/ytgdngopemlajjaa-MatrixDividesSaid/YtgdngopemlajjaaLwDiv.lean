/- For every matrix, list of numbers of categories and place the law MatrixDivides returns true; no condition. -/
import Derived.Test.YtgdngopemlajjaaMtJ
import Derived.Test.YtgdngopemlajjaaOpenL
import Derived.Test.YtgdngopemlajjaaRows
import Derived.Test.YtgdngopemlajjaaMtY
import Derived.Test.YtgdngopemlajjaaMtK
import Derived.Deep.DeepCutAuto
import Derived.Deep.Light
namespace Go.Proofs.Ytgdngopemlajjaa
open Go.RowKit Go.ChangeShapes Go.WideShapes Go.ChangeAt Go.Joins
set_option linter.unusedVariables false


theorem wrap_id {a : Int} (h : -9223372036854775808 ≤ a ∧ a ≤ 9223372036854775807) : IntKind.i64.wrap a = a := by rw [IntKind.wrap_i64]; omega
theorem keep3 {W w' : World} {a : Nat} {x y z : Value} (la : a < W.heap.size) (h0 : W.cell? ⟨a, 0, none⟩ = some x) (h1 : W.cell? ⟨a, 1, none⟩ = some y) (h2 : W.cell? ⟨a, 2, none⟩ = some z) (hb : Below W.heap.size W w') :
    w'.cell? ⟨a, 0, none⟩ = some x ∧ w'.cell? ⟨a, 1, none⟩ = some y ∧ w'.cell? ⟨a, 2, none⟩ = some z ∧ Below W.heap.size W w' :=
  ⟨(hb.cell (p := ⟨a, 0, none⟩) la).trans h0, (hb.cell (p := ⟨a, 1, none⟩) la).trans h1, (hb.cell (p := ⟨a, 2, none⟩) la).trans h2, hb⟩
theorem cutA {t : TypeId} (ht : Try.prog.underlying t = some (.slice (Try.prog.elem t))) (hs1 : ∀ w, (sizeOf (Try.prog.elem t)).run Try.prog w = .ok 1 w) {w : World} {A : Option Addr} {n c k : Nat} {xs : List Value} (h : Sl w A n xs) (hk : k ≤ n) (hc : n ≤ c) :
    ∃ X, (∀ w', (Instr.sliceAt t (.slice A n c) none (some (.int .i64 (k : Int))) none).run Try.prog w' = .ok (.slice X k c) w') ∧ (∀ w', (Instr.slice t (.slice A n c) none (some (.int .i64 (k : Int))) none).run Try.prog w' = .ok (.slice X k c) w') ∧ Sl w X k (xs.take k) := by
  have key : ∀ w', (Instr.slice t (.slice A n c) none (some (.int .i64 (k : Int))) none).run Try.prog w' = .ok (.slice (if c = 0 then A else A.map (·.add 0)) k c) w' := by
    intro w'
    rw [run_slice_h w' t A n c ht .i64 k (by omega) (by omega), hs1]
    simp [sliced]
  refine ⟨_, fun w' => by rw [run_sliceAt_slice w' t _ _ _ _ ht]; exact key w', key, ?_⟩
  have := h.cut (k := 0) (m := k) (c := c) (by omega) hc
  simpa using this
theorem cutB {t : TypeId} (ht : Try.prog.underlying t = some (.slice (Try.prog.elem t))) (hs1 : ∀ w, (sizeOf (Try.prog.elem t)).run Try.prog w = .ok 1 w) {w : World} {A : Option Addr} {n c k : Nat} {xs : List Value} (h : Sl w A n xs) (hk : k ≤ n) (hc : n ≤ c) :
    ∃ X, (∀ w', (Instr.sliceAt t (.slice A n c) (some (.int .i64 (k : Int))) none none).run Try.prog w' = .ok (.slice X (n - k) (c - k)) w') ∧ (∀ w', (Instr.slice t (.slice A n c) (some (.int .i64 (k : Int))) none none).run Try.prog w' = .ok (.slice X (n - k) (c - k)) w') ∧ Sl w X (n - k) (xs.drop k) := by
  have key : ∀ w', (Instr.slice t (.slice A n c) (some (.int .i64 (k : Int))) none none).run Try.prog w' = .ok (.slice (if c = k then A else A.map (·.add k)) (n - k) (c - k)) w' := by
    intro w'
    rw [run_slice_l w' t A n c ht .i64 k (by omega) (by omega), hs1]
    simp [sliced]
  refine ⟨_, fun w' => by rw [run_sliceAt_slice w' t _ _ _ _ ht]; exact key w', key, ?_⟩
  have := h.cut (k := k) (m := n - k) (c := c) (by omega) hc
  rwa [List.take_of_length_le (by rw [List.length_drop, h.1]; omega)] at this
set_option maxRecDepth 100000 in
set_option maxHeartbeats 16000000 in
theorem divides_all (pv iv cv xv : Value) (ps is : List Int) (cs : List (List Int)) (cats : List Int) (a : Int) (w : World) (hM : Mat w pv iv cv ps is cs) (hx : Nums .i64 w xv cats)
    (wps : I64 ps) (wis : I64 is) (ha0 : 0 ≤ a) (ha1 : a ≤ 255) :
    Calls Try.prog 9 #[.agg #[pv, iv, cv], xv, .int .u8 a] w fun e w' => e = .returned (.bool true) ∧ Below w.heap.size w w' := by
  obtain ⟨hp, hi, hc⟩ := hM
  have hM0 : Mat w _ _ _ ps is cs := ⟨hp, hi, hc⟩
  have hx0 := hx
  obtain ⟨X, cX, rfl, x1, x2, x3⟩ := hp
  obtain ⟨Y, cY, rfl, y1, y2, y3⟩ := hi
  obtain ⟨Z, cZ, us, rfl, z1, z2, hs, hu⟩ := hc
  obtain ⟨XC, cC, rfl, q1, q2, q3⟩ := hx
  clear hu hs y3 q3
  unfold maxLen at x2
  have hra := Row.new w 25 [.slice X ps.length cX, .slice Y is.length cY, .slice Z cs.length cZ]
  have BB := lit_below w (.cells #[.slice X ps.length cX, .slice Y is.length cY, .slice Z cs.length cZ] 25)
  have hA := hM0.below BB
  have hQ := hx0.below BB
  clear hM0 hx0
  go_enter Try.func9, Try.ntmps9
  go_wp2_with fail
  generalize hW : w.alloc (.cells #[.slice X ps.length cX, .slice Y is.length cY, .slice Z cs.length cZ] 25) = w0 at *
  clear hW
  refine (matv_any _ _ _ _ ps is cats cs _ hA.1 hA.2.1 hA.2.2 hQ).mono ?_
  rintro e w1 ⟨rfl, hb⟩
  replace hra := hra.keep hb
  replace hA := hA.below hb
  replace hQ := hQ.below hb
  replace BB : Below w.heap.size w w1 := BB.trans (hb.mono BB.size)
  clear hb
  by_cases e0 : matE ps is cs cats = 0
  case neg =>
    have nz : (matE ps is cs cats != 0) = true := by rw [bne_iff_ne]; exact e0
    clear e0
    go_wp2_with fail
    refine (awake_any _).mono ?_
    rintro e w99 ⟨rfl, hb⟩
    go_wp2_with fail
    go_ret
    exact ⟨rfl, BB.trans (hb.mono BB.size)⟩
  have nz : (matE ps is cs cats != 0) = false := by rw [bne_eq_false_iff_eq]; exact e0
  have HV := Lib.hid e0
  have HV0 := Lib.hid (div_V (k := 0) e0 (Nat.zero_le _))
  clear e0
  generalize hE0 : matE ps is cs cats = E0 at nz ⊢
  clear hE0
  have hnl := HV0.out.2.1
  have hil := HV0.out.2.2.1
  have HF := Lib.hid HV0.out.1
  clear HV0
  have hcl : cs.length ≤ 200 := by have := (shp_at (fitB_iff.1 HF.out).2.2).1; omega
  have a0 : w1.cell? ⟨w.heap.size, 0, none⟩ = some (.slice X ps.length cX) := hra.cell 0
  have a1 : w1.cell? ⟨w.heap.size, 1, none⟩ = some (.slice Y is.length cY) := hra.cell 1
  have a2 : w1.cell? ⟨w.heap.size, 2, none⟩ = some (.slice Z cs.length cZ) := hra.cell 2
  have wr1 : IntKind.i64.wrap a = a := wrap_id (by omega)
  have wr2 : IntKind.i64.wrap ((ps.length : Int) + 1) = (ps.length : Int) + 1 := wrap_id (by omega)
  go_upto_region 4 with fail
  clear nz wr1 wr2 a0 a1 a2
  obtain ⟨k, hk⟩ : ∃ k : Nat, a % ((ps.length : Int) + 1) = (k : Int) := ⟨(a % ((ps.length : Int) + 1)).toNat, by have := Int.emod_nonneg a (show (ps.length : Int) + 1 ≠ 0 by omega); omega⟩
  have hkl : k ≤ ps.length := by have := Int.emod_lt_of_pos a (show (0 : Int) < (ps.length : Int) + 1 by omega); omega
  rw [hk]
  clear hk
  have HD := Lib.hid (div_V HV.out hkl)
  have HE1 := Lib.hid (div_E1 HF.out k)
  have HE2 := Lib.hid (div_E2 HF.out k)
  have HC1 := Lib.hid (div_C1 HF.out hkl)
  have HC2 := Lib.hid (div_C2 HF.out hkl)
  have HME := Lib.hid (div_mE HF.out hkl hnl hil)
  have HMC := Lib.hid (div_mC HF.out hkl)
  have HUC := Lib.hid (uni_cut (fitB_iff.1 HF.out).1 k)
  have HSL : Hid (cs.length = ps.length) := (shp_at (fitB_iff.1 HF.out).2.2).1
  have HL1 : Hid ((ps.take k).length = k) := by unfold Hid; rw [List.length_take]; omega
  have HL2 : Hid ((cs.take k).length = k) := by unfold Hid; rw [List.length_take, HSL.out]; omega
  have HL3 : Hid ((ps.drop k).length = ps.length - k) := by unfold Hid; rw [List.length_drop]
  have HL4 : Hid ((cs.drop k).length = ps.length - k) := by unfold Hid; rw [List.length_drop, HSL.out]
  have wtk : I64 (ps.take k) := fun z hz => wps z (List.mem_of_mem_take hz)
  have wdk : I64 (ps.drop k) := fun z hz => wps z (List.mem_of_mem_drop hz)
  obtain ⟨XP, cu1, cu2, s1⟩ := cutA (t := 22) Try.underlying22 (fun _ => by kernel_rfl) (x3.below BB) hkl x1
  obtain ⟨XD, cu3, cu4, s2⟩ := cutB (t := 22) Try.underlying22 (fun _ => by kernel_rfl) (x3.below BB) hkl x1
  have hNA : Nums .i64 w1 (.slice XP k cX) (ps.take k) := ⟨XP, cX, by rw [HL1.out], by rw [HL1.out]; omega, by unfold maxLen; omega, by rw [HL1.out, List.map_take]; exact s1⟩
  have hNB : Nums .i64 w1 (.slice XD (ps.length - k) (cX - k)) (ps.drop k) := ⟨XD, cX - k, by rw [HL3.out], by rw [HL3.out]; omega, by unfold maxLen; omega, by rw [HL3.out, List.map_drop]; exact s2⟩
  clear s1 s2 x3 HF HSL
  have a0 : w1.cell? ⟨w.heap.size, 0, none⟩ = some (.slice X ps.length cX) := hra.cell 0
  have a1 : w1.cell? ⟨w.heap.size, 1, none⟩ = some (.slice Y is.length cY) := hra.cell 1
  have a2 : w1.cell? ⟨w.heap.size, 2, none⟩ = some (.slice Z cs.length cZ) := hra.cell 2
  have la0 := hra.lt
  go_cut [8, 9] (fun s8 s9 wx => ∃ (g : Nat) (UA UB UC : Option Addr) (Ua Ub Uc : Nat), s8 = .pointer (some ⟨g, 0, none⟩) ∧ s9 = .int .i64 0 ∧ Row wx g 25 [.slice UA k Ua, .slice UB is.length Ub, .slice UC k Uc] ∧ Mat wx (.slice UA k Ua) (.slice UB is.length Ub) (.slice UC k Uc) (ps.take k) is (cs.take k) ∧ Below w1.heap.size w1 wx)
  case first =>
    go_region_held3 (fun w' => w'.cell? ⟨w.heap.size, 0, none⟩ = some (.slice X ps.length cX) ∧ w'.cell? ⟨w.heap.size, 1, none⟩ = some (.slice Y is.length cY) ∧ w'.cell? ⟨w.heap.size, 2, none⟩ = some (.slice Z cs.length cZ) ∧ Below w1.heap.size w1 w')
      ((refine keep3 la0 a0 a1 a2 ?_; (repeat (first | with_reducible exact Below.refl _ _ | ((with_reducible refine bl_set3 ?_ ?_); rotate_left; (first | exact z15 | exact Nat.le_refl _ | exact Nat.le_add_right _ _ | exact Nat.le_trans z15 (Nat.le_add_right _ _))) | with_reducible refine bl_call h52 ?_ | with_reducible refine bl_drew ?_ | with_reducible refine bl_alloc ?_ _))))
      ((go_at_call 14; ((with_reducible refine (selectF_any (.slice X ps.length cX) (.slice Y is.length cY) (.slice Z cs.length cZ) (.slice XP k cX) (.slice Y is.length cY) ps is cs (ps.take k) is _ ?_ ?_ ?_ wps wis wtk wis (by omega) (by omega) (by omega) (by have := HL1.out; omega) (by omega)).mono ?_); (refine hA.below ?_; (repeat (first | with_reducible exact Below.refl _ _ | ((with_reducible refine bl_set3 ?_ ?_); rotate_left; (first | exact z15 | exact Nat.le_refl _ | exact Nat.le_add_right _ _ | exact Nat.le_trans z15 (Nat.le_add_right _ _))) | with_reducible refine bl_call h52 ?_ | with_reducible refine bl_drew ?_ | with_reducible refine bl_alloc ?_ _))); (refine hNA.below ?_; (repeat (first | with_reducible exact Below.refl _ _ | ((with_reducible refine bl_set3 ?_ ?_); rotate_left; (first | exact z15 | exact Nat.le_refl _ | exact Nat.le_add_right _ _ | exact Nat.le_trans z15 (Nat.le_add_right _ _))) | with_reducible refine bl_call h52 ?_ | with_reducible refine bl_drew ?_ | with_reducible refine bl_alloc ?_ _))); (refine hA.2.1.below ?_; (repeat (first | with_reducible exact Below.refl _ _ | ((with_reducible refine bl_set3 ?_ ?_); rotate_left; (first | exact z15 | exact Nat.le_refl _ | exact Nat.le_add_right _ _ | exact Nat.le_trans z15 (Nat.le_add_right _ _))) | with_reducible refine bl_call h52 ?_ | with_reducible refine bl_drew ?_ | with_reducible refine bl_alloc ?_ _))); rintro e w5 ⟨p5, i5, c5, rfl, hM5, h52, hS5⟩; rw [HE1.out, onZ_zero rfl, onZ_zero rfl, onZ_zero rfl, HC1.out] at hM5 hS5; rw [HE1.out]; have hN5 := hM5; obtain ⟨⟨UA, Ua, rfl, _, _, _⟩, ⟨UB, Ub, rfl, _, _, _⟩, ⟨UC, Uc, _, rfl, _, _, _, _⟩⟩ := hN5; rw [HL1.out, HL2.out] at hM5 hS5; rw [HL1.out, HL2.out]; (have z15 : w1.heap.size ≤ w5.heap.size := (show Below w1.heap.size w1 w5 by (repeat (first | with_reducible exact Below.refl _ _ | ((with_reducible refine bl_set3 ?_ ?_); rotate_left; (first | exact z15 | exact Nat.le_refl _ | exact Nat.le_add_right _ _ | exact Nat.le_trans z15 (Nat.le_add_right _ _))) | with_reducible refine bl_call h52 ?_ | with_reducible refine bl_drew ?_ | with_reducible refine bl_alloc ?_ _))).size); (try (have R50 : Row w5 w1.heap.size 25 [.slice none 0 0, .slice none 0 0, .slice none 0 0] := Row.keep (by first | with_reducible exact (Row.new w1 25 [.slice none 0 0, .slice none 0 0, .slice none 0 0]).drew | with_reducible exact Row.new w1 25 [.slice none 0 0, .slice none 0 0, .slice none 0 0]) h52)); (try (have R50z := R50.lt)); (try (have c50 : w5.cell? ⟨w1.heap.size, 0, none⟩ = some (.slice none 0 0) := R50.cell 0)); (try (have f50 : w5.frozen? ⟨w1.heap.size, 0, none⟩ = false := R50.frozen 0)); (try (have c51 : w5.cell? ⟨w1.heap.size, 1, none⟩ = some (.slice none 0 0) := R50.cell 1)); (try (have f51 : w5.frozen? ⟨w1.heap.size, 1, none⟩ = false := R50.frozen 1)); (try (have c52 : w5.cell? ⟨w1.heap.size, 2, none⟩ = some (.slice none 0 0) := R50.cell 2)); (try (have f52 : w5.frozen? ⟨w1.heap.size, 2, none⟩ = false := R50.frozen 2)))))
    all_goals go_wp2_with fail
    all_goals go_meet
    all_goals go_light
    all_goals
      refine ⟨_, UA, UB, UC, Ua, Ub, Uc, rfl, rfl, ?_, ?_, ?_⟩
      · (repeat (first | with_reducible exact Row.new _ _ _ | with_reducible exact R50 | with_reducible refine row_st3 (x := .slice none 0 0) (y := .slice none 0 0) (z := .slice none 0 0) ?_ | with_reducible refine Row.alloc ?_ _))
      · (first | exact hS5 _ (by simp) _ _ _ | exact hM5.below ((Below.refl _ _).alloc (Nat.le_refl _) _))
      · (repeat (first | with_reducible exact Below.refl _ _ | ((with_reducible refine bl_set3 ?_ ?_); rotate_left; (first | exact z15 | exact Nat.le_refl _ | exact Nat.le_add_right _ _ | exact Nat.le_trans z15 (Nat.le_add_right _ _))) | with_reducible refine bl_call h52 ?_ | with_reducible refine bl_drew ?_ | with_reducible refine bl_alloc ?_ _))
  case rest =>
    obtain ⟨g1, UA, UB, UC, Ua, Ub, Uc, rfl, rfl, hrg1, hMU, hb⟩ := hcut
    obtain ⟨wA, rfl⟩ : ∃ x : World, x = wc := ⟨_, rfl⟩
    clear a0 a1 a2 la0
    replace hra := hra.keep hb
    replace hA := hA.below hb
    replace hQ := hQ.below hb
    replace hNA := hNA.below hb
    replace hNB := hNB.below hb
    replace BB : Below w.heap.size w wA := BB.trans (hb.mono BB.size)
    clear hb
    have wz : ps.length - k ≤ 200 := by omega
    go_upto_region 5 with fail
    have a0 : wA.cell? ⟨w.heap.size, 0, none⟩ = some (.slice X ps.length cX) := hra.cell 0
    have a1 : wA.cell? ⟨w.heap.size, 1, none⟩ = some (.slice Y is.length cY) := hra.cell 1
    have a2 : wA.cell? ⟨w.heap.size, 2, none⟩ = some (.slice Z cs.length cZ) := hra.cell 2
    have g1c0 : wA.cell? ⟨g1, 0, none⟩ = some (.slice UA k Ua) := hrg1.cell 0
    have g1c1 : wA.cell? ⟨g1, 1, none⟩ = some (.slice UB is.length Ub) := hrg1.cell 1
    have g1c2 : wA.cell? ⟨g1, 2, none⟩ = some (.slice UC k Uc) := hrg1.cell 2
    have la0 := hra.lt
    go_cut [10, 11] (fun s8 s9 wx => ∃ (g : Nat) (VA VB VC : Option Addr) (Va Vb Vc : Nat), s8 = .pointer (some ⟨g, 0, none⟩) ∧ s9 = .int .i64 0 ∧ Row wx g 25 [.slice VA (ps.length - k) Va, .slice VB is.length Vb, .slice VC (ps.length - k) Vc] ∧ Mat wx (.slice VA (ps.length - k) Va) (.slice VB is.length Vb) (.slice VC (ps.length - k) Vc) (ps.drop k) is (cs.drop k) ∧ Below wA.heap.size wA wx)
    case first =>
      go_region_held3 (fun w' => w'.cell? ⟨w.heap.size, 0, none⟩ = some (.slice X ps.length cX) ∧ w'.cell? ⟨w.heap.size, 1, none⟩ = some (.slice Y is.length cY) ∧ w'.cell? ⟨w.heap.size, 2, none⟩ = some (.slice Z cs.length cZ) ∧ Below wA.heap.size wA w')
        ((refine keep3 la0 a0 a1 a2 ?_; (repeat (first | with_reducible exact Below.refl _ _ | ((with_reducible refine bl_set3 ?_ ?_); rotate_left; (first | exact z15 | exact Nat.le_refl _ | exact Nat.le_add_right _ _ | exact Nat.le_trans z15 (Nat.le_add_right _ _))) | with_reducible refine bl_call h52 ?_ | with_reducible refine bl_drew ?_ | with_reducible refine bl_alloc ?_ _))))
        ((go_at_call 14; ((with_reducible refine (selectF_any (.slice X ps.length cX) (.slice Y is.length cY) (.slice Z cs.length cZ) (.slice XD (ps.length - k) (cX - k)) (.slice Y is.length cY) ps is cs (ps.drop k) is _ ?_ ?_ ?_ wps wis wdk wis (by omega) (by omega) (by omega) (by have := HL3.out; omega) (by omega)).mono ?_); (refine hA.below ?_; (repeat (first | with_reducible exact Below.refl _ _ | ((with_reducible refine bl_set3 ?_ ?_); rotate_left; (first | exact z15 | exact Nat.le_refl _ | exact Nat.le_add_right _ _ | exact Nat.le_trans z15 (Nat.le_add_right _ _))) | with_reducible refine bl_call h52 ?_ | with_reducible refine bl_drew ?_ | with_reducible refine bl_alloc ?_ _))); (refine hNB.below ?_; (repeat (first | with_reducible exact Below.refl _ _ | ((with_reducible refine bl_set3 ?_ ?_); rotate_left; (first | exact z15 | exact Nat.le_refl _ | exact Nat.le_add_right _ _ | exact Nat.le_trans z15 (Nat.le_add_right _ _))) | with_reducible refine bl_call h52 ?_ | with_reducible refine bl_drew ?_ | with_reducible refine bl_alloc ?_ _))); (refine hA.2.1.below ?_; (repeat (first | with_reducible exact Below.refl _ _ | ((with_reducible refine bl_set3 ?_ ?_); rotate_left; (first | exact z15 | exact Nat.le_refl _ | exact Nat.le_add_right _ _ | exact Nat.le_trans z15 (Nat.le_add_right _ _))) | with_reducible refine bl_call h52 ?_ | with_reducible refine bl_drew ?_ | with_reducible refine bl_alloc ?_ _))); rintro e w5 ⟨p5, i5, c5, rfl, hM5, h52, hS5⟩; rw [HE2.out, onZ_zero rfl, onZ_zero rfl, onZ_zero rfl, HC2.out] at hM5 hS5; rw [HE2.out]; have hN5 := hM5; obtain ⟨⟨VA, Va, rfl, _, _, _⟩, ⟨VB, Vb, rfl, _, _, _⟩, ⟨VC, Vc, _, rfl, _, _, _, _⟩⟩ := hN5; rw [HL3.out, HL4.out] at hM5 hS5; rw [HL3.out, HL4.out]; (have z15 : wA.heap.size ≤ w5.heap.size := (show Below wA.heap.size wA w5 by (repeat (first | with_reducible exact Below.refl _ _ | ((with_reducible refine bl_set3 ?_ ?_); rotate_left; (first | exact z15 | exact Nat.le_refl _ | exact Nat.le_add_right _ _ | exact Nat.le_trans z15 (Nat.le_add_right _ _))) | with_reducible refine bl_call h52 ?_ | with_reducible refine bl_drew ?_ | with_reducible refine bl_alloc ?_ _))).size); (try (have R50 : Row w5 wA.heap.size 25 [.slice none 0 0, .slice none 0 0, .slice none 0 0] := Row.keep (by first | with_reducible exact (Row.new wA 25 [.slice none 0 0, .slice none 0 0, .slice none 0 0]).drew | with_reducible exact Row.new wA 25 [.slice none 0 0, .slice none 0 0, .slice none 0 0]) h52)); (try (have R50z := R50.lt)); (try (have c50 : w5.cell? ⟨wA.heap.size, 0, none⟩ = some (.slice none 0 0) := R50.cell 0)); (try (have f50 : w5.frozen? ⟨wA.heap.size, 0, none⟩ = false := R50.frozen 0)); (try (have c51 : w5.cell? ⟨wA.heap.size, 1, none⟩ = some (.slice none 0 0) := R50.cell 1)); (try (have f51 : w5.frozen? ⟨wA.heap.size, 1, none⟩ = false := R50.frozen 1)); (try (have c52 : w5.cell? ⟨wA.heap.size, 2, none⟩ = some (.slice none 0 0) := R50.cell 2)); (try (have f52 : w5.frozen? ⟨wA.heap.size, 2, none⟩ = false := R50.frozen 2)))))
      all_goals go_wp2_with fail
      all_goals go_meet
      all_goals go_light
      all_goals
        refine ⟨_, VA, VB, VC, Va, Vb, Vc, rfl, rfl, ?_, ?_, ?_⟩
        · (repeat (first | with_reducible exact Row.new _ _ _ | with_reducible exact R50 | with_reducible refine row_st3 (x := .slice none 0 0) (y := .slice none 0 0) (z := .slice none 0 0) ?_ | with_reducible refine Row.alloc ?_ _))
        · (first | exact hS5 _ (by simp) _ _ _ | exact hM5.below ((Below.refl _ _).alloc (Nat.le_refl _) _))
        · (repeat (first | with_reducible exact Below.refl _ _ | ((with_reducible refine bl_set3 ?_ ?_); rotate_left; (first | exact z15 | exact Nat.le_refl _ | exact Nat.le_add_right _ _ | exact Nat.le_trans z15 (Nat.le_add_right _ _))) | with_reducible refine bl_call h52 ?_ | with_reducible refine bl_drew ?_ | with_reducible refine bl_alloc ?_ _))
    case rest =>
      obtain ⟨g2, VA, VB, VC, Va, Vb, Vc, rfl, rfl, hrg2, hMV, hb⟩ := hcut
      obtain ⟨wB, rfl⟩ : ∃ x : World, x = wc := ⟨_, rfl⟩
      clear a0 a1 a2 la0
      replace hra := hra.keep hb
      replace hA := hA.below hb
      replace hQ := hQ.below hb
      replace hNA := hNA.below hb
      replace hNB := hNB.below hb
      replace hrg1 := hrg1.keep hb
      replace hMU := hMU.below hb
      replace BB : Below w.heap.size w wB := BB.trans (hb.mono BB.size)
      clear hb
      clear cu1 cu2 cu3 cu4
      have kk : ((k : Int) != (k : Int)) = false := by simp
      have a0 : wB.cell? ⟨w.heap.size, 0, none⟩ = some (.slice X ps.length cX) := hra.cell 0
      have a1 : wB.cell? ⟨w.heap.size, 1, none⟩ = some (.slice Y is.length cY) := hra.cell 1
      have a2 : wB.cell? ⟨w.heap.size, 2, none⟩ = some (.slice Z cs.length cZ) := hra.cell 2
      have g1c0 : wB.cell? ⟨g1, 0, none⟩ = some (.slice UA k Ua) := hrg1.cell 0
      have g1c1 : wB.cell? ⟨g1, 1, none⟩ = some (.slice UB is.length Ub) := hrg1.cell 1
      have g1c2 : wB.cell? ⟨g1, 2, none⟩ = some (.slice UC k Uc) := hrg1.cell 2
      have g2c0 : wB.cell? ⟨g2, 0, none⟩ = some (.slice VA (ps.length - k) Va) := hrg2.cell 0
      have g2c1 : wB.cell? ⟨g2, 1, none⟩ = some (.slice VB is.length Vb) := hrg2.cell 1
      have g2c2 : wB.cell? ⟨g2, 2, none⟩ = some (.slice VC (ps.length - k) Vc) := hrg2.cell 2
      go_wp2_with fail
      clear a0 a1 a2 g1c0 g1c1 g1c2 g2c0 g2c1 g2c2
      refine (merge_any _ _ _ _ _ _ (ps.take k) is (cs.take k) (ps.drop k) is (cs.drop k) _ hMU hMV wtk wis wdk wis (by have := HL1.out; have := HL3.out; omega) (by omega)).mono ?_
      rintro e w2 ⟨xp, xi, xc, rfl, hX, hb⟩
      replace hra := hra.keep hb
      replace hA := hA.below hb
      replace hQ := hQ.below hb
      replace hNA := hNA.below hb
      replace hNB := hNB.below hb
      replace hrg1 := hrg1.keep hb
      replace hMU := hMU.below hb
      replace hrg2 := hrg2.keep hb
      replace hMV := hMV.below hb
      replace BB : Below w.heap.size w w2 := BB.trans (hb.mono BB.size)
      clear hb
      rw [HME.out, onZ_zero rfl, onZ_zero rfl, onZ_zero rfl, HUC.out, uni_self, HMC.out] at hX
      rw [HME.out]
      have hX0 := hX
      obtain ⟨⟨TA, xac, rfl, _, _, _⟩, ⟨TB, xbc, rfl, _, _, _⟩, ⟨TC, xcc, _, rfl, _, _, _, _⟩⟩ := hX
      obtain ⟨gx, hgx⟩ : ∃ g, w2.heap.size = g := ⟨_, rfl⟩
      have hrgx : Row (w2.alloc (.cells #[.slice TA ps.length xac, .slice TB is.length xbc, .slice TC cs.length xcc] 25)) gx 25 [.slice TA ps.length xac, .slice TB is.length xbc, .slice TC cs.length xcc] := row_at hgx
      have hl := lit_below w2 (.cells #[.slice TA ps.length xac, .slice TB is.length xbc, .slice TC cs.length xcc] 25)
      have a0 : w2.cell? ⟨w.heap.size, 0, none⟩ = some (.slice X ps.length cX) := hra.cell 0
      have a1 : w2.cell? ⟨w.heap.size, 1, none⟩ = some (.slice Y is.length cY) := hra.cell 1
      have a2 : w2.cell? ⟨w.heap.size, 2, none⟩ = some (.slice Z cs.length cZ) := hra.cell 2
      have g1c0 : w2.cell? ⟨g1, 0, none⟩ = some (.slice UA k Ua) := hrg1.cell 0
      have g1c1 : w2.cell? ⟨g1, 1, none⟩ = some (.slice UB is.length Ub) := hrg1.cell 1
      have g1c2 : w2.cell? ⟨g1, 2, none⟩ = some (.slice UC k Uc) := hrg1.cell 2
      have g2c0 : w2.cell? ⟨g2, 0, none⟩ = some (.slice VA (ps.length - k) Va) := hrg2.cell 0
      have g2c1 : w2.cell? ⟨g2, 1, none⟩ = some (.slice VB is.length Vb) := hrg2.cell 1
      have g2c2 : w2.cell? ⟨g2, 2, none⟩ = some (.slice VC (ps.length - k) Vc) := hrg2.cell 2
      have la0 : (w2.alloc (.cells #[.slice TA ps.length xac, .slice TB is.length xbc, .slice TC cs.length xcc] 25)).cell? ⟨w.heap.size, 0, none⟩ = some (.slice X ps.length cX) := (hra.alloc _).cell 0
      have la1 : (w2.alloc (.cells #[.slice TA ps.length xac, .slice TB is.length xbc, .slice TC cs.length xcc] 25)).cell? ⟨w.heap.size, 1, none⟩ = some (.slice Y is.length cY) := (hra.alloc _).cell 1
      have la2 : (w2.alloc (.cells #[.slice TA ps.length xac, .slice TB is.length xbc, .slice TC cs.length xcc] 25)).cell? ⟨w.heap.size, 2, none⟩ = some (.slice Z cs.length cZ) := (hra.alloc _).cell 2
      have lg1c0 : (w2.alloc (.cells #[.slice TA ps.length xac, .slice TB is.length xbc, .slice TC cs.length xcc] 25)).cell? ⟨g1, 0, none⟩ = some (.slice UA k Ua) := (hrg1.alloc _).cell 0
      have lg1c1 : (w2.alloc (.cells #[.slice TA ps.length xac, .slice TB is.length xbc, .slice TC cs.length xcc] 25)).cell? ⟨g1, 1, none⟩ = some (.slice UB is.length Ub) := (hrg1.alloc _).cell 1
      have lg1c2 : (w2.alloc (.cells #[.slice TA ps.length xac, .slice TB is.length xbc, .slice TC cs.length xcc] 25)).cell? ⟨g1, 2, none⟩ = some (.slice UC k Uc) := (hrg1.alloc _).cell 2
      have lg2c0 : (w2.alloc (.cells #[.slice TA ps.length xac, .slice TB is.length xbc, .slice TC cs.length xcc] 25)).cell? ⟨g2, 0, none⟩ = some (.slice VA (ps.length - k) Va) := (hrg2.alloc _).cell 0
      have lg2c1 : (w2.alloc (.cells #[.slice TA ps.length xac, .slice TB is.length xbc, .slice TC cs.length xcc] 25)).cell? ⟨g2, 1, none⟩ = some (.slice VB is.length Vb) := (hrg2.alloc _).cell 1
      have lg2c2 : (w2.alloc (.cells #[.slice TA ps.length xac, .slice TB is.length xbc, .slice TC cs.length xcc] 25)).cell? ⟨g2, 2, none⟩ = some (.slice VC (ps.length - k) Vc) := (hrg2.alloc _).cell 2
      go_wp2_with fail
      clear a0 a1 a2 g1c0 g1c1 g1c2 g2c0 g2c1 g2c2
      clear la0 la1 la2 lg1c0 lg1c1 lg1c2 lg2c0 lg2c1 lg2c2
      clear hgx
      generalize (w2.alloc (.cells #[.slice TA ps.length xac, .slice TB is.length xbc, .slice TC cs.length xcc] 25)) = w3 at *
      replace hra := hra.keep hl
      replace hA := hA.below hl
      replace hQ := hQ.below hl
      replace hNA := hNA.below hl
      replace hNB := hNB.below hl
      replace hrg1 := hrg1.keep hl
      replace hMU := hMU.below hl
      replace hrg2 := hrg2.keep hl
      replace hMV := hMV.below hl
      replace hX0 := hX0.below hl
      replace BB : Below w.heap.size w w3 := BB.trans (hl.mono BB.size)
      clear hl
      refine (same_any _ _ _ _ _ _ ps is cs ps is cs _ hX0 hA).mono ?_
      rw [sameB_refl]
      rintro e w4 ⟨rfl, hb⟩
      replace hra := hra.keep hb
      replace hA := hA.below hb
      replace hQ := hQ.below hb
      replace hNA := hNA.below hb
      replace hNB := hNB.below hb
      replace hrg1 := hrg1.keep hb
      replace hMU := hMU.below hb
      replace hrg2 := hrg2.keep hb
      replace hMV := hMV.below hb
      replace hX0 := hX0.below hb
      replace hrgx := hrgx.keep hb
      replace BB : Below w.heap.size w w4 := BB.trans (hb.mono BB.size)
      clear hb
      have a0 : w4.cell? ⟨w.heap.size, 0, none⟩ = some (.slice X ps.length cX) := hra.cell 0
      have a1 : w4.cell? ⟨w.heap.size, 1, none⟩ = some (.slice Y is.length cY) := hra.cell 1
      have a2 : w4.cell? ⟨w.heap.size, 2, none⟩ = some (.slice Z cs.length cZ) := hra.cell 2
      have g1c0 : w4.cell? ⟨g1, 0, none⟩ = some (.slice UA k Ua) := hrg1.cell 0
      have g1c1 : w4.cell? ⟨g1, 1, none⟩ = some (.slice UB is.length Ub) := hrg1.cell 1
      have g1c2 : w4.cell? ⟨g1, 2, none⟩ = some (.slice UC k Uc) := hrg1.cell 2
      have g2c0 : w4.cell? ⟨g2, 0, none⟩ = some (.slice VA (ps.length - k) Va) := hrg2.cell 0
      have g2c1 : w4.cell? ⟨g2, 1, none⟩ = some (.slice VB is.length Vb) := hrg2.cell 1
      have g2c2 : w4.cell? ⟨g2, 2, none⟩ = some (.slice VC (ps.length - k) Vc) := hrg2.cell 2
      have x0 : w4.cell? ⟨gx, 0, none⟩ = some (.slice TA ps.length xac) := hrgx.cell 0
      have x1 : w4.cell? ⟨gx, 1, none⟩ = some (.slice TB is.length xbc) := hrgx.cell 1
      have x2 : w4.cell? ⟨gx, 2, none⟩ = some (.slice TC cs.length xcc) := hrgx.cell 2
      go_wp2_with fail
      clear a0 a1 a2 g1c0 g1c1 g1c2 g2c0 g2c1 g2c2 x0 x1 x2
      refine (matv_any _ _ _ _ (ps.take k) is cats (cs.take k) _ hMU.1 hMU.2.1 hMU.2.2 hQ).mono ?_
      rw [HD.out.2.2.2]
      rintro e w5 ⟨rfl, hb⟩
      replace hra := hra.keep hb
      replace hA := hA.below hb
      replace hQ := hQ.below hb
      replace hNA := hNA.below hb
      replace hNB := hNB.below hb
      replace hrg1 := hrg1.keep hb
      replace hMU := hMU.below hb
      replace hrg2 := hrg2.keep hb
      replace hMV := hMV.below hb
      replace hX0 := hX0.below hb
      replace hrgx := hrgx.keep hb
      replace BB : Below w.heap.size w w5 := BB.trans (hb.mono BB.size)
      clear hb
      have a0 : w5.cell? ⟨w.heap.size, 0, none⟩ = some (.slice X ps.length cX) := hra.cell 0
      have a1 : w5.cell? ⟨w.heap.size, 1, none⟩ = some (.slice Y is.length cY) := hra.cell 1
      have a2 : w5.cell? ⟨w.heap.size, 2, none⟩ = some (.slice Z cs.length cZ) := hra.cell 2
      have g1c0 : w5.cell? ⟨g1, 0, none⟩ = some (.slice UA k Ua) := hrg1.cell 0
      have g1c1 : w5.cell? ⟨g1, 1, none⟩ = some (.slice UB is.length Ub) := hrg1.cell 1
      have g1c2 : w5.cell? ⟨g1, 2, none⟩ = some (.slice UC k Uc) := hrg1.cell 2
      have g2c0 : w5.cell? ⟨g2, 0, none⟩ = some (.slice VA (ps.length - k) Va) := hrg2.cell 0
      have g2c1 : w5.cell? ⟨g2, 1, none⟩ = some (.slice VB is.length Vb) := hrg2.cell 1
      have g2c2 : w5.cell? ⟨g2, 2, none⟩ = some (.slice VC (ps.length - k) Vc) := hrg2.cell 2
      have x0 : w5.cell? ⟨gx, 0, none⟩ = some (.slice TA ps.length xac) := hrgx.cell 0
      have x1 : w5.cell? ⟨gx, 1, none⟩ = some (.slice TB is.length xbc) := hrgx.cell 1
      have x2 : w5.cell? ⟨gx, 2, none⟩ = some (.slice TC cs.length xcc) := hrgx.cell 2
      go_wp2_with fail
      clear a0 a1 a2 g1c0 g1c1 g1c2 g2c0 g2c1 g2c2 x0 x1 x2
      refine (awake_any _).mono ?_
      rintro e w99 ⟨rfl, hb⟩
      go_wp2_with fail
      go_ret
      exact ⟨rfl, BB.trans (hb.mono BB.size)⟩
namespace MatrixDivides
theorem own : ownKnob Try.prog.godebug = none := by kernel_rfl
theorem laidOut : laidOutB Try.prog = true := by kernel_rfl
theorem readable : ∀ t ∈ Try.f9.params.toList, Try.prog.readableRec t = true ∧ t < Try.prog.types.size := by
  intro t ht
  rw [Try.params9] at ht
  have ht' : t = 22 ∨ t = 25 ∨ t = 5 := by simp at ht; (try rcases ht with h | h | h); all_goals (subst_vars; simp)
  rcases ht' with rfl | rfl | rfl
  · exact ⟨by kernel_rfl, of_decide_eq_true (by kernel_rfl)⟩
  · exact ⟨by kernel_rfl, of_decide_eq_true (by kernel_rfl)⟩
  · exact ⟨by kernel_rfl, of_decide_eq_true (by kernel_rfl)⟩
theorem contract (H : Type) (enc : TypeId × Value → H) (W : World) (base : Nat) (args : Array Value) (ds gs : List (DataW H)) (before : List MemPlace)
    (hval : ∀ (j : Nat) t v, Try.f9.params[j]? = some t → args[j]? = some v → Value.okWide Try.prog W .any base t v)
    (hW : DataW.Whole enc Try.prog Try.f9.params.toList Rows.matrixDividesSpec.vars false W args.toList ds gs before) :
    Calls Try.prog 9 args W fun e W' => ∃ v, e = .returned v ∧ Rows.matrixDividesSpec.post enc Try.prog Try.f9 false true false false W args v W' := by
  have hW' := hW
  obtain ⟨p, q, hA0, hV, rfl, hfz, hnd⟩ := hW
  have hA : DataW.TrodAll enc Try.prog W 0 (fun _ => true) true Try.f9.params.toList args.toList ds p := hA0
  rw [Try.params9] at hA hval
  obtain ⟨v0, vs0, d0, ds0, p0, q0, hargs, rfl, rfl, h0, r0⟩ := trodAll_cons hA
  obtain ⟨v1, vs1, d1, ds1, p1, q1, rfl, rfl, rfl, h1, r1⟩ := trodAll_cons r0
  obtain ⟨v2, vs2, d2, ds2, p2, q2, rfl, rfl, rfl, h2, r2⟩ := trodAll_cons r1
  obtain ⟨rfl, rfl, rfl⟩ := trodAll_nil r2
  obtain rfl : args = #[v0, v1, v2] := by cases args; simp_all
  obtain ⟨rfl, rfl⟩ := trodVars_none hV
  obtain ⟨m0, m1, m2, z0, z1, z2, nm, rfl, rfl, rfl, hz0, hz1, hz2⟩ := open_agg3 Try.underlying25 (by kernel_rfl) (show Try.prog.cellsOf 25 = 3 by kernel_rfl) (hval 0 25 v0 rfl rfl) h0
  obtain ⟨ps, hps, wps⟩ := open_nums Try.underlying22 Try.underlying3 (by kernel_rfl) hz0
  obtain ⟨is, his, wis⟩ := open_nums Try.underlying22 Try.underlying3 (by kernel_rfl) hz1
  obtain ⟨cs, hcs⟩ := open_intsL Try.underlying23 (by kernel_rfl) Try.underlying22 Try.underlying3 (by kernel_rfl) hz2
  obtain ⟨Acats, lcats, ccats, rfl⟩ := okWide_slice Try.underlying22 (hval 1 22 v1 rfl rfl)
  obtain ⟨fcats, hfcats⟩ := h1
  obtain ⟨cats, hcats, wcats⟩ := open_nums Try.underlying22 Try.underlying3 (by kernel_rfl) (by simpa [Value.cells] using hfcats)
  obtain ⟨a, rfl, rfl, rfl, wa⟩ := open_int Try.underlying5 (hval 2 5 v2 rfl rfl) h2
  have wa' : 0 ≤ a ∧ a ≤ 255 := by simpa [Lit.wf, IntKind.min, IntKind.max, IntKind.signed, IntKind.bits] using wa
  refine (divides_all _ _ _ _ ps is cs cats a W ⟨hps, his, hcs⟩ hcats wps wis wa'.1 wa'.2).mono fun e W' ⟨he, hb⟩ => ⟨_, he, ?_⟩
  exact law_post laidOut readable rfl rfl Try.underlying4 (ok_one (by kernel_rfl) rfl (okWide_bool_mk Try.underlying4 _)) ⟨rfl, rfl, rfl⟩ hW' hb
set_option maxRecDepth 100000 in
theorem lifted (os : Os) (started : os.Started) (H : Type) (enc : TypeId × Value → H) :
    ReturnsInHanded {} Try.checked os 9 .any (Rows.matrixDividesSpec.pre6 enc Try.prog Try.f9 Rows.matrixDividesRow.domain false) (Rows.matrixDividesSpec.post enc Try.prog Try.f9 false true false false) := by
  refine returnsInHanded_of_change (C := Try.checked) own started (by kernel_rfl) Try.func9
    (ChangeSpec.witness6 (enc := enc) (C := Try.checked) false ⟨#[], #[.agg #[.slice none 0 0, .slice none 0 0, .slice none 0 0], .slice none 0 0, .int .u8 0], []⟩ 8 (by kernel_rfl) (by kernel_rfl) (by kernel_rfl) (by kernel_rfl)) ?_
  intro W base args ds gs before hval hW _ _
  exact contract H enc W base args ds gs before hval hW
theorem proved : Rows.MatrixDividesSaid :=
  OpenClaim.holds_of_wide 9 Try.f9 rfl rfl rfl rfl rfl rfl rfl ⟨rfl, rfl, rfl, rfl, rfl⟩ rfl rfl rfl rfl rfl (by kernel_rfl) Try.func9 (by kernel_rfl)
    (of_decide_eq_true (by kernel_rfl)) (by unfold Func.isWrapper; first | (rw [if_pos (by decide +kernel)]; kernel_rfl) | (rw [if_neg (by decide +kernel)]; exact ⟨rfl, rfl⟩))
    (fun os started H enc _ => lifted os started H enc)
#print axioms proved
end MatrixDivides
end Go.Proofs.Ytgdngopemlajjaa
