/- For every three numbers the law GridMakes returns true; no condition. -/
import Derived.Test.YtdmjgildgjpmcaaRMakes
import Derived.Test.YtdmjgildgjpmcaaRows
import Derived.Deep.QuietTactic
import Derived.BigQuiet
import Derived.ProofKit
import Derived.OpenShut
import Derived.Deep.Draws
namespace Go.Proofs.Ytdmjgildgjpmcaa
open Go.RowKit Go.ChangeShapes Go.WideShapes Go.ChangeAt

set_option maxHeartbeats 1000000 in
theorem ints_same (pv qv : Value) (zs : List Int) (w : World) (h1 : Nums .i64 w pv zs) (h2 : Nums .i64 w qv zs) :
    Calls Try.prog 10 #[pv, qv] w fun e w' => e = .returned (.bool true) ∧ ∃ d, w' = w.drewN d := by
  obtain ⟨A, c, rfl, hc, hm, hs⟩ := h1
  obtain ⟨B, c', rfl, hc', hm', hs'⟩ := h2
  obtain ⟨n, hn⟩ : ∃ n, n = zs.length := ⟨_, rfl⟩
  rw [← hn] at hs hs' hc hc' ⊢
  unfold maxLen at hm hm'
  have HN := Lib.hid hn
  clear hn
  have hnn : ((n : Int) != (n : Int)) = false := by simp
  go_enter Try.func10, Try.ntmps10
  go_wp2
  go_loopw [5] (fun i wr => ∃ k : Nat, k ≤ n ∧ i = .int .i64 (k : Int) ∧ ∃ d, wr = w.drewN d) (fun i _ => n - (intOf i).toNat)
  case atStart => exact ⟨0, by omega, rfl, 0, rfl⟩
  case round =>
    obtain ⟨k, hk, rfl, d, rfl⟩ := hrel
    by_cases hlt : k < n
    · obtain ⟨b, o, rfl, hb, hcell⟩ := hs.num hlt
      obtain ⟨b', o', rfl, hb', hcell'⟩ := hs'.num hlt
      have g1 := hcell k hlt
      have g2 := hcell' k hlt
      have hne : ((zs.getD k 0) != (zs.getD k 0)) = false := by simp
      clear hcell hcell'
      generalize zs.getD k 0 = z at *
      go_wp2
      go_quiet (fail)
      go_wp2
      go_roundw
      case rel => exact ⟨k + 1, by omega, by go_num, _, rfl⟩
      case measure => simp [intOf]; omega
    · go_wp2
      go_ret
      exact ⟨rfl, _, rfl⟩

theorem Fits.of {lo step : Int} {n : Nat} (h : FitsI lo step n) : Fits lo step n := ⟨by have := h.1; omega, by have := h.2.1; omega, h.2.2.1, h.2.2.2.1, h.2.2.2.2.1, h.2.2.2.2.2.1, h.2.2.2.2.2.2⟩

set_option maxHeartbeats 1000000 in
theorem makes_yes (lo step : Int) (n : Nat) (w : World) (hf : Fits lo step n) :
    Calls Try.prog 3 #[.int .i64 lo, .int .i64 step, .int .i64 (n : Int)] w fun e w' => e = .returned (.bool true) ∧ Below w.heap.size w w' := by
  have HF := Lib.hid hf
  clear hf
  go_enter Try.func3, Try.ntmps3
  go_wp2_with fail
  refine (uniform_yes lo step n _ HF.out).mono ?_
  rintro e w1 ⟨pv, rv, rfl, hp, hr, _, _, hb⟩
  have hp' := hp
  have hr' := hr
  obtain ⟨A1, c1, rfl, _, _, _⟩ := hp'
  obtain ⟨A2, c2, rfl, _, _, _⟩ := hr'
  go_wp2_with fail
  refine (runiform_yes lo step n _ HF.out).mono ?_
  rintro e w2 ⟨pv, rv, rfl, hp2, hr2, _, _, hb2⟩
  have hp' := hp2
  have hr' := hr2
  obtain ⟨A3, c3, rfl, _, _, _⟩ := hp'
  obtain ⟨A4, c4, rfl, _, _, _⟩ := hr'
  have R1 : Row w2 w1.heap.size 24 [.slice A1 (ptsL lo step n).length c1, .slice A2 (onesL n).length c2] := (Row.new w1 24 [.slice A1 (ptsL lo step n).length c1, .slice A2 (onesL n).length c2]).keep hb2
  have a0 : w2.cell? ⟨w1.heap.size, 0, none⟩ = some (.slice A1 (ptsL lo step n).length c1) := R1.cell 0
  have a1 : w2.cell? ⟨w1.heap.size, 1, none⟩ = some (.slice A2 (onesL n).length c2) := R1.cell 1
  have z1 : w1.heap.size < w2.heap.size := R1.lt
  have B1 : Below w1.heap.size w1 w2 := ((Below.refl _ _).alloc (Nat.le_refl _) _).trans (hb2.mono (by simp))
  clear hb2
  have k1 : Below w2.heap.size w2 (w2.alloc (.cells #[.slice A3 (ptsL lo step n).length c3, .slice A4 (onesL n).length c4] 24)) := (Below.refl _ _).alloc (Nat.le_refl _) _
  go_wp2_with fail
  refine (ints_same _ _ _ _ ((hp.below B1).below k1) (hp2.below k1)).mono ?_
  rintro e w' ⟨rfl, d1, rfl⟩
  go_wp2_with fail
  refine (ints_same _ _ _ _ (nums_drewN ((hr.below B1).below k1) d1) (nums_drewN (hr2.below k1) d1)).mono ?_
  rintro e w' ⟨rfl, d2, rfl⟩
  have z0 : w.heap.size ≤ w1.heap.size := hb.size
  have R1' := R1.alloc (.cells #[.slice A3 (ptsL lo step n).length c3, .slice A4 (onesL n).length c4] 24)
  have R2 := Row.new w2 24 [.slice A3 (ptsL lo step n).length c3, .slice A4 (onesL n).length c4]
  have B2 : Below w.heap.size w (w2.alloc (.cells #[.slice A3 (ptsL lo step n).length c3, .slice A4 (onesL n).length c4] 24)) := hb.trans ((B1.trans (k1.mono (by omega))).mono hb.size)
  clear hp hr hp2 hr2 R1 B1 hb k1 a0 a1
  go_wp2_with fail
  refine (triangle_yes lo step n _ HF.out).mono ?_
  rintro e w3 ⟨pv, rv, rfl, hp, hr, fp, fr, hb3⟩
  have hp' := hp
  have hr' := hr
  obtain ⟨A5, c5, rfl, _, _, _⟩ := hp'
  obtain ⟨A6, c6, rfl, _, _, _⟩ := hr'
  replace hb3 := undrew hb3
  have R1 := R1'.below hb3 R1'.lt
  have R2a := R2.below hb3 R2.lt
  have a0 : w3.cell? ⟨w1.heap.size, 0, none⟩ = some (.slice A1 (ptsL lo step n).length c1) := R1.cell 0
  have a1 : w3.cell? ⟨w1.heap.size, 1, none⟩ = some (.slice A2 (onesL n).length c2) := R1.cell 1
  have f0 := R1.frozen 0
  have f1 := R1.frozen 1
  have B3 : Below w.heap.size w w3 := B2.trans (hb3.mono B2.size)
  have z2 : w2.heap.size < w3.heap.size := R2a.lt
  replace fp : Fresh (w2.heap.size + 1) (.slice A5 (ptsL lo step n).length c5) := by simpa using fp
  replace fr : Fresh (w2.heap.size + 1) (.slice A6 (triL n).length c6) := by simpa using fr
  have hp3 := (hp.set_ fp (p := ⟨w1.heap.size, 0, none⟩) (by simp; omega) (.slice A5 (ptsL lo step n).length c5)).set_ fp (p := ⟨w1.heap.size, 1, none⟩) (by simp; omega) (.slice A6 (triL n).length c6)
  have hr3 := (hr.set_ fr (p := ⟨w1.heap.size, 0, none⟩) (by simp; omega) (.slice A5 (ptsL lo step n).length c5)).set_ fr (p := ⟨w1.heap.size, 1, none⟩) (by simp; omega) (.slice A6 (triL n).length c6)
  have R3 := (R1.set_ 0 (.slice A5 (ptsL lo step n).length c5)).set_ 1 (.slice A6 (triL n).length c6)
  have R4 := (R2a.far (p := ⟨w1.heap.size, 0, none⟩) (by simp; omega) (.slice A5 (ptsL lo step n).length c5)).far (p := ⟨w1.heap.size, 1, none⟩) (by simp; omega) (.slice A6 (triL n).length c6)
  have B4 := (B3.setCell (p := ⟨w1.heap.size, 0, none⟩) z0 (.slice A5 (ptsL lo step n).length c5)).setCell (p := ⟨w1.heap.size, 1, none⟩) z0 (.slice A6 (triL n).length c6)
  clear hb3 R2 R1' B2 B3 hp hr
  go_wp2_with fail
  refine (rtriangle_yes lo step n _ HF.out).mono ?_
  rintro e w4 ⟨pv, rv, rfl, hp, hr, fp', fr', hb4⟩
  have hp' := hp
  have hr' := hr
  obtain ⟨A7, c7, rfl, _, _, _⟩ := hp'
  obtain ⟨A8, c8, rfl, _, _, _⟩ := hr'
  replace R3 := R3.below hb4 R3.lt
  replace R4 := R4.below hb4 R4.lt
  have z3 : w2.heap.size < w4.heap.size := R4.lt
  have b0 : w4.cell? ⟨w2.heap.size, 0, none⟩ = some (.slice A3 (ptsL lo step n).length c3) := R4.cell 0
  have b1 : w4.cell? ⟨w2.heap.size, 1, none⟩ = some (.slice A4 (onesL n).length c4) := R4.cell 1
  have f2 := R4.frozen 0
  have f3 := R4.frozen 1
  have a2 : w4.cell? ⟨w1.heap.size, 0, none⟩ = some (.slice A5 (ptsL lo step n).length c5) := R3.cell 0
  have a3 : w4.cell? ⟨w1.heap.size, 1, none⟩ = some (.slice A6 (triL n).length c6) := R3.cell 1
  have zz : w2.heap.size + 1 ≤ w3.heap.size := z2
  replace fp' : Fresh (w2.heap.size + 1) (.slice A7 (ptsL lo step n).length c7) := fp'.mono (by simpa [World.setCell] using zz)
  replace fr' : Fresh (w2.heap.size + 1) (.slice A8 (triL n).length c8) := fr'.mono (by simpa [World.setCell] using zz)
  have hp4 := ((hp3.below hb4).set_ fp (p := ⟨w2.heap.size, 0, none⟩) (by simp) (.slice A7 (ptsL lo step n).length c7)).set_ fp (p := ⟨w2.heap.size, 1, none⟩) (by simp) (.slice A8 (triL n).length c8)
  have hr4 := ((hr3.below hb4).set_ fr (p := ⟨w2.heap.size, 0, none⟩) (by simp) (.slice A7 (ptsL lo step n).length c7)).set_ fr (p := ⟨w2.heap.size, 1, none⟩) (by simp) (.slice A8 (triL n).length c8)
  have hp5 := (hp.set_ fp' (p := ⟨w2.heap.size, 0, none⟩) (by simp) (.slice A7 (ptsL lo step n).length c7)).set_ fp' (p := ⟨w2.heap.size, 1, none⟩) (by simp) (.slice A8 (triL n).length c8)
  have hr5 := (hr.set_ fr' (p := ⟨w2.heap.size, 0, none⟩) (by simp) (.slice A7 (ptsL lo step n).length c7)).set_ fr' (p := ⟨w2.heap.size, 1, none⟩) (by simp) (.slice A8 (triL n).length c8)
  have z4 : w.heap.size ≤ w2.heap.size := by omega
  have B5 := ((B4.trans (hb4.mono B4.size)).setCell (p := ⟨w2.heap.size, 0, none⟩) z4 (.slice A7 (ptsL lo step n).length c7)).setCell (p := ⟨w2.heap.size, 1, none⟩) z4 (.slice A8 (triL n).length c8)
  clear a0 a1 f0 f1 hb4 B4 R3 R4 hp3 hr3 hp hr
  go_wp2_with fail
  refine (ints_same _ _ _ _ hp4 hp5).mono ?_
  rintro e w' ⟨rfl, d3, rfl⟩
  go_wp2_with fail
  refine (ints_same _ _ _ _ (nums_drewN hr4 d3) (nums_drewN hr5 d3)).mono ?_
  rintro e w' ⟨rfl, d4, rfl⟩
  go_wp2_with fail
  go_ret
  exact ⟨rfl, below_drewN B5 _⟩

set_option maxHeartbeats 1000000 in
theorem makes_no (lo step n : Int) (w : World) (hf : Hid (¬ FitsI lo step n)) :
    Calls Try.prog 3 #[.int .i64 lo, .int .i64 step, .int .i64 n] w fun e w' => e = .returned (.bool true) ∧ Below w.heap.size w w' := by
  go_enter Try.func3, Try.ntmps3
  go_wp2_with fail
  refine (uniform_no lo step n _ hf).mono ?_
  rintro e w1 ⟨rfl, hb⟩
  go_wp2_with fail
  refine (runiform_no lo step n _ hf).mono ?_
  rintro e w2 ⟨rfl, hb2⟩
  have R1 : Row w2 w1.heap.size 24 [.slice none 0 0, .slice none 0 0] := (Row.new w1 24 [.slice none 0 0, .slice none 0 0]).keep hb2
  have a0 : w2.cell? ⟨w1.heap.size, 0, none⟩ = some (.slice none 0 0) := R1.cell 0
  have a1 : w2.cell? ⟨w1.heap.size, 1, none⟩ = some (.slice none 0 0) := R1.cell 1
  have z1 : w1.heap.size < w2.heap.size := R1.lt
  have z0 : w.heap.size ≤ w1.heap.size := hb.size
  have B1 : Below w1.heap.size w1 w2 := ((Below.refl _ _).alloc (Nat.le_refl _) _).trans (hb2.mono (by simp))
  clear hb2
  go_wp2_with fail
  refine (ints_same _ _ [] _ (Nums.nil _ _) (Nums.nil _ _)).mono ?_
  rintro e w' ⟨rfl, d1, rfl⟩
  go_wp2_with fail
  refine (ints_same _ _ [] _ (Nums.nil _ _) (Nums.nil _ _)).mono ?_
  rintro e w' ⟨rfl, d2, rfl⟩
  have R1' := R1.alloc (.cells #[.slice none 0 0, .slice none 0 0] 24)
  have R2 := Row.new w2 24 [.slice none 0 0, .slice none 0 0]
  have B2 : Below w.heap.size w (w2.alloc (.cells #[.slice none 0 0, .slice none 0 0] 24)) := (hb.trans (B1.mono (by omega))).alloc (by omega) _
  clear R1 B1 hb a0 a1
  go_wp2_with fail
  refine (triangle_no lo step n _ hf).mono ?_
  rintro e w3 ⟨rfl, hb3⟩
  replace hb3 := undrew hb3
  have R1 := R1'.below hb3 R1'.lt
  have R2a := R2.below hb3 R2.lt
  have a0 : w3.cell? ⟨w1.heap.size, 0, none⟩ = some (.slice none 0 0) := R1.cell 0
  have a1 : w3.cell? ⟨w1.heap.size, 1, none⟩ = some (.slice none 0 0) := R1.cell 1
  have f0 := R1.frozen 0
  have f1 := R1.frozen 1
  have B3 : Below w.heap.size w w3 := B2.trans (hb3.mono B2.size)
  have z2 : w2.heap.size < w3.heap.size := R2a.lt
  have R3 := (R1.set_ 0 (.slice none 0 0)).set_ 1 (.slice none 0 0)
  have R4 := (R2a.far (p := ⟨w1.heap.size, 0, none⟩) (by simp; omega) (.slice none 0 0)).far (p := ⟨w1.heap.size, 1, none⟩) (by simp; omega) (.slice none 0 0)
  have B4 := (B3.setCell (p := ⟨w1.heap.size, 0, none⟩) z0 (.slice none 0 0)).setCell (p := ⟨w1.heap.size, 1, none⟩) z0 (.slice none 0 0)
  clear hb3 R2 R1' B2 B3
  go_wp2_with fail
  refine (rtriangle_no lo step n _ hf).mono ?_
  rintro e w4 ⟨rfl, hb4⟩
  replace R3 := R3.below hb4 R3.lt
  replace R4 := R4.below hb4 R4.lt
  have z3 : w2.heap.size < w4.heap.size := R4.lt
  have b0 : w4.cell? ⟨w2.heap.size, 0, none⟩ = some (.slice none 0 0) := R4.cell 0
  have b1 : w4.cell? ⟨w2.heap.size, 1, none⟩ = some (.slice none 0 0) := R4.cell 1
  have f2 := R4.frozen 0
  have f3 := R4.frozen 1
  have a2 : w4.cell? ⟨w1.heap.size, 0, none⟩ = some (.slice none 0 0) := R3.cell 0
  have a3 : w4.cell? ⟨w1.heap.size, 1, none⟩ = some (.slice none 0 0) := R3.cell 1
  have z4 : w.heap.size ≤ w2.heap.size := by omega
  have B5 := ((B4.trans (hb4.mono B4.size)).setCell (p := ⟨w2.heap.size, 0, none⟩) z4 (.slice none 0 0)).setCell (p := ⟨w2.heap.size, 1, none⟩) z4 (.slice none 0 0)
  clear a0 a1 f0 f1 hb4 B4 R3 R4
  go_wp2_with fail
  refine (ints_same _ _ [] _ (Nums.nil _ _) (Nums.nil _ _)).mono ?_
  rintro e w' ⟨rfl, d3, rfl⟩
  go_wp2_with fail
  refine (ints_same _ _ [] _ (Nums.nil _ _) (Nums.nil _ _)).mono ?_
  rintro e w' ⟨rfl, d4, rfl⟩
  go_wp2_with fail
  go_ret
  exact ⟨rfl, below_drewN B5 _⟩

theorem makes_all (lo step n : Int) (w : World) :
    Calls Try.prog 3 #[.int .i64 lo, .int .i64 step, .int .i64 n] w fun e w' => e = .returned (.bool true) ∧ Below w.heap.size w w' := by
  by_cases h : FitsI lo step n
  · obtain ⟨m, rfl⟩ := Int.eq_ofNat_of_zero_le (show 0 ≤ n by have := h.1; omega)
    exact makes_yes lo step m w (Fits.of h)
  · exact makes_no lo step n w h

namespace GridMakes
theorem own : ownKnob Try.prog.godebug = none := by kernel_rfl
theorem laidOut : laidOutB Try.prog = true := by kernel_rfl
theorem readable : ∀ t ∈ Try.f3.params.toList, Try.prog.readableRec t = true ∧ t < Try.prog.types.size := by
  intro t ht
  rw [Try.params3] at ht
  have ht' : t = 3 := by simp at ht; omega
  subst ht'
  exact ⟨by kernel_rfl, of_decide_eq_true (by kernel_rfl)⟩
theorem contract (H : Type) (enc : TypeId × Value → H) (W : World) (base : Nat) (args : Array Value) (ds gs : List (DataW H)) (before : List MemPlace)
    (hval : ∀ (j : Nat) t v, Try.f3.params[j]? = some t → args[j]? = some v → Value.okWide Try.prog W .any base t v)
    (hW : DataW.Whole enc Try.prog Try.f3.params.toList Rows.gridMakesSpec.vars false W args.toList ds gs before) :
    Calls Try.prog 3 args W fun e W' => ∃ v, e = .returned v ∧ Rows.gridMakesSpec.post enc Try.prog Try.f3 false true false false W args v W' := by
  have hW' := hW
  obtain ⟨p, q, hA0, hV, rfl, hfz, hnd⟩ := hW
  have hA : DataW.TrodAll enc Try.prog W 0 (fun _ => true) true Try.f3.params.toList args.toList ds p := hA0
  rw [Try.params3] at hA hval
  obtain ⟨v0, vs0, d0, ds0, p0, q0, hargs, rfl, rfl, h0, r0⟩ := trodAll_cons hA
  obtain ⟨v1, vs1, d1, ds1, p1, q1, rfl, rfl, rfl, h1, r1⟩ := trodAll_cons r0
  obtain ⟨v2, vs2, d2, ds2, p2, q2, rfl, rfl, rfl, h2, r2⟩ := trodAll_cons r1
  obtain ⟨rfl, rfl, rfl⟩ := trodAll_nil r2
  obtain rfl : args = #[v0, v1, v2] := by cases args; simp_all
  obtain ⟨rfl, rfl⟩ := trodVars_none hV
  obtain ⟨a0, rfl, rfl, rfl, w0⟩ := open_int Try.underlying3 (hval 0 3 v0 rfl rfl) h0
  obtain ⟨a1, rfl, rfl, rfl, w1⟩ := open_int Try.underlying3 (hval 1 3 v1 rfl rfl) h1
  obtain ⟨a2, rfl, rfl, rfl, w2⟩ := open_int Try.underlying3 (hval 2 3 v2 rfl rfl) h2
  refine (makes_all a0 a1 a2 W).mono fun e W' ⟨he, hb⟩ => ⟨_, he, ?_⟩
  exact law_post laidOut readable rfl rfl Try.underlying4 (ok_one (by kernel_rfl) rfl (okWide_bool_mk Try.underlying4 _)) ⟨rfl, rfl, rfl⟩ hW' hb
set_option maxRecDepth 100000 in
theorem lifted (os : Os) (started : os.Started) (H : Type) (enc : TypeId × Value → H) :
    ReturnsInHanded {} Try.checked os 3 .any (Rows.gridMakesSpec.pre6 enc Try.prog Try.f3 Rows.gridMakesRow.domain false) (Rows.gridMakesSpec.post enc Try.prog Try.f3 false true false false) := by
  refine returnsInHanded_of_change (C := Try.checked) own started (by kernel_rfl) Try.func3
    (ChangeSpec.witness6 (enc := enc) (C := Try.checked) false ⟨#[], #[.int .i64 0, .int .i64 0, .int .i64 0], []⟩ 8 (by kernel_rfl) (by kernel_rfl) (by kernel_rfl) (by kernel_rfl)) ?_
  intro W base args ds gs before hval hW _ _
  exact contract H enc W base args ds gs before hval hW
theorem proved : Rows.GridMakesSaid :=
  OpenClaim.holds_of_wide 3 Try.f3 rfl rfl rfl rfl rfl rfl rfl ⟨rfl, rfl, rfl, rfl, rfl⟩ rfl rfl rfl rfl rfl (by kernel_rfl) Try.func3 (by kernel_rfl)
    (of_decide_eq_true (by kernel_rfl)) (by unfold Func.isWrapper; first | (rw [if_pos (by decide +kernel)]; kernel_rfl) | (rw [if_neg (by decide +kernel)]; exact ⟨rfl, rfl⟩))
    (fun os started H enc _ => lifted os started H enc)
#print axioms proved
end GridMakes
end Go.Proofs.Ytdmjgildgjpmcaa
