/- EstimateNested. -/
import Derived.Test.YtfoleamcaflfeaaDoorEsW
import Derived.Deep.CutRange
import Derived.Deep.DeepCutAuto
import Derived.Deep.Light
namespace Go.Proofs.YtfoleamcaflfeaaDoor
open Go.RowKit
set_option linter.unusedVariables false
set_option maxRecDepth 100000

theorem reachB_mono {x s : Nat} {p p' : Int} {q q' : Nat} (hq : 0 < q) (hq' : 0 < q') (h : p * (q' : Int) ≤ p' * (q : Int)) (hr : reachB x s p' q' = true) : reachB x s p q = true := by
  unfold reachB at *
  rw [decide_eq_true_eq] at *
  have a1 : p * (q' : Int) * (s : Int) ≤ p' * (q : Int) * (s : Int) := Int.mul_le_mul_of_nonneg_right h (by omega)
  have a2 : p' * (s : Int) * (q : Int) ≤ (x : Int) * (q' : Int) * (q : Int) := Int.mul_le_mul_of_nonneg_right hr (by omega)
  have e1 : p * (q' : Int) * (s : Int) = p * (s : Int) * (q' : Int) := by rw [Int.mul_assoc, Int.mul_comm (q' : Int), ← Int.mul_assoc]
  have e2 : p' * (q : Int) * (s : Int) = p' * (s : Int) * (q : Int) := by rw [Int.mul_assoc, Int.mul_comm (q : Int), ← Int.mul_assoc]
  have e3 : (x : Int) * (q' : Int) * (q : Int) = (x : Int) * (q : Int) * (q' : Int) := by rw [Int.mul_assoc, Int.mul_comm (q' : Int), ← Int.mul_assoc]
  have hp : 0 < (q' : Int) := by omega
  rw [e1, e2] at a1
  rw [e3] at a2
  exact (Int.mul_le_mul_right hp).1 (Int.le_trans a1 a2)
theorem next_in (ns : List Nat) {lo hi f : Nat} (h : lo ≤ hi) (hf : hi - lo = f + 1) : lo ≤ nextL ns lo hi ∧ nextL ns lo hi ≤ nextH ns lo hi ∧ nextH ns lo hi ≤ hi ∧ nextH ns lo hi - nextL ns lo hi = f := by
  unfold nextL nextH
  split <;> omega
theorem credG_in (ns : List Nat) (p : Int) (q : Nat) : ∀ f lo hi, lo ≤ hi → hi - lo = f → lo ≤ (credG ns p q f lo hi).1 ∧ (credG ns p q f lo hi).1 ≤ (credG ns p q f lo hi).2 ∧ (credG ns p q f lo hi).2 ≤ hi
  | 0, lo, hi, h, hf => ⟨Nat.le_refl _, h, Nat.le_refl _⟩
  | f + 1, lo, hi, h, hf => by
    obtain ⟨n1, n2, n3, n4⟩ := next_in ns h hf
    unfold credG
    split
    · obtain ⟨a, b, c⟩ := credG_in ns p q f _ _ n2 n4
      exact ⟨Nat.le_trans n1 a, b, Nat.le_trans c n3⟩
    · exact ⟨Nat.le_refl _, h, Nat.le_refl _⟩
theorem credG_nest (ns : List Nat) {p p' : Int} {q q' : Nat} (hq : 0 < q) (hq' : 0 < q') (hle : p * (q' : Int) ≤ p' * (q : Int)) : ∀ f lo hi, lo ≤ hi → hi - lo = f →
    (credG ns p' q' f lo hi).1 ≤ (credG ns p q f lo hi).1 ∧ (credG ns p q f lo hi).2 ≤ (credG ns p' q' f lo hi).2
  | 0, lo, hi, h, hf => ⟨Nat.le_refl _, Nat.le_refl _⟩
  | f + 1, lo, hi, h, hf => by
    obtain ⟨n1, n2, n3, n4⟩ := next_in ns h hf
    by_cases hr : reachB (sumR ns (nextL ns lo hi) (nextH ns lo hi + 1)) ns.sum p' q' = true
    · have hr2 := reachB_mono hq hq' hle hr
      unfold credG
      rw [if_pos hr, if_pos hr2]
      exact credG_nest ns hq hq' hle f _ _ n2 n4
    · obtain ⟨a, b, c⟩ := credG_in ns p q (f + 1) lo hi h hf
      rw [show credG ns p' q' (f + 1) lo hi = (lo, hi) by unfold credG; rw [if_neg hr]]
      exact ⟨a, c⟩
theorem credV_nest (ns : List Nat) {p p' : Int} {q q' : Nat} (hq : 0 < q) (hq' : 0 < q') (hle : p * (q' : Int) ≤ p' * (q : Int)) (h1 : credE ns p q = 0) (h2 : credE ns p' q' = 0) :
    (credV ns p' q').1 ≤ (credV ns p q).1 ∧ (credV ns p q).2 ≤ (credV ns p' q').2 := by
  unfold credV
  rw [if_pos h1, if_pos h2]
  exact credG_nest ns hq hq' hle _ _ _ (by omega) (by omega)
theorem cmpZ_gt {a b : Int} : decide (0 < cmpZ a b) = decide (b < a) := cmpZ_pos a b

set_option maxHeartbeats 32000000 in
theorem lnest_any (wv pv qv : Value) (ns : List Nat) (L M : Nat) (p p' : Int) (q q' : Nat) (w : World) (hw : Wts w wv ns L) (hp : RatA w pv p q M) (hq : RatA w qv p' q' M) (hL : L ≤ 35184372088000) (hM2 : 2 ≤ M) (hM : M ≤ 35184372088000) (htab : Pow10 w) :
    Calls Tryd.prog 3 #[wv, pv, qv] w fun e w' => e = .returned (.bool true) ∧ Below w.heap.size w w' := by
  have HT0 := Lib.hid htab
  have HW := Lib.hid hw
  have HP := Lib.hid hp
  have HQ := Lib.hid hq
  have q0 := hp.pos
  have q0' := hq.pos
  have hn1 : p * (q' : Int) ≤ p' * (q : Int) → credE ns p q = 0 → credE ns p' q' = 0 → (credV ns p' q').1 ≤ (credV ns p q).1 ∧ (credV ns p q).2 ≤ (credV ns p' q').2 := credV_nest ns q0 q0'
  have hn2 : p' * (q : Int) ≤ p * (q' : Int) → credE ns p' q' = 0 → credE ns p q = 0 → (credV ns p q).1 ≤ (credV ns p' q').1 ∧ (credV ns p' q').2 ≤ (credV ns p q).2 := credV_nest ns q0' q0
  obtain ⟨A1, hA1⟩ : ∃ x, (credV ns p q).1 = x := ⟨_, rfl⟩
  obtain ⟨A2, hA2⟩ : ∃ x, (credV ns p q).2 = x := ⟨_, rfl⟩
  obtain ⟨EA, hEA⟩ : ∃ x, credE ns p q = x := ⟨_, rfl⟩
  obtain ⟨B1, hB1⟩ : ∃ x, (credV ns p' q').1 = x := ⟨_, rfl⟩
  obtain ⟨B2, hB2⟩ : ∃ x, (credV ns p' q').2 = x := ⟨_, rfl⟩
  obtain ⟨EB, hEB⟩ : ∃ x, credE ns p' q' = x := ⟨_, rfl⟩
  rw [hA1, hA2, hEA, hB1, hB2, hEB] at hn1 hn2
  have HA1 := Lib.hid hA1
  have HA2 := Lib.hid hA2
  have HEA := Lib.hid hEA
  have HB1 := Lib.hid hB1
  have HB2 := Lib.hid hB2
  have HEB := Lib.hid hEB
  have HN1 := Lib.hid hn1
  have HN2 := Lib.hid hn2
  clear hn1 hn2 q0 q0' hA1 hA2 hEA hB1 hB2 hEB
  obtain ⟨na, PA, pn, pc, PB, pm, pd, rfl⟩ := hp.show_
  obtain ⟨nb, QA, qn, qc, QB, qm, qd, rfl⟩ := hq.show_
  obtain ⟨WA, wcp, us, rfl, _, _, _, _⟩ := hw
  clear hp hq
  obtain ⟨W0, hW0⟩ : ∃ W0 : World, W0 = (w.alloc (.cells #[.bool na, .slice PA pn pc, .slice PB pm pd] 28)).alloc (.cells #[.bool nb, .slice QA qn qc, .slice QB qm qd] 28) := ⟨_, rfl⟩
  have r0 : Row W0 w.heap.size 28 [.bool na, .slice PA pn pc, .slice PB pm pd] := by
    rw [hW0]
    have := Row.alloc (Row.new w 28 [.bool na, .slice PA pn pc, .slice PB pm pd]) (.cells #[.bool nb, .slice QA qn qc, .slice QB qm qd] 28)
    simpa using this
  have r1 : Row W0 (w.heap.size + 1) 28 [.bool nb, .slice QA qn qc, .slice QB qm qd] := by
    rw [hW0]
    have := Row.new (w.alloc (.cells #[.bool na, .slice PA pn pc, .slice PB pm pd] 28)) 28 [.bool nb, .slice QA qn qc, .slice QB qm qd]
    simpa using this
  have B0 : Below w.heap.size w W0 := by rw [hW0]; exact (((Below.refl _ _).alloc (Nat.le_refl _) _).alloc (by simp) _)
  go_enter Tryd.func3, Tryd.ntmps3
  go_wp2_with fail
  rw [← hW0]
  clear hW0
  have BB := B0
  have hr4 := r0
  have hr5 := r1
  clear B0 r0 r1
  replace htab := htab.below BB
  have c40 : W0.cell? ⟨w.heap.size, 0, none⟩ = some (.bool na) := hr4.cell 0
  have c41 : W0.cell? ⟨w.heap.size, 1, none⟩ = some (.slice PA pn pc) := hr4.cell 1
  have c42 : W0.cell? ⟨w.heap.size, 2, none⟩ = some (.slice PB pm pd) := hr4.cell 2
  have c50 : W0.cell? ⟨w.heap.size + 1, 0, none⟩ = some (.bool nb) := hr5.cell 0
  have c51 : W0.cell? ⟨w.heap.size + 1, 1, none⟩ = some (.slice QA qn qc) := hr5.cell 1
  have c52 : W0.cell? ⟨w.heap.size + 1, 2, none⟩ = some (.slice QB qm qd) := hr5.cell 2
  have z4 := hr4.lt
  have z5 := hr5.lt
  go_wp2_with fail
  go_cut [7, 8] (fun a b wx => ∃ (g1 g2 : Nat), a = .pointer (some ⟨g1, 0, none⟩) ∧ b = .pointer (some ⟨g2, 0, none⟩) ∧ g1 ≠ g2 ∧ W0.heap.size ≤ g1 ∧ W0.heap.size ≤ g2 ∧ Row wx g1 28 [.bool na, .slice PA pn pc, .slice PB pm pd] ∧ Row wx g2 28 [.bool nb, .slice QA qn qc, .slice QB qm qd] ∧ Below W0.heap.size W0 wx)
  case first =>
    go_region
    all_goals go_wp2_with fail
    all_goals go_meet
    all_goals go_light
    · exact ⟨W0.heap.size, W0.heap.size + 1, rfl, rfl, by omega, Nat.le_refl _, by omega, Row.drew (Row.alloc (Row.new W0 28 [.bool na, .slice PA pn pc, .slice PB pm pd]) _), Row.drew (row_at (w := W0.alloc (.cells #[.bool na, .slice PA pn pc, .slice PB pm pd] 28)) (by simp)), (lit_more (lit_below _ _) _).drew⟩
    · exact ⟨W0.heap.size + 1, W0.heap.size, rfl, rfl, by omega, by omega, Nat.le_refl _, Row.drew (row_at (w := W0.alloc (.cells #[.bool nb, .slice QA qn qc, .slice QB qm qd] 28)) (by simp)), Row.drew (Row.alloc (Row.new W0 28 [.bool nb, .slice QA qn qc, .slice QB qm qd]) _), (lit_more (lit_below _ _) _).drew⟩
  case rest =>
    obtain ⟨g1, g2, rfl, rfl, hne, hg1, hg2, hr7, hr8, hbc⟩ := hcut
    clear c40 c41 c42 c50 c51 c52 z4 z5
    obtain ⟨x1, hx1⟩ : ∃ x, x = wc := ⟨_, rfl⟩
    rw [← hx1] at hr7 hr8 hbc ⊢
    clear hx1
    have o47 : w.heap.size < g1 := by have := hr4.lt; omega
    have o48 : w.heap.size < g2 := by have := hr4.lt; omega
    have o57 : w.heap.size + 1 < g1 := by have := hr5.lt; omega
    have o58 : w.heap.size + 1 < g2 := by have := hr5.lt; omega
    have ob7 : w.heap.size ≤ g1 := by omega
    have ob8 : w.heap.size ≤ g2 := by omega
    replace hr4 := hr4.keep hbc
    replace hr5 := hr5.keep hbc
    replace htab := htab.below hbc
    replace BB : Below w.heap.size w x1 := BB.trans (hbc.mono BB.size)
    clear hbc hg1 hg2
    have hne2 : g2 ≠ g1 := fun h => hne h.symm
    have c40 : x1.cell? ⟨w.heap.size, 0, none⟩ = some (.bool na) := hr4.cell 0
    have c41 : x1.cell? ⟨w.heap.size, 1, none⟩ = some (.slice PA pn pc) := hr4.cell 1
    have c42 : x1.cell? ⟨w.heap.size, 2, none⟩ = some (.slice PB pm pd) := hr4.cell 2
    have c50 : x1.cell? ⟨w.heap.size + 1, 0, none⟩ = some (.bool nb) := hr5.cell 0
    have c51 : x1.cell? ⟨w.heap.size + 1, 1, none⟩ = some (.slice QA qn qc) := hr5.cell 1
    have c52 : x1.cell? ⟨w.heap.size + 1, 2, none⟩ = some (.slice QB qm qd) := hr5.cell 2
    have c70 : x1.cell? ⟨g1, 0, none⟩ = some (.bool na) := hr7.cell 0
    have c71 : x1.cell? ⟨g1, 1, none⟩ = some (.slice PA pn pc) := hr7.cell 1
    have c72 : x1.cell? ⟨g1, 2, none⟩ = some (.slice PB pm pd) := hr7.cell 2
    have c80 : x1.cell? ⟨g2, 0, none⟩ = some (.bool nb) := hr8.cell 0
    have c81 : x1.cell? ⟨g2, 1, none⟩ = some (.slice QA qn qc) := hr8.cell 1
    have c82 : x1.cell? ⟨g2, 2, none⟩ = some (.slice QB qm qd) := hr8.cell 2
    have z4 := hr4.lt
    have z5 := hr5.lt
    have z7 := hr7.lt
    have z8 := hr8.lt
    go_wp2_with fail
    clear c40 c41 c42 c50 c51 c52 c70 c71 c72 c80 c81 c82 z4 z5 z7 z8
    refine (qcmp_any _ _ p p' q q' M _ (HP.out.below BB) (HQ.out.below BB) hM2 (by omega)).mono ?_
    rintro e x2 ⟨rfl, hb⟩
    replace hr4 := hr4.keep hb
    replace hr5 := hr5.keep hb
    replace hr7 := hr7.keep hb
    replace hr8 := hr8.keep hb
    replace htab := htab.below hb
    replace BB : Below w.heap.size w x2 := BB.trans (hb.mono BB.size)
    clear hb
    by_cases hC : p' * (q : Int) < p * (q' : Int)
    · have tC : decide (0 < cmpZ (p * (q' : Int)) (p' * (q : Int))) = true := by rw [cmpZ_pos]; exact decide_eq_true hC
      have HN := Lib.hid (HN2.out (by omega))
      clear hC HN1 HN2
      have c40 : x2.cell? ⟨w.heap.size, 0, none⟩ = some (.bool na) := hr4.cell 0
      have c41 : x2.cell? ⟨w.heap.size, 1, none⟩ = some (.slice PA pn pc) := hr4.cell 1
      have c42 : x2.cell? ⟨w.heap.size, 2, none⟩ = some (.slice PB pm pd) := hr4.cell 2
      have c50 : x2.cell? ⟨w.heap.size + 1, 0, none⟩ = some (.bool nb) := hr5.cell 0
      have c51 : x2.cell? ⟨w.heap.size + 1, 1, none⟩ = some (.slice QA qn qc) := hr5.cell 1
      have c52 : x2.cell? ⟨w.heap.size + 1, 2, none⟩ = some (.slice QB qm qd) := hr5.cell 2
      have c70 : x2.cell? ⟨g1, 0, none⟩ = some (.bool na) := hr7.cell 0
      have c71 : x2.cell? ⟨g1, 1, none⟩ = some (.slice PA pn pc) := hr7.cell 1
      have c72 : x2.cell? ⟨g1, 2, none⟩ = some (.slice PB pm pd) := hr7.cell 2
      have c80 : x2.cell? ⟨g2, 0, none⟩ = some (.bool nb) := hr8.cell 0
      have c81 : x2.cell? ⟨g2, 1, none⟩ = some (.slice QA qn qc) := hr8.cell 1
      have c82 : x2.cell? ⟨g2, 2, none⟩ = some (.slice QB qm qd) := hr8.cell 2
      have f70 : x2.frozen? ⟨g1, 0, none⟩ = false := hr7.frozen 0
      have f71 : x2.frozen? ⟨g1, 1, none⟩ = false := hr7.frozen 1
      have f72 : x2.frozen? ⟨g1, 2, none⟩ = false := hr7.frozen 2
      have f80 : x2.frozen? ⟨g2, 0, none⟩ = false := hr8.frozen 0
      have f81 : x2.frozen? ⟨g2, 1, none⟩ = false := hr8.frozen 1
      have f82 : x2.frozen? ⟨g2, 2, none⟩ = false := hr8.frozen 2
      have z4 := hr4.lt
      have z5 := hr5.lt
      have z7 := hr7.lt
      have z8 := hr8.lt
      go_wp2_with fail
      go_cut [7, 8] (fun a b wx => a = .pointer (some ⟨g1, 0, none⟩) ∧ b = .pointer (some ⟨g2, 0, none⟩) ∧ Row wx w.heap.size 28 [.bool na, .slice PA pn pc, .slice PB pm pd] ∧ Row wx (w.heap.size + 1) 28 [.bool nb, .slice QA qn qc, .slice QB qm qd] ∧ Row wx g1 28 [.bool nb, .slice QA qn qc, .slice QB qm qd] ∧ Row wx g2 28 [.bool na, .slice PA pn pc, .slice PB pm pd] ∧ Below w.heap.size w wx)
      case first =>
        go_region
        all_goals go_wp2_with fail
        all_goals go_meet
        all_goals go_light
        all_goals
          refine ⟨rfl, rfl, ?_, ?_, ?_, ?_, ?_⟩
          · first | exact Row.drew ((((((hr4.far (by show w.heap.size ≠ g1; omega) _).far (by show w.heap.size ≠ g1; omega) _).far (by show w.heap.size ≠ g1; omega) _).far (by show w.heap.size ≠ g2; omega) _).far (by show w.heap.size ≠ g2; omega) _).far (by show w.heap.size ≠ g2; omega) _) | exact Row.drew ((((((hr4.far (by show w.heap.size ≠ g2; omega) _).far (by show w.heap.size ≠ g2; omega) _).far (by show w.heap.size ≠ g2; omega) _).far (by show w.heap.size ≠ g1; omega) _).far (by show w.heap.size ≠ g1; omega) _).far (by show w.heap.size ≠ g1; omega) _)
          · first | exact Row.drew ((((((hr5.far (by show (w.heap.size + 1) ≠ g1; omega) _).far (by show (w.heap.size + 1) ≠ g1; omega) _).far (by show (w.heap.size + 1) ≠ g1; omega) _).far (by show (w.heap.size + 1) ≠ g2; omega) _).far (by show (w.heap.size + 1) ≠ g2; omega) _).far (by show (w.heap.size + 1) ≠ g2; omega) _) | exact Row.drew ((((((hr5.far (by show (w.heap.size + 1) ≠ g2; omega) _).far (by show (w.heap.size + 1) ≠ g2; omega) _).far (by show (w.heap.size + 1) ≠ g2; omega) _).far (by show (w.heap.size + 1) ≠ g1; omega) _).far (by show (w.heap.size + 1) ≠ g1; omega) _).far (by show (w.heap.size + 1) ≠ g1; omega) _)
          · first | exact Row.drew ((((((hr7.set_ 0 _).set_ 1 _).set_ 2 _).far (by show g1 ≠ g2; omega) _).far (by show g1 ≠ g2; omega) _).far (by show g1 ≠ g2; omega) _) | exact Row.drew ((((((hr7.far (by show g1 ≠ g2; omega) _).far (by show g1 ≠ g2; omega) _).far (by show g1 ≠ g2; omega) _).set_ 0 _).set_ 1 _).set_ 2 _)
          · first | exact Row.drew ((((((hr8.far (by show g2 ≠ g1; omega) _).far (by show g2 ≠ g1; omega) _).far (by show g2 ≠ g1; omega) _).set_ 0 _).set_ 1 _).set_ 2 _) | exact Row.drew ((((((hr8.set_ 0 _).set_ 1 _).set_ 2 _).far (by show g2 ≠ g1; omega) _).far (by show g2 ≠ g1; omega) _).far (by show g2 ≠ g1; omega) _)
          · first | exact ((((((BB.setCell (by show w.heap.size ≤ g1; omega) _).setCell (by show w.heap.size ≤ g1; omega) _).setCell (by show w.heap.size ≤ g1; omega) _).setCell (by show w.heap.size ≤ g2; omega) _).setCell (by show w.heap.size ≤ g2; omega) _).setCell (by show w.heap.size ≤ g2; omega) _).drew | exact ((((((BB.setCell (by show w.heap.size ≤ g2; omega) _).setCell (by show w.heap.size ≤ g2; omega) _).setCell (by show w.heap.size ≤ g2; omega) _).setCell (by show w.heap.size ≤ g1; omega) _).setCell (by show w.heap.size ≤ g1; omega) _).setCell (by show w.heap.size ≤ g1; omega) _).drew
      case rest =>
        clear c40 c41 c42 c50 c51 c52 c70 c71 c72 c80 c81 c82 f70 f71 f72 f80 f81 f82 z4 z5 z7 z8
        clear hr4 hr5 hr7 hr8 htab BB
        obtain ⟨rfl, rfl, hr4, hr5, hr7, hr8, BB⟩ := hcut
        clear tC
        have htab := HT0.out.below BB
        obtain ⟨x9, hx9⟩ : ∃ x, x = wc := ⟨_, rfl⟩
        rw [← hx9] at hr4 hr5 hr7 hr8 htab BB ⊢
        clear hx9
        have c40 : x9.cell? ⟨w.heap.size, 0, none⟩ = some (.bool na) := hr4.cell 0
        have c41 : x9.cell? ⟨w.heap.size, 1, none⟩ = some (.slice PA pn pc) := hr4.cell 1
        have c42 : x9.cell? ⟨w.heap.size, 2, none⟩ = some (.slice PB pm pd) := hr4.cell 2
        have c50 : x9.cell? ⟨w.heap.size + 1, 0, none⟩ = some (.bool nb) := hr5.cell 0
        have c51 : x9.cell? ⟨w.heap.size + 1, 1, none⟩ = some (.slice QA qn qc) := hr5.cell 1
        have c52 : x9.cell? ⟨w.heap.size + 1, 2, none⟩ = some (.slice QB qm qd) := hr5.cell 2
        have c70 : x9.cell? ⟨g1, 0, none⟩ = some (.bool nb) := hr7.cell 0
        have c71 : x9.cell? ⟨g1, 1, none⟩ = some (.slice QA qn qc) := hr7.cell 1
        have c72 : x9.cell? ⟨g1, 2, none⟩ = some (.slice QB qm qd) := hr7.cell 2
        have c80 : x9.cell? ⟨g2, 0, none⟩ = some (.bool na) := hr8.cell 0
        have c81 : x9.cell? ⟨g2, 1, none⟩ = some (.slice PA pn pc) := hr8.cell 1
        have c82 : x9.cell? ⟨g2, 2, none⟩ = some (.slice PB pm pd) := hr8.cell 2
        have z4 := hr4.lt
        have z5 := hr5.lt
        have z7 := hr7.lt
        have z8 := hr8.lt
        go_wp2_with fail
        clear c40 c41 c42 c50 c51 c52 c70 c71 c72 c80 c81 c82 z4 z5 z7 z8
        refine (ecred_any _ _ ns L M p' q' _ (HW.out.below BB) (HQ.out.below BB) hM2 ⟨hL, hM⟩).mono ?_
        rintro e x11 ⟨rfl, hb⟩
        replace hr4 := hr4.keep hb
        replace hr5 := hr5.keep hb
        replace hr7 := hr7.keep hb
        replace hr8 := hr8.keep hb
        replace htab := htab.below hb
        replace BB : Below w.heap.size w x11 := BB.trans (hb.mono BB.size)
        clear hb
        rw [HB1.out, HB2.out, HEB.out]
        have c40 : x11.cell? ⟨w.heap.size, 0, none⟩ = some (.bool na) := hr4.cell 0
        have c41 : x11.cell? ⟨w.heap.size, 1, none⟩ = some (.slice PA pn pc) := hr4.cell 1
        have c42 : x11.cell? ⟨w.heap.size, 2, none⟩ = some (.slice PB pm pd) := hr4.cell 2
        have c50 : x11.cell? ⟨w.heap.size + 1, 0, none⟩ = some (.bool nb) := hr5.cell 0
        have c51 : x11.cell? ⟨w.heap.size + 1, 1, none⟩ = some (.slice QA qn qc) := hr5.cell 1
        have c52 : x11.cell? ⟨w.heap.size + 1, 2, none⟩ = some (.slice QB qm qd) := hr5.cell 2
        have c70 : x11.cell? ⟨g1, 0, none⟩ = some (.bool nb) := hr7.cell 0
        have c71 : x11.cell? ⟨g1, 1, none⟩ = some (.slice QA qn qc) := hr7.cell 1
        have c72 : x11.cell? ⟨g1, 2, none⟩ = some (.slice QB qm qd) := hr7.cell 2
        have c80 : x11.cell? ⟨g2, 0, none⟩ = some (.bool na) := hr8.cell 0
        have c81 : x11.cell? ⟨g2, 1, none⟩ = some (.slice PA pn pc) := hr8.cell 1
        have c82 : x11.cell? ⟨g2, 2, none⟩ = some (.slice PB pm pd) := hr8.cell 2
        have z4 := hr4.lt
        have z5 := hr5.lt
        have z7 := hr7.lt
        have z8 := hr8.lt
        go_wp2_with fail
        clear c40 c41 c42 c50 c51 c52 c70 c71 c72 c80 c81 c82 z4 z5 z7 z8
        refine (ecred_any _ _ ns L M p q _ (HW.out.below BB) (HP.out.below BB) hM2 ⟨hL, hM⟩).mono ?_
        rintro e x12 ⟨rfl, hb⟩
        replace hr4 := hr4.keep hb
        replace hr5 := hr5.keep hb
        replace hr7 := hr7.keep hb
        replace hr8 := hr8.keep hb
        replace htab := htab.below hb
        replace BB : Below w.heap.size w x12 := BB.trans (hb.mono BB.size)
        clear hb
        rw [HA1.out, HA2.out, HEA.out]
        by_cases hz : EB = 0
        · subst hz
          by_cases hz : EA = 0
          · subst hz
            obtain ⟨i1, i2⟩ := HN.out rfl rfl
            have j1 : (A1 : Int) ≤ (B1 : Int) := by omega
            have j2 : (B2 : Int) ≤ (A2 : Int) := by omega
            clear HN
            have j3 : decide ((A1 : Int) ≤ (B1 : Int)) = true := decide_eq_true j1
            have j4 : decide ((B2 : Int) ≤ (A2 : Int)) = true := decide_eq_true j2
            have c40 : x12.cell? ⟨w.heap.size, 0, none⟩ = some (.bool na) := hr4.cell 0
            have c41 : x12.cell? ⟨w.heap.size, 1, none⟩ = some (.slice PA pn pc) := hr4.cell 1
            have c42 : x12.cell? ⟨w.heap.size, 2, none⟩ = some (.slice PB pm pd) := hr4.cell 2
            have c50 : x12.cell? ⟨w.heap.size + 1, 0, none⟩ = some (.bool nb) := hr5.cell 0
            have c51 : x12.cell? ⟨w.heap.size + 1, 1, none⟩ = some (.slice QA qn qc) := hr5.cell 1
            have c52 : x12.cell? ⟨w.heap.size + 1, 2, none⟩ = some (.slice QB qm qd) := hr5.cell 2
            have c70 : x12.cell? ⟨g1, 0, none⟩ = some (.bool nb) := hr7.cell 0
            have c71 : x12.cell? ⟨g1, 1, none⟩ = some (.slice QA qn qc) := hr7.cell 1
            have c72 : x12.cell? ⟨g1, 2, none⟩ = some (.slice QB qm qd) := hr7.cell 2
            have c80 : x12.cell? ⟨g2, 0, none⟩ = some (.bool na) := hr8.cell 0
            have c81 : x12.cell? ⟨g2, 1, none⟩ = some (.slice PA pn pc) := hr8.cell 1
            have c82 : x12.cell? ⟨g2, 2, none⟩ = some (.slice PB pm pd) := hr8.cell 2
            have z4 := hr4.lt
            have z5 := hr5.lt
            have z7 := hr7.lt
            have z8 := hr8.lt
            go_wp2_with fail
            clear c40 c41 c42 c50 c51 c52 c70 c71 c72 c80 c81 c82 z4 z5 z7 z8
            refine (awake_any _ htab).mono ?_
            rintro e x23 ⟨rfl, hb⟩
            replace hr4 := hr4.keep hb
            replace hr5 := hr5.keep hb
            replace hr7 := hr7.keep hb
            replace hr8 := hr8.keep hb
            replace htab := htab.below hb
            replace BB : Below w.heap.size w x23 := BB.trans (hb.mono BB.size)
            clear hb
            have c40 : x23.cell? ⟨w.heap.size, 0, none⟩ = some (.bool na) := hr4.cell 0
            have c41 : x23.cell? ⟨w.heap.size, 1, none⟩ = some (.slice PA pn pc) := hr4.cell 1
            have c42 : x23.cell? ⟨w.heap.size, 2, none⟩ = some (.slice PB pm pd) := hr4.cell 2
            have c50 : x23.cell? ⟨w.heap.size + 1, 0, none⟩ = some (.bool nb) := hr5.cell 0
            have c51 : x23.cell? ⟨w.heap.size + 1, 1, none⟩ = some (.slice QA qn qc) := hr5.cell 1
            have c52 : x23.cell? ⟨w.heap.size + 1, 2, none⟩ = some (.slice QB qm qd) := hr5.cell 2
            have c70 : x23.cell? ⟨g1, 0, none⟩ = some (.bool nb) := hr7.cell 0
            have c71 : x23.cell? ⟨g1, 1, none⟩ = some (.slice QA qn qc) := hr7.cell 1
            have c72 : x23.cell? ⟨g1, 2, none⟩ = some (.slice QB qm qd) := hr7.cell 2
            have c80 : x23.cell? ⟨g2, 0, none⟩ = some (.bool na) := hr8.cell 0
            have c81 : x23.cell? ⟨g2, 1, none⟩ = some (.slice PA pn pc) := hr8.cell 1
            have c82 : x23.cell? ⟨g2, 2, none⟩ = some (.slice PB pm pd) := hr8.cell 2
            have z4 := hr4.lt
            have z5 := hr5.lt
            have z7 := hr7.lt
            have z8 := hr8.lt
            go_wp2_with fail
            clear c40 c41 c42 c50 c51 c52 c70 c71 c72 c80 c81 c82 z4 z5 z7 z8
            go_ret
            exact ⟨rfl, BB⟩
          · have u1 : (EA != 0) = true := by rw [bne_iff_ne]; exact hz
            clear HN
            have c40 : x12.cell? ⟨w.heap.size, 0, none⟩ = some (.bool na) := hr4.cell 0
            have c41 : x12.cell? ⟨w.heap.size, 1, none⟩ = some (.slice PA pn pc) := hr4.cell 1
            have c42 : x12.cell? ⟨w.heap.size, 2, none⟩ = some (.slice PB pm pd) := hr4.cell 2
            have c50 : x12.cell? ⟨w.heap.size + 1, 0, none⟩ = some (.bool nb) := hr5.cell 0
            have c51 : x12.cell? ⟨w.heap.size + 1, 1, none⟩ = some (.slice QA qn qc) := hr5.cell 1
            have c52 : x12.cell? ⟨w.heap.size + 1, 2, none⟩ = some (.slice QB qm qd) := hr5.cell 2
            have c70 : x12.cell? ⟨g1, 0, none⟩ = some (.bool nb) := hr7.cell 0
            have c71 : x12.cell? ⟨g1, 1, none⟩ = some (.slice QA qn qc) := hr7.cell 1
            have c72 : x12.cell? ⟨g1, 2, none⟩ = some (.slice QB qm qd) := hr7.cell 2
            have c80 : x12.cell? ⟨g2, 0, none⟩ = some (.bool na) := hr8.cell 0
            have c81 : x12.cell? ⟨g2, 1, none⟩ = some (.slice PA pn pc) := hr8.cell 1
            have c82 : x12.cell? ⟨g2, 2, none⟩ = some (.slice PB pm pd) := hr8.cell 2
            have z4 := hr4.lt
            have z5 := hr5.lt
            have z7 := hr7.lt
            have z8 := hr8.lt
            go_wp2_with fail
            clear c40 c41 c42 c50 c51 c52 c70 c71 c72 c80 c81 c82 z4 z5 z7 z8
            refine (awake_any _ htab).mono ?_
            rintro e x23 ⟨rfl, hb⟩
            replace hr4 := hr4.keep hb
            replace hr5 := hr5.keep hb
            replace hr7 := hr7.keep hb
            replace hr8 := hr8.keep hb
            replace htab := htab.below hb
            replace BB : Below w.heap.size w x23 := BB.trans (hb.mono BB.size)
            clear hb
            have c40 : x23.cell? ⟨w.heap.size, 0, none⟩ = some (.bool na) := hr4.cell 0
            have c41 : x23.cell? ⟨w.heap.size, 1, none⟩ = some (.slice PA pn pc) := hr4.cell 1
            have c42 : x23.cell? ⟨w.heap.size, 2, none⟩ = some (.slice PB pm pd) := hr4.cell 2
            have c50 : x23.cell? ⟨w.heap.size + 1, 0, none⟩ = some (.bool nb) := hr5.cell 0
            have c51 : x23.cell? ⟨w.heap.size + 1, 1, none⟩ = some (.slice QA qn qc) := hr5.cell 1
            have c52 : x23.cell? ⟨w.heap.size + 1, 2, none⟩ = some (.slice QB qm qd) := hr5.cell 2
            have c70 : x23.cell? ⟨g1, 0, none⟩ = some (.bool nb) := hr7.cell 0
            have c71 : x23.cell? ⟨g1, 1, none⟩ = some (.slice QA qn qc) := hr7.cell 1
            have c72 : x23.cell? ⟨g1, 2, none⟩ = some (.slice QB qm qd) := hr7.cell 2
            have c80 : x23.cell? ⟨g2, 0, none⟩ = some (.bool na) := hr8.cell 0
            have c81 : x23.cell? ⟨g2, 1, none⟩ = some (.slice PA pn pc) := hr8.cell 1
            have c82 : x23.cell? ⟨g2, 2, none⟩ = some (.slice PB pm pd) := hr8.cell 2
            have z4 := hr4.lt
            have z5 := hr5.lt
            have z7 := hr7.lt
            have z8 := hr8.lt
            go_wp2_with fail
            clear c40 c41 c42 c50 c51 c52 c70 c71 c72 c80 c81 c82 z4 z5 z7 z8
            go_ret
            exact ⟨rfl, BB⟩
        · have u1 : (EB != 0) = true := by rw [bne_iff_ne]; exact hz
          clear HN
          have c40 : x12.cell? ⟨w.heap.size, 0, none⟩ = some (.bool na) := hr4.cell 0
          have c41 : x12.cell? ⟨w.heap.size, 1, none⟩ = some (.slice PA pn pc) := hr4.cell 1
          have c42 : x12.cell? ⟨w.heap.size, 2, none⟩ = some (.slice PB pm pd) := hr4.cell 2
          have c50 : x12.cell? ⟨w.heap.size + 1, 0, none⟩ = some (.bool nb) := hr5.cell 0
          have c51 : x12.cell? ⟨w.heap.size + 1, 1, none⟩ = some (.slice QA qn qc) := hr5.cell 1
          have c52 : x12.cell? ⟨w.heap.size + 1, 2, none⟩ = some (.slice QB qm qd) := hr5.cell 2
          have c70 : x12.cell? ⟨g1, 0, none⟩ = some (.bool nb) := hr7.cell 0
          have c71 : x12.cell? ⟨g1, 1, none⟩ = some (.slice QA qn qc) := hr7.cell 1
          have c72 : x12.cell? ⟨g1, 2, none⟩ = some (.slice QB qm qd) := hr7.cell 2
          have c80 : x12.cell? ⟨g2, 0, none⟩ = some (.bool na) := hr8.cell 0
          have c81 : x12.cell? ⟨g2, 1, none⟩ = some (.slice PA pn pc) := hr8.cell 1
          have c82 : x12.cell? ⟨g2, 2, none⟩ = some (.slice PB pm pd) := hr8.cell 2
          have z4 := hr4.lt
          have z5 := hr5.lt
          have z7 := hr7.lt
          have z8 := hr8.lt
          go_wp2_with fail
          clear c40 c41 c42 c50 c51 c52 c70 c71 c72 c80 c81 c82 z4 z5 z7 z8
          refine (awake_any _ htab).mono ?_
          rintro e x23 ⟨rfl, hb⟩
          replace hr4 := hr4.keep hb
          replace hr5 := hr5.keep hb
          replace hr7 := hr7.keep hb
          replace hr8 := hr8.keep hb
          replace htab := htab.below hb
          replace BB : Below w.heap.size w x23 := BB.trans (hb.mono BB.size)
          clear hb
          have c40 : x23.cell? ⟨w.heap.size, 0, none⟩ = some (.bool na) := hr4.cell 0
          have c41 : x23.cell? ⟨w.heap.size, 1, none⟩ = some (.slice PA pn pc) := hr4.cell 1
          have c42 : x23.cell? ⟨w.heap.size, 2, none⟩ = some (.slice PB pm pd) := hr4.cell 2
          have c50 : x23.cell? ⟨w.heap.size + 1, 0, none⟩ = some (.bool nb) := hr5.cell 0
          have c51 : x23.cell? ⟨w.heap.size + 1, 1, none⟩ = some (.slice QA qn qc) := hr5.cell 1
          have c52 : x23.cell? ⟨w.heap.size + 1, 2, none⟩ = some (.slice QB qm qd) := hr5.cell 2
          have c70 : x23.cell? ⟨g1, 0, none⟩ = some (.bool nb) := hr7.cell 0
          have c71 : x23.cell? ⟨g1, 1, none⟩ = some (.slice QA qn qc) := hr7.cell 1
          have c72 : x23.cell? ⟨g1, 2, none⟩ = some (.slice QB qm qd) := hr7.cell 2
          have c80 : x23.cell? ⟨g2, 0, none⟩ = some (.bool na) := hr8.cell 0
          have c81 : x23.cell? ⟨g2, 1, none⟩ = some (.slice PA pn pc) := hr8.cell 1
          have c82 : x23.cell? ⟨g2, 2, none⟩ = some (.slice PB pm pd) := hr8.cell 2
          have z4 := hr4.lt
          have z5 := hr5.lt
          have z7 := hr7.lt
          have z8 := hr8.lt
          go_wp2_with fail
          clear c40 c41 c42 c50 c51 c52 c70 c71 c72 c80 c81 c82 z4 z5 z7 z8
          go_ret
          exact ⟨rfl, BB⟩
    · have tC : decide (0 < cmpZ (p * (q' : Int)) (p' * (q : Int))) = false := by rw [cmpZ_pos]; exact decide_eq_false hC
      have HN := Lib.hid (HN1.out (by omega))
      clear hC HN1 HN2
      have c40 : x2.cell? ⟨w.heap.size, 0, none⟩ = some (.bool na) := hr4.cell 0
      have c41 : x2.cell? ⟨w.heap.size, 1, none⟩ = some (.slice PA pn pc) := hr4.cell 1
      have c42 : x2.cell? ⟨w.heap.size, 2, none⟩ = some (.slice PB pm pd) := hr4.cell 2
      have c50 : x2.cell? ⟨w.heap.size + 1, 0, none⟩ = some (.bool nb) := hr5.cell 0
      have c51 : x2.cell? ⟨w.heap.size + 1, 1, none⟩ = some (.slice QA qn qc) := hr5.cell 1
      have c52 : x2.cell? ⟨w.heap.size + 1, 2, none⟩ = some (.slice QB qm qd) := hr5.cell 2
      have c70 : x2.cell? ⟨g1, 0, none⟩ = some (.bool na) := hr7.cell 0
      have c71 : x2.cell? ⟨g1, 1, none⟩ = some (.slice PA pn pc) := hr7.cell 1
      have c72 : x2.cell? ⟨g1, 2, none⟩ = some (.slice PB pm pd) := hr7.cell 2
      have c80 : x2.cell? ⟨g2, 0, none⟩ = some (.bool nb) := hr8.cell 0
      have c81 : x2.cell? ⟨g2, 1, none⟩ = some (.slice QA qn qc) := hr8.cell 1
      have c82 : x2.cell? ⟨g2, 2, none⟩ = some (.slice QB qm qd) := hr8.cell 2
      have z4 := hr4.lt
      have z5 := hr5.lt
      have z7 := hr7.lt
      have z8 := hr8.lt
      go_wp2_with fail
      clear c40 c41 c42 c50 c51 c52 c70 c71 c72 c80 c81 c82 z4 z5 z7 z8
      refine (ecred_any _ _ ns L M p q _ (HW.out.below BB) (HP.out.below BB) hM2 ⟨hL, hM⟩).mono ?_
      rintro e x11 ⟨rfl, hb⟩
      replace hr4 := hr4.keep hb
      replace hr5 := hr5.keep hb
      replace hr7 := hr7.keep hb
      replace hr8 := hr8.keep hb
      replace htab := htab.below hb
      replace BB : Below w.heap.size w x11 := BB.trans (hb.mono BB.size)
      clear hb
      rw [HA1.out, HA2.out, HEA.out]
      have c40 : x11.cell? ⟨w.heap.size, 0, none⟩ = some (.bool na) := hr4.cell 0
      have c41 : x11.cell? ⟨w.heap.size, 1, none⟩ = some (.slice PA pn pc) := hr4.cell 1
      have c42 : x11.cell? ⟨w.heap.size, 2, none⟩ = some (.slice PB pm pd) := hr4.cell 2
      have c50 : x11.cell? ⟨w.heap.size + 1, 0, none⟩ = some (.bool nb) := hr5.cell 0
      have c51 : x11.cell? ⟨w.heap.size + 1, 1, none⟩ = some (.slice QA qn qc) := hr5.cell 1
      have c52 : x11.cell? ⟨w.heap.size + 1, 2, none⟩ = some (.slice QB qm qd) := hr5.cell 2
      have c70 : x11.cell? ⟨g1, 0, none⟩ = some (.bool na) := hr7.cell 0
      have c71 : x11.cell? ⟨g1, 1, none⟩ = some (.slice PA pn pc) := hr7.cell 1
      have c72 : x11.cell? ⟨g1, 2, none⟩ = some (.slice PB pm pd) := hr7.cell 2
      have c80 : x11.cell? ⟨g2, 0, none⟩ = some (.bool nb) := hr8.cell 0
      have c81 : x11.cell? ⟨g2, 1, none⟩ = some (.slice QA qn qc) := hr8.cell 1
      have c82 : x11.cell? ⟨g2, 2, none⟩ = some (.slice QB qm qd) := hr8.cell 2
      have z4 := hr4.lt
      have z5 := hr5.lt
      have z7 := hr7.lt
      have z8 := hr8.lt
      go_wp2_with fail
      clear c40 c41 c42 c50 c51 c52 c70 c71 c72 c80 c81 c82 z4 z5 z7 z8
      refine (ecred_any _ _ ns L M p' q' _ (HW.out.below BB) (HQ.out.below BB) hM2 ⟨hL, hM⟩).mono ?_
      rintro e x12 ⟨rfl, hb⟩
      replace hr4 := hr4.keep hb
      replace hr5 := hr5.keep hb
      replace hr7 := hr7.keep hb
      replace hr8 := hr8.keep hb
      replace htab := htab.below hb
      replace BB : Below w.heap.size w x12 := BB.trans (hb.mono BB.size)
      clear hb
      rw [HB1.out, HB2.out, HEB.out]
      by_cases hz : EA = 0
      · subst hz
        by_cases hz : EB = 0
        · subst hz
          obtain ⟨i1, i2⟩ := HN.out rfl rfl
          have j1 : (B1 : Int) ≤ (A1 : Int) := by omega
          have j2 : (A2 : Int) ≤ (B2 : Int) := by omega
          clear HN
          have j3 : decide ((B1 : Int) ≤ (A1 : Int)) = true := decide_eq_true j1
          have j4 : decide ((A2 : Int) ≤ (B2 : Int)) = true := decide_eq_true j2
          have c40 : x12.cell? ⟨w.heap.size, 0, none⟩ = some (.bool na) := hr4.cell 0
          have c41 : x12.cell? ⟨w.heap.size, 1, none⟩ = some (.slice PA pn pc) := hr4.cell 1
          have c42 : x12.cell? ⟨w.heap.size, 2, none⟩ = some (.slice PB pm pd) := hr4.cell 2
          have c50 : x12.cell? ⟨w.heap.size + 1, 0, none⟩ = some (.bool nb) := hr5.cell 0
          have c51 : x12.cell? ⟨w.heap.size + 1, 1, none⟩ = some (.slice QA qn qc) := hr5.cell 1
          have c52 : x12.cell? ⟨w.heap.size + 1, 2, none⟩ = some (.slice QB qm qd) := hr5.cell 2
          have c70 : x12.cell? ⟨g1, 0, none⟩ = some (.bool na) := hr7.cell 0
          have c71 : x12.cell? ⟨g1, 1, none⟩ = some (.slice PA pn pc) := hr7.cell 1
          have c72 : x12.cell? ⟨g1, 2, none⟩ = some (.slice PB pm pd) := hr7.cell 2
          have c80 : x12.cell? ⟨g2, 0, none⟩ = some (.bool nb) := hr8.cell 0
          have c81 : x12.cell? ⟨g2, 1, none⟩ = some (.slice QA qn qc) := hr8.cell 1
          have c82 : x12.cell? ⟨g2, 2, none⟩ = some (.slice QB qm qd) := hr8.cell 2
          have z4 := hr4.lt
          have z5 := hr5.lt
          have z7 := hr7.lt
          have z8 := hr8.lt
          go_wp2_with fail
          clear c40 c41 c42 c50 c51 c52 c70 c71 c72 c80 c81 c82 z4 z5 z7 z8
          refine (awake_any _ htab).mono ?_
          rintro e x23 ⟨rfl, hb⟩
          replace hr4 := hr4.keep hb
          replace hr5 := hr5.keep hb
          replace hr7 := hr7.keep hb
          replace hr8 := hr8.keep hb
          replace htab := htab.below hb
          replace BB : Below w.heap.size w x23 := BB.trans (hb.mono BB.size)
          clear hb
          have c40 : x23.cell? ⟨w.heap.size, 0, none⟩ = some (.bool na) := hr4.cell 0
          have c41 : x23.cell? ⟨w.heap.size, 1, none⟩ = some (.slice PA pn pc) := hr4.cell 1
          have c42 : x23.cell? ⟨w.heap.size, 2, none⟩ = some (.slice PB pm pd) := hr4.cell 2
          have c50 : x23.cell? ⟨w.heap.size + 1, 0, none⟩ = some (.bool nb) := hr5.cell 0
          have c51 : x23.cell? ⟨w.heap.size + 1, 1, none⟩ = some (.slice QA qn qc) := hr5.cell 1
          have c52 : x23.cell? ⟨w.heap.size + 1, 2, none⟩ = some (.slice QB qm qd) := hr5.cell 2
          have c70 : x23.cell? ⟨g1, 0, none⟩ = some (.bool na) := hr7.cell 0
          have c71 : x23.cell? ⟨g1, 1, none⟩ = some (.slice PA pn pc) := hr7.cell 1
          have c72 : x23.cell? ⟨g1, 2, none⟩ = some (.slice PB pm pd) := hr7.cell 2
          have c80 : x23.cell? ⟨g2, 0, none⟩ = some (.bool nb) := hr8.cell 0
          have c81 : x23.cell? ⟨g2, 1, none⟩ = some (.slice QA qn qc) := hr8.cell 1
          have c82 : x23.cell? ⟨g2, 2, none⟩ = some (.slice QB qm qd) := hr8.cell 2
          have z4 := hr4.lt
          have z5 := hr5.lt
          have z7 := hr7.lt
          have z8 := hr8.lt
          go_wp2_with fail
          clear c40 c41 c42 c50 c51 c52 c70 c71 c72 c80 c81 c82 z4 z5 z7 z8
          go_ret
          exact ⟨rfl, BB⟩
        · have u1 : (EB != 0) = true := by rw [bne_iff_ne]; exact hz
          clear HN
          have c40 : x12.cell? ⟨w.heap.size, 0, none⟩ = some (.bool na) := hr4.cell 0
          have c41 : x12.cell? ⟨w.heap.size, 1, none⟩ = some (.slice PA pn pc) := hr4.cell 1
          have c42 : x12.cell? ⟨w.heap.size, 2, none⟩ = some (.slice PB pm pd) := hr4.cell 2
          have c50 : x12.cell? ⟨w.heap.size + 1, 0, none⟩ = some (.bool nb) := hr5.cell 0
          have c51 : x12.cell? ⟨w.heap.size + 1, 1, none⟩ = some (.slice QA qn qc) := hr5.cell 1
          have c52 : x12.cell? ⟨w.heap.size + 1, 2, none⟩ = some (.slice QB qm qd) := hr5.cell 2
          have c70 : x12.cell? ⟨g1, 0, none⟩ = some (.bool na) := hr7.cell 0
          have c71 : x12.cell? ⟨g1, 1, none⟩ = some (.slice PA pn pc) := hr7.cell 1
          have c72 : x12.cell? ⟨g1, 2, none⟩ = some (.slice PB pm pd) := hr7.cell 2
          have c80 : x12.cell? ⟨g2, 0, none⟩ = some (.bool nb) := hr8.cell 0
          have c81 : x12.cell? ⟨g2, 1, none⟩ = some (.slice QA qn qc) := hr8.cell 1
          have c82 : x12.cell? ⟨g2, 2, none⟩ = some (.slice QB qm qd) := hr8.cell 2
          have z4 := hr4.lt
          have z5 := hr5.lt
          have z7 := hr7.lt
          have z8 := hr8.lt
          go_wp2_with fail
          clear c40 c41 c42 c50 c51 c52 c70 c71 c72 c80 c81 c82 z4 z5 z7 z8
          refine (awake_any _ htab).mono ?_
          rintro e x23 ⟨rfl, hb⟩
          replace hr4 := hr4.keep hb
          replace hr5 := hr5.keep hb
          replace hr7 := hr7.keep hb
          replace hr8 := hr8.keep hb
          replace htab := htab.below hb
          replace BB : Below w.heap.size w x23 := BB.trans (hb.mono BB.size)
          clear hb
          have c40 : x23.cell? ⟨w.heap.size, 0, none⟩ = some (.bool na) := hr4.cell 0
          have c41 : x23.cell? ⟨w.heap.size, 1, none⟩ = some (.slice PA pn pc) := hr4.cell 1
          have c42 : x23.cell? ⟨w.heap.size, 2, none⟩ = some (.slice PB pm pd) := hr4.cell 2
          have c50 : x23.cell? ⟨w.heap.size + 1, 0, none⟩ = some (.bool nb) := hr5.cell 0
          have c51 : x23.cell? ⟨w.heap.size + 1, 1, none⟩ = some (.slice QA qn qc) := hr5.cell 1
          have c52 : x23.cell? ⟨w.heap.size + 1, 2, none⟩ = some (.slice QB qm qd) := hr5.cell 2
          have c70 : x23.cell? ⟨g1, 0, none⟩ = some (.bool na) := hr7.cell 0
          have c71 : x23.cell? ⟨g1, 1, none⟩ = some (.slice PA pn pc) := hr7.cell 1
          have c72 : x23.cell? ⟨g1, 2, none⟩ = some (.slice PB pm pd) := hr7.cell 2
          have c80 : x23.cell? ⟨g2, 0, none⟩ = some (.bool nb) := hr8.cell 0
          have c81 : x23.cell? ⟨g2, 1, none⟩ = some (.slice QA qn qc) := hr8.cell 1
          have c82 : x23.cell? ⟨g2, 2, none⟩ = some (.slice QB qm qd) := hr8.cell 2
          have z4 := hr4.lt
          have z5 := hr5.lt
          have z7 := hr7.lt
          have z8 := hr8.lt
          go_wp2_with fail
          clear c40 c41 c42 c50 c51 c52 c70 c71 c72 c80 c81 c82 z4 z5 z7 z8
          go_ret
          exact ⟨rfl, BB⟩
      · have u1 : (EA != 0) = true := by rw [bne_iff_ne]; exact hz
        clear HN
        have c40 : x12.cell? ⟨w.heap.size, 0, none⟩ = some (.bool na) := hr4.cell 0
        have c41 : x12.cell? ⟨w.heap.size, 1, none⟩ = some (.slice PA pn pc) := hr4.cell 1
        have c42 : x12.cell? ⟨w.heap.size, 2, none⟩ = some (.slice PB pm pd) := hr4.cell 2
        have c50 : x12.cell? ⟨w.heap.size + 1, 0, none⟩ = some (.bool nb) := hr5.cell 0
        have c51 : x12.cell? ⟨w.heap.size + 1, 1, none⟩ = some (.slice QA qn qc) := hr5.cell 1
        have c52 : x12.cell? ⟨w.heap.size + 1, 2, none⟩ = some (.slice QB qm qd) := hr5.cell 2
        have c70 : x12.cell? ⟨g1, 0, none⟩ = some (.bool na) := hr7.cell 0
        have c71 : x12.cell? ⟨g1, 1, none⟩ = some (.slice PA pn pc) := hr7.cell 1
        have c72 : x12.cell? ⟨g1, 2, none⟩ = some (.slice PB pm pd) := hr7.cell 2
        have c80 : x12.cell? ⟨g2, 0, none⟩ = some (.bool nb) := hr8.cell 0
        have c81 : x12.cell? ⟨g2, 1, none⟩ = some (.slice QA qn qc) := hr8.cell 1
        have c82 : x12.cell? ⟨g2, 2, none⟩ = some (.slice QB qm qd) := hr8.cell 2
        have z4 := hr4.lt
        have z5 := hr5.lt
        have z7 := hr7.lt
        have z8 := hr8.lt
        go_wp2_with fail
        clear c40 c41 c42 c50 c51 c52 c70 c71 c72 c80 c81 c82 z4 z5 z7 z8
        refine (awake_any _ htab).mono ?_
        rintro e x23 ⟨rfl, hb⟩
        replace hr4 := hr4.keep hb
        replace hr5 := hr5.keep hb
        replace hr7 := hr7.keep hb
        replace hr8 := hr8.keep hb
        replace htab := htab.below hb
        replace BB : Below w.heap.size w x23 := BB.trans (hb.mono BB.size)
        clear hb
        have c40 : x23.cell? ⟨w.heap.size, 0, none⟩ = some (.bool na) := hr4.cell 0
        have c41 : x23.cell? ⟨w.heap.size, 1, none⟩ = some (.slice PA pn pc) := hr4.cell 1
        have c42 : x23.cell? ⟨w.heap.size, 2, none⟩ = some (.slice PB pm pd) := hr4.cell 2
        have c50 : x23.cell? ⟨w.heap.size + 1, 0, none⟩ = some (.bool nb) := hr5.cell 0
        have c51 : x23.cell? ⟨w.heap.size + 1, 1, none⟩ = some (.slice QA qn qc) := hr5.cell 1
        have c52 : x23.cell? ⟨w.heap.size + 1, 2, none⟩ = some (.slice QB qm qd) := hr5.cell 2
        have c70 : x23.cell? ⟨g1, 0, none⟩ = some (.bool na) := hr7.cell 0
        have c71 : x23.cell? ⟨g1, 1, none⟩ = some (.slice PA pn pc) := hr7.cell 1
        have c72 : x23.cell? ⟨g1, 2, none⟩ = some (.slice PB pm pd) := hr7.cell 2
        have c80 : x23.cell? ⟨g2, 0, none⟩ = some (.bool nb) := hr8.cell 0
        have c81 : x23.cell? ⟨g2, 1, none⟩ = some (.slice QA qn qc) := hr8.cell 1
        have c82 : x23.cell? ⟨g2, 2, none⟩ = some (.slice QB qm qd) := hr8.cell 2
        have z4 := hr4.lt
        have z5 := hr5.lt
        have z7 := hr7.lt
        have z8 := hr8.lt
        go_wp2_with fail
        clear c40 c41 c42 c50 c51 c52 c70 c71 c72 c80 c81 c82 z4 z5 z7 z8
        go_ret
        exact ⟨rfl, BB⟩
end Go.Proofs.YtfoleamcaflfeaaDoor
