/- EstimateClasses. -/
import Derived.Test.YtfoleamcaflfeaaDoorEsN
namespace Go.Proofs.YtfoleamcaflfeaaDoor
open Go.RowKit
set_option linter.unusedVariables false
set_option maxRecDepth 100000

theorem reachB_grow {x y s : Nat} {p : Int} {q : Nat} (h : x ≤ y) (hr : reachB x s p q = true) : reachB y s p q = true := by
  unfold reachB at *
  rw [decide_eq_true_eq] at *
  exact Int.le_trans hr (Int.mul_le_mul_of_nonneg_right (by omega) (by omega))
theorem reachB_both {x y s : Nat} {p : Int} {q : Nat} (hs : 0 < s) (h : x + y = s) (hp : (q : Int) < p * 2) (h1 : reachB x s p q = true) (h2 : reachB y s p q = true) : False := by
  unfold reachB at *
  rw [decide_eq_true_eq] at *
  have e1 : p * (s : Int) + p * (s : Int) ≤ ((x : Int) + (y : Int)) * (q : Int) := by rw [Int.add_mul]; omega
  have e2 : (x : Int) + (y : Int) = (s : Int) := by omega
  rw [e2] at e1
  have e3 : p * (s : Int) + p * (s : Int) = p * 2 * (s : Int) := by rw [Int.mul_assoc, Int.mul_comm 2, ← Int.mul_assoc]; omega
  have e4 : (q : Int) * (s : Int) < p * 2 * (s : Int) := Int.mul_lt_mul_of_pos_right hp (by omega)
  rw [Int.mul_comm (s : Int)] at e1
  omega
theorem sum_split (ns : List Nat) (k : Nat) : (ns.drop k).sum + (ns.take k).sum = ns.sum := by
  have := congrArg List.sum (List.take_append_drop k ns)
  rw [List.sum_append] at this
  omega
theorem drop_le (ns : List Nat) {a b : Nat} (h : a ≤ b) : (ns.drop b).sum ≤ (ns.drop a).sum := by
  obtain ⟨d, rfl⟩ : ∃ d, b = a + d := ⟨b - a, by omega⟩
  rw [← List.drop_drop]
  have := sum_split (ns.drop a) d
  omega
theorem take_le (ns : List Nat) {a b : Nat} (h : a ≤ b) : (ns.take a).sum ≤ (ns.take b).sum := by
  have h1 := sum_split ns a
  have h2 := sum_split ns b
  have h3 := drop_le ns h
  omega
theorem classE_zero {ns : List Nat} {c p : Int} {q : Nat} (h : classE ns c p q = 0) : 0 < ns.sum ∧ 1 ≤ c ∧ (q : Int) < p * 2 := by
  unfold classE at h
  split at h
  · rename_i h1; omega
  · split at h
    · omega
    · rename_i h1 h2
      have h3 : chkS ns = 0 := by simpa using h1
      exact ⟨(chkS_zero h3).2, by omega, by omega⟩
theorem classV_ok {ns : List Nat} {c p : Int} {q : Nat} (h : classE ns c p q = 0) : classV ns c p q = if reachB (ns.drop c.toNat).sum ns.sum p q = true then 1 else if reachB (ns.take c.toNat).sum ns.sum p q = true then 0 else -1 := if_pos h
theorem classV_in (ns : List Nat) (c p : Int) (q : Nat) : classV ns c p q = 1 ∨ classV ns c p q = 0 ∨ classV ns c p q = -1 := by
  unfold classV
  split
  · split
    · exact .inl rfl
    · split
      · exact .inr (.inl rfl)
      · exact .inr (.inr rfl)
  · exact .inr (.inl rfl)
theorem class_up {ns : List Nat} {c c' p p' : Int} {q q' : Nat} (hq : 0 < q) (hq' : 0 < q') (h : classE ns c p q = 0) (h' : classE ns c' p' q' = 0) (hle : p' * (q : Int) ≤ p * (q' : Int)) (hc : c' ≤ c) (hv : classV ns c p q = 1) : classV ns c' p' q' = 1 := by
  rw [classV_ok h] at hv
  rw [classV_ok h']
  split at hv
  · rename_i hr
    rw [if_pos (reachB_mono hq' hq hle (reachB_grow (drop_le ns (by omega)) hr))]
  · split at hv <;> omega
theorem class_down {ns : List Nat} {c c' p p' : Int} {q q' : Nat} (hq : 0 < q) (hq' : 0 < q') (h : classE ns c p q = 0) (h' : classE ns c' p' q' = 0) (hle : p' * (q : Int) ≤ p * (q' : Int)) (hc : c ≤ c') (hv : classV ns c p q = 0) : classV ns c' p' q' = 0 := by
  rw [classV_ok h] at hv
  rw [classV_ok h']
  split at hv
  · omega
  · split at hv
    · rename_i hr
      have hr2 := reachB_mono hq' hq hle (reachB_grow (take_le ns (show c.toNat ≤ c'.toNat by omega)) hr)
      obtain ⟨z1, z2, z3⟩ := classE_zero h'
      rw [if_neg (fun hb => reachB_both z1 (sum_split ns c'.toNat) z3 hb hr2), if_pos hr2]
    · omega

set_option maxHeartbeats 32000000 in
theorem lclass_any (wv pv qv : Value) (ns : List Nat) (L M : Nat) (c c' p p' : Int) (q q' : Nat) (w : World) (hw : Wts w wv ns L) (hp : RatA w pv p q M) (hq : RatA w qv p' q' M) (hL : L ≤ 35184372088000) (hM2 : 2 ≤ M) (hM : M ≤ 35184372088000) (htab : Pow10 w) :
    Calls Tryd.prog 5 #[wv, .int .i64 c, .int .i64 c', pv, qv] w fun e w' => e = .returned (.bool true) ∧ Below w.heap.size w w' := by
  have HW := Lib.hid hw
  have HP := Lib.hid hp
  have HQ := Lib.hid hq
  have q0 := hp.pos
  have q0' := hq.pos
  have hv1 := classV_in ns c p q
  have hv2 := classV_in ns c' p' q'
  have hu : classE ns c p q = 0 → classE ns c' p' q' = 0 → p' * (q : Int) ≤ p * (q' : Int) → c' ≤ c → classV ns c p q = 1 → classV ns c' p' q' = 1 := class_up q0 q0'
  have hd : classE ns c p q = 0 → classE ns c' p' q' = 0 → p' * (q : Int) ≤ p * (q' : Int) → c ≤ c' → classV ns c p q = 0 → classV ns c' p' q' = 0 := class_down q0 q0'
  have he : classE ns c p q ≠ 0 → classV ns c p q = 0 := classV_bad
  obtain ⟨V1, hV1⟩ : ∃ x, classV ns c p q = x := ⟨_, rfl⟩
  obtain ⟨E1, hE1⟩ : ∃ x, classE ns c p q = x := ⟨_, rfl⟩
  obtain ⟨V2, hV2⟩ : ∃ x, classV ns c' p' q' = x := ⟨_, rfl⟩
  obtain ⟨E2, hE2⟩ : ∃ x, classE ns c' p' q' = x := ⟨_, rfl⟩
  rw [hV1, hE1, hE2, hV2] at hu hd
  rw [hV1, hE1] at he
  rw [hV1] at hv1
  rw [hV2] at hv2
  have HV1 := Lib.hid hV1
  have HE1 := Lib.hid hE1
  have HV2 := Lib.hid hV2
  have HE2 := Lib.hid hE2
  have HU := Lib.hid hu
  have HD := Lib.hid hd
  have HE := Lib.hid he
  have HI := Lib.hid hv1
  clear hV1 hE1 hV2 hE2 hu hd he hv1 hv2 q0 q0'
  obtain ⟨na, PA, pn, pc, PB, pm, pd, rfl⟩ := hp.show_
  obtain ⟨nb, QA, qn, qc, QB, qm, qd, rfl⟩ := hq.show_
  obtain ⟨WA, wcp, us, rfl, _, _, _, _⟩ := hw
  clear hp hq
  obtain ⟨W0, hW0⟩ : ∃ W0 : World, W0 = (w.alloc (.cells #[.bool na, .slice PA pn pc, .slice PB pm pd] 28)).alloc (.cells #[.bool nb, .slice QA qn qc, .slice QB qm qd] 28) := ⟨_, rfl⟩
  have r0 : Row W0 w.heap.size 28 [.bool na, .slice PA pn pc, .slice PB pm pd] := by
    rw [hW0]
    have := Row.alloc (Row.new w 28 [.bool na, .slice PA pn pc, .slice PB pm pd]) (.cells #[.bool nb, .slice QA qn qc, .slice QB qm qd] 28)
    simpa using this
  have r1 : Row W0 (w.heap.size + 1) 28 [.bool nb, .slice QA qn qc, .slice QB qm qd] := by
    rw [hW0]
    have := Row.new (w.alloc (.cells #[.bool na, .slice PA pn pc, .slice PB pm pd] 28)) 28 [.bool nb, .slice QA qn qc, .slice QB qm qd]
    simpa using this
  have B0 : Below w.heap.size w W0 := by rw [hW0]; exact (((Below.refl _ _).alloc (Nat.le_refl _) _).alloc (by simp) _)
  go_enter Tryd.func5, Tryd.ntmps5
  go_wp2_with fail
  rw [← hW0]
  clear hW0
  have BB := B0
  have hr8 := r0
  have hr9 := r1
  clear B0 r0 r1
  replace htab := htab.below BB
  have c80 : W0.cell? ⟨w.heap.size, 0, none⟩ = some (.bool na) := hr8.cell 0
  have c81 : W0.cell? ⟨w.heap.size, 1, none⟩ = some (.slice PA pn pc) := hr8.cell 1
  have c82 : W0.cell? ⟨w.heap.size, 2, none⟩ = some (.slice PB pm pd) := hr8.cell 2
  have c90 : W0.cell? ⟨w.heap.size + 1, 0, none⟩ = some (.bool nb) := hr9.cell 0
  have c91 : W0.cell? ⟨w.heap.size + 1, 1, none⟩ = some (.slice QA qn qc) := hr9.cell 1
  have c92 : W0.cell? ⟨w.heap.size + 1, 2, none⟩ = some (.slice QB qm qd) := hr9.cell 2
  have z8 := hr8.lt
  have z9 := hr9.lt
  go_wp2_with fail
  clear c80 c81 c82 c90 c91 c92 z8 z9
  refine (eclass_any _ _ ns L M p q c _ (HW.out.below BB) (HP.out.below BB) hM2 ⟨hL, hM⟩).mono ?_
  rintro e x1 ⟨rfl, hb⟩
  replace hr8 := hr8.keep hb
  replace hr9 := hr9.keep hb
  replace htab := htab.below hb
  replace BB : Below w.heap.size w x1 := BB.trans (hb.mono BB.size)
  clear hb
  rw [HV1.out, HE1.out]
  have c80 : x1.cell? ⟨w.heap.size, 0, none⟩ = some (.bool na) := hr8.cell 0
  have c81 : x1.cell? ⟨w.heap.size, 1, none⟩ = some (.slice PA pn pc) := hr8.cell 1
  have c82 : x1.cell? ⟨w.heap.size, 2, none⟩ = some (.slice PB pm pd) := hr8.cell 2
  have c90 : x1.cell? ⟨w.heap.size + 1, 0, none⟩ = some (.bool nb) := hr9.cell 0
  have c91 : x1.cell? ⟨w.heap.size + 1, 1, none⟩ = some (.slice QA qn qc) := hr9.cell 1
  have c92 : x1.cell? ⟨w.heap.size + 1, 2, none⟩ = some (.slice QB qm qd) := hr9.cell 2
  have z8 := hr8.lt
  have z9 := hr9.lt
  go_wp2_with fail
  clear c80 c81 c82 c90 c91 c92 z8 z9
  refine (eclass_any _ _ ns L M p' q' c' _ (HW.out.below BB) (HQ.out.below BB) hM2 ⟨hL, hM⟩).mono ?_
  rintro e x2 ⟨rfl, hb⟩
  replace hr8 := hr8.keep hb
  replace hr9 := hr9.keep hb
  replace htab := htab.below hb
  replace BB : Below w.heap.size w x2 := BB.trans (hb.mono BB.size)
  clear hb
  rw [HV2.out, HE2.out]
  by_cases hE1 : E1 = 0
  · subst hE1
    by_cases hE2 : E2 = 0
    · subst hE2
      have hcc : decide (cmpZ (p' * (q : Int)) (p * (q' : Int)) ≤ 0) = decide (p' * (q : Int) ≤ p * (q' : Int)) := cmpZ_le0 _ _
      replace HU := Lib.hid (HU.out rfl rfl)
      replace HD := Lib.hid (HD.out rfl rfl)
      by_cases hC : p' * (q : Int) ≤ p * (q' : Int)
      · have tC : decide (cmpZ (p' * (q : Int)) (p * (q' : Int)) ≤ 0) = true := by rw [hcc]; exact decide_eq_true hC
        clear hcc
        rcases HI.out with hv | hv | hv
        · subst hv
          by_cases hc : c' ≤ c
          · obtain rfl := HU.out hC hc rfl
            clear hC HU HD
            have c80 : x2.cell? ⟨w.heap.size, 0, none⟩ = some (.bool na) := hr8.cell 0
            have c81 : x2.cell? ⟨w.heap.size, 1, none⟩ = some (.slice PA pn pc) := hr8.cell 1
            have c82 : x2.cell? ⟨w.heap.size, 2, none⟩ = some (.slice PB pm pd) := hr8.cell 2
            have c90 : x2.cell? ⟨w.heap.size + 1, 0, none⟩ = some (.bool nb) := hr9.cell 0
            have c91 : x2.cell? ⟨w.heap.size + 1, 1, none⟩ = some (.slice QA qn qc) := hr9.cell 1
            have c92 : x2.cell? ⟨w.heap.size + 1, 2, none⟩ = some (.slice QB qm qd) := hr9.cell 2
            have z8 := hr8.lt
            have z9 := hr9.lt
            go_wp2_with fail
            clear c80 c81 c82 c90 c91 c92 z8 z9
            refine (qcmp_any _ _ p' p q' q M _ (HQ.out.below BB) (HP.out.below BB) hM2 (by omega)).mono ?_
            rintro e x3 ⟨rfl, hb⟩
            replace hr8 := hr8.keep hb
            replace hr9 := hr9.keep hb
            replace htab := htab.below hb
            replace BB : Below w.heap.size w x3 := BB.trans (hb.mono BB.size)
            clear hb
            have c80 : x3.cell? ⟨w.heap.size, 0, none⟩ = some (.bool na) := hr8.cell 0
            have c81 : x3.cell? ⟨w.heap.size, 1, none⟩ = some (.slice PA pn pc) := hr8.cell 1
            have c82 : x3.cell? ⟨w.heap.size, 2, none⟩ = some (.slice PB pm pd) := hr8.cell 2
            have c90 : x3.cell? ⟨w.heap.size + 1, 0, none⟩ = some (.bool nb) := hr9.cell 0
            have c91 : x3.cell? ⟨w.heap.size + 1, 1, none⟩ = some (.slice QA qn qc) := hr9.cell 1
            have c92 : x3.cell? ⟨w.heap.size + 1, 2, none⟩ = some (.slice QB qm qd) := hr9.cell 2
            have z8 := hr8.lt
            have z9 := hr9.lt
            go_wp2_with fail
            clear c80 c81 c82 c90 c91 c92 z8 z9
            refine (awake_any _ htab).mono ?_
            rintro e x4 ⟨rfl, hb⟩
            replace hr8 := hr8.keep hb
            replace hr9 := hr9.keep hb
            replace htab := htab.below hb
            replace BB : Below w.heap.size w x4 := BB.trans (hb.mono BB.size)
            clear hb
            have c80 : x4.cell? ⟨w.heap.size, 0, none⟩ = some (.bool na) := hr8.cell 0
            have c81 : x4.cell? ⟨w.heap.size, 1, none⟩ = some (.slice PA pn pc) := hr8.cell 1
            have c82 : x4.cell? ⟨w.heap.size, 2, none⟩ = some (.slice PB pm pd) := hr8.cell 2
            have c90 : x4.cell? ⟨w.heap.size + 1, 0, none⟩ = some (.bool nb) := hr9.cell 0
            have c91 : x4.cell? ⟨w.heap.size + 1, 1, none⟩ = some (.slice QA qn qc) := hr9.cell 1
            have c92 : x4.cell? ⟨w.heap.size + 1, 2, none⟩ = some (.slice QB qm qd) := hr9.cell 2
            have z8 := hr8.lt
            have z9 := hr9.lt
            go_wp2_with fail
            clear c80 c81 c82 c90 c91 c92 z8 z9
            go_ret
            exact ⟨rfl, BB⟩
          · clear hC HU HD
            have c80 : x2.cell? ⟨w.heap.size, 0, none⟩ = some (.bool na) := hr8.cell 0
            have c81 : x2.cell? ⟨w.heap.size, 1, none⟩ = some (.slice PA pn pc) := hr8.cell 1
            have c82 : x2.cell? ⟨w.heap.size, 2, none⟩ = some (.slice PB pm pd) := hr8.cell 2
            have c90 : x2.cell? ⟨w.heap.size + 1, 0, none⟩ = some (.bool nb) := hr9.cell 0
            have c91 : x2.cell? ⟨w.heap.size + 1, 1, none⟩ = some (.slice QA qn qc) := hr9.cell 1
            have c92 : x2.cell? ⟨w.heap.size + 1, 2, none⟩ = some (.slice QB qm qd) := hr9.cell 2
            have z8 := hr8.lt
            have z9 := hr9.lt
            go_wp2_with fail
            clear c80 c81 c82 c90 c91 c92 z8 z9
            refine (qcmp_any _ _ p' p q' q M _ (HQ.out.below BB) (HP.out.below BB) hM2 (by omega)).mono ?_
            rintro e x3 ⟨rfl, hb⟩
            replace hr8 := hr8.keep hb
            replace hr9 := hr9.keep hb
            replace htab := htab.below hb
            replace BB : Below w.heap.size w x3 := BB.trans (hb.mono BB.size)
            clear hb
            have c80 : x3.cell? ⟨w.heap.size, 0, none⟩ = some (.bool na) := hr8.cell 0
            have c81 : x3.cell? ⟨w.heap.size, 1, none⟩ = some (.slice PA pn pc) := hr8.cell 1
            have c82 : x3.cell? ⟨w.heap.size, 2, none⟩ = some (.slice PB pm pd) := hr8.cell 2
            have c90 : x3.cell? ⟨w.heap.size + 1, 0, none⟩ = some (.bool nb) := hr9.cell 0
            have c91 : x3.cell? ⟨w.heap.size + 1, 1, none⟩ = some (.slice QA qn qc) := hr9.cell 1
            have c92 : x3.cell? ⟨w.heap.size + 1, 2, none⟩ = some (.slice QB qm qd) := hr9.cell 2
            have z8 := hr8.lt
            have z9 := hr9.lt
            go_wp2_with fail
            clear c80 c81 c82 c90 c91 c92 z8 z9
            refine (awake_any _ htab).mono ?_
            rintro e x4 ⟨rfl, hb⟩
            replace hr8 := hr8.keep hb
            replace hr9 := hr9.keep hb
            replace htab := htab.below hb
            replace BB : Below w.heap.size w x4 := BB.trans (hb.mono BB.size)
            clear hb
            have c80 : x4.cell? ⟨w.heap.size, 0, none⟩ = some (.bool na) := hr8.cell 0
            have c81 : x4.cell? ⟨w.heap.size, 1, none⟩ = some (.slice PA pn pc) := hr8.cell 1
            have c82 : x4.cell? ⟨w.heap.size, 2, none⟩ = some (.slice PB pm pd) := hr8.cell 2
            have c90 : x4.cell? ⟨w.heap.size + 1, 0, none⟩ = some (.bool nb) := hr9.cell 0
            have c91 : x4.cell? ⟨w.heap.size + 1, 1, none⟩ = some (.slice QA qn qc) := hr9.cell 1
            have c92 : x4.cell? ⟨w.heap.size + 1, 2, none⟩ = some (.slice QB qm qd) := hr9.cell 2
            have z8 := hr8.lt
            have z9 := hr9.lt
            go_wp2_with fail
            clear c80 c81 c82 c90 c91 c92 z8 z9
            go_ret
            exact ⟨rfl, BB⟩
        · subst hv
          by_cases hc : c ≤ c'
          · obtain rfl := HD.out hC hc rfl
            clear hC HU HD
            have c80 : x2.cell? ⟨w.heap.size, 0, none⟩ = some (.bool na) := hr8.cell 0
            have c81 : x2.cell? ⟨w.heap.size, 1, none⟩ = some (.slice PA pn pc) := hr8.cell 1
            have c82 : x2.cell? ⟨w.heap.size, 2, none⟩ = some (.slice PB pm pd) := hr8.cell 2
            have c90 : x2.cell? ⟨w.heap.size + 1, 0, none⟩ = some (.bool nb) := hr9.cell 0
            have c91 : x2.cell? ⟨w.heap.size + 1, 1, none⟩ = some (.slice QA qn qc) := hr9.cell 1
            have c92 : x2.cell? ⟨w.heap.size + 1, 2, none⟩ = some (.slice QB qm qd) := hr9.cell 2
            have z8 := hr8.lt
            have z9 := hr9.lt
            go_wp2_with fail
            clear c80 c81 c82 c90 c91 c92 z8 z9
            refine (qcmp_any _ _ p' p q' q M _ (HQ.out.below BB) (HP.out.below BB) hM2 (by omega)).mono ?_
            rintro e x3 ⟨rfl, hb⟩
            replace hr8 := hr8.keep hb
            replace hr9 := hr9.keep hb
            replace htab := htab.below hb
            replace BB : Below w.heap.size w x3 := BB.trans (hb.mono BB.size)
            clear hb
            have c80 : x3.cell? ⟨w.heap.size, 0, none⟩ = some (.bool na) := hr8.cell 0
            have c81 : x3.cell? ⟨w.heap.size, 1, none⟩ = some (.slice PA pn pc) := hr8.cell 1
            have c82 : x3.cell? ⟨w.heap.size, 2, none⟩ = some (.slice PB pm pd) := hr8.cell 2
            have c90 : x3.cell? ⟨w.heap.size + 1, 0, none⟩ = some (.bool nb) := hr9.cell 0
            have c91 : x3.cell? ⟨w.heap.size + 1, 1, none⟩ = some (.slice QA qn qc) := hr9.cell 1
            have c92 : x3.cell? ⟨w.heap.size + 1, 2, none⟩ = some (.slice QB qm qd) := hr9.cell 2
            have z8 := hr8.lt
            have z9 := hr9.lt
            go_wp2_with fail
            clear c80 c81 c82 c90 c91 c92 z8 z9
            refine (awake_any _ htab).mono ?_
            rintro e x4 ⟨rfl, hb⟩
            replace hr8 := hr8.keep hb
            replace hr9 := hr9.keep hb
            replace htab := htab.below hb
            replace BB : Below w.heap.size w x4 := BB.trans (hb.mono BB.size)
            clear hb
            have c80 : x4.cell? ⟨w.heap.size, 0, none⟩ = some (.bool na) := hr8.cell 0
            have c81 : x4.cell? ⟨w.heap.size, 1, none⟩ = some (.slice PA pn pc) := hr8.cell 1
            have c82 : x4.cell? ⟨w.heap.size, 2, none⟩ = some (.slice PB pm pd) := hr8.cell 2
            have c90 : x4.cell? ⟨w.heap.size + 1, 0, none⟩ = some (.bool nb) := hr9.cell 0
            have c91 : x4.cell? ⟨w.heap.size + 1, 1, none⟩ = some (.slice QA qn qc) := hr9.cell 1
            have c92 : x4.cell? ⟨w.heap.size + 1, 2, none⟩ = some (.slice QB qm qd) := hr9.cell 2
            have z8 := hr8.lt
            have z9 := hr9.lt
            go_wp2_with fail
            clear c80 c81 c82 c90 c91 c92 z8 z9
            go_ret
            exact ⟨rfl, BB⟩
          · clear hC HU HD
            have c80 : x2.cell? ⟨w.heap.size, 0, none⟩ = some (.bool na) := hr8.cell 0
            have c81 : x2.cell? ⟨w.heap.size, 1, none⟩ = some (.slice PA pn pc) := hr8.cell 1
            have c82 : x2.cell? ⟨w.heap.size, 2, none⟩ = some (.slice PB pm pd) := hr8.cell 2
            have c90 : x2.cell? ⟨w.heap.size + 1, 0, none⟩ = some (.bool nb) := hr9.cell 0
            have c91 : x2.cell? ⟨w.heap.size + 1, 1, none⟩ = some (.slice QA qn qc) := hr9.cell 1
            have c92 : x2.cell? ⟨w.heap.size + 1, 2, none⟩ = some (.slice QB qm qd) := hr9.cell 2
            have z8 := hr8.lt
            have z9 := hr9.lt
            go_wp2_with fail
            clear c80 c81 c82 c90 c91 c92 z8 z9
            refine (qcmp_any _ _ p' p q' q M _ (HQ.out.below BB) (HP.out.below BB) hM2 (by omega)).mono ?_
            rintro e x3 ⟨rfl, hb⟩
            replace hr8 := hr8.keep hb
            replace hr9 := hr9.keep hb
            replace htab := htab.below hb
            replace BB : Below w.heap.size w x3 := BB.trans (hb.mono BB.size)
            clear hb
            have c80 : x3.cell? ⟨w.heap.size, 0, none⟩ = some (.bool na) := hr8.cell 0
            have c81 : x3.cell? ⟨w.heap.size, 1, none⟩ = some (.slice PA pn pc) := hr8.cell 1
            have c82 : x3.cell? ⟨w.heap.size, 2, none⟩ = some (.slice PB pm pd) := hr8.cell 2
            have c90 : x3.cell? ⟨w.heap.size + 1, 0, none⟩ = some (.bool nb) := hr9.cell 0
            have c91 : x3.cell? ⟨w.heap.size + 1, 1, none⟩ = some (.slice QA qn qc) := hr9.cell 1
            have c92 : x3.cell? ⟨w.heap.size + 1, 2, none⟩ = some (.slice QB qm qd) := hr9.cell 2
            have z8 := hr8.lt
            have z9 := hr9.lt
            go_wp2_with fail
            clear c80 c81 c82 c90 c91 c92 z8 z9
            refine (awake_any _ htab).mono ?_
            rintro e x4 ⟨rfl, hb⟩
            replace hr8 := hr8.keep hb
            replace hr9 := hr9.keep hb
            replace htab := htab.below hb
            replace BB : Below w.heap.size w x4 := BB.trans (hb.mono BB.size)
            clear hb
            have c80 : x4.cell? ⟨w.heap.size, 0, none⟩ = some (.bool na) := hr8.cell 0
            have c81 : x4.cell? ⟨w.heap.size, 1, none⟩ = some (.slice PA pn pc) := hr8.cell 1
            have c82 : x4.cell? ⟨w.heap.size, 2, none⟩ = some (.slice PB pm pd) := hr8.cell 2
            have c90 : x4.cell? ⟨w.heap.size + 1, 0, none⟩ = some (.bool nb) := hr9.cell 0
            have c91 : x4.cell? ⟨w.heap.size + 1, 1, none⟩ = some (.slice QA qn qc) := hr9.cell 1
            have c92 : x4.cell? ⟨w.heap.size + 1, 2, none⟩ = some (.slice QB qm qd) := hr9.cell 2
            have z8 := hr8.lt
            have z9 := hr9.lt
            go_wp2_with fail
            clear c80 c81 c82 c90 c91 c92 z8 z9
            go_ret
            exact ⟨rfl, BB⟩
        · subst hv
          clear hC HU HD
          have c80 : x2.cell? ⟨w.heap.size, 0, none⟩ = some (.bool na) := hr8.cell 0
          have c81 : x2.cell? ⟨w.heap.size, 1, none⟩ = some (.slice PA pn pc) := hr8.cell 1
          have c82 : x2.cell? ⟨w.heap.size, 2, none⟩ = some (.slice PB pm pd) := hr8.cell 2
          have c90 : x2.cell? ⟨w.heap.size + 1, 0, none⟩ = some (.bool nb) := hr9.cell 0
          have c91 : x2.cell? ⟨w.heap.size + 1, 1, none⟩ = some (.slice QA qn qc) := hr9.cell 1
          have c92 : x2.cell? ⟨w.heap.size + 1, 2, none⟩ = some (.slice QB qm qd) := hr9.cell 2
          have z8 := hr8.lt
          have z9 := hr9.lt
          go_wp2_with fail
          clear c80 c81 c82 c90 c91 c92 z8 z9
          refine (qcmp_any _ _ p' p q' q M _ (HQ.out.below BB) (HP.out.below BB) hM2 (by omega)).mono ?_
          rintro e x3 ⟨rfl, hb⟩
          replace hr8 := hr8.keep hb
          replace hr9 := hr9.keep hb
          replace htab := htab.below hb
          replace BB : Below w.heap.size w x3 := BB.trans (hb.mono BB.size)
          clear hb
          have c80 : x3.cell? ⟨w.heap.size, 0, none⟩ = some (.bool na) := hr8.cell 0
          have c81 : x3.cell? ⟨w.heap.size, 1, none⟩ = some (.slice PA pn pc) := hr8.cell 1
          have c82 : x3.cell? ⟨w.heap.size, 2, none⟩ = some (.slice PB pm pd) := hr8.cell 2
          have c90 : x3.cell? ⟨w.heap.size + 1, 0, none⟩ = some (.bool nb) := hr9.cell 0
          have c91 : x3.cell? ⟨w.heap.size + 1, 1, none⟩ = some (.slice QA qn qc) := hr9.cell 1
          have c92 : x3.cell? ⟨w.heap.size + 1, 2, none⟩ = some (.slice QB qm qd) := hr9.cell 2
          have z8 := hr8.lt
          have z9 := hr9.lt
          go_wp2_with fail
          clear c80 c81 c82 c90 c91 c92 z8 z9
          refine (awake_any _ htab).mono ?_
          rintro e x4 ⟨rfl, hb⟩
          replace hr8 := hr8.keep hb
          replace hr9 := hr9.keep hb
          replace htab := htab.below hb
          replace BB : Below w.heap.size w x4 := BB.trans (hb.mono BB.size)
          clear hb
          have c80 : x4.cell? ⟨w.heap.size, 0, none⟩ = some (.bool na) := hr8.cell 0
          have c81 : x4.cell? ⟨w.heap.size, 1, none⟩ = some (.slice PA pn pc) := hr8.cell 1
          have c82 : x4.cell? ⟨w.heap.size, 2, none⟩ = some (.slice PB pm pd) := hr8.cell 2
          have c90 : x4.cell? ⟨w.heap.size + 1, 0, none⟩ = some (.bool nb) := hr9.cell 0
          have c91 : x4.cell? ⟨w.heap.size + 1, 1, none⟩ = some (.slice QA qn qc) := hr9.cell 1
          have c92 : x4.cell? ⟨w.heap.size + 1, 2, none⟩ = some (.slice QB qm qd) := hr9.cell 2
          have z8 := hr8.lt
          have z9 := hr9.lt
          go_wp2_with fail
          clear c80 c81 c82 c90 c91 c92 z8 z9
          go_ret
          exact ⟨rfl, BB⟩
      · have tC : decide (cmpZ (p' * (q : Int)) (p * (q' : Int)) ≤ 0) = false := by rw [hcc]; exact decide_eq_false hC
        clear hcc
        rcases HI.out with hv | hv | hv
        · subst hv
          clear hC HU HD
          have c80 : x2.cell? ⟨w.heap.size, 0, none⟩ = some (.bool na) := hr8.cell 0
          have c81 : x2.cell? ⟨w.heap.size, 1, none⟩ = some (.slice PA pn pc) := hr8.cell 1
          have c82 : x2.cell? ⟨w.heap.size, 2, none⟩ = some (.slice PB pm pd) := hr8.cell 2
          have c90 : x2.cell? ⟨w.heap.size + 1, 0, none⟩ = some (.bool nb) := hr9.cell 0
          have c91 : x2.cell? ⟨w.heap.size + 1, 1, none⟩ = some (.slice QA qn qc) := hr9.cell 1
          have c92 : x2.cell? ⟨w.heap.size + 1, 2, none⟩ = some (.slice QB qm qd) := hr9.cell 2
          have z8 := hr8.lt
          have z9 := hr9.lt
          go_wp2_with fail
          clear c80 c81 c82 c90 c91 c92 z8 z9
          refine (qcmp_any _ _ p' p q' q M _ (HQ.out.below BB) (HP.out.below BB) hM2 (by omega)).mono ?_
          rintro e x3 ⟨rfl, hb⟩
          replace hr8 := hr8.keep hb
          replace hr9 := hr9.keep hb
          replace htab := htab.below hb
          replace BB : Below w.heap.size w x3 := BB.trans (hb.mono BB.size)
          clear hb
          have c80 : x3.cell? ⟨w.heap.size, 0, none⟩ = some (.bool na) := hr8.cell 0
          have c81 : x3.cell? ⟨w.heap.size, 1, none⟩ = some (.slice PA pn pc) := hr8.cell 1
          have c82 : x3.cell? ⟨w.heap.size, 2, none⟩ = some (.slice PB pm pd) := hr8.cell 2
          have c90 : x3.cell? ⟨w.heap.size + 1, 0, none⟩ = some (.bool nb) := hr9.cell 0
          have c91 : x3.cell? ⟨w.heap.size + 1, 1, none⟩ = some (.slice QA qn qc) := hr9.cell 1
          have c92 : x3.cell? ⟨w.heap.size + 1, 2, none⟩ = some (.slice QB qm qd) := hr9.cell 2
          have z8 := hr8.lt
          have z9 := hr9.lt
          go_wp2_with fail
          clear c80 c81 c82 c90 c91 c92 z8 z9
          refine (awake_any _ htab).mono ?_
          rintro e x4 ⟨rfl, hb⟩
          replace hr8 := hr8.keep hb
          replace hr9 := hr9.keep hb
          replace htab := htab.below hb
          replace BB : Below w.heap.size w x4 := BB.trans (hb.mono BB.size)
          clear hb
          have c80 : x4.cell? ⟨w.heap.size, 0, none⟩ = some (.bool na) := hr8.cell 0
          have c81 : x4.cell? ⟨w.heap.size, 1, none⟩ = some (.slice PA pn pc) := hr8.cell 1
          have c82 : x4.cell? ⟨w.heap.size, 2, none⟩ = some (.slice PB pm pd) := hr8.cell 2
          have c90 : x4.cell? ⟨w.heap.size + 1, 0, none⟩ = some (.bool nb) := hr9.cell 0
          have c91 : x4.cell? ⟨w.heap.size + 1, 1, none⟩ = some (.slice QA qn qc) := hr9.cell 1
          have c92 : x4.cell? ⟨w.heap.size + 1, 2, none⟩ = some (.slice QB qm qd) := hr9.cell 2
          have z8 := hr8.lt
          have z9 := hr9.lt
          go_wp2_with fail
          clear c80 c81 c82 c90 c91 c92 z8 z9
          go_ret
          exact ⟨rfl, BB⟩
        · subst hv
          clear hC HU HD
          have c80 : x2.cell? ⟨w.heap.size, 0, none⟩ = some (.bool na) := hr8.cell 0
          have c81 : x2.cell? ⟨w.heap.size, 1, none⟩ = some (.slice PA pn pc) := hr8.cell 1
          have c82 : x2.cell? ⟨w.heap.size, 2, none⟩ = some (.slice PB pm pd) := hr8.cell 2
          have c90 : x2.cell? ⟨w.heap.size + 1, 0, none⟩ = some (.bool nb) := hr9.cell 0
          have c91 : x2.cell? ⟨w.heap.size + 1, 1, none⟩ = some (.slice QA qn qc) := hr9.cell 1
          have c92 : x2.cell? ⟨w.heap.size + 1, 2, none⟩ = some (.slice QB qm qd) := hr9.cell 2
          have z8 := hr8.lt
          have z9 := hr9.lt
          go_wp2_with fail
          clear c80 c81 c82 c90 c91 c92 z8 z9
          refine (qcmp_any _ _ p' p q' q M _ (HQ.out.below BB) (HP.out.below BB) hM2 (by omega)).mono ?_
          rintro e x3 ⟨rfl, hb⟩
          replace hr8 := hr8.keep hb
          replace hr9 := hr9.keep hb
          replace htab := htab.below hb
          replace BB : Below w.heap.size w x3 := BB.trans (hb.mono BB.size)
          clear hb
          have c80 : x3.cell? ⟨w.heap.size, 0, none⟩ = some (.bool na) := hr8.cell 0
          have c81 : x3.cell? ⟨w.heap.size, 1, none⟩ = some (.slice PA pn pc) := hr8.cell 1
          have c82 : x3.cell? ⟨w.heap.size, 2, none⟩ = some (.slice PB pm pd) := hr8.cell 2
          have c90 : x3.cell? ⟨w.heap.size + 1, 0, none⟩ = some (.bool nb) := hr9.cell 0
          have c91 : x3.cell? ⟨w.heap.size + 1, 1, none⟩ = some (.slice QA qn qc) := hr9.cell 1
          have c92 : x3.cell? ⟨w.heap.size + 1, 2, none⟩ = some (.slice QB qm qd) := hr9.cell 2
          have z8 := hr8.lt
          have z9 := hr9.lt
          go_wp2_with fail
          clear c80 c81 c82 c90 c91 c92 z8 z9
          refine (awake_any _ htab).mono ?_
          rintro e x4 ⟨rfl, hb⟩
          replace hr8 := hr8.keep hb
          replace hr9 := hr9.keep hb
          replace htab := htab.below hb
          replace BB : Below w.heap.size w x4 := BB.trans (hb.mono BB.size)
          clear hb
          have c80 : x4.cell? ⟨w.heap.size, 0, none⟩ = some (.bool na) := hr8.cell 0
          have c81 : x4.cell? ⟨w.heap.size, 1, none⟩ = some (.slice PA pn pc) := hr8.cell 1
          have c82 : x4.cell? ⟨w.heap.size, 2, none⟩ = some (.slice PB pm pd) := hr8.cell 2
          have c90 : x4.cell? ⟨w.heap.size + 1, 0, none⟩ = some (.bool nb) := hr9.cell 0
          have c91 : x4.cell? ⟨w.heap.size + 1, 1, none⟩ = some (.slice QA qn qc) := hr9.cell 1
          have c92 : x4.cell? ⟨w.heap.size + 1, 2, none⟩ = some (.slice QB qm qd) := hr9.cell 2
          have z8 := hr8.lt
          have z9 := hr9.lt
          go_wp2_with fail
          clear c80 c81 c82 c90 c91 c92 z8 z9
          go_ret
          exact ⟨rfl, BB⟩
        · subst hv
          clear hC HU HD
          have c80 : x2.cell? ⟨w.heap.size, 0, none⟩ = some (.bool na) := hr8.cell 0
          have c81 : x2.cell? ⟨w.heap.size, 1, none⟩ = some (.slice PA pn pc) := hr8.cell 1
          have c82 : x2.cell? ⟨w.heap.size, 2, none⟩ = some (.slice PB pm pd) := hr8.cell 2
          have c90 : x2.cell? ⟨w.heap.size + 1, 0, none⟩ = some (.bool nb) := hr9.cell 0
          have c91 : x2.cell? ⟨w.heap.size + 1, 1, none⟩ = some (.slice QA qn qc) := hr9.cell 1
          have c92 : x2.cell? ⟨w.heap.size + 1, 2, none⟩ = some (.slice QB qm qd) := hr9.cell 2
          have z8 := hr8.lt
          have z9 := hr9.lt
          go_wp2_with fail
          clear c80 c81 c82 c90 c91 c92 z8 z9
          refine (qcmp_any _ _ p' p q' q M _ (HQ.out.below BB) (HP.out.below BB) hM2 (by omega)).mono ?_
          rintro e x3 ⟨rfl, hb⟩
          replace hr8 := hr8.keep hb
          replace hr9 := hr9.keep hb
          replace htab := htab.below hb
          replace BB : Below w.heap.size w x3 := BB.trans (hb.mono BB.size)
          clear hb
          have c80 : x3.cell? ⟨w.heap.size, 0, none⟩ = some (.bool na) := hr8.cell 0
          have c81 : x3.cell? ⟨w.heap.size, 1, none⟩ = some (.slice PA pn pc) := hr8.cell 1
          have c82 : x3.cell? ⟨w.heap.size, 2, none⟩ = some (.slice PB pm pd) := hr8.cell 2
          have c90 : x3.cell? ⟨w.heap.size + 1, 0, none⟩ = some (.bool nb) := hr9.cell 0
          have c91 : x3.cell? ⟨w.heap.size + 1, 1, none⟩ = some (.slice QA qn qc) := hr9.cell 1
          have c92 : x3.cell? ⟨w.heap.size + 1, 2, none⟩ = some (.slice QB qm qd) := hr9.cell 2
          have z8 := hr8.lt
          have z9 := hr9.lt
          go_wp2_with fail
          clear c80 c81 c82 c90 c91 c92 z8 z9
          refine (awake_any _ htab).mono ?_
          rintro e x4 ⟨rfl, hb⟩
          replace hr8 := hr8.keep hb
          replace hr9 := hr9.keep hb
          replace htab := htab.below hb
          replace BB : Below w.heap.size w x4 := BB.trans (hb.mono BB.size)
          clear hb
          have c80 : x4.cell? ⟨w.heap.size, 0, none⟩ = some (.bool na) := hr8.cell 0
          have c81 : x4.cell? ⟨w.heap.size, 1, none⟩ = some (.slice PA pn pc) := hr8.cell 1
          have c82 : x4.cell? ⟨w.heap.size, 2, none⟩ = some (.slice PB pm pd) := hr8.cell 2
          have c90 : x4.cell? ⟨w.heap.size + 1, 0, none⟩ = some (.bool nb) := hr9.cell 0
          have c91 : x4.cell? ⟨w.heap.size + 1, 1, none⟩ = some (.slice QA qn qc) := hr9.cell 1
          have c92 : x4.cell? ⟨w.heap.size + 1, 2, none⟩ = some (.slice QB qm qd) := hr9.cell 2
          have z8 := hr8.lt
          have z9 := hr9.lt
          go_wp2_with fail
          clear c80 c81 c82 c90 c91 c92 z8 z9
          go_ret
          exact ⟨rfl, BB⟩
    · have u2 : (E2 != 0) = true := by rw [bne_iff_ne]; exact hE2
      rcases HI.out with hv | hv | hv
      · subst hv
        have c80 : x2.cell? ⟨w.heap.size, 0, none⟩ = some (.bool na) := hr8.cell 0
        have c81 : x2.cell? ⟨w.heap.size, 1, none⟩ = some (.slice PA pn pc) := hr8.cell 1
        have c82 : x2.cell? ⟨w.heap.size, 2, none⟩ = some (.slice PB pm pd) := hr8.cell 2
        have c90 : x2.cell? ⟨w.heap.size + 1, 0, none⟩ = some (.bool nb) := hr9.cell 0
        have c91 : x2.cell? ⟨w.heap.size + 1, 1, none⟩ = some (.slice QA qn qc) := hr9.cell 1
        have c92 : x2.cell? ⟨w.heap.size + 1, 2, none⟩ = some (.slice QB qm qd) := hr9.cell 2
        have z8 := hr8.lt
        have z9 := hr9.lt
        go_wp2_with fail
        clear c80 c81 c82 c90 c91 c92 z8 z9
        refine (awake_any _ htab).mono ?_
        rintro e x3 ⟨rfl, hb⟩
        replace hr8 := hr8.keep hb
        replace hr9 := hr9.keep hb
        replace htab := htab.below hb
        replace BB : Below w.heap.size w x3 := BB.trans (hb.mono BB.size)
        clear hb
        have c80 : x3.cell? ⟨w.heap.size, 0, none⟩ = some (.bool na) := hr8.cell 0
        have c81 : x3.cell? ⟨w.heap.size, 1, none⟩ = some (.slice PA pn pc) := hr8.cell 1
        have c82 : x3.cell? ⟨w.heap.size, 2, none⟩ = some (.slice PB pm pd) := hr8.cell 2
        have c90 : x3.cell? ⟨w.heap.size + 1, 0, none⟩ = some (.bool nb) := hr9.cell 0
        have c91 : x3.cell? ⟨w.heap.size + 1, 1, none⟩ = some (.slice QA qn qc) := hr9.cell 1
        have c92 : x3.cell? ⟨w.heap.size + 1, 2, none⟩ = some (.slice QB qm qd) := hr9.cell 2
        have z8 := hr8.lt
        have z9 := hr9.lt
        go_wp2_with fail
        clear c80 c81 c82 c90 c91 c92 z8 z9
        go_ret
        exact ⟨rfl, BB⟩
      · subst hv
        have c80 : x2.cell? ⟨w.heap.size, 0, none⟩ = some (.bool na) := hr8.cell 0
        have c81 : x2.cell? ⟨w.heap.size, 1, none⟩ = some (.slice PA pn pc) := hr8.cell 1
        have c82 : x2.cell? ⟨w.heap.size, 2, none⟩ = some (.slice PB pm pd) := hr8.cell 2
        have c90 : x2.cell? ⟨w.heap.size + 1, 0, none⟩ = some (.bool nb) := hr9.cell 0
        have c91 : x2.cell? ⟨w.heap.size + 1, 1, none⟩ = some (.slice QA qn qc) := hr9.cell 1
        have c92 : x2.cell? ⟨w.heap.size + 1, 2, none⟩ = some (.slice QB qm qd) := hr9.cell 2
        have z8 := hr8.lt
        have z9 := hr9.lt
        go_wp2_with fail
        clear c80 c81 c82 c90 c91 c92 z8 z9
        refine (awake_any _ htab).mono ?_
        rintro e x3 ⟨rfl, hb⟩
        replace hr8 := hr8.keep hb
        replace hr9 := hr9.keep hb
        replace htab := htab.below hb
        replace BB : Below w.heap.size w x3 := BB.trans (hb.mono BB.size)
        clear hb
        have c80 : x3.cell? ⟨w.heap.size, 0, none⟩ = some (.bool na) := hr8.cell 0
        have c81 : x3.cell? ⟨w.heap.size, 1, none⟩ = some (.slice PA pn pc) := hr8.cell 1
        have c82 : x3.cell? ⟨w.heap.size, 2, none⟩ = some (.slice PB pm pd) := hr8.cell 2
        have c90 : x3.cell? ⟨w.heap.size + 1, 0, none⟩ = some (.bool nb) := hr9.cell 0
        have c91 : x3.cell? ⟨w.heap.size + 1, 1, none⟩ = some (.slice QA qn qc) := hr9.cell 1
        have c92 : x3.cell? ⟨w.heap.size + 1, 2, none⟩ = some (.slice QB qm qd) := hr9.cell 2
        have z8 := hr8.lt
        have z9 := hr9.lt
        go_wp2_with fail
        clear c80 c81 c82 c90 c91 c92 z8 z9
        go_ret
        exact ⟨rfl, BB⟩
      · subst hv
        have c80 : x2.cell? ⟨w.heap.size, 0, none⟩ = some (.bool na) := hr8.cell 0
        have c81 : x2.cell? ⟨w.heap.size, 1, none⟩ = some (.slice PA pn pc) := hr8.cell 1
        have c82 : x2.cell? ⟨w.heap.size, 2, none⟩ = some (.slice PB pm pd) := hr8.cell 2
        have c90 : x2.cell? ⟨w.heap.size + 1, 0, none⟩ = some (.bool nb) := hr9.cell 0
        have c91 : x2.cell? ⟨w.heap.size + 1, 1, none⟩ = some (.slice QA qn qc) := hr9.cell 1
        have c92 : x2.cell? ⟨w.heap.size + 1, 2, none⟩ = some (.slice QB qm qd) := hr9.cell 2
        have z8 := hr8.lt
        have z9 := hr9.lt
        go_wp2_with fail
        clear c80 c81 c82 c90 c91 c92 z8 z9
        refine (awake_any _ htab).mono ?_
        rintro e x3 ⟨rfl, hb⟩
        replace hr8 := hr8.keep hb
        replace hr9 := hr9.keep hb
        replace htab := htab.below hb
        replace BB : Below w.heap.size w x3 := BB.trans (hb.mono BB.size)
        clear hb
        have c80 : x3.cell? ⟨w.heap.size, 0, none⟩ = some (.bool na) := hr8.cell 0
        have c81 : x3.cell? ⟨w.heap.size, 1, none⟩ = some (.slice PA pn pc) := hr8.cell 1
        have c82 : x3.cell? ⟨w.heap.size, 2, none⟩ = some (.slice PB pm pd) := hr8.cell 2
        have c90 : x3.cell? ⟨w.heap.size + 1, 0, none⟩ = some (.bool nb) := hr9.cell 0
        have c91 : x3.cell? ⟨w.heap.size + 1, 1, none⟩ = some (.slice QA qn qc) := hr9.cell 1
        have c92 : x3.cell? ⟨w.heap.size + 1, 2, none⟩ = some (.slice QB qm qd) := hr9.cell 2
        have z8 := hr8.lt
        have z9 := hr9.lt
        go_wp2_with fail
        clear c80 c81 c82 c90 c91 c92 z8 z9
        go_ret
        exact ⟨rfl, BB⟩
  · obtain rfl := HE.out hE1
    have u1 : (E1 != 0) = true := by rw [bne_iff_ne]; exact hE1
    have u3 : (E1 == 0) = false := by rw [beq_eq_false_iff_ne]; exact hE1
    have c80 : x2.cell? ⟨w.heap.size, 0, none⟩ = some (.bool na) := hr8.cell 0
    have c81 : x2.cell? ⟨w.heap.size, 1, none⟩ = some (.slice PA pn pc) := hr8.cell 1
    have c82 : x2.cell? ⟨w.heap.size, 2, none⟩ = some (.slice PB pm pd) := hr8.cell 2
    have c90 : x2.cell? ⟨w.heap.size + 1, 0, none⟩ = some (.bool nb) := hr9.cell 0
    have c91 : x2.cell? ⟨w.heap.size + 1, 1, none⟩ = some (.slice QA qn qc) := hr9.cell 1
    have c92 : x2.cell? ⟨w.heap.size + 1, 2, none⟩ = some (.slice QB qm qd) := hr9.cell 2
    have z8 := hr8.lt
    have z9 := hr9.lt
    go_wp2_with fail
    clear c80 c81 c82 c90 c91 c92 z8 z9
    refine (awake_any _ htab).mono ?_
    rintro e x3 ⟨rfl, hb⟩
    replace hr8 := hr8.keep hb
    replace hr9 := hr9.keep hb
    replace htab := htab.below hb
    replace BB : Below w.heap.size w x3 := BB.trans (hb.mono BB.size)
    clear hb
    have c80 : x3.cell? ⟨w.heap.size, 0, none⟩ = some (.bool na) := hr8.cell 0
    have c81 : x3.cell? ⟨w.heap.size, 1, none⟩ = some (.slice PA pn pc) := hr8.cell 1
    have c82 : x3.cell? ⟨w.heap.size, 2, none⟩ = some (.slice PB pm pd) := hr8.cell 2
    have c90 : x3.cell? ⟨w.heap.size + 1, 0, none⟩ = some (.bool nb) := hr9.cell 0
    have c91 : x3.cell? ⟨w.heap.size + 1, 1, none⟩ = some (.slice QA qn qc) := hr9.cell 1
    have c92 : x3.cell? ⟨w.heap.size + 1, 2, none⟩ = some (.slice QB qm qd) := hr9.cell 2
    have z8 := hr8.lt
    have z9 := hr9.lt
    go_wp2_with fail
    clear c80 c81 c82 c90 c91 c92 z8 z9
    go_ret
    exact ⟨rfl, BB⟩
end Go.Proofs.YtfoleamcaflfeaaDoor
