/- estimate.one, reaches; the law's part; slices of weights. estimate.Credible. estimate.Class. -/
import Derived.Test.YtfoleamcaflfeaaGreatDoorEsA
import Derived.Test.YtfoleamcaflfeaaGreatDoorRatQ
import Derived.Deep.CutRange
import Derived.Deep.DeepCutAuto
import Derived.Deep.Light
namespace Go.Proofs.YtfoleamcaflfeaaGreatDoor
open Go.RowKit
set_option linter.unusedVariables false

theorem flipZ_posE {p s : Int} (h : 0 < s) : flipZ p s = p := if_neg (by omega)
theorem cutW {t : TypeId} (ht : Tryz.prog.underlying t = some (.slice (Tryz.prog.elem t))) (hs1 : ∀ w, (sizeOf (Tryz.prog.elem t)).run Tryz.prog w = .ok 1 w) (A : Option Addr) (c : Nat) {ns : List Nat} {k m : Nat} {I J : Int} (hI : I = (k : Int)) (hJ : J = (m : Int)) (hk : k ≤ m) (hm : m ≤ ns.length) (hc : ns.length ≤ c) :
    ∃ X, (∀ w', (Instr.sliceAt t (.slice A ns.length c) (some (.int .i64 I)) (some (.int .i64 J)) none).run Tryz.prog w' = .ok (.slice X (m - k) (c - k)) w') ∧ (∀ w', (Instr.slice t (.slice A ns.length c) (some (.int .i64 I)) (some (.int .i64 J)) none).run Tryz.prog w' = .ok (.slice X (m - k) (c - k)) w') ∧ ∀ (L : Nat) (w : World), Wts w (.slice A ns.length c) ns L → Wts w (.slice X (m - k) (c - k)) ((ns.take m).drop k) L := by
  subst hI hJ
  have key : ∀ w', (Instr.slice t (.slice A ns.length c) (some (.int .i64 (k : Int))) (some (.int .i64 (m : Int))) none).run Tryz.prog w' = .ok (.slice (if c = k then A else A.map (·.add k)) (m - k) (c - k)) w' := by
    intro w'
    rw [run_slice_lh w' t A ns.length c ht .i64 .i64 k m (by omega) (by omega) (by omega), hs1]
    simp [sliced]
  refine ⟨_, fun w' => by rw [run_sliceAt_slice w' t _ _ _ _ ht]; exact key w', key, fun L w h => ?_⟩
  obtain ⟨A', c', us, hv, h1, h2, hs, hu⟩ := h
  injection hv with e1 e2 e3
  subst e1 e3
  have hl : ((ns.take m).drop k).length = m - k := by rw [List.length_drop, List.length_take]; omega
  refine ⟨_, _, (us.drop k).take (m - k), by rw [hl], by rw [hl]; omega, by omega, by rw [hl]; exact hs.cut (by omega) h1, fun i u hi => ?_⟩
  rw [List.getElem?_take] at hi
  split at hi
  · rename_i hlt
    rw [List.getElem?_drop] at hi
    have h3 := hu _ _ hi
    rw [List.getD_eq_getElem?_getD, List.getElem?_drop, List.getElem?_take, if_pos (by omega), ← List.getD_eq_getElem?_getD]
    exact h3
  · cases hi
set_option maxRecDepth 100000 in
set_option maxHeartbeats 8000000 in
theorem one_any (n d : Int) (w : World) (h1 : -9223372036854775808 ≤ n) (h2 : n ≤ 9223372036854775807) (hd0 : 0 < d) (hd1 : d ≤ 9223372036854775807) :
    Calls Tryz.prog 12 #[.int .i64 n, .int .i64 d] w fun e w' => ∃ x, e = .returned x ∧ RatF w.heap.size w' x (redP n d.toNat) (redQ n d.toNat) 2 ∧ Below w.heap.size w w' := by
  obtain ⟨W0, hW0⟩ : ∃ W0 : World, W0 = w.alloc (.cells #[.bool false, .slice none 0 0, .slice none 0 0] 28) := ⟨_, rfl⟩
  have r0 : Row W0 w.heap.size 28 [.bool false, .slice none 0 0, .slice none 0 0] := by
    rw [hW0]
    have := Row.new w 28 [.bool false, .slice none 0 0, .slice none 0 0]
    simpa using this
  have B0 : Below w.heap.size w W0 := by rw [hW0]; exact ((Below.refl _ _).alloc (Nat.le_refl _) _)
  go_enter Tryz.func12, Tryz.ntmps12
  go_wp2_with fail
  rw [← hW0]
  clear hW0
  have BB := B0
  have hr4 := r0
  clear B0 r0
  have c40 : W0.cell? ⟨w.heap.size, 0, none⟩ = some (.bool false) := hr4.cell 0
  have c41 : W0.cell? ⟨w.heap.size, 1, none⟩ = some (.slice none 0 0) := hr4.cell 1
  have c42 : W0.cell? ⟨w.heap.size, 2, none⟩ = some (.slice none 0 0) := hr4.cell 2
  have f40 : W0.frozen? ⟨w.heap.size, 0, none⟩ = false := hr4.frozen 0
  have f41 : W0.frozen? ⟨w.heap.size, 1, none⟩ = false := hr4.frozen 1
  have f42 : W0.frozen? ⟨w.heap.size, 2, none⟩ = false := hr4.frozen 2
  have z4 := hr4.lt
  go_wp2_with fail
  clear c40 c41 c42 f40 f41 f42 z4
  refine (qof_any n d _ h1 h2 hd0 hd1).mono ?_
  have hz6 := hr4.lt
  rintro e x1 ⟨vq, rfl, hvq, hb⟩
  replace hr4 := hr4.keep hb
  replace BB : Below w.heap.size w x1 := BB.trans (hb.mono BB.size)
  clear hb
  have hq' := hvq
  obtain ⟨mq, dq, eq, hmq, hdq, _, _⟩ := hq'
  subst eq
  obtain ⟨Aq, kq, cq, rfl⟩ := hmq.lim1.choose_spec.1.show_
  obtain ⟨Dq, lq, bq, rfl⟩ := hdq.lim1.choose_spec.1.show_
  clear hmq hdq
  have hl := lit_below x1 (.cells #[.bool (decide (redP n d.toNat < 0)), .slice Aq kq cq, .slice Dq lq bq] 28)
  have q4 := hr4.keep hl
  have c40 : (x1.alloc (.cells #[.bool (decide (redP n d.toNat < 0)), .slice Aq kq cq, .slice Dq lq bq] 28)).cell? ⟨w.heap.size, 0, none⟩ = some (.bool false) := q4.cell 0
  have f40 : (x1.alloc (.cells #[.bool (decide (redP n d.toNat < 0)), .slice Aq kq cq, .slice Dq lq bq] 28)).frozen? ⟨w.heap.size, 0, none⟩ = false := q4.frozen 0
  have c41 : (x1.alloc (.cells #[.bool (decide (redP n d.toNat < 0)), .slice Aq kq cq, .slice Dq lq bq] 28)).cell? ⟨w.heap.size, 1, none⟩ = some (.slice none 0 0) := q4.cell 1
  have f41 : (x1.alloc (.cells #[.bool (decide (redP n d.toNat < 0)), .slice Aq kq cq, .slice Dq lq bq] 28)).frozen? ⟨w.heap.size, 1, none⟩ = false := q4.frozen 1
  have c42 : (x1.alloc (.cells #[.bool (decide (redP n d.toNat < 0)), .slice Aq kq cq, .slice Dq lq bq] 28)).cell? ⟨w.heap.size, 2, none⟩ = some (.slice none 0 0) := q4.cell 2
  have f42 : (x1.alloc (.cells #[.bool (decide (redP n d.toNat < 0)), .slice Aq kq cq, .slice Dq lq bq] 28)).frozen? ⟨w.heap.size, 2, none⟩ = false := q4.frozen 2
  have z4 := q4.lt
  clear q4
  replace BB := BB.trans (hl.mono BB.size)
  replace hvq := hvq.below hl
  clear hl
  go_wp2_with fail
  refine bodyPost_ret (v := .agg #[.bool (decide (redP n d.toNat < 0)), .slice Aq kq cq, .slice Dq lq bq]) (by simp [results, Tryz.results12, go_sem, c40, c41, c42]) rfl ⟨_, rfl, ?_, ((BB.setCell (by simp) _).setCell (by simp) _).setCell (by simp) _⟩
  exact ((((hvq.set_ (a := ⟨w.heap.size, 0, none⟩) hz6 _).set_ (a := ⟨w.heap.size, 1, none⟩) hz6 _).set_ (a := ⟨w.heap.size, 2, none⟩) hz6 _).base (by omega))
set_option maxRecDepth 100000 in
set_option maxHeartbeats 8000000 in
theorem part_any (n d : Int) (w : World) (h1 : -9223372036854775808 ≤ n) (h2 : n ≤ 9223372036854775807) (hd0 : 0 < d) (hd1 : d ≤ 9223372036854775807) :
    Calls Tryz.prog 26 #[.int .i64 n, .int .i64 d] w fun e w' => ∃ x, e = .returned x ∧ RatF w.heap.size w' x (redP n d.toNat) (redQ n d.toNat) 2 ∧ Below w.heap.size w w' := by
  obtain ⟨W0, hW0⟩ : ∃ W0 : World, W0 = w.alloc (.cells #[.bool false, .slice none 0 0, .slice none 0 0] 28) := ⟨_, rfl⟩
  have r0 : Row W0 w.heap.size 28 [.bool false, .slice none 0 0, .slice none 0 0] := by
    rw [hW0]
    have := Row.new w 28 [.bool false, .slice none 0 0, .slice none 0 0]
    simpa using this
  have B0 : Below w.heap.size w W0 := by rw [hW0]; exact ((Below.refl _ _).alloc (Nat.le_refl _) _)
  go_enter Tryz.func26, Tryz.ntmps26
  go_wp2_with fail
  rw [← hW0]
  clear hW0
  have BB := B0
  have hr4 := r0
  clear B0 r0
  have c40 : W0.cell? ⟨w.heap.size, 0, none⟩ = some (.bool false) := hr4.cell 0
  have c41 : W0.cell? ⟨w.heap.size, 1, none⟩ = some (.slice none 0 0) := hr4.cell 1
  have c42 : W0.cell? ⟨w.heap.size, 2, none⟩ = some (.slice none 0 0) := hr4.cell 2
  have f40 : W0.frozen? ⟨w.heap.size, 0, none⟩ = false := hr4.frozen 0
  have f41 : W0.frozen? ⟨w.heap.size, 1, none⟩ = false := hr4.frozen 1
  have f42 : W0.frozen? ⟨w.heap.size, 2, none⟩ = false := hr4.frozen 2
  have z4 := hr4.lt
  go_wp2_with fail
  clear c40 c41 c42 f40 f41 f42 z4
  refine (qof_any n d _ h1 h2 hd0 hd1).mono ?_
  have hz6 := hr4.lt
  rintro e x1 ⟨vq, rfl, hvq, hb⟩
  replace hr4 := hr4.keep hb
  replace BB : Below w.heap.size w x1 := BB.trans (hb.mono BB.size)
  clear hb
  have hq' := hvq
  obtain ⟨mq, dq, eq, hmq, hdq, _, _⟩ := hq'
  subst eq
  obtain ⟨Aq, kq, cq, rfl⟩ := hmq.lim1.choose_spec.1.show_
  obtain ⟨Dq, lq, bq, rfl⟩ := hdq.lim1.choose_spec.1.show_
  clear hmq hdq
  have hl := lit_below x1 (.cells #[.bool (decide (redP n d.toNat < 0)), .slice Aq kq cq, .slice Dq lq bq] 28)
  have q4 := hr4.keep hl
  have c40 : (x1.alloc (.cells #[.bool (decide (redP n d.toNat < 0)), .slice Aq kq cq, .slice Dq lq bq] 28)).cell? ⟨w.heap.size, 0, none⟩ = some (.bool false) := q4.cell 0
  have f40 : (x1.alloc (.cells #[.bool (decide (redP n d.toNat < 0)), .slice Aq kq cq, .slice Dq lq bq] 28)).frozen? ⟨w.heap.size, 0, none⟩ = false := q4.frozen 0
  have c41 : (x1.alloc (.cells #[.bool (decide (redP n d.toNat < 0)), .slice Aq kq cq, .slice Dq lq bq] 28)).cell? ⟨w.heap.size, 1, none⟩ = some (.slice none 0 0) := q4.cell 1
  have f41 : (x1.alloc (.cells #[.bool (decide (redP n d.toNat < 0)), .slice Aq kq cq, .slice Dq lq bq] 28)).frozen? ⟨w.heap.size, 1, none⟩ = false := q4.frozen 1
  have c42 : (x1.alloc (.cells #[.bool (decide (redP n d.toNat < 0)), .slice Aq kq cq, .slice Dq lq bq] 28)).cell? ⟨w.heap.size, 2, none⟩ = some (.slice none 0 0) := q4.cell 2
  have f42 : (x1.alloc (.cells #[.bool (decide (redP n d.toNat < 0)), .slice Aq kq cq, .slice Dq lq bq] 28)).frozen? ⟨w.heap.size, 2, none⟩ = false := q4.frozen 2
  have z4 := q4.lt
  clear q4
  replace BB := BB.trans (hl.mono BB.size)
  replace hvq := hvq.below hl
  clear hl
  go_wp2_with fail
  refine bodyPost_ret (v := .agg #[.bool (decide (redP n d.toNat < 0)), .slice Aq kq cq, .slice Dq lq bq]) (by simp [results, Tryz.results26, go_sem, c40, c41, c42]) rfl ⟨_, rfl, ?_, ((BB.setCell (by simp) _).setCell (by simp) _).setCell (by simp) _⟩
  exact ((((hvq.set_ (a := ⟨w.heap.size, 0, none⟩) hz6 _).set_ (a := ⟨w.heap.size, 1, none⟩) hz6 _).set_ (a := ⟨w.heap.size, 2, none⟩) hz6 _).base (by omega))
/-- Some weights reach the share p/q of all. -/
def reachB (x s : Nat) (p : Int) (q : Nat) : Bool := decide (p * (s : Int) ≤ (x : Int) * (q : Int))
theorem reach_red {x s : Nat} {p : Int} {q : Nat} (hs : 0 < s) : decide (0 ≤ cmpZ (redP (x : Int) s * (q : Int)) (p * ((redQ (x : Int) s : Nat) : Int))) = reachB x s p q := by
  obtain ⟨m1, m2⟩ := red_mul (x : Int) s
  have g1 := gcd_pos (p := (x : Int)) hs
  generalize Nat.gcd (x : Int).natAbs s = g at *
  generalize redP (x : Int) s = a at *
  generalize redQ (x : Int) s = b at *
  have hg : 0 < (g : Int) := by omega
  have key : p * (b : Int) ≤ a * (q : Int) ↔ p * (s : Int) ≤ (x : Int) * (q : Int) := by
    rw [m1, m2, Int.natCast_mul, show p * ((b : Int) * (g : Int)) = p * (b : Int) * (g : Int) by rw [Int.mul_assoc], show a * (g : Int) * (q : Int) = a * (q : Int) * (g : Int) by rw [Int.mul_assoc, Int.mul_comm (g : Int), Int.mul_assoc]]
    exact (Int.mul_le_mul_right hg).symm
  unfold reachB cmpZ
  by_cases h : p * (b : Int) ≤ a * (q : Int)
  · rw [if_neg (by omega)]
    have h2 := key.1 h
    rw [decide_eq_true h2]
    split <;> simp
  · rw [if_pos (by omega)]
    have h2 : ¬ p * (s : Int) ≤ (x : Int) * (q : Int) := fun hh => h (key.2 hh)
    rw [decide_eq_false h2]
    simp
set_option maxRecDepth 100000 in
set_option maxHeartbeats 8000000 in
theorem reach_any (sv av lv : Value) (xs ns : List Nat) (L M : Nat) (p : Int) (q : Nat) (w : World) (hs : Wts w sv xs L) (ha : Wts w av ns L) (hlv : RatA w lv p q M) (h21 : xs.length ≤ 21) (h21' : ns.length ≤ 21) (hpos : 0 < ns.sum) (hLM : L ≤ 35184372088000 ∧ M ≤ 35184372088000) :
    Calls Tryz.prog 14 #[sv, av, lv] w fun e w' => e = .returned (.bool (reachB xs.sum ns.sum p q)) ∧ Below w.heap.size w w' := by
  obtain ⟨neg, LA, ln, lc, LB, lk, lb, rfl⟩ := hlv.show_
  obtain ⟨SA, sc, sus, hsv, _⟩ := id hs
  obtain ⟨WA, wc, wus, hav, _⟩ := id ha
  subst hsv hav
  obtain ⟨W0, hW0⟩ : ∃ W0 : World, W0 = w.alloc (.cells #[.bool neg, .slice LA ln lc, .slice LB lk lb] 28) := ⟨_, rfl⟩
  have r0 : Row W0 w.heap.size 28 [.bool neg, .slice LA ln lc, .slice LB lk lb] := by
    rw [hW0]
    have := Row.new w 28 [.bool neg, .slice LA ln lc, .slice LB lk lb]
    simpa using this
  have B0 : Below w.heap.size w W0 := by rw [hW0]; exact ((Below.refl _ _).alloc (Nat.le_refl _) _)
  go_enter Tryz.func14, Tryz.ntmps14
  go_wp2_with fail
  rw [← hW0]
  clear hW0
  have BB := B0
  have hr5 := r0
  clear B0 r0
  replace ha := ha.below BB
  replace hlv := hlv.below BB
  have c50 : W0.cell? ⟨w.heap.size, 0, none⟩ = some (.bool neg) := hr5.cell 0
  have c51 : W0.cell? ⟨w.heap.size, 1, none⟩ = some (.slice LA ln lc) := hr5.cell 1
  have c52 : W0.cell? ⟨w.heap.size, 2, none⟩ = some (.slice LB lk lb) := hr5.cell 2
  have z5 := hr5.lt
  go_wp2_with fail
  clear c50 c51 c52 z5
  refine (esum_any _ xs L _ (hs.below BB) (by omega) h21).mono ?_
  rintro e x1 ⟨v6, rfl, hn6, hb⟩
  replace hr5 := hr5.keep hb
  replace ha := ha.below hb
  replace hlv := hlv.below hb
  replace BB : Below w.heap.size w x1 := BB.trans (hb.mono BB.size)
  clear hb
  obtain ⟨l6, hl6, _, hv6, hk6⟩ := hn6
  obtain ⟨⟨A6, c6, rfl, _, _, _⟩, _⟩ := id hl6
  have c50 : x1.cell? ⟨w.heap.size, 0, none⟩ = some (.bool neg) := hr5.cell 0
  have c51 : x1.cell? ⟨w.heap.size, 1, none⟩ = some (.slice LA ln lc) := hr5.cell 1
  have c52 : x1.cell? ⟨w.heap.size, 2, none⟩ = some (.slice LB lk lb) := hr5.cell 2
  have z5 := hr5.lt
  go_wp2_with fail
  clear c50 c51 c52 z5
  refine (imake_any false _ l6 _ hl6 (by omega)).mono ?_
  rintro e x2 ⟨v8, rfl, hv8, hb⟩
  replace hr5 := hr5.keep hb
  replace ha := ha.below hb
  replace hlv := hlv.below hb
  replace BB : Below w.heap.size w x2 := BB.trans (hb.mono BB.size)
  clear hb
  clear hl6
  have c50 : x2.cell? ⟨w.heap.size, 0, none⟩ = some (.bool neg) := hr5.cell 0
  have c51 : x2.cell? ⟨w.heap.size, 1, none⟩ = some (.slice LA ln lc) := hr5.cell 1
  have c52 : x2.cell? ⟨w.heap.size, 2, none⟩ = some (.slice LB lk lb) := hr5.cell 2
  have z5 := hr5.lt
  go_wp2_with fail
  clear c50 c51 c52 z5
  refine (esum_any _ ns L _ ha (by omega) h21').mono ?_
  rintro e x3 ⟨v7, rfl, hn7, hb⟩
  replace hr5 := hr5.keep hb
  replace ha := ha.below hb
  replace hlv := hlv.below hb
  replace hv8 := hv8.below hb
  replace BB : Below w.heap.size w x3 := BB.trans (hb.mono BB.size)
  clear hb
  obtain ⟨l7, hl7, _, hv7, hk7⟩ := hn7
  obtain ⟨⟨A7, c7, rfl, _, _, _⟩, _⟩ := id hl7
  have c50 : x3.cell? ⟨w.heap.size, 0, none⟩ = some (.bool neg) := hr5.cell 0
  have c51 : x3.cell? ⟨w.heap.size, 1, none⟩ = some (.slice LA ln lc) := hr5.cell 1
  have c52 : x3.cell? ⟨w.heap.size, 2, none⟩ = some (.slice LB lk lb) := hr5.cell 2
  have z5 := hr5.lt
  go_wp2_with fail
  clear c50 c51 c52 z5
  refine (imake_any false _ l7 _ hl7 (by omega)).mono ?_
  rintro e x4 ⟨v9, rfl, hv9, hb⟩
  replace hr5 := hr5.keep hb
  replace ha := ha.below hb
  replace hlv := hlv.below hb
  replace hv8 := hv8.below hb
  replace BB : Below w.heap.size w x4 := BB.trans (hb.mono BB.size)
  clear hb
  clear hl7
  have hsb : sg false (val l7) = (ns.sum : Int) := by rw [hv7]; rfl
  have hsne : sg false (val l7) ≠ 0 := by rw [hsb]; omega
  have hfl1 : flipZ (sg false (val l6)) (sg false (val l7)) = (xs.sum : Int) := by rw [flipZ_posE (by rw [hsb]; omega), hv6]; rfl
  have hfl2 : (sg false (val l7)).natAbs = ns.sum := by rw [hsb]; rfl
  clear hsb hv6 hv7
  have c50 : x4.cell? ⟨w.heap.size, 0, none⟩ = some (.bool neg) := hr5.cell 0
  have c51 : x4.cell? ⟨w.heap.size, 1, none⟩ = some (.slice LA ln lc) := hr5.cell 1
  have c52 : x4.cell? ⟨w.heap.size, 2, none⟩ = some (.slice LB lk lb) := hr5.cell 2
  have z5 := hr5.lt
  go_wp2_with fail
  clear c50 c51 c52 z5
  refine (qmake_any _ _ (sg false (val l6)) (sg false (val l7)) (L + 21) (L + 21) _ (hv8.intA.mono (by omega)) (hv9.intA.mono (by omega)) (by omega) (by omega) hsne).mono ?_
  rintro e x5 ⟨vq, rfl, hvq, hb⟩
  replace hr5 := hr5.keep hb
  replace ha := ha.below hb
  replace hlv := hlv.below hb
  replace hv8 := hv8.below hb
  replace hv9 := hv9.below hb
  replace BB : Below w.heap.size w x5 := BB.trans (hb.mono BB.size)
  clear hb
  rw [hfl1, hfl2] at hvq
  have hq' := hvq
  obtain ⟨mq, dq, eq, hmq, hdq, _, _⟩ := hq'
  subst eq
  obtain ⟨Aq, kq, cq, rfl⟩ := hmq.lim1.choose_spec.1.show_
  obtain ⟨Dq, lq, bq, rfl⟩ := hdq.lim1.choose_spec.1.show_
  clear hmq hdq
  clear hv8 hv9
  clear ha
  obtain ⟨g7, hg7⟩ : ∃ g, x5.heap.size = g := ⟨_, rfl⟩
  have hr7 : Row (x5.alloc (.cells #[.bool (decide (redP (xs.sum : Int) ns.sum < 0)), .slice Aq kq cq, .slice Dq lq bq] 28)) g7 28 [.bool (decide (redP (xs.sum : Int) ns.sum < 0)), .slice Aq kq cq, .slice Dq lq bq] := row_at hg7
  have hl := lit_below x5 (.cells #[.bool (decide (redP (xs.sum : Int) ns.sum < 0)), .slice Aq kq cq, .slice Dq lq bq] 28)
  have o5_7 : w.heap.size < g7 := by have := hr5.lt; omega
  have ob_7 : w.heap.size ≤ g7 := by have := BB.size; omega
  have c50 : x5.cell? ⟨w.heap.size, 0, none⟩ = some (.bool neg) := hr5.cell 0
  have c51 : x5.cell? ⟨w.heap.size, 1, none⟩ = some (.slice LA ln lc) := hr5.cell 1
  have c52 : x5.cell? ⟨w.heap.size, 2, none⟩ = some (.slice LB lk lb) := hr5.cell 2
  have d50 : (x5.alloc (.cells #[.bool (decide (redP (xs.sum : Int) ns.sum < 0)), .slice Aq kq cq, .slice Dq lq bq] 28)).cell? ⟨w.heap.size, 0, none⟩ = some (.bool neg) := (hr5.alloc _).cell 0
  have d51 : (x5.alloc (.cells #[.bool (decide (redP (xs.sum : Int) ns.sum < 0)), .slice Aq kq cq, .slice Dq lq bq] 28)).cell? ⟨w.heap.size, 1, none⟩ = some (.slice LA ln lc) := (hr5.alloc _).cell 1
  have d52 : (x5.alloc (.cells #[.bool (decide (redP (xs.sum : Int) ns.sum < 0)), .slice Aq kq cq, .slice Dq lq bq] 28)).cell? ⟨w.heap.size, 2, none⟩ = some (.slice LB lk lb) := (hr5.alloc _).cell 2
  have e0 : (x5.alloc (.cells #[.bool (decide (redP (xs.sum : Int) ns.sum < 0)), .slice Aq kq cq, .slice Dq lq bq] 28)).cell? ⟨g7, 0, none⟩ = some (.bool (decide (redP (xs.sum : Int) ns.sum < 0))) := hr7.cell 0
  have e1 : (x5.alloc (.cells #[.bool (decide (redP (xs.sum : Int) ns.sum < 0)), .slice Aq kq cq, .slice Dq lq bq] 28)).cell? ⟨g7, 1, none⟩ = some (.slice Aq kq cq) := hr7.cell 1
  have e2 : (x5.alloc (.cells #[.bool (decide (redP (xs.sum : Int) ns.sum < 0)), .slice Aq kq cq, .slice Dq lq bq] 28)).cell? ⟨g7, 2, none⟩ = some (.slice Dq lq bq) := hr7.cell 2
  go_wp2_with fail
  clear c50 c51 c52 d50 d51 d52 e0 e1 e2
  clear hg7
  generalize (x5.alloc (.cells #[.bool (decide (redP (xs.sum : Int) ns.sum < 0)), .slice Aq kq cq, .slice Dq lq bq] 28)) = x6 at *
  replace hr5 := hr5.keep hl
  replace hlv := hlv.below hl
  replace hvq := hvq.below hl
  replace BB : Below w.heap.size w x6 := BB.trans (hl.mono BB.size)
  clear hl
  refine (qcmp_any _ _ _ _ _ _ (max (L + 25) M) _ ((hvq.ratA (redQ_pos hpos)).mono (by omega)) (hlv.mono (by omega)) (by omega) (by omega)).mono ?_
  rintro e x7 ⟨rfl, hb⟩
  replace hr5 := hr5.keep hb
  replace hlv := hlv.below hb
  replace hvq := hvq.below hb
  replace hr7 := hr7.keep hb
  replace BB : Below w.heap.size w x7 := BB.trans (hb.mono BB.size)
  clear hb
  clear hvq hlv
  have c50 : x7.cell? ⟨w.heap.size, 0, none⟩ = some (.bool neg) := hr5.cell 0
  have c51 : x7.cell? ⟨w.heap.size, 1, none⟩ = some (.slice LA ln lc) := hr5.cell 1
  have c52 : x7.cell? ⟨w.heap.size, 2, none⟩ = some (.slice LB lk lb) := hr5.cell 2
  have c70 : x7.cell? ⟨g7, 0, none⟩ = some (.bool (decide (redP (xs.sum : Int) ns.sum < 0))) := hr7.cell 0
  have c71 : x7.cell? ⟨g7, 1, none⟩ = some (.slice Aq kq cq) := hr7.cell 1
  have c72 : x7.cell? ⟨g7, 2, none⟩ = some (.slice Dq lq bq) := hr7.cell 2
  have z5 := hr5.lt
  have z7 := hr7.lt
  go_wp2_with fail
  clear c50 c51 c52 c70 c71 c72 z5 z7
  go_ret
  exact ⟨by rw [← reach_red hpos]; rfl, BB⟩
end Go.Proofs.YtfoleamcaflfeaaGreatDoor
namespace Go.Proofs.YtfoleamcaflfeaaGreatDoor
open Go.RowKit
set_option linter.unusedVariables false

/-- The next lower end. -/
def nextL (ns : List Nat) (lo hi : Nat) : Nat := if ns.getD lo 0 < ns.getD hi 0 then lo + 1 else lo
/-- The next higher end. -/
def nextH (ns : List Nat) (lo hi : Nat) : Nat := if ns.getD lo 0 < ns.getD hi 0 then hi else hi - 1
/-- The ends of the interval, from lo and hi on. -/
def credG (ns : List Nat) (p : Int) (q : Nat) : Nat → Nat → Nat → Nat × Nat
  | 0, lo, hi => (lo, hi)
  | f + 1, lo, hi => if reachB (sumR ns (nextL ns lo hi) (nextH ns lo hi + 1)) ns.sum p q = true then credG ns p q f (nextL ns lo hi) (nextH ns lo hi) else (lo, hi)
/-- The first rule that the arguments of Credible violate. -/
def credE (ns : List Nat) (p : Int) (q : Nat) : Int := if chkS ns ≠ 0 then chkS ns else if p < 0 ∨ (q : Int) < p then 3 else 0
/-- The ends that Credible returns. -/
def credV (ns : List Nat) (p : Int) (q : Nat) : Nat × Nat := if credE ns p q = 0 then credG ns p q (ns.length - 1) 0 (ns.length - 1) else (0, 0)
theorem credE_chk {ns : List Nat} {p : Int} {q : Nat} (h : chkS ns ≠ 0) : credE ns p q = chkS ns := if_pos h
theorem credE_bad {ns : List Nat} {p : Int} {q : Nat} (h : chkS ns = 0) (h2 : p < 0 ∨ (q : Int) < p) : credE ns p q = 3 := by unfold credE; rw [if_neg (by simpa using h), if_pos h2]
theorem credE_ok {ns : List Nat} {p : Int} {q : Nat} (h : chkS ns = 0) (h2 : 0 ≤ p) (h3 : p ≤ (q : Int)) : credE ns p q = 0 := by unfold credE; rw [if_neg (by simpa using h), if_neg (by omega)]
theorem keep3e {W w' : World} {g : Nat} {x y z : Value} (l : g < W.heap.size) (h0 : W.cell? ⟨g, 0, none⟩ = some x) (h1 : W.cell? ⟨g, 1, none⟩ = some y) (h2 : W.cell? ⟨g, 2, none⟩ = some z) (hb : Below W.heap.size W w') :
    w'.cell? ⟨g, 0, none⟩ = some x ∧ w'.cell? ⟨g, 1, none⟩ = some y ∧ w'.cell? ⟨g, 2, none⟩ = some z := ⟨(hb.cell l).trans h0, (hb.cell l).trans h1, (hb.cell l).trans h2⟩
theorem cmpZ_pos (a b : Int) : decide (0 < cmpZ a b) = decide (b < a) := by
  unfold cmpZ
  by_cases h1 : a < b
  · rw [if_pos h1]; have : ¬ b < a := by omega
    simp [this]
  · rw [if_neg h1]
    by_cases h2 : b < a
    · rw [if_pos h2]; simp [h2]
    · rw [if_neg h2]; simp [h2]
theorem cmpZ_le0 (a b : Int) : decide (cmpZ a b ≤ 0) = decide (a ≤ b) := by
  unfold cmpZ
  by_cases h1 : a < b
  · rw [if_pos h1]; have : a ≤ b := by omega
    simp [this]
  · rw [if_neg h1]
    by_cases h2 : b < a
    · rw [if_pos h2]; have : ¬ a ≤ b := by omega
      simp [this]
    · rw [if_neg h2]; have : a ≤ b := by omega
      simp [this]
theorem neg_lt (a b : Nat) : decide (cmpN a b < 0) = decide (a < b) := by
  unfold cmpN
  by_cases h1 : a < b
  · rw [if_pos h1]; simp [h1]
  · rw [if_neg h1]
    by_cases h2 : b < a
    · rw [if_pos h2]; simp [h1]
    · rw [if_neg h2]; simp [h1]
theorem sgnZ_neg (p : Int) : decide (sgnZ p < 0) = decide (p < 0) := by
  unfold sgnZ
  split
  · simp [*]
  · rename_i h
    split
    · have : ¬ p < 0 := h
      simp [this]
    · have : ¬ p < 0 := h
      simp [this]
set_option maxRecDepth 100000 in
set_option maxHeartbeats 16000000 in
theorem ecred_any (wv lv : Value) (ns : List Nat) (L M : Nat) (p : Int) (q : Nat) (w : World) (hw : Wts w wv ns L) (hlv : RatA w lv p q M) (hM : 2 ≤ M) (hLM : L ≤ 35184372088000 ∧ M ≤ 35184372088000) :
    Calls Tryz.prog 4 #[wv, lv] w fun e w' => e = .returned (.tuple #[.int .i64 ((credV ns p q).1 : Int), .int .i64 ((credV ns p q).2 : Int), .int .i64 (credE ns p q)]) ∧ Below w.heap.size w w' := by
  have HC := Lib.hid (fun (W : World) (h : Below w.heap.size w W) => echeck_any wv ns L W (hw.below h) (by omega))
  have HW := Lib.hid hw
  have HQ : 0 < q := hlv.pos
  obtain ⟨neg, LA, ln, lc, LB, lk, lb, rfl⟩ := hlv.show_
  have HL := Lib.hid hlv
  obtain ⟨WA, wcp, us, rfl, hwc, hwm, hws, hwu⟩ := hw
  have HWU := Lib.hid hwu
  unfold maxLen at hwm
  clear hwu hlv
  obtain ⟨W0, hW0⟩ : ∃ W0 : World, W0 = w.alloc (.cells #[.bool neg, .slice LA ln lc, .slice LB lk lb] 28) := ⟨_, rfl⟩
  have r0 : Row W0 w.heap.size 28 [.bool neg, .slice LA ln lc, .slice LB lk lb] := by
    rw [hW0]
    exact Row.new w 28 [.bool neg, .slice LA ln lc, .slice LB lk lb]
  have B0 : Below w.heap.size w W0 := by rw [hW0]; exact (Below.refl _ _).alloc (Nat.le_refl _) _
  by_cases hE : chkS ns = 0
  · obtain ⟨h21, hpos⟩ := chkS_zero hE
    by_cases h1 : p < 0
    · have HV1 : credE ns p q = 3 := credE_bad hE (.inl h1)
      have HV2 : credV ns p q = (0, 0) := by unfold credV; rw [HV1]; rfl
      rw [HV1, HV2]
      rw [hE] at HC
      have hsg : sgnZ p = -1 := if_pos h1
      clear HV1 HV2
      have c00 : W0.cell? ⟨w.heap.size, 0, none⟩ = some (.bool neg) := r0.cell 0
      have c01 : W0.cell? ⟨w.heap.size, 1, none⟩ = some (.slice LA ln lc) := r0.cell 1
      have c02 : W0.cell? ⟨w.heap.size, 2, none⟩ = some (.slice LB lk lb) := r0.cell 2
      have z0 := r0.lt
      go_enter Tryz.func4, Tryz.ntmps4
      go_wp2_with fail
      rw [← hW0]
      clear hW0
      go_wp2_with fail
      clear c00 c01 c02 z0
      refine (HC.out _ B0).mono ?_
      rintro e w1 ⟨rfl, hb⟩
      clear HC
      replace r0 := r0.keep hb
      have BB : Below w.heap.size w w1 := B0.trans (hb.mono B0.size)
      clear hb B0
      have c00 : w1.cell? ⟨w.heap.size, 0, none⟩ = some (.bool neg) := r0.cell 0
      have c01 : w1.cell? ⟨w.heap.size, 1, none⟩ = some (.slice LA ln lc) := r0.cell 1
      have c02 : w1.cell? ⟨w.heap.size, 2, none⟩ = some (.slice LB lk lb) := r0.cell 2
      have z0 := r0.lt
      have HL1 : Hid (RatA w1 (.agg #[.bool neg, .slice LA ln lc, .slice LB lk lb]) p q M) := HL.out.below BB
      go_wp2_with fail
      go_cut [25] (fun s0 wx => s0 = .bool true ∧ Below w1.heap.size w1 wx)
      case first =>
        go_region_law (first | (go_simp; (go_at_call 10; ((with_reducible refine (qsign_any _ p q M _ (HL1.out.below ?_) hM).mono ?_); (repeat (first | with_reducible exact Below.refl _ _ | with_reducible refine bl_call hq2 ?_ | with_reducible refine bl_call ho2 ?_ | with_reducible refine bl_call hq1 ?_ | with_reducible refine bl_call ho1 ?_ | with_reducible refine bl_call hs0 ?_ | with_reducible refine below_drewN ?_ _ | with_reducible refine bl_alloc ?_ _ | with_reducible refine bl_drew ?_)); rintro e ws0 ⟨rfl, hs0⟩; (try rw [hsg])))))
        all_goals go_wp2_with fail
        all_goals go_meet
        all_goals go_light
        all_goals refine ⟨?_, ?_⟩
        all_goals first | rfl | (rw [t2]; done) | (simp only [t2]; done) | (repeat (first | with_reducible exact Below.refl _ _ | with_reducible refine bl_call hq2 ?_ | with_reducible refine bl_call ho2 ?_ | with_reducible refine bl_call hq1 ?_ | with_reducible refine bl_call ho1 ?_ | with_reducible refine bl_call hs0 ?_ | with_reducible refine below_drewN ?_ _ | with_reducible refine bl_alloc ?_ _ | with_reducible refine bl_drew ?_))
      case rest =>
        obtain ⟨rfl, hbc⟩ := hcut
        obtain ⟨w2, hw2⟩ : ∃ x, x = wc := ⟨_, rfl⟩
        rw [← hw2] at hbc ⊢
        clear hw2 c00 c01 c02 z0
        go_wp2_with fail
        refine bodyPost_ret (v := .tuple #[.int .i64 0, .int .i64 0, .int .i64 3]) (by simp [results, Tryz.results4, go_sem]) rfl ⟨rfl, BB.trans (hbc.mono BB.size)⟩
    · have t1 : decide (sgnZ p < 0) = false := by rw [sgnZ_neg]; exact decide_eq_false h1
      by_cases h2 : (q : Int) < p
      · have HV1 : credE ns p q = 3 := credE_bad hE (.inr h2)
        have HV2 : credV ns p q = (0, 0) := by unfold credV; rw [HV1]; rfl
        rw [HV1, HV2]
        rw [hE] at HC
        have t2 : decide (0 < cmpZ p (q : Int)) = true := by rw [cmpZ_pos]; exact decide_eq_true (by omega)
        clear HV1 HV2
        have c00 : W0.cell? ⟨w.heap.size, 0, none⟩ = some (.bool neg) := r0.cell 0
        have c01 : W0.cell? ⟨w.heap.size, 1, none⟩ = some (.slice LA ln lc) := r0.cell 1
        have c02 : W0.cell? ⟨w.heap.size, 2, none⟩ = some (.slice LB lk lb) := r0.cell 2
        have z0 := r0.lt
        go_enter Tryz.func4, Tryz.ntmps4
        go_wp2_with fail
        rw [← hW0]
        clear hW0
        go_wp2_with fail
        clear c00 c01 c02 z0
        refine (HC.out _ B0).mono ?_
        rintro e w1 ⟨rfl, hb⟩
        clear HC
        replace r0 := r0.keep hb
        have BB : Below w.heap.size w w1 := B0.trans (hb.mono B0.size)
        clear hb B0
        have c00 : w1.cell? ⟨w.heap.size, 0, none⟩ = some (.bool neg) := r0.cell 0
        have c01 : w1.cell? ⟨w.heap.size, 1, none⟩ = some (.slice LA ln lc) := r0.cell 1
        have c02 : w1.cell? ⟨w.heap.size, 2, none⟩ = some (.slice LB lk lb) := r0.cell 2
        have z0 := r0.lt
        have HL1 : Hid (RatA w1 (.agg #[.bool neg, .slice LA ln lc, .slice LB lk lb]) p q M) := HL.out.below BB
        go_wp2_with fail
        go_cut [25] (fun s0 wx => s0 = .bool true ∧ Below w1.heap.size w1 wx)
        case first =>
          go_region_held3 (fun w' => w'.cell? ⟨w.heap.size, 0, none⟩ = some (.bool neg) ∧ w'.cell? ⟨w.heap.size, 1, none⟩ = some (.slice LA ln lc) ∧ w'.cell? ⟨w.heap.size, 2, none⟩ = some (.slice LB lk lb))
            ((refine keep3e z0 c00 c01 c02 ?_; (repeat (first | with_reducible exact Below.refl _ _ | with_reducible refine bl_call hq2 ?_ | with_reducible refine bl_call ho2 ?_ | with_reducible refine bl_call hq1 ?_ | with_reducible refine bl_call ho1 ?_ | with_reducible refine bl_call hs0 ?_ | with_reducible refine below_drewN ?_ _ | with_reducible refine bl_alloc ?_ _ | with_reducible refine bl_drew ?_)); done))
            (first
              | (go_at_call 10; ((with_reducible refine (qsign_any _ p q M _ (HL1.out.below ?_) hM).mono ?_); (repeat (first | with_reducible exact Below.refl _ _ | with_reducible refine bl_call hq2 ?_ | with_reducible refine bl_call ho2 ?_ | with_reducible refine bl_call hq1 ?_ | with_reducible refine bl_call ho1 ?_ | with_reducible refine bl_call hs0 ?_ | with_reducible refine below_drewN ?_ _ | with_reducible refine bl_alloc ?_ _ | with_reducible refine bl_drew ?_)); rintro e ws0 ⟨rfl, hs0⟩; (try rw [hsg]))) 
              | (go_at_call 12; ((with_reducible refine (one_any 1 1 _ (by decide) (by decide) (by decide) (by decide)).mono ?_); rintro e wo1 ⟨vo1, rfl, hvo1, ho1⟩; rw [show redP 1 (1 : Int).toNat = 1 by decide +kernel, show redQ 1 (1 : Int).toNat = 1 by decide +kernel] at hvo1)) 
              | (go_at_call 11; ((with_reducible refine (qcmp_any _ _ p 1 q 1 M _ (HL1.out.below ?_) (((hvo1.ratA (by decide)).mono hM).below ?_) hM (by omega)).mono ?_); (repeat (first | with_reducible exact Below.refl _ _ | with_reducible refine bl_call hq2 ?_ | with_reducible refine bl_call ho2 ?_ | with_reducible refine bl_call hq1 ?_ | with_reducible refine bl_call ho1 ?_ | with_reducible refine bl_call hs0 ?_ | with_reducible refine below_drewN ?_ _ | with_reducible refine bl_alloc ?_ _ | with_reducible refine bl_drew ?_)); (repeat (first | with_reducible exact Below.refl _ _ | with_reducible refine bl_call hq2 ?_ | with_reducible refine bl_call ho2 ?_ | with_reducible refine bl_call hq1 ?_ | with_reducible refine bl_call ho1 ?_ | with_reducible refine bl_call hs0 ?_ | with_reducible refine below_drewN ?_ _ | with_reducible refine bl_alloc ?_ _ | with_reducible refine bl_drew ?_)); rintro e wq1 ⟨rfl, hq1⟩)))
          all_goals go_wp2_with fail
          all_goals go_meet
          all_goals go_light
          all_goals refine ⟨?_, ?_⟩
          all_goals first | rfl | (rw [t2]; done) | (simp only [t2]; done) | (repeat (first | with_reducible exact Below.refl _ _ | with_reducible refine bl_call hq2 ?_ | with_reducible refine bl_call ho2 ?_ | with_reducible refine bl_call hq1 ?_ | with_reducible refine bl_call ho1 ?_ | with_reducible refine bl_call hs0 ?_ | with_reducible refine below_drewN ?_ _ | with_reducible refine bl_alloc ?_ _ | with_reducible refine bl_drew ?_))
        case rest =>
          obtain ⟨rfl, hbc⟩ := hcut
          obtain ⟨w2, hw2⟩ : ∃ x, x = wc := ⟨_, rfl⟩
          rw [← hw2] at hbc ⊢
          clear hw2 c00 c01 c02 z0
          go_wp2_with fail
          refine bodyPost_ret (v := .tuple #[.int .i64 0, .int .i64 0, .int .i64 3]) (by simp [results, Tryz.results4, go_sem]) rfl ⟨rfl, BB.trans (hbc.mono BB.size)⟩
      · have HV1 : credE ns p q = 0 := credE_ok hE (by omega) (by omega)
        have HV2 : Hid (credV ns p q = credG ns p q (ns.length - 1) 0 (ns.length - 1)) := by unfold Hid credV; rw [HV1]; rfl
        rw [HV1]
        rw [hE] at HC
        have t2 : decide (0 < cmpZ p (q : Int)) = false := by rw [cmpZ_pos]; exact decide_eq_false (by omega)
        have hn0 : 0 < ns.length := by
          rcases ns with _ | ⟨x, ns⟩
          · simp at hpos
          · simp
        clear HV1 hE
        obtain ⟨n, hn⟩ : ∃ n, ns.length = n := ⟨_, rfl⟩
        have HN := Lib.hid hn
        rw [hn] at hws hwc h21 HC HV2 hn0 HW ⊢
        clear hn
        clear h1 h2
        have c00 : W0.cell? ⟨w.heap.size, 0, none⟩ = some (.bool neg) := r0.cell 0
        have c01 : W0.cell? ⟨w.heap.size, 1, none⟩ = some (.slice LA ln lc) := r0.cell 1
        have c02 : W0.cell? ⟨w.heap.size, 2, none⟩ = some (.slice LB lk lb) := r0.cell 2
        have z0 := r0.lt
        go_enter Tryz.func4, Tryz.ntmps4
        go_wp2_with fail
        rw [← hW0]
        clear hW0
        go_wp2_with fail
        clear c00 c01 c02 z0
        refine (HC.out _ B0).mono ?_
        rintro e w1 ⟨rfl, hb⟩
        clear HC
        replace r0 := r0.keep hb
        have BB : Below w.heap.size w w1 := B0.trans (hb.mono B0.size)
        clear hb B0
        have c00 : w1.cell? ⟨w.heap.size, 0, none⟩ = some (.bool neg) := r0.cell 0
        have c01 : w1.cell? ⟨w.heap.size, 1, none⟩ = some (.slice LA ln lc) := r0.cell 1
        have c02 : w1.cell? ⟨w.heap.size, 2, none⟩ = some (.slice LB lk lb) := r0.cell 2
        have z0 := r0.lt
        have HL1 : Hid (RatA w1 (.agg #[.bool neg, .slice LA ln lc, .slice LB lk lb]) p q M) := HL.out.below BB
        go_wp2_with fail
        go_cut [25] (fun s0 wx => s0 = .bool false ∧ Below w1.heap.size w1 wx)
        case first =>
          go_region_held3 (fun w' => w'.cell? ⟨w.heap.size, 0, none⟩ = some (.bool neg) ∧ w'.cell? ⟨w.heap.size, 1, none⟩ = some (.slice LA ln lc) ∧ w'.cell? ⟨w.heap.size, 2, none⟩ = some (.slice LB lk lb))
            ((refine keep3e z0 c00 c01 c02 ?_; (repeat (first | with_reducible exact Below.refl _ _ | with_reducible refine bl_call hq2 ?_ | with_reducible refine bl_call ho2 ?_ | with_reducible refine bl_call hq1 ?_ | with_reducible refine bl_call ho1 ?_ | with_reducible refine bl_call hs0 ?_ | with_reducible refine below_drewN ?_ _ | with_reducible refine bl_alloc ?_ _ | with_reducible refine bl_drew ?_)); done))
            (first
              | (go_at_call 10; ((with_reducible refine (qsign_any _ p q M _ (HL1.out.below ?_) hM).mono ?_); (repeat (first | with_reducible exact Below.refl _ _ | with_reducible refine bl_call hq2 ?_ | with_reducible refine bl_call ho2 ?_ | with_reducible refine bl_call hq1 ?_ | with_reducible refine bl_call ho1 ?_ | with_reducible refine bl_call hs0 ?_ | with_reducible refine below_drewN ?_ _ | with_reducible refine bl_alloc ?_ _ | with_reducible refine bl_drew ?_)); rintro e ws0 ⟨rfl, hs0⟩; (try rw [hsg]))) 
              | (go_at_call 12; ((with_reducible refine (one_any 1 1 _ (by decide) (by decide) (by decide) (by decide)).mono ?_); rintro e wo1 ⟨vo1, rfl, hvo1, ho1⟩; rw [show redP 1 (1 : Int).toNat = 1 by decide +kernel, show redQ 1 (1 : Int).toNat = 1 by decide +kernel] at hvo1)) 
              | (go_at_call 11; ((with_reducible refine (qcmp_any _ _ p 1 q 1 M _ (HL1.out.below ?_) (((hvo1.ratA (by decide)).mono hM).below ?_) hM (by omega)).mono ?_); (repeat (first | with_reducible exact Below.refl _ _ | with_reducible refine bl_call hq2 ?_ | with_reducible refine bl_call ho2 ?_ | with_reducible refine bl_call hq1 ?_ | with_reducible refine bl_call ho1 ?_ | with_reducible refine bl_call hs0 ?_ | with_reducible refine below_drewN ?_ _ | with_reducible refine bl_alloc ?_ _ | with_reducible refine bl_drew ?_)); (repeat (first | with_reducible exact Below.refl _ _ | with_reducible refine bl_call hq2 ?_ | with_reducible refine bl_call ho2 ?_ | with_reducible refine bl_call hq1 ?_ | with_reducible refine bl_call ho1 ?_ | with_reducible refine bl_call hs0 ?_ | with_reducible refine below_drewN ?_ _ | with_reducible refine bl_alloc ?_ _ | with_reducible refine bl_drew ?_)); rintro e wq1 ⟨rfl, hq1⟩)))
          all_goals go_wp2_with fail
          all_goals go_meet
          all_goals go_light
          all_goals refine ⟨?_, ?_⟩
          all_goals first | rfl | (rw [t2]; done) | (simp only [t2]; done) | (repeat (first | with_reducible exact Below.refl _ _ | with_reducible refine bl_call hq2 ?_ | with_reducible refine bl_call ho2 ?_ | with_reducible refine bl_call hq1 ?_ | with_reducible refine bl_call ho1 ?_ | with_reducible refine bl_call hs0 ?_ | with_reducible refine below_drewN ?_ _ | with_reducible refine bl_alloc ?_ _ | with_reducible refine bl_drew ?_))
        case rest =>
          obtain ⟨rfl, hbc⟩ := hcut
          obtain ⟨w2, hw2⟩ : ∃ x, x = wc := ⟨_, rfl⟩
          rw [← hw2] at hbc ⊢
          clear hw2 c00 c01 c02 z0
          replace BB : Below w.heap.size w w2 := BB.trans (hbc.mono BB.size)
          have r2 := r0.keep hbc
          have HW2 := Lib.hid (HW.out.below BB)
          have HL2 := Lib.hid (HL.out.below BB)
          replace HWU : Hid (∀ i u, us[i]? = some u → NatAny w2 u (ns.getD i 0) L) := fun i u h => (HWU.out i u h).below BB
          have hw2 := hws.below BB
          clear hbc r0 HL1 HW HL hws t1 t2
          go_wp2_with fail
          go_loopw [8, 9] (fun a b wr => ∃ (lo hi f : Nat), lo ≤ hi ∧ hi < n ∧ hi - lo = f ∧ a = .int .i64 (lo : Int) ∧ b = .int .i64 (hi : Int) ∧ Hid (credG ns p q f lo hi = credG ns p q (n - 1) 0 (n - 1)) ∧ Below w2.heap.size w2 wr) (fun a b _ => (intOf b).toNat - (intOf a).toNat)
          case atStart => exact ⟨0, n - 1, n - 1, by omega, by omega, by omega, rfl, by go_num, rfl, Below.refl _ _⟩
          case round =>
            obtain ⟨lo, hi, f, hlh, hhn, hf, rfl, rfl, HST, BQ⟩ := hrel
            by_cases hlt : lo < hi
            · have hltI : (lo : Int) < (hi : Int) := by omega
              obtain ⟨f, rfl⟩ : ∃ f', f = f' + 1 := ⟨f - 1, by omega⟩
              have hln : lo < n := by omega
              obtain ⟨b, o, u, hA, hbk, hcell, hu⟩ := lst_at (R := fun w u x => NatAny w u x L) (d := 0) (xs := ns) hw2 HWU.out hln
              obtain ⟨b', o', u', hA', hbk', hcell', hu'⟩ := lst_at (R := fun w u x => NatAny w u x L) (d := 0) (xs := ns) hw2 HWU.out hhn
              subst hA
              obtain ⟨rfl, rfl⟩ : b = b' ∧ o = o' := by injection hA' with h; injection h with h1 h2 h3; exact ⟨h1, h2⟩
              clear hA'
              obtain ⟨lk_, hlim, hval, hlen⟩ := hu.below BQ
              obtain ⟨lx, hlim', hval', hlen'⟩ := hu'.below BQ
              obtain ⟨⟨UA, uc, rfl, _, _, _⟩, _⟩ := id hlim
              obtain ⟨⟨XA, xc, rfl, _, _, _⟩, _⟩ := id hlim'
              have g1 := (BQ.cell (p := ⟨b, o + lo, none⟩) hbk).trans hcell
              have g2 := (BQ.cell (p := ⟨b, o + hi, none⟩) hbk).trans hcell'
              have zb : b < wr.heap.size := Nat.lt_of_lt_of_le hbk BQ.size
              clear hcell hcell' hu hu' hbk hbk'
              have hjI : (lo : Int) < (n : Int) := by omega
              have hiI : (hi : Int) < (n : Int) := by omega
              have HK := Lib.hid hlim
              have HXX := Lib.hid hlim'
              clear hlim hlim'
              have tc : decide (cmpN (val lk_) (val lx) < 0) = decide (val lk_ < val lx) := neg_lt _ _
              replace HST : Hid ((if reachB (sumR ns (nextL ns lo hi) (nextH ns lo hi + 1)) ns.sum p q = true then credG ns p q f (nextL ns lo hi) (nextH ns lo hi) else (lo, hi)) = credG ns p q (n - 1) 0 (n - 1)) := HST
              unfold nextL nextH at HST
              rw [← hval, ← hval'] at HST
              clear hval hval'
              go_wp2_with fail
              go_region_law (first | (go_simp; go_at_call 13; ((with_reducible refine (cmp_any _ _ lk_ lx _ (HK.out.below ?_) (HXX.out.below ?_)).mono ?_); (repeat (first | with_reducible exact Below.refl _ _ | with_reducible refine below_drewN ?_ _ | with_reducible refine bl_alloc ?_ _ | with_reducible refine bl_drew ?_)); (repeat (first | with_reducible exact Below.refl _ _ | with_reducible refine below_drewN ?_ _ | with_reducible refine bl_alloc ?_ _ | with_reducible refine bl_drew ?_)); rintro e w5 ⟨rfl, d5, rfl⟩)))
              all_goals
                have BQ0 := BQ
                replace BQ : Below w2.heap.size w2 (wr.drewN (1 + d5)) := below_drewN BQ0 _
                clear BQ0 g1 g2 zb HK HXX
                generalize wr.drewN (1 + d5) = wr at *
                by_cases hgt : val lk_ < val lx
                · have t2 : decide (val lk_ < val lx) = true := decide_eq_true hgt
                  rw [if_pos hgt, if_pos hgt] at HST
                  go_wp2_with fail
                  obtain ⟨WA2, hWA2⟩ : ∃ x : Option Addr, x = some ⟨b, o, none⟩ := ⟨_, rfl⟩
                  rw [← hWA2] at HW2 ⊢
                  have HWA2 := Lib.hid hWA2
                  clear hWA2
                  obtain ⟨X, cu1, cu2, hX⟩ := cutW (t := 22) Tryz.underlying22 (fun _ => by kernel_rfl) WA2 wcp (ns := ns) (k := (lo + 1)) (m := hi + 1) (I := ((lo : Int) + 1)) (J := ((hi : Int) + 1)) (by omega) (by omega) (by omega) (by rw [HN.out]; omega) (by rw [HN.out]; exact hwc)
                  rw [HN.out] at cu1 cu2 hX
                  have hwr : IntKind.i64.wrap ((hi : Int) + 1) = ((hi : Int) + 1) := by rw [IntKind.wrap_i64]; omega
                  obtain ⟨d1, hd1⟩ : ∃ x, hi + 1 - (lo + 1) = x := ⟨_, rfl⟩
                  obtain ⟨d2, hd2⟩ : ∃ x, wcp - (lo + 1) = x := ⟨_, rfl⟩
                  rw [hd1, hd2] at cu1 cu2 hX
                  clear hd1 hd2
                  have HX := Lib.hid (hX L _ (HW2.out.below BQ))
                  clear hX
                  have HLQ := Lib.hid (HL2.out.below BQ)
                  have HWQ := Lib.hid (HW2.out.below BQ)
                  have c00 : wr.cell? ⟨w.heap.size, 0, none⟩ = some (.bool neg) := (r2.keep BQ).cell 0
                  have c01 : wr.cell? ⟨w.heap.size, 1, none⟩ = some (.slice LA ln lc) := (r2.keep BQ).cell 1
                  have c02 : wr.cell? ⟨w.heap.size, 2, none⟩ = some (.slice LB lk lb) := (r2.keep BQ).cell 2
                  have z0 := (r2.keep BQ).lt
                  go_wp2_with fail
                  go_region_law (first | (go_simp; go_at_call 14; ((with_reducible refine (reach_any _ _ _ ((ns.take (hi + 1)).drop ((lo + 1))) ns L M p q _ (HX.out.below ?_) (HWQ.out.below ?_) (HLQ.out.below ?_) (by rw [List.length_drop, List.length_take, HN.out]; omega) (by rw [HN.out]; exact h21) hpos hLM).mono ?_); (repeat (first | with_reducible exact Below.refl _ _ | with_reducible refine bl_call h5 ?_ | with_reducible refine below_drewN ?_ _ | with_reducible refine bl_alloc ?_ _ | with_reducible refine bl_drew ?_)); (repeat (first | with_reducible exact Below.refl _ _ | with_reducible refine bl_call h5 ?_ | with_reducible refine below_drewN ?_ _ | with_reducible refine bl_alloc ?_ _ | with_reducible refine bl_drew ?_)); (repeat (first | with_reducible exact Below.refl _ _ | with_reducible refine bl_call h5 ?_ | with_reducible refine below_drewN ?_ _ | with_reducible refine bl_alloc ?_ _ | with_reducible refine bl_drew ?_)); rintro e w5 ⟨rfl, h5⟩)))
                  all_goals
                    have hb5 : Below wr.heap.size wr w5 := bl_call h5 (by (repeat (first | with_reducible exact Below.refl _ _ | with_reducible refine below_drewN ?_ _ | with_reducible refine bl_alloc ?_ _ | with_reducible refine bl_drew ?_)))
                    clear c00 c01 c02 z0
                    have hWA2 := HWA2.out
                    subst hWA2
                    by_cases hR : reachB (sumR ns ((lo + 1)) (hi + 1)) ns.sum p q = true
                    · have hR2 : reachB ((ns.take (hi + 1)).drop ((lo + 1))).sum ns.sum p q = true := hR
                      rw [hR2]
                      rw [if_pos hR] at HST
                      go_wp2_with fail
                      go_roundw
                      case rel => exact ⟨(lo + 1), hi, f, by omega, by omega, by omega, by go_num, by go_num, HST, BQ.trans (hb5.mono BQ.size)⟩
                      case measure => simp [intOf]; omega
                    · have hR2 : reachB ((ns.take (hi + 1)).drop ((lo + 1))).sum ns.sum p q = false := Bool.eq_false_iff.2 hR
                      rw [hR2]
                      rw [if_neg hR] at HST
                      go_wp2_with fail
                      have HR := HST.out
                      rw [← HV2.out] at HR
                      refine bodyPost_ret (v := .tuple #[.int .i64 (lo : Int), .int .i64 (hi : Int), .int .i64 0]) (by simp [results, Tryz.results4, go_sem]) rfl ⟨by rw [← HR], BB.trans ((BQ.trans (hb5.mono BQ.size)).mono BB.size)⟩
                · have t2 : decide (val lk_ < val lx) = false := decide_eq_false hgt
                  rw [if_neg hgt, if_neg hgt] at HST
                  go_wp2_with fail
                  obtain ⟨WA2, hWA2⟩ : ∃ x : Option Addr, x = some ⟨b, o, none⟩ := ⟨_, rfl⟩
                  rw [← hWA2] at HW2 ⊢
                  have HWA2 := Lib.hid hWA2
                  clear hWA2
                  obtain ⟨X, cu1, cu2, hX⟩ := cutW (t := 22) Tryz.underlying22 (fun _ => by kernel_rfl) WA2 wcp (ns := ns) (k := lo) (m := (hi - 1) + 1) (I := (lo : Int)) (J := (hi : Int)) (by omega) (by omega) (by omega) (by rw [HN.out]; omega) (by rw [HN.out]; exact hwc)
                  rw [HN.out] at cu1 cu2 hX
                  have hwr : IntKind.i64.wrap (hi : Int) = (hi : Int) := by rw [IntKind.wrap_i64]; omega
                  obtain ⟨d1, hd1⟩ : ∃ x, (hi - 1) + 1 - lo = x := ⟨_, rfl⟩
                  obtain ⟨d2, hd2⟩ : ∃ x, wcp - lo = x := ⟨_, rfl⟩
                  rw [hd1, hd2] at cu1 cu2 hX
                  clear hd1 hd2
                  have HX := Lib.hid (hX L _ (HW2.out.below BQ))
                  clear hX
                  have HLQ := Lib.hid (HL2.out.below BQ)
                  have HWQ := Lib.hid (HW2.out.below BQ)
                  have c00 : wr.cell? ⟨w.heap.size, 0, none⟩ = some (.bool neg) := (r2.keep BQ).cell 0
                  have c01 : wr.cell? ⟨w.heap.size, 1, none⟩ = some (.slice LA ln lc) := (r2.keep BQ).cell 1
                  have c02 : wr.cell? ⟨w.heap.size, 2, none⟩ = some (.slice LB lk lb) := (r2.keep BQ).cell 2
                  have z0 := (r2.keep BQ).lt
                  go_wp2_with fail
                  go_region_law (first | (go_simp; go_at_call 14; ((with_reducible refine (reach_any _ _ _ ((ns.take ((hi - 1) + 1)).drop (lo)) ns L M p q _ (HX.out.below ?_) (HWQ.out.below ?_) (HLQ.out.below ?_) (by rw [List.length_drop, List.length_take, HN.out]; omega) (by rw [HN.out]; exact h21) hpos hLM).mono ?_); (repeat (first | with_reducible exact Below.refl _ _ | with_reducible refine bl_call h5 ?_ | with_reducible refine below_drewN ?_ _ | with_reducible refine bl_alloc ?_ _ | with_reducible refine bl_drew ?_)); (repeat (first | with_reducible exact Below.refl _ _ | with_reducible refine bl_call h5 ?_ | with_reducible refine below_drewN ?_ _ | with_reducible refine bl_alloc ?_ _ | with_reducible refine bl_drew ?_)); (repeat (first | with_reducible exact Below.refl _ _ | with_reducible refine bl_call h5 ?_ | with_reducible refine below_drewN ?_ _ | with_reducible refine bl_alloc ?_ _ | with_reducible refine bl_drew ?_)); rintro e w5 ⟨rfl, h5⟩)))
                  all_goals
                    have hb5 : Below wr.heap.size wr w5 := bl_call h5 (by (repeat (first | with_reducible exact Below.refl _ _ | with_reducible refine below_drewN ?_ _ | with_reducible refine bl_alloc ?_ _ | with_reducible refine bl_drew ?_)))
                    clear c00 c01 c02 z0
                    have hWA2 := HWA2.out
                    subst hWA2
                    by_cases hR : reachB (sumR ns (lo) ((hi - 1) + 1)) ns.sum p q = true
                    · have hR2 : reachB ((ns.take ((hi - 1) + 1)).drop (lo)).sum ns.sum p q = true := hR
                      rw [hR2]
                      rw [if_pos hR] at HST
                      go_wp2_with fail
                      go_roundw
                      case rel => exact ⟨lo, (hi - 1), f, by omega, by omega, by omega, by go_num, by go_num, HST, BQ.trans (hb5.mono BQ.size)⟩
                      case measure => simp [intOf]; omega
                    · have hR2 : reachB ((ns.take ((hi - 1) + 1)).drop (lo)).sum ns.sum p q = false := Bool.eq_false_iff.2 hR
                      rw [hR2]
                      rw [if_neg hR] at HST
                      go_wp2_with fail
                      have HR := HST.out
                      rw [← HV2.out] at HR
                      refine bodyPost_ret (v := .tuple #[.int .i64 (lo : Int), .int .i64 (hi : Int), .int .i64 0]) (by simp [results, Tryz.results4, go_sem]) rfl ⟨by rw [← HR], BB.trans ((BQ.trans (hb5.mono BQ.size)).mono BB.size)⟩
            · obtain rfl : lo = hi := by omega
              obtain rfl : f = 0 := by omega
              have hltI : ¬ (lo : Int) < (lo : Int) := by omega
              go_wp2_with fail
              have HR : (lo, lo) = credV ns p q := by rw [HV2.out]; exact HST.out
              refine bodyPost_ret (v := .tuple #[.int .i64 (lo : Int), .int .i64 (lo : Int), .int .i64 0]) (by simp [results, Tryz.results4, go_sem]) rfl ⟨by rw [← HR], BB.trans (BQ.mono BB.size)⟩
  · have HV1 : credE ns p q = chkS ns := credE_chk hE
    have HV2 : credV ns p q = (0, 0) := by unfold credV; rw [HV1, if_neg hE]
    rw [HV1, HV2]
    clear HV1 HV2
    have t1 : ((chkS ns) != 0) = true := by simpa using hE
    generalize chkS ns = E at *
    have c00 : W0.cell? ⟨w.heap.size, 0, none⟩ = some (.bool neg) := r0.cell 0
    have c01 : W0.cell? ⟨w.heap.size, 1, none⟩ = some (.slice LA ln lc) := r0.cell 1
    have c02 : W0.cell? ⟨w.heap.size, 2, none⟩ = some (.slice LB lk lb) := r0.cell 2
    have z0 := r0.lt
    go_enter Tryz.func4, Tryz.ntmps4
    go_wp2_with fail
    rw [← hW0]
    clear hW0
    go_wp2_with fail
    clear c00 c01 c02 z0
    refine (HC.out _ B0).mono ?_
    rintro e w1 ⟨rfl, hb⟩
    clear HC
    replace r0 := r0.keep hb
    have BB : Below w.heap.size w w1 := B0.trans (hb.mono B0.size)
    clear hb B0
    have c00 : w1.cell? ⟨w.heap.size, 0, none⟩ = some (.bool neg) := r0.cell 0
    have c01 : w1.cell? ⟨w.heap.size, 1, none⟩ = some (.slice LA ln lc) := r0.cell 1
    have c02 : w1.cell? ⟨w.heap.size, 2, none⟩ = some (.slice LB lk lb) := r0.cell 2
    have z0 := r0.lt
    go_wp2_with fail
    refine bodyPost_ret (v := .tuple #[.int .i64 0, .int .i64 0, .int .i64 E]) (by simp [results, Tryz.results4, go_sem]) rfl ⟨rfl, BB⟩
end Go.Proofs.YtfoleamcaflfeaaGreatDoor
namespace Go.Proofs.YtfoleamcaflfeaaGreatDoor
open Go.RowKit
set_option linter.unusedVariables false

/-- The first rule that the arguments of Class violate. -/
def classE (ns : List Nat) (c p : Int) (q : Nat) : Int := if chkS ns ≠ 0 then chkS ns else if c < 1 ∨ (ns.length : Int) - 1 < c ∨ p * 2 ≤ (q : Int) ∨ (q : Int) < p then 3 else 0
/-- The class that Class returns. -/
def classV (ns : List Nat) (c p : Int) (q : Nat) : Int :=
  if classE ns c p q = 0 then if reachB (ns.drop c.toNat).sum ns.sum p q = true then 1 else if reachB (ns.take c.toNat).sum ns.sum p q = true then 0 else -1 else 0
theorem classE_chk {ns : List Nat} {c p : Int} {q : Nat} (h : chkS ns ≠ 0) : classE ns c p q = chkS ns := if_pos h
theorem classE_bad {ns : List Nat} {c p : Int} {q : Nat} (h : chkS ns = 0) (h2 : c < 1 ∨ (ns.length : Int) - 1 < c ∨ p * 2 ≤ (q : Int) ∨ (q : Int) < p) : classE ns c p q = 3 := by unfold classE; rw [if_neg (by simpa using h), if_pos h2]
theorem classE_ok {ns : List Nat} {c p : Int} {q : Nat} (h : chkS ns = 0) (h1 : 1 ≤ c) (h2 : c ≤ (ns.length : Int) - 1) (h3 : (q : Int) < p * 2) (h4 : p ≤ (q : Int)) : classE ns c p q = 0 := by unfold classE; rw [if_neg (by simpa using h), if_neg (by omega)]
theorem classV_bad {ns : List Nat} {c p : Int} {q : Nat} (h : classE ns c p q ≠ 0) : classV ns c p q = 0 := if_neg h
theorem cutWa {t : TypeId} (ht : Tryz.prog.underlying t = some (.slice (Tryz.prog.elem t))) (hs1 : ∀ w, (sizeOf (Tryz.prog.elem t)).run Tryz.prog w = .ok 1 w) (A : Option Addr) (c : Nat) {ns : List Nat} {m : Nat} {J : Int} (hJ : J = (m : Int)) (hm : m ≤ ns.length) (hc : ns.length ≤ c) :
    ∃ X, (∀ w', (Instr.sliceAt t (.slice A ns.length c) none (some (.int .i64 J)) none).run Tryz.prog w' = .ok (.slice X m c) w') ∧ (∀ w', (Instr.slice t (.slice A ns.length c) none (some (.int .i64 J)) none).run Tryz.prog w' = .ok (.slice X m c) w') ∧ ∀ (L : Nat) (w : World), Wts w (.slice A ns.length c) ns L → Wts w (.slice X m c) (ns.take m) L := by
  subst hJ
  have key : ∀ w', (Instr.slice t (.slice A ns.length c) none (some (.int .i64 (m : Int))) none).run Tryz.prog w' = .ok (.slice (if c = 0 then A else A.map (·.add 0)) m c) w' := by
    intro w'
    rw [run_slice_h w' t A ns.length c ht .i64 m (by omega) (by omega), hs1]
    simp [sliced]
  refine ⟨_, fun w' => by rw [run_sliceAt_slice w' t _ _ _ _ ht]; exact key w', key, fun L w h => ?_⟩
  obtain ⟨A', c', us, hv, h1, h2, hs, hu⟩ := h
  injection hv with e1 e2 e3
  subst e1 e3
  have hl : (ns.take m).length = m := by rw [List.length_take]; omega
  refine ⟨_, _, us.take m, by rw [hl], by rw [hl]; omega, by omega, by rw [hl]; have := hs.cut (k := 0) (m := m) (c := c) (by omega) h1; simpa using this, fun i u hi => ?_⟩
  rw [List.getElem?_take] at hi
  split at hi
  · rename_i hlt
    have h3 := hu _ _ hi
    rw [List.getD_eq_getElem?_getD, List.getElem?_take, if_pos (by omega), ← List.getD_eq_getElem?_getD]
    exact h3
  · cases hi
theorem cutWb {t : TypeId} (ht : Tryz.prog.underlying t = some (.slice (Tryz.prog.elem t))) (hs1 : ∀ w, (sizeOf (Tryz.prog.elem t)).run Tryz.prog w = .ok 1 w) (A : Option Addr) (c : Nat) {ns : List Nat} {k : Nat} {I : Int} (hI : I = (k : Int)) (hk : k ≤ ns.length) (hc : ns.length ≤ c) :
    ∃ X, (∀ w', (Instr.sliceAt t (.slice A ns.length c) (some (.int .i64 I)) none none).run Tryz.prog w' = .ok (.slice X (ns.length - k) (c - k)) w') ∧ (∀ w', (Instr.slice t (.slice A ns.length c) (some (.int .i64 I)) none none).run Tryz.prog w' = .ok (.slice X (ns.length - k) (c - k)) w') ∧ ∀ (L : Nat) (w : World), Wts w (.slice A ns.length c) ns L → Wts w (.slice X (ns.length - k) (c - k)) (ns.drop k) L := by
  subst hI
  have key : ∀ w', (Instr.slice t (.slice A ns.length c) (some (.int .i64 (k : Int))) none none).run Tryz.prog w' = .ok (.slice (if c = k then A else A.map (·.add k)) (ns.length - k) (c - k)) w' := by
    intro w'
    rw [run_slice_l w' t A ns.length c ht .i64 k (by omega) (by omega), hs1]
    simp [sliced]
  refine ⟨_, fun w' => by rw [run_sliceAt_slice w' t _ _ _ _ ht]; exact key w', key, fun L w h => ?_⟩
  obtain ⟨A', c', us, hv, h1, h2, hs, hu⟩ := h
  injection hv with e1 e2 e3
  subst e1 e3
  have hl : (ns.drop k).length = ns.length - k := List.length_drop
  refine ⟨_, _, us.drop k, by rw [hl], by rw [hl]; omega, by omega, ?_, fun i u hi => ?_⟩
  · rw [hl]
    have := hs.cut (k := k) (m := ns.length - k) (c := c) (by omega) h1
    rwa [List.take_of_length_le (by rw [List.length_drop, hs.1]; omega)] at this
  · rw [List.getElem?_drop] at hi
    have h3 := hu _ _ hi
    rw [List.getD_eq_getElem?_getD, List.getElem?_drop, ← List.getD_eq_getElem?_getD]
    exact h3
set_option maxRecDepth 100000 in
set_option maxHeartbeats 16000000 in
theorem eclass_any (wv lv : Value) (ns : List Nat) (L M : Nat) (p : Int) (q : Nat) (c : Int) (w : World) (hw : Wts w wv ns L) (hlv : RatA w lv p q M) (hM : 2 ≤ M) (hLM : L ≤ 35184372088000 ∧ M ≤ 35184372088000) :
    Calls Tryz.prog 6 #[wv, .int .i64 c, lv] w fun e w' => e = .returned (.tuple #[.int .i64 (classV ns c p q), .int .i64 (classE ns c p q)]) ∧ Below w.heap.size w w' := by
  have HC := Lib.hid (fun (W : World) (h : Below w.heap.size w W) => echeck_any wv ns L W (hw.below h) (by omega))
  have HW := Lib.hid hw
  have HQ : 0 < q := hlv.pos
  obtain ⟨neg, LA, ln, lc, LB, lk, lb, rfl⟩ := hlv.show_
  have HL := Lib.hid hlv
  obtain ⟨WA, wcp, us, rfl, hwc, hwm, hws, hwu⟩ := hw
  have HWU := Lib.hid hwu
  unfold maxLen at hwm
  clear hwu hlv
  obtain ⟨W0, hW0⟩ : ∃ W0 : World, W0 = w.alloc (.cells #[.bool neg, .slice LA ln lc, .slice LB lk lb] 28) := ⟨_, rfl⟩
  have r0 : Row W0 w.heap.size 28 [.bool neg, .slice LA ln lc, .slice LB lk lb] := by
    rw [hW0]
    exact Row.new w 28 [.bool neg, .slice LA ln lc, .slice LB lk lb]
  have B0 : Below w.heap.size w W0 := by rw [hW0]; exact (Below.refl _ _).alloc (Nat.le_refl _) _
  by_cases hE : chkS ns = 0
  · obtain ⟨h21, hpos⟩ := chkS_zero hE
    have hwr : IntKind.i64.wrap ((ns.length : Int) - 1) = (ns.length : Int) - 1 := by rw [IntKind.wrap_i64]; omega
    by_cases h1 : c < 1
    · have t1 : decide (c < 1) = true := decide_eq_true h1
      have HV1 : classE ns c p q = 3 := classE_bad hE (.inl h1)
      have HV2 : classV ns c p q = 0 := classV_bad (by rw [HV1]; decide)
      rw [HV1, HV2]
      rw [hE] at HC
      clear HV1 HV2
      have c00 : W0.cell? ⟨w.heap.size, 0, none⟩ = some (.bool neg) := r0.cell 0
      have c01 : W0.cell? ⟨w.heap.size, 1, none⟩ = some (.slice LA ln lc) := r0.cell 1
      have c02 : W0.cell? ⟨w.heap.size, 2, none⟩ = some (.slice LB lk lb) := r0.cell 2
      have z0 := r0.lt
      go_enter Tryz.func6, Tryz.ntmps6
      go_wp2_with fail
      rw [← hW0]
      clear hW0
      go_wp2_with fail
      clear c00 c01 c02 z0
      refine (HC.out _ B0).mono ?_
      rintro e w1 ⟨rfl, hb⟩
      clear HC
      replace r0 := r0.keep hb
      have BB : Below w.heap.size w w1 := B0.trans (hb.mono B0.size)
      clear hb B0
      have c00 : w1.cell? ⟨w.heap.size, 0, none⟩ = some (.bool neg) := r0.cell 0
      have c01 : w1.cell? ⟨w.heap.size, 1, none⟩ = some (.slice LA ln lc) := r0.cell 1
      have c02 : w1.cell? ⟨w.heap.size, 2, none⟩ = some (.slice LB lk lb) := r0.cell 2
      have z0 := r0.lt
      have HL1 : Hid (RatA w1 (.agg #[.bool neg, .slice LA ln lc, .slice LB lk lb]) p q M) := HL.out.below BB
      go_wp2_with fail
      go_cut [34] (fun s0 wx => s0 = .bool true ∧ Below w1.heap.size w1 wx)
      case first =>
        go_region
        all_goals go_wp2_with fail
        all_goals go_meet
        all_goals go_light
        all_goals refine ⟨?_, ?_⟩
        all_goals first | rfl | (rw [t2]; done) | (simp only [t2]; done) | (repeat (first | with_reducible exact Below.refl _ _ | with_reducible refine bl_call hq2 ?_ | with_reducible refine bl_call ho2 ?_ | with_reducible refine bl_call hq1 ?_ | with_reducible refine bl_call ho1 ?_ | with_reducible refine bl_call hs0 ?_ | with_reducible refine below_drewN ?_ _ | with_reducible refine bl_alloc ?_ _ | with_reducible refine bl_drew ?_))
      case rest =>
        obtain ⟨rfl, hbc⟩ := hcut
        obtain ⟨w2, hw2⟩ : ∃ x, x = wc := ⟨_, rfl⟩
        rw [← hw2] at hbc ⊢
        clear hw2 c00 c01 c02 z0
        go_wp2_with fail
        go_ret2
        exact ⟨rfl, BB.trans (hbc.mono BB.size)⟩
    · have t1 : decide (c < 1) = false := decide_eq_false h1
      by_cases h2 : (ns.length : Int) - 1 < c
      · have t2 : decide ((ns.length : Int) - 1 < c) = true := decide_eq_true h2
        have HV1 : classE ns c p q = 3 := classE_bad hE (.inr (.inl h2))
        have HV2 : classV ns c p q = 0 := classV_bad (by rw [HV1]; decide)
        rw [HV1, HV2]
        rw [hE] at HC
        clear HV1 HV2
        have c00 : W0.cell? ⟨w.heap.size, 0, none⟩ = some (.bool neg) := r0.cell 0
        have c01 : W0.cell? ⟨w.heap.size, 1, none⟩ = some (.slice LA ln lc) := r0.cell 1
        have c02 : W0.cell? ⟨w.heap.size, 2, none⟩ = some (.slice LB lk lb) := r0.cell 2
        have z0 := r0.lt
        go_enter Tryz.func6, Tryz.ntmps6
        go_wp2_with fail
        rw [← hW0]
        clear hW0
        go_wp2_with fail
        clear c00 c01 c02 z0
        refine (HC.out _ B0).mono ?_
        rintro e w1 ⟨rfl, hb⟩
        clear HC
        replace r0 := r0.keep hb
        have BB : Below w.heap.size w w1 := B0.trans (hb.mono B0.size)
        clear hb B0
        have c00 : w1.cell? ⟨w.heap.size, 0, none⟩ = some (.bool neg) := r0.cell 0
        have c01 : w1.cell? ⟨w.heap.size, 1, none⟩ = some (.slice LA ln lc) := r0.cell 1
        have c02 : w1.cell? ⟨w.heap.size, 2, none⟩ = some (.slice LB lk lb) := r0.cell 2
        have z0 := r0.lt
        have HL1 : Hid (RatA w1 (.agg #[.bool neg, .slice LA ln lc, .slice LB lk lb]) p q M) := HL.out.below BB
        go_wp2_with fail
        go_cut [34] (fun s0 wx => s0 = .bool true ∧ Below w1.heap.size w1 wx)
        case first =>
          go_region
          all_goals go_wp2_with fail
          all_goals go_meet
          all_goals go_light
          all_goals refine ⟨?_, ?_⟩
          all_goals first | rfl | (rw [t2]; done) | (simp only [t2]; done) | (repeat (first | with_reducible exact Below.refl _ _ | with_reducible refine bl_call hq2 ?_ | with_reducible refine bl_call ho2 ?_ | with_reducible refine bl_call hq1 ?_ | with_reducible refine bl_call ho1 ?_ | with_reducible refine bl_call hs0 ?_ | with_reducible refine below_drewN ?_ _ | with_reducible refine bl_alloc ?_ _ | with_reducible refine bl_drew ?_))
        case rest =>
          obtain ⟨rfl, hbc⟩ := hcut
          obtain ⟨w2, hw2⟩ : ∃ x, x = wc := ⟨_, rfl⟩
          rw [← hw2] at hbc ⊢
          clear hw2 c00 c01 c02 z0
          go_wp2_with fail
          go_ret2
          exact ⟨rfl, BB.trans (hbc.mono BB.size)⟩
      · have t2 : decide ((ns.length : Int) - 1 < c) = false := decide_eq_false h2
        by_cases h3 : p * 2 ≤ (q : Int)
        · have t3 : decide (cmpZ (p * 2) (q : Int) ≤ 0) = true := by rw [cmpZ_le0]; exact decide_eq_true h3
          have HV1 : classE ns c p q = 3 := classE_bad hE (.inr (.inr (.inl h3)))
          have HV2 : classV ns c p q = 0 := classV_bad (by rw [HV1]; decide)
          rw [HV1, HV2]
          rw [hE] at HC
          clear HV1 HV2
          have c00 : W0.cell? ⟨w.heap.size, 0, none⟩ = some (.bool neg) := r0.cell 0
          have c01 : W0.cell? ⟨w.heap.size, 1, none⟩ = some (.slice LA ln lc) := r0.cell 1
          have c02 : W0.cell? ⟨w.heap.size, 2, none⟩ = some (.slice LB lk lb) := r0.cell 2
          have z0 := r0.lt
          go_enter Tryz.func6, Tryz.ntmps6
          go_wp2_with fail
          rw [← hW0]
          clear hW0
          go_wp2_with fail
          clear c00 c01 c02 z0
          refine (HC.out _ B0).mono ?_
          rintro e w1 ⟨rfl, hb⟩
          clear HC
          replace r0 := r0.keep hb
          have BB : Below w.heap.size w w1 := B0.trans (hb.mono B0.size)
          clear hb B0
          have c00 : w1.cell? ⟨w.heap.size, 0, none⟩ = some (.bool neg) := r0.cell 0
          have c01 : w1.cell? ⟨w.heap.size, 1, none⟩ = some (.slice LA ln lc) := r0.cell 1
          have c02 : w1.cell? ⟨w.heap.size, 2, none⟩ = some (.slice LB lk lb) := r0.cell 2
          have z0 := r0.lt
          have HL1 : Hid (RatA w1 (.agg #[.bool neg, .slice LA ln lc, .slice LB lk lb]) p q M) := HL.out.below BB
          go_wp2_with fail
          go_cut [34] (fun s0 wx => s0 = .bool true ∧ Below w1.heap.size w1 wx)
          case first =>
            go_region_law (first
              | (go_simp; (go_at_call 12; ((with_reducible refine (one_any 1 2 _ (by decide) (by decide) (by decide) (by decide)).mono ?_); rintro e wo1 ⟨vo1, rfl, hvo1, ho1⟩; rw [show redP 1 (2 : Int).toNat = 1 by decide +kernel, show redQ 1 (2 : Int).toNat = 2 by decide +kernel] at hvo1); obtain ⟨k0, k1, k2⟩ := keep3e z0 c00 c01 c02 (bl_call ho1 (by (repeat (first | with_reducible exact Below.refl _ _ | with_reducible refine below_drewN ?_ _ | with_reducible refine bl_alloc ?_ _ | with_reducible refine bl_drew ?_))))))
              | (go_simp; (go_at_call 11; ((with_reducible refine (qcmp_any _ _ p 1 q 2 M _ (HL1.out.below ?_) (((hvo1.ratA (by decide)).mono hM).below ?_) hM (by omega)).mono ?_); (repeat (first | with_reducible exact Below.refl _ _ | with_reducible refine bl_call hq2 ?_ | with_reducible refine bl_call ho2 ?_ | with_reducible refine bl_call hq1 ?_ | with_reducible refine bl_call ho1 ?_ | with_reducible refine bl_call hs0 ?_ | with_reducible refine below_drewN ?_ _ | with_reducible refine bl_alloc ?_ _ | with_reducible refine bl_drew ?_)); (repeat (first | with_reducible exact Below.refl _ _ | with_reducible refine bl_call hq2 ?_ | with_reducible refine bl_call ho2 ?_ | with_reducible refine bl_call hq1 ?_ | with_reducible refine bl_call ho1 ?_ | with_reducible refine bl_call hs0 ?_ | with_reducible refine below_drewN ?_ _ | with_reducible refine bl_alloc ?_ _ | with_reducible refine bl_drew ?_)); rintro e wq1 ⟨rfl, hq1⟩))))
            all_goals go_wp2_with fail
            all_goals go_meet
            all_goals go_light
            all_goals refine ⟨?_, ?_⟩
            all_goals first | rfl | (rw [t2]; done) | (simp only [t2]; done) | (repeat (first | with_reducible exact Below.refl _ _ | with_reducible refine bl_call hq2 ?_ | with_reducible refine bl_call ho2 ?_ | with_reducible refine bl_call hq1 ?_ | with_reducible refine bl_call ho1 ?_ | with_reducible refine bl_call hs0 ?_ | with_reducible refine below_drewN ?_ _ | with_reducible refine bl_alloc ?_ _ | with_reducible refine bl_drew ?_))
          case rest =>
            obtain ⟨rfl, hbc⟩ := hcut
            obtain ⟨w2, hw2⟩ : ∃ x, x = wc := ⟨_, rfl⟩
            rw [← hw2] at hbc ⊢
            clear hw2 c00 c01 c02 z0
            go_wp2_with fail
            go_ret2
            exact ⟨rfl, BB.trans (hbc.mono BB.size)⟩
        · have t3 : decide (cmpZ (p * 2) (q : Int) ≤ 0) = false := by rw [cmpZ_le0]; exact decide_eq_false h3
          by_cases h4 : (q : Int) < p
          · have t4 : decide (0 < cmpZ p (q : Int)) = true := by rw [cmpZ_pos]; exact decide_eq_true h4
            have HV1 : classE ns c p q = 3 := classE_bad hE (.inr (.inr (.inr h4)))
            have HV2 : classV ns c p q = 0 := classV_bad (by rw [HV1]; decide)
            rw [HV1, HV2]
            rw [hE] at HC
            clear HV1 HV2
            have c00 : W0.cell? ⟨w.heap.size, 0, none⟩ = some (.bool neg) := r0.cell 0
            have c01 : W0.cell? ⟨w.heap.size, 1, none⟩ = some (.slice LA ln lc) := r0.cell 1
            have c02 : W0.cell? ⟨w.heap.size, 2, none⟩ = some (.slice LB lk lb) := r0.cell 2
            have z0 := r0.lt
            go_enter Tryz.func6, Tryz.ntmps6
            go_wp2_with fail
            rw [← hW0]
            clear hW0
            go_wp2_with fail
            clear c00 c01 c02 z0
            refine (HC.out _ B0).mono ?_
            rintro e w1 ⟨rfl, hb⟩
            clear HC
            replace r0 := r0.keep hb
            have BB : Below w.heap.size w w1 := B0.trans (hb.mono B0.size)
            clear hb B0
            have c00 : w1.cell? ⟨w.heap.size, 0, none⟩ = some (.bool neg) := r0.cell 0
            have c01 : w1.cell? ⟨w.heap.size, 1, none⟩ = some (.slice LA ln lc) := r0.cell 1
            have c02 : w1.cell? ⟨w.heap.size, 2, none⟩ = some (.slice LB lk lb) := r0.cell 2
            have z0 := r0.lt
            have HL1 : Hid (RatA w1 (.agg #[.bool neg, .slice LA ln lc, .slice LB lk lb]) p q M) := HL.out.below BB
            go_wp2_with fail
            go_cut [34] (fun s0 wx => s0 = .bool true ∧ Below w1.heap.size w1 wx)
            case first =>
              go_region_held3 (fun w' => w'.cell? ⟨w.heap.size, 0, none⟩ = some (.bool neg) ∧ w'.cell? ⟨w.heap.size, 1, none⟩ = some (.slice LA ln lc) ∧ w'.cell? ⟨w.heap.size, 2, none⟩ = some (.slice LB lk lb))
                ((refine keep3e z0 c00 c01 c02 ?_; (repeat (first | with_reducible exact Below.refl _ _ | with_reducible refine bl_call hq2 ?_ | with_reducible refine bl_call ho2 ?_ | with_reducible refine bl_call hq1 ?_ | with_reducible refine bl_call ho1 ?_ | with_reducible refine bl_call hs0 ?_ | with_reducible refine below_drewN ?_ _ | with_reducible refine bl_alloc ?_ _ | with_reducible refine bl_drew ?_)); done))
                (first
                  | (go_at_call 12; ((with_reducible refine (one_any 1 2 _ (by decide) (by decide) (by decide) (by decide)).mono ?_); rintro e wo1 ⟨vo1, rfl, hvo1, ho1⟩; rw [show redP 1 (2 : Int).toNat = 1 by decide +kernel, show redQ 1 (2 : Int).toNat = 2 by decide +kernel] at hvo1)) 
                  | (go_at_call 11; ((with_reducible refine (qcmp_any _ _ p 1 q 2 M _ (HL1.out.below ?_) (((hvo1.ratA (by decide)).mono hM).below ?_) hM (by omega)).mono ?_); (repeat (first | with_reducible exact Below.refl _ _ | with_reducible refine bl_call hq2 ?_ | with_reducible refine bl_call ho2 ?_ | with_reducible refine bl_call hq1 ?_ | with_reducible refine bl_call ho1 ?_ | with_reducible refine bl_call hs0 ?_ | with_reducible refine below_drewN ?_ _ | with_reducible refine bl_alloc ?_ _ | with_reducible refine bl_drew ?_)); (repeat (first | with_reducible exact Below.refl _ _ | with_reducible refine bl_call hq2 ?_ | with_reducible refine bl_call ho2 ?_ | with_reducible refine bl_call hq1 ?_ | with_reducible refine bl_call ho1 ?_ | with_reducible refine bl_call hs0 ?_ | with_reducible refine below_drewN ?_ _ | with_reducible refine bl_alloc ?_ _ | with_reducible refine bl_drew ?_)); rintro e wq1 ⟨rfl, hq1⟩)) 
                  | (go_at_call 12; ((with_reducible refine (one_any 1 1 _ (by decide) (by decide) (by decide) (by decide)).mono ?_); rintro e wo2 ⟨vo2, rfl, hvo2, ho2⟩; rw [show redP 1 (1 : Int).toNat = 1 by decide +kernel, show redQ 1 (1 : Int).toNat = 1 by decide +kernel] at hvo2)) 
                  | (go_at_call 11; ((with_reducible refine (qcmp_any _ _ p 1 q 1 M _ (HL1.out.below ?_) (((hvo2.ratA (by decide)).mono hM).below ?_) hM (by omega)).mono ?_); (repeat (first | with_reducible exact Below.refl _ _ | with_reducible refine bl_call hq2 ?_ | with_reducible refine bl_call ho2 ?_ | with_reducible refine bl_call hq1 ?_ | with_reducible refine bl_call ho1 ?_ | with_reducible refine bl_call hs0 ?_ | with_reducible refine below_drewN ?_ _ | with_reducible refine bl_alloc ?_ _ | with_reducible refine bl_drew ?_)); (repeat (first | with_reducible exact Below.refl _ _ | with_reducible refine bl_call hq2 ?_ | with_reducible refine bl_call ho2 ?_ | with_reducible refine bl_call hq1 ?_ | with_reducible refine bl_call ho1 ?_ | with_reducible refine bl_call hs0 ?_ | with_reducible refine below_drewN ?_ _ | with_reducible refine bl_alloc ?_ _ | with_reducible refine bl_drew ?_)); rintro e wq2 ⟨rfl, hq2⟩)))
              all_goals go_wp2_with fail
              all_goals go_meet
              all_goals go_light
              all_goals refine ⟨?_, ?_⟩
              all_goals first | rfl | (rw [t2]; done) | (simp only [t2]; done) | (repeat (first | with_reducible exact Below.refl _ _ | with_reducible refine bl_call hq2 ?_ | with_reducible refine bl_call ho2 ?_ | with_reducible refine bl_call hq1 ?_ | with_reducible refine bl_call ho1 ?_ | with_reducible refine bl_call hs0 ?_ | with_reducible refine below_drewN ?_ _ | with_reducible refine bl_alloc ?_ _ | with_reducible refine bl_drew ?_))
            case rest =>
              obtain ⟨rfl, hbc⟩ := hcut
              obtain ⟨w2, hw2⟩ : ∃ x, x = wc := ⟨_, rfl⟩
              rw [← hw2] at hbc ⊢
              clear hw2 c00 c01 c02 z0
              go_wp2_with fail
              go_ret2
              exact ⟨rfl, BB.trans (hbc.mono BB.size)⟩
          · have t4 : decide (0 < cmpZ p (q : Int)) = false := by rw [cmpZ_pos]; exact decide_eq_false h4
            have HV1 : classE ns c p q = 0 := classE_ok hE (by omega) (by omega) (by omega) (by omega)
            obtain ⟨k, rfl⟩ : ∃ k : Nat, c = (k : Int) := ⟨c.toNat, by omega⟩
            have HV2 : Hid (classV ns (k : Int) p q = if reachB (ns.drop k).sum ns.sum p q = true then 1 else if reachB (ns.take k).sum ns.sum p q = true then 0 else -1) := by unfold Hid classV; rw [HV1]; rfl
            rw [HV1]
            rw [hE] at HC
            clear HV1 hE
            obtain ⟨X, cu1, cu2, hX⟩ := cutWb (t := 22) Tryz.underlying22 (fun _ => by kernel_rfl) WA wcp (ns := ns) (k := k) (I := (k : Int)) rfl (by omega) hwc
            obtain ⟨Y, cv1, cv2, hY⟩ := cutWa (t := 22) Tryz.underlying22 (fun _ => by kernel_rfl) WA wcp (ns := ns) (m := k) (J := (k : Int)) rfl (by omega) hwc
            obtain ⟨d1, hd1⟩ : ∃ x, ns.length - k = x := ⟨_, rfl⟩
            obtain ⟨d2, hd2⟩ : ∃ x, wcp - k = x := ⟨_, rfl⟩
            rw [hd1, hd2] at cu1 cu2 hX
            have HXX := Lib.hid (hX L)
            have HYY := Lib.hid (hY L)
            clear hX hY
            have hk1 : k ≤ 21 := by omega
            clear hd1 hd2
            clear h1 h2 h3 h4
            have c00 : W0.cell? ⟨w.heap.size, 0, none⟩ = some (.bool neg) := r0.cell 0
            have c01 : W0.cell? ⟨w.heap.size, 1, none⟩ = some (.slice LA ln lc) := r0.cell 1
            have c02 : W0.cell? ⟨w.heap.size, 2, none⟩ = some (.slice LB lk lb) := r0.cell 2
            have z0 := r0.lt
            go_enter Tryz.func6, Tryz.ntmps6
            go_wp2_with fail
            rw [← hW0]
            clear hW0
            go_wp2_with fail
            clear c00 c01 c02 z0
            refine (HC.out _ B0).mono ?_
            rintro e w1 ⟨rfl, hb⟩
            clear HC
            replace r0 := r0.keep hb
            have BB : Below w.heap.size w w1 := B0.trans (hb.mono B0.size)
            clear hb B0
            have c00 : w1.cell? ⟨w.heap.size, 0, none⟩ = some (.bool neg) := r0.cell 0
            have c01 : w1.cell? ⟨w.heap.size, 1, none⟩ = some (.slice LA ln lc) := r0.cell 1
            have c02 : w1.cell? ⟨w.heap.size, 2, none⟩ = some (.slice LB lk lb) := r0.cell 2
            have z0 := r0.lt
            have HL1 : Hid (RatA w1 (.agg #[.bool neg, .slice LA ln lc, .slice LB lk lb]) p q M) := HL.out.below BB
            go_wp2_with fail
            go_cut [34] (fun s0 wx => s0 = .bool false ∧ Below w1.heap.size w1 wx)
            case first =>
              go_region_held3 (fun w' => w'.cell? ⟨w.heap.size, 0, none⟩ = some (.bool neg) ∧ w'.cell? ⟨w.heap.size, 1, none⟩ = some (.slice LA ln lc) ∧ w'.cell? ⟨w.heap.size, 2, none⟩ = some (.slice LB lk lb))
                ((refine keep3e z0 c00 c01 c02 ?_; (repeat (first | with_reducible exact Below.refl _ _ | with_reducible refine bl_call hq2 ?_ | with_reducible refine bl_call ho2 ?_ | with_reducible refine bl_call hq1 ?_ | with_reducible refine bl_call ho1 ?_ | with_reducible refine bl_call hs0 ?_ | with_reducible refine below_drewN ?_ _ | with_reducible refine bl_alloc ?_ _ | with_reducible refine bl_drew ?_)); done))
                (first
                  | (go_at_call 12; ((with_reducible refine (one_any 1 2 _ (by decide) (by decide) (by decide) (by decide)).mono ?_); rintro e wo1 ⟨vo1, rfl, hvo1, ho1⟩; rw [show redP 1 (2 : Int).toNat = 1 by decide +kernel, show redQ 1 (2 : Int).toNat = 2 by decide +kernel] at hvo1)) 
                  | (go_at_call 11; ((with_reducible refine (qcmp_any _ _ p 1 q 2 M _ (HL1.out.below ?_) (((hvo1.ratA (by decide)).mono hM).below ?_) hM (by omega)).mono ?_); (repeat (first | with_reducible exact Below.refl _ _ | with_reducible refine bl_call hq2 ?_ | with_reducible refine bl_call ho2 ?_ | with_reducible refine bl_call hq1 ?_ | with_reducible refine bl_call ho1 ?_ | with_reducible refine bl_call hs0 ?_ | with_reducible refine below_drewN ?_ _ | with_reducible refine bl_alloc ?_ _ | with_reducible refine bl_drew ?_)); (repeat (first | with_reducible exact Below.refl _ _ | with_reducible refine bl_call hq2 ?_ | with_reducible refine bl_call ho2 ?_ | with_reducible refine bl_call hq1 ?_ | with_reducible refine bl_call ho1 ?_ | with_reducible refine bl_call hs0 ?_ | with_reducible refine below_drewN ?_ _ | with_reducible refine bl_alloc ?_ _ | with_reducible refine bl_drew ?_)); rintro e wq1 ⟨rfl, hq1⟩)) 
                  | (go_at_call 12; ((with_reducible refine (one_any 1 1 _ (by decide) (by decide) (by decide) (by decide)).mono ?_); rintro e wo2 ⟨vo2, rfl, hvo2, ho2⟩; rw [show redP 1 (1 : Int).toNat = 1 by decide +kernel, show redQ 1 (1 : Int).toNat = 1 by decide +kernel] at hvo2)) 
                  | (go_at_call 11; ((with_reducible refine (qcmp_any _ _ p 1 q 1 M _ (HL1.out.below ?_) (((hvo2.ratA (by decide)).mono hM).below ?_) hM (by omega)).mono ?_); (repeat (first | with_reducible exact Below.refl _ _ | with_reducible refine bl_call hq2 ?_ | with_reducible refine bl_call ho2 ?_ | with_reducible refine bl_call hq1 ?_ | with_reducible refine bl_call ho1 ?_ | with_reducible refine bl_call hs0 ?_ | with_reducible refine below_drewN ?_ _ | with_reducible refine bl_alloc ?_ _ | with_reducible refine bl_drew ?_)); (repeat (first | with_reducible exact Below.refl _ _ | with_reducible refine bl_call hq2 ?_ | with_reducible refine bl_call ho2 ?_ | with_reducible refine bl_call hq1 ?_ | with_reducible refine bl_call ho1 ?_ | with_reducible refine bl_call hs0 ?_ | with_reducible refine below_drewN ?_ _ | with_reducible refine bl_alloc ?_ _ | with_reducible refine bl_drew ?_)); rintro e wq2 ⟨rfl, hq2⟩)))
              all_goals go_wp2_with fail
              all_goals go_meet
              all_goals go_light
              all_goals refine ⟨?_, ?_⟩
              all_goals first | rfl | (rw [t2]; done) | (simp only [t2]; done) | (repeat (first | with_reducible exact Below.refl _ _ | with_reducible refine bl_call hq2 ?_ | with_reducible refine bl_call ho2 ?_ | with_reducible refine bl_call hq1 ?_ | with_reducible refine bl_call ho1 ?_ | with_reducible refine bl_call hs0 ?_ | with_reducible refine below_drewN ?_ _ | with_reducible refine bl_alloc ?_ _ | with_reducible refine bl_drew ?_))
            case rest =>
              obtain ⟨rfl, hbc⟩ := hcut
              obtain ⟨w2, hw2⟩ : ∃ x, x = wc := ⟨_, rfl⟩
              rw [← hw2] at hbc ⊢
              clear hw2 c00 c01 c02 z0
              replace BB : Below w.heap.size w w2 := BB.trans (hbc.mono BB.size)
              have r2 := r0.keep hbc
              have HW2 := Lib.hid (HW.out.below BB)
              have HL2 := Lib.hid (HL.out.below BB)
              clear hbc r0 HL1 HW HL t1 t2 t3 t4
              have c00 : w2.cell? ⟨w.heap.size, 0, none⟩ = some (.bool neg) := r2.cell 0
              have c01 : w2.cell? ⟨w.heap.size, 1, none⟩ = some (.slice LA ln lc) := r2.cell 1
              have c02 : w2.cell? ⟨w.heap.size, 2, none⟩ = some (.slice LB lk lb) := r2.cell 2
              have z0 := r2.lt
              go_wp2_with fail
              go_region_law (first | (go_simp; go_at_call 14; ((with_reducible refine (reach_any _ _ _ (ns.drop k) ns L M p q _ (HXX.out _ ?_) (HW2.out.below ?_) (HL2.out.below ?_) (by rw [List.length_drop]; omega) h21 hpos hLM).mono ?_); ((with_reducible refine HW2.out.below ?_); (repeat (first | with_reducible exact Below.refl _ _ | with_reducible refine below_drewN ?_ _ | with_reducible refine bl_alloc ?_ _ | with_reducible refine bl_drew ?_))); (repeat (first | with_reducible exact Below.refl _ _ | with_reducible refine below_drewN ?_ _ | with_reducible refine bl_alloc ?_ _ | with_reducible refine bl_drew ?_)); (repeat (first | with_reducible exact Below.refl _ _ | with_reducible refine below_drewN ?_ _ | with_reducible refine bl_alloc ?_ _ | with_reducible refine bl_drew ?_)); rintro e w5 ⟨rfl, h5⟩)))
              all_goals
                have hb5 : Below w2.heap.size w2 w5 := bl_call h5 (by (repeat (first | with_reducible exact Below.refl _ _ | with_reducible refine below_drewN ?_ _ | with_reducible refine bl_alloc ?_ _ | with_reducible refine bl_drew ?_)))
                clear c00 c01 c02 z0
                by_cases hR : reachB (ns.drop k).sum ns.sum p q = true
                · have HV3 := HV2.out
                  rw [if_pos hR] at HV3
                  clear HV2
                  replace HV3 := Lib.hid HV3
                  rw [hR]
                  clear hR
                  go_wp2_with fail
                  go_ret2
                  exact ⟨by rw [HV3.out]; rfl, BB.trans (hb5.mono BB.size)⟩
                · have HV3 := HV2.out
                  rw [if_neg hR] at HV3
                  replace HV2 := Lib.hid HV3
                  clear HV3
                  have hR2 : reachB (ns.drop k).sum ns.sum p q = false := Bool.eq_false_iff.2 hR
                  rw [hR2]
                  clear hR hR2
                  replace r2 := r2.keep hb5
                  replace HW2 := Lib.hid (HW2.out.below hb5)
                  replace HL2 := Lib.hid (HL2.out.below hb5)
                  replace BB : Below w.heap.size w w5 := BB.trans (hb5.mono BB.size)
                  clear hb5 h5
                  have c00 : w5.cell? ⟨w.heap.size, 0, none⟩ = some (.bool neg) := r2.cell 0
                  have c01 : w5.cell? ⟨w.heap.size, 1, none⟩ = some (.slice LA ln lc) := r2.cell 1
                  have c02 : w5.cell? ⟨w.heap.size, 2, none⟩ = some (.slice LB lk lb) := r2.cell 2
                  have z0 := r2.lt
                  go_wp2_with fail
                  go_region_law (first | (go_simp; go_at_call 14; ((with_reducible refine (reach_any _ _ _ (ns.take k) ns L M p q _ (HYY.out _ ?_) (HW2.out.below ?_) (HL2.out.below ?_) (by rw [List.length_take]; omega) h21 hpos hLM).mono ?_); ((with_reducible refine HW2.out.below ?_); (repeat (first | with_reducible exact Below.refl _ _ | with_reducible refine below_drewN ?_ _ | with_reducible refine bl_alloc ?_ _ | with_reducible refine bl_drew ?_))); (repeat (first | with_reducible exact Below.refl _ _ | with_reducible refine below_drewN ?_ _ | with_reducible refine bl_alloc ?_ _ | with_reducible refine bl_drew ?_)); (repeat (first | with_reducible exact Below.refl _ _ | with_reducible refine below_drewN ?_ _ | with_reducible refine bl_alloc ?_ _ | with_reducible refine bl_drew ?_)); rintro e w7 ⟨rfl, h7⟩)))
                  all_goals
                    have hb7 : Below w5.heap.size w5 w7 := bl_call h7 (by (repeat (first | with_reducible exact Below.refl _ _ | with_reducible refine below_drewN ?_ _ | with_reducible refine bl_alloc ?_ _ | with_reducible refine bl_drew ?_)))
                    clear c00 c01 c02 z0
                    by_cases hR : reachB (ns.take k).sum ns.sum p q = true
                    · have HV3 := HV2.out
                      rw [if_pos hR] at HV3
                      clear HV2
                      replace HV3 := Lib.hid HV3
                      rw [hR]
                      clear hR
                      go_wp2_with fail
                      go_ret2
                      exact ⟨by rw [HV3.out]; rfl, BB.trans (hb7.mono BB.size)⟩
                    · have HV3 := HV2.out
                      rw [if_neg hR] at HV3
                      clear HV2
                      replace HV3 := Lib.hid HV3
                      have hR2 : reachB (ns.take k).sum ns.sum p q = false := Bool.eq_false_iff.2 hR
                      rw [hR2]
                      clear hR hR2
                      go_wp2_with fail
                      go_ret2
                      exact ⟨by rw [HV3.out]; rfl, BB.trans (hb7.mono BB.size)⟩
  · have HV1 : classE ns c p q = chkS ns := classE_chk hE
    have HV2 : classV ns c p q = 0 := classV_bad (by rw [HV1]; exact hE)
    rw [HV1, HV2]
    clear HV1 HV2
    have t1 : ((chkS ns) != 0) = true := by simpa using hE
    generalize chkS ns = E at *
    have c00 : W0.cell? ⟨w.heap.size, 0, none⟩ = some (.bool neg) := r0.cell 0
    have c01 : W0.cell? ⟨w.heap.size, 1, none⟩ = some (.slice LA ln lc) := r0.cell 1
    have c02 : W0.cell? ⟨w.heap.size, 2, none⟩ = some (.slice LB lk lb) := r0.cell 2
    have z0 := r0.lt
    go_enter Tryz.func6, Tryz.ntmps6
    go_wp2_with fail
    rw [← hW0]
    clear hW0
    go_wp2_with fail
    clear c00 c01 c02 z0
    refine (HC.out _ B0).mono ?_
    rintro e w1 ⟨rfl, hb⟩
    clear HC
    replace r0 := r0.keep hb
    have BB : Below w.heap.size w w1 := B0.trans (hb.mono B0.size)
    clear hb B0
    have c00 : w1.cell? ⟨w.heap.size, 0, none⟩ = some (.bool neg) := r0.cell 0
    have c01 : w1.cell? ⟨w.heap.size, 1, none⟩ = some (.slice LA ln lc) := r0.cell 1
    have c02 : w1.cell? ⟨w.heap.size, 2, none⟩ = some (.slice LB lk lb) := r0.cell 2
    have z0 := r0.lt
    go_wp2_with fail
    go_ret2
    exact ⟨rfl, BB⟩
end Go.Proofs.YtfoleamcaflfeaaGreatDoor
