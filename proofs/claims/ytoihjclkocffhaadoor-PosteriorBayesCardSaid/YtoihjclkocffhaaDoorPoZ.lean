/- PosteriorBayes. -/
import Derived.Test.YtoihjclkocffhaaDoorPoW
import Derived.Test.YtoihjclkocffhaaDoorPoY
import Derived.Test.YtoihjclkocffhaaDoorRatS
import Derived.Test.YtoihjclkocffhaaDoorRatW
import Derived.Test.YtoihjclkocffhaaDoorMoB
namespace Go.Proofs.YtoihjclkocffhaaDoor
open Go.RowKit
set_option linter.unusedVariables false
set_option maxRecDepth 100000

theorem getD_memZ {α : Type} {l : List α} {i : Nat} (d : α) (h : i < l.length) : l.getD i d ∈ l := by
  rw [List.getD_eq_getElem?_getD, List.getElem?_eq_getElem h]
  exact List.getElem_mem _
theorem mom_cong {f g : Nat → Int} : ∀ {k : Nat}, (∀ i, i < k → f i = g i) → mom f k = mom g k
  | 0, _ => rfl
  | k + 1, h => by
    show mom f k + f k = mom g k + g k
    rw [mom_cong (fun i hi => h i (by omega)), h k (by omega)]
theorem mom_addB (f g : Nat → Int) : ∀ k, mom (fun i => f i + g i) k = mom f k + mom g k
  | 0 => rfl
  | k + 1 => by
    show mom _ k + (f k + g k) = mom f k + f k + (mom g k + g k)
    rw [mom_addB f g k]
    omega
theorem mom_mulB (f : Nat → Int) (a : Int) : ∀ k, mom (fun i => a * f i) k = a * mom f k
  | 0 => by show (0 : Int) = a * 0; rw [Int.mul_zero]
  | k + 1 => by
    show mom _ k + _ = a * (mom f k + f k)
    rw [mom_mulB f a k, Int.mul_add]
theorem mom_zeroB : ∀ k, mom (fun _ => 0) k = 0
  | 0 => rfl
  | k + 1 => by show mom _ k + 0 = 0; rw [mom_zeroB k]; rfl
theorem mom_row (r : List Int) : ∀ j, j ≤ r.length → mom (fun i => r.getD i 0) j = (r.take j).sum
  | 0, _ => by simp [mom]
  | j + 1, h => by
    show mom _ j + r.getD j 0 = _
    rw [mom_row r j (by omega), List.take_succ_eq_append_getElem (by omega), List.sum_append, List.getD_eq_getElem?_getD, List.getElem?_eq_getElem (by omega)]
    simp
theorem sum_succB (ns : List Nat) {j : Nat} (h : j < ns.length) : (ns.take (j + 1)).sum = (ns.take j).sum + ns.getD j 0 := by
  rw [List.take_succ_eq_append_getElem h, List.sum_append, List.getD_eq_getElem?_getD, List.getElem?_eq_getElem h]
  simp
/-- The predicted numerators add up to the sum of the weights, times 1000. -/
theorem dot_mom {ns : List Nat} {m : Mdl} {c : Nat} (hm : ∀ i, i < ns.length → (m.getD i []).length = c ∧ (m.getD i []).sum = 1000 ∧ ∀ j, 0 ≤ (m.getD i []).getD j 0) : ∀ i, i ≤ ns.length → mom (fun j => (dotN ns m j i : Int)) c = (((ns.take i).sum * 1000 : Nat) : Int)
  | 0, _ => by
    show mom (fun _ => (0 : Int)) c = _
    rw [mom_zeroB]; simp
  | i + 1, h => by
    obtain ⟨h1, h2, h3⟩ := hm i (by omega)
    have e : mom (fun j => (dotN ns m j (i + 1) : Int)) c = mom (fun j => (dotN ns m j i : Int) + (ns.getD i 0 : Int) * (m.getD i []).getD j 0) c := by
      refine mom_cong fun j _ => ?_
      show ((dotN ns m j i + ns.getD i 0 * ((m.getD i []).getD j 0).toNat : Nat) : Int) = _
      rw [Int.natCast_add, Int.natCast_mul, Int.toNat_of_nonneg (h3 j)]
    have er := mom_row (m.getD i []) c (by omega)
    rw [List.take_of_length_le (by omega), h2] at er
    rw [e, mom_addB, mom_mulB, er, dot_mom hm i (by omega), sum_succB ns (by omega)]
    push_cast
    omega
theorem upd_sum {ns : List Nat} {m : Mdl} {k : Nat} : ∀ i, i ≤ ns.length → ((updF m (k : Int) ns).take i).sum = dotN ns m k i
  | 0, _ => by simp [dotN]
  | i + 1, h => by
    rw [sum_succB _ (by rw [updF_len]; omega), upd_sum i (by omega), updF_get m _ ns (by omega)]
    show _ = dotN ns m k i + _
    unfold facU
    rw [if_neg (by rw [Bool.not_eq_true]; exact missK_no.2 ⟨by omega, by omega⟩)]
    simp
theorem sum_le {ns : List Nat} {B : Nat} (h : ∀ i, i < ns.length → ns.getD i 0 ≤ B) : ∀ i, i ≤ ns.length → (ns.take i).sum ≤ i * B
  | 0, _ => by simp
  | i + 1, hi => by
    have := sum_le h i (by omega)
    have h2 := h i (by omega)
    rw [sum_succB ns (by omega), Nat.succ_mul]
    omega
theorem sum_ge {ns : List Nat} {q : Nat} : ∀ i, i ≤ ns.length → q < i → ns.getD q 0 ≤ (ns.take i).sum
  | 0, _, h => by omega
  | i + 1, hi, h => by
    rw [sum_succB ns (by omega)]
    rcases Nat.lt_or_ge q i with hq | hq
    · have := sum_ge (ns := ns) i (by omega) hq; omega
    · obtain rfl : q = i := by omega
      omega
theorem mom_nn {f : Nat → Int} (h : ∀ i, 0 ≤ f i) : ∀ k, 0 ≤ mom f k
  | 0 => Int.le_refl _
  | k + 1 => Int.add_nonneg (mom_nn h k) (h k)
theorem mom_le {f : Nat → Int} (h : ∀ i, 0 ≤ f i) {j : Nat} : ∀ k, j ≤ k → mom f j ≤ mom f k
  | 0, hj => by
    obtain rfl : j = 0 := by omega
    exact Int.le_refl _
  | k + 1, hj => by
    rcases Nat.lt_or_ge j (k + 1) with hl | hl
    · have := mom_le h k (j := j) (by omega)
      have := h k
      show mom f j ≤ mom f k + f k
      omega
    · obtain rfl : j = k + 1 := by omega
      exact Int.le_refl _
theorem cmpZ_self (a : Int) : cmpZ a a = 0 := by unfold cmpZ; simp
/-- What the law knows where the weights have shares, the model is valid and the response is a category. -/
theorem bayes_facts {ns : List Nat} {m : Mdl} {k L : Nat} (hc : chkE ns = 0) (hp : prdE ns m = 0) (hk : k < catsOf m) (hL : ∀ i, i < ns.length → ns.getD i 0 < bp L) :
    ns.length ≤ 21 ∧ catsOf m ≤ 6 ∧ updE ns.length m (k : Int) = 0 ∧ chkE (updF m (k : Int) ns) = 0 ∧ 0 < ns.sum ∧ 0 < (updF m (k : Int) ns).sum ∧ (updF m (k : Int) ns).sum = dotN ns m k ns.length ∧
    mom (fun j => (dotN ns m j ns.length : Int)) (catsOf m) = ((ns.sum * 1000 : Nat) : Int) ∧ ns.sum * 1000 < bp (L + 1) * 21000 ∧ modE m (ns.length : Int) = 0 ∧ m.length = ns.length := by
  obtain ⟨h21, hz⟩ := chkE_zero hc
  have hmod : modE m (ns.length : Int) = 0 := by
    unfold prdE at hp
    rw [if_neg (by simpa using hc)] at hp
    exact hp
  obtain ⟨m1, m2, m3, m4, m5, m6⟩ := modE_zero hmod
  have hml : m.length = ns.length := by omega
  have hrow : ∀ i, i < ns.length → (m.getD i []).length = catsOf m ∧ (∀ x ∈ m.getD i [], 1 ≤ x ∧ x ≤ 1000) ∧ (m.getD i []).sum = 1000 := fun i hi => m6 _ (getD_memZ [] (by omega))
  have hx : ∀ i j, i < ns.length → j < catsOf m → 1 ≤ (m.getD i []).getD j 0 ∧ (m.getD i []).getD j 0 ≤ 1000 := fun i j hi hj => by
    obtain ⟨r1, r2, _⟩ := hrow i hi
    exact r2 _ (getD_memZ 0 (by omega))
  have hnn : ∀ i, i < ns.length → ∀ j, 0 ≤ (m.getD i []).getD j 0 := fun i hi j => by
    rcases Nat.lt_or_ge j (catsOf m) with hj | hj
    · have := hx i j hi hj; omega
    · rw [List.getD_eq_getElem?_getD, List.getElem?_eq_none (by rw [(hrow i hi).1]; exact hj)]; exact Int.le_refl _
  obtain ⟨q, hq, hqz⟩ : ∃ q, q < ns.length ∧ ns.getD q 0 ≠ 0 := by
    by_cases h : ∃ q, q < ns.length ∧ ns.getD q 0 ≠ 0
    · exact h
    · exfalso
      have : all0 ns = true := all0_iff.2 fun i hi => by
        by_cases h2 : ns.getD i 0 = 0
        · exact h2
        · exact absurd ⟨i, hi, h2⟩ h
      rw [hz] at this; exact absurd this (by decide)
  have hS : 0 < ns.sum := by
    have := sum_ge (ns := ns) (q := q) ns.length (Nat.le_refl _) hq
    rw [List.take_length] at this
    omega
  have hu : updE ns.length m (k : Int) = 0 := updE_ok h21 hmod (missK_no.2 ⟨by omega, by omega⟩) (by omega) (by omega)
  have hupos : 0 < (updF m (k : Int) ns).getD q 0 := by
    rw [updF_get m _ ns hq]
    refine Nat.mul_pos (by omega) ?_
    unfold facU
    rw [if_neg (by rw [Bool.not_eq_true]; exact missK_no.2 ⟨by omega, by omega⟩)]
    have := hx q k hq hk
    simp only [Int.toNat_natCast]
    omega
  have hS' : 0 < (updF m (k : Int) ns).sum := by
    have := sum_ge (ns := updF m (k : Int) ns) (q := q) ns.length (by rw [updF_len]; exact Nat.le_refl _) hq
    rw [show ns.length = (updF m (k : Int) ns).length from (updF_len _ _ _).symm, List.take_length] at this
    omega
  have hc2 : chkE (updF m (k : Int) ns) = 0 := by
    unfold chkE
    rw [updF_len, if_neg (by omega), if_neg]
    intro h
    have := all0_iff.1 h q (by rw [updF_len]; exact hq)
    omega
  have hsum : (updF m (k : Int) ns).sum = dotN ns m k ns.length := by
    have := upd_sum (ns := ns) (m := m) (k := k) ns.length (Nat.le_refl _)
    rw [show ns.length = (updF m (k : Int) ns).length from (updF_len _ _ _).symm, List.take_length] at this
    rw [this, updF_len]
  have hdm := dot_mom (ns := ns) (m := m) (c := catsOf m) (fun i hi => ⟨(hrow i hi).1, (hrow i hi).2.2, hnn i hi⟩) ns.length (Nat.le_refl _)
  rw [List.take_length] at hdm
  refine ⟨h21, m5, hu, hc2, hS, hS', hsum, hdm, ?_, hmod, hml⟩
  have := sum_le (ns := ns) (B := bp L) (fun i hi => Nat.le_of_lt (hL i hi)) ns.length (Nat.le_refl _)
  rw [List.take_length] at this
  have h3 : ns.length * bp L ≤ 21 * bp L := Nat.mul_le_mul_right _ h21
  have h4 := bp_pos L
  rw [bp_succ]
  omega
/-- The products of the law, reduced, and their bounds. -/
theorem bayes_bound {n S x L : Nat} (hn : n < bp L) (hx : x ≤ 1000) (hS0 : 0 < S) (hS : S * 1000 < bp (L + 1) * 21000) :
    (redP (redP (n : Int) S * redP (x : Int) 1000) (redQ (n : Int) S * redQ (x : Int) 1000)).natAbs < bp (L + 60) ∧ redQ (redP (n : Int) S * redP (x : Int) 1000) (redQ (n : Int) S * redQ (x : Int) 1000) < bp (L + 60) := by
  have b2 : bp (L + 2) = bp (L + 1) * 4294967296 := bp_succ _
  have b3 : bp (L + 2) ≤ bp (L + 60) := bp_mono (by omega)
  have b1 : bp (L + 1) = bp L * 4294967296 := bp_succ _
  have b0 := bp_pos L
  constructor
  · refine Nat.lt_of_le_of_lt (redP_le _ _) ?_
    rw [Int.natAbs_mul]
    have h1 : (redP (n : Int) S).natAbs ≤ n := redP_le (n : Int) S
    have h2 : (redP (x : Int) 1000).natAbs ≤ x := redP_le (x : Int) 1000
    have := Nat.mul_le_mul h1 h2
    have h3 : n * x ≤ bp L * 1000 := Nat.mul_le_mul (Nat.le_of_lt hn) hx
    omega
  · refine Nat.lt_of_le_of_lt (redQ_le _ _) ?_
    have := Nat.mul_le_mul (redQ_le (n : Int) S) (redQ_le (x : Int) 1000)
    omega
/-- Item j of a list of fractions in memory. -/
theorem ratc_at {w : World} {g : Nat} {us : List T3} {zs : List (Int × Nat)} {k L base j : Nat} {P : Int} {Q : Nat} (hr : Row w g 54 (flat us)) (hc : RatC w us zs k L base) (hj : j < k) (hz : zs.getD j (0, 1) = (P, Q)) :
    ∃ A n c D l d, w.cell? ⟨g, j * 3, none⟩ = some (.bool (decide (P < 0))) ∧ w.cell? ⟨g, j * 3 + 1, none⟩ = some (.slice A n c) ∧ w.cell? ⟨g, j * 3 + 2, none⟩ = some (.slice D l d) ∧ RatF base w (.agg #[.bool (decide (P < 0)), .slice A n c, .slice D l d]) P Q L := by
  obtain ⟨h1, h2⟩ := hc
  obtain ⟨u, hu⟩ : ∃ u, us[j]? = some u := ⟨us[j]'(by omega), List.getElem?_eq_getElem _⟩
  have hel := h2 j u hu
  rw [hz] at hel
  obtain ⟨e0, e1, e2⟩ := flat_get hu
  obtain ⟨a0, a1, a2⟩ := u
  simp only at e0 e1 e2 hel
  obtain ⟨m5, d5, e5, hm5, hd5, _, _⟩ := id hel
  obtain ⟨rfl, rfl, rfl⟩ : a0 = .bool (decide (P < 0)) ∧ a1 = m5 ∧ a2 = d5 := by simpa using e5
  obtain ⟨A5, k5, c5, rfl⟩ := hm5.lim1.choose_spec.1.show_
  obtain ⟨D5, l5, b5, rfl⟩ := hd5.lim1.choose_spec.1.show_
  refine ⟨A5, k5, c5, D5, l5, b5, ?_, ?_, ?_, hel⟩
  · rw [Nat.mul_comm]; exact (hr.cell (3 * j)).trans e0
  · rw [Nat.mul_comm]; exact (hr.cell (3 * j + 1)).trans e1
  · rw [Nat.mul_comm]; exact (hr.cell (3 * j + 2)).trans e2

theorem keep12z {W w' : World} {p1 p2 p3 p4 p5 p6 p7 p8 p9 p10 p11 p12 : Addr} {x1 x2 x3 x4 x5 x6 x7 x8 x9 x10 x11 x12 : Value} (l1 : p1.block < W.heap.size) (l2 : p2.block < W.heap.size) (l3 : p3.block < W.heap.size) (l4 : p4.block < W.heap.size) (l5 : p5.block < W.heap.size) (l6 : p6.block < W.heap.size) (l7 : p7.block < W.heap.size) (l8 : p8.block < W.heap.size) (l9 : p9.block < W.heap.size) (l10 : p10.block < W.heap.size) (l11 : p11.block < W.heap.size) (l12 : p12.block < W.heap.size) (h1 : W.cell? p1 = some x1) (h2 : W.cell? p2 = some x2) (h3 : W.cell? p3 = some x3) (h4 : W.cell? p4 = some x4) (h5 : W.cell? p5 = some x5) (h6 : W.cell? p6 = some x6) (h7 : W.cell? p7 = some x7) (h8 : W.cell? p8 = some x8) (h9 : W.cell? p9 = some x9) (h10 : W.cell? p10 = some x10) (h11 : W.cell? p11 = some x11) (h12 : W.cell? p12 = some x12) (hb : Below W.heap.size W w') :
    w'.cell? p1 = some x1 ∧ w'.cell? p2 = some x2 ∧ w'.cell? p3 = some x3 ∧ w'.cell? p4 = some x4 ∧ w'.cell? p5 = some x5 ∧ w'.cell? p6 = some x6 ∧ w'.cell? p7 = some x7 ∧ w'.cell? p8 = some x8 ∧ w'.cell? p9 = some x9 ∧ w'.cell? p10 = some x10 ∧ w'.cell? p11 = some x11 ∧ w'.cell? p12 = some x12 := ⟨(hb.cell l1).trans h1, (hb.cell l2).trans h2, (hb.cell l3).trans h3, (hb.cell l4).trans h4, (hb.cell l5).trans h5, (hb.cell l6).trans h6, (hb.cell l7).trans h7, (hb.cell l8).trans h8, (hb.cell l9).trans h9, (hb.cell l10).trans h10, (hb.cell l11).trans h11, (hb.cell l12).trans h12⟩

theorem RatC.base0 {w : World} {us : List T3} {zs : List (Int × Nat)} {k L b : Nat} (h : RatC w us zs k L b) : RatC w us zs k L 0 := ⟨h.1, fun i u hi => (h.2 i u hi).base (Nat.zero_le _)⟩
theorem wts_lt {w : World} {v : Value} {ns : List Nat} {L : Nat} (h : Wts w v ns L) : ∀ i, i < ns.length → ns.getD i 0 < bp L := by
  obtain ⟨A, c, us, rfl, _, _, hs, hu⟩ := h
  intro i hi
  have hx : us[i]? = some (us[i]'(by rw [hs.1]; exact hi)) := List.getElem?_eq_getElem _
  obtain ⟨ls, h1, h2, h3⟩ := hu i _ hx
  rw [← h2]
  exact Nat.lt_of_lt_of_le (val_lt h1.2) (bp_mono h3)

set_option maxHeartbeats 32000000 in
theorem bayes_no1 (wv mv : Value) (ns : List Nat) (L : Nat) (m : Mdl) (k : Nat) (w : World) (hw : Wts w wv ns L) (hm : IntsL w mv m) (hL : L ≤ 35184372087900) (hk8 : k ≤ 255) (hE : chkE ns ≠ 0) :
    Calls Tryd.prog 8 #[wv, .agg #[mv], .int .u8 (k : Int)] w fun e w' => e = .returned (.bool true) ∧ Below w.heap.size w w' := by
  have hP : prdE ns m = chkE ns := by unfold prdE; rw [if_pos hE]
  have HSH := Lib.hid (fun (W : World) (h : Below w.heap.size w W) => share_no wv ns L W (hw.below h) (by omega) hE)
  have HPR := Lib.hid (fun (W : World) (h : Below w.heap.size w W) => predict_no wv mv ns L m W (hw.below h) (hm.below h) (by omega) (by rw [hP]; exact hE))
  rw [hP] at HPR
  have t1 : (chkE ns != 0) = true := by rw [bne_iff_ne]; exact hE
  generalize chkE ns = E at *
  clear hP
  obtain ⟨MA, mc, mus, rfl, _, _, _, _⟩ := hm
  obtain ⟨WA, wc, us, rfl, hwl, hwm, _, _⟩ := hw
  unfold maxLen at hwm
  have wk : IntKind.i64.wrap (k : Int) = (k : Int) := by rw [IntKind.wrap_i64]; omega
  obtain ⟨W0, hW0⟩ : ∃ W0 : World, W0 = w.alloc (.cells #[.slice MA m.length mc] 25) := ⟨_, rfl⟩
  have r0 : Row W0 w.heap.size 25 [.slice MA m.length mc] := by
    rw [hW0]
    have := Row.new w 25 [.slice MA m.length mc]
    simpa using this
  have B0 : Below w.heap.size w W0 := by rw [hW0]; exact ((Below.refl _ _).alloc (Nat.le_refl _) _)
  go_enter Tryd.func8, Tryd.ntmps8
  go_wp2_with fail
  rw [← hW0]
  clear hW0
  have BB := B0
  have hr4 := r0
  clear B0 r0
  have c40 : W0.cell? ⟨w.heap.size, 0, none⟩ = some (.slice MA m.length mc) := hr4.cell 0
  have z4 := hr4.lt
  go_wp2_with fail
  clear c40 z4
  refine (HSH.out _ BB).mono ?_
  rintro e x1 ⟨rfl, hb⟩
  replace hr4 := hr4.keep hb
  replace BB : Below w.heap.size w x1 := BB.trans (hb.mono BB.size)
  clear hb
  have c40 : x1.cell? ⟨w.heap.size, 0, none⟩ = some (.slice MA m.length mc) := hr4.cell 0
  have z4 := hr4.lt
  go_wp2_with fail
  clear c40 z4
  refine (HPR.out _ BB).mono ?_
  rintro e x2 ⟨rfl, hb⟩
  replace hr4 := hr4.keep hb
  replace BB : Below w.heap.size w x2 := BB.trans (hb.mono BB.size)
  clear hb
  have c40 : x2.cell? ⟨w.heap.size, 0, none⟩ = some (.slice MA m.length mc) := hr4.cell 0
  have z4 := hr4.lt
  go_wp2_with fail
  clear c40 z4
  refine (awake_any _).mono ?_
  rintro e x3 ⟨rfl, hb⟩
  replace hr4 := hr4.keep hb
  replace BB : Below w.heap.size w x3 := BB.trans (hb.mono BB.size)
  clear hb
  go_wp2_with fail
  go_ret
  exact ⟨rfl, BB⟩

set_option maxHeartbeats 32000000 in
theorem bayes_no2 (wv mv : Value) (ns : List Nat) (L : Nat) (m : Mdl) (k : Nat) (w : World) (hw : Wts w wv ns L) (hm : IntsL w mv m) (hL : L ≤ 35184372087900) (hk8 : k ≤ 255) (hE : chkE ns = 0) (hP : prdE ns m ≠ 0) :
    Calls Tryd.prog 8 #[wv, .agg #[mv], .int .u8 (k : Int)] w fun e w' => e = .returned (.bool true) ∧ Below w.heap.size w w' := by
  have HSH := Lib.hid (fun (W : World) (h : Below w.heap.size w W) => share_yes wv ns L W (hw.below h) (by omega) hE)
  have HPR := Lib.hid (fun (W : World) (h : Below w.heap.size w W) => predict_no wv mv ns L m W (hw.below h) (hm.below h) (by omega) hP)
  have t1 : (prdE ns m != 0) = true := by rw [bne_iff_ne]; exact hP
  generalize prdE ns m = E at *
  obtain ⟨MA, mc, mus, rfl, _, _, _, _⟩ := hm
  obtain ⟨WA, wc, us, rfl, hwl, hwm, _, _⟩ := hw
  unfold maxLen at hwm
  have wk : IntKind.i64.wrap (k : Int) = (k : Int) := by rw [IntKind.wrap_i64]; omega
  obtain ⟨W0, hW0⟩ : ∃ W0 : World, W0 = w.alloc (.cells #[.slice MA m.length mc] 25) := ⟨_, rfl⟩
  have r0 : Row W0 w.heap.size 25 [.slice MA m.length mc] := by
    rw [hW0]
    have := Row.new w 25 [.slice MA m.length mc]
    simpa using this
  have B0 : Below w.heap.size w W0 := by rw [hW0]; exact ((Below.refl _ _).alloc (Nat.le_refl _) _)
  go_enter Tryd.func8, Tryd.ntmps8
  go_wp2_with fail
  rw [← hW0]
  clear hW0
  have BB := B0
  have hr4 := r0
  clear B0 r0
  have c40 : W0.cell? ⟨w.heap.size, 0, none⟩ = some (.slice MA m.length mc) := hr4.cell 0
  have z4 := hr4.lt
  go_wp2_with fail
  clear c40 z4
  refine (HSH.out _ BB).mono ?_
  rintro e x1 ⟨gB, uB, rfl, hrB, hcB, hb⟩
  replace hr4 := hr4.keep hb
  replace BB : Below w.heap.size w x1 := BB.trans (hb.mono BB.size)
  clear hb
  have c40 : x1.cell? ⟨w.heap.size, 0, none⟩ = some (.slice MA m.length mc) := hr4.cell 0
  have z4 := hr4.lt
  go_wp2_with fail
  clear c40 z4
  refine (HPR.out _ BB).mono ?_
  rintro e x2 ⟨rfl, hb⟩
  replace hr4 := hr4.keep hb
  replace BB : Below w.heap.size w x2 := BB.trans (hb.mono BB.size)
  clear hb
  have c40 : x2.cell? ⟨w.heap.size, 0, none⟩ = some (.slice MA m.length mc) := hr4.cell 0
  have z4 := hr4.lt
  go_wp2_with fail
  clear c40 z4
  refine (awake_any _).mono ?_
  rintro e x3 ⟨rfl, hb⟩
  replace hr4 := hr4.keep hb
  replace BB : Below w.heap.size w x3 := BB.trans (hb.mono BB.size)
  clear hb
  go_wp2_with fail
  go_ret
  exact ⟨rfl, BB⟩

set_option maxHeartbeats 32000000 in
theorem bayes_no3 (wv mv : Value) (ns : List Nat) (L : Nat) (m : Mdl) (k : Nat) (w : World) (hw : Wts w wv ns L) (hm : IntsL w mv m) (hL : L ≤ 35184372087900) (hk8 : k ≤ 255) (hE : chkE ns = 0) (hP : prdE ns m = 0) (hk : catsOf m ≤ k) :
    Calls Tryd.prog 8 #[wv, .agg #[mv], .int .u8 (k : Int)] w fun e w' => e = .returned (.bool true) ∧ Below w.heap.size w w' := by
  have HSH := Lib.hid (fun (W : World) (h : Below w.heap.size w W) => share_yes wv ns L W (hw.below h) (by omega) hE)
  have HPR := Lib.hid (fun (W : World) (h : Below w.heap.size w W) => predict_yes wv mv ns L m W (hw.below h) (hm.below h) (by omega) hP)
  obtain ⟨c, hc⟩ : ∃ c, catsOf m = c := ⟨_, rfl⟩
  rw [hc] at HPR hk
  have t1 : decide ((c : Int) ≤ (k : Int)) = true := decide_eq_true (by omega)
  have t2 : decide (c ≤ k) = true := decide_eq_true hk
  clear hc hE hP
  obtain ⟨MA, mc, mus, rfl, _, _, _, _⟩ := hm
  obtain ⟨WA, wc, us, rfl, hwl, hwm, _, _⟩ := hw
  unfold maxLen at hwm
  have wk : IntKind.i64.wrap (k : Int) = (k : Int) := by rw [IntKind.wrap_i64]; omega
  obtain ⟨W0, hW0⟩ : ∃ W0 : World, W0 = w.alloc (.cells #[.slice MA m.length mc] 25) := ⟨_, rfl⟩
  have r0 : Row W0 w.heap.size 25 [.slice MA m.length mc] := by
    rw [hW0]
    have := Row.new w 25 [.slice MA m.length mc]
    simpa using this
  have B0 : Below w.heap.size w W0 := by rw [hW0]; exact ((Below.refl _ _).alloc (Nat.le_refl _) _)
  go_enter Tryd.func8, Tryd.ntmps8
  go_wp2_with fail
  rw [← hW0]
  clear hW0
  have BB := B0
  have hr4 := r0
  clear B0 r0
  have c40 : W0.cell? ⟨w.heap.size, 0, none⟩ = some (.slice MA m.length mc) := hr4.cell 0
  have z4 := hr4.lt
  go_wp2_with fail
  clear c40 z4
  refine (HSH.out _ BB).mono ?_
  rintro e x1 ⟨gB, uB, rfl, hrB, hcB, hb⟩
  replace hr4 := hr4.keep hb
  replace BB : Below w.heap.size w x1 := BB.trans (hb.mono BB.size)
  clear hb
  have c40 : x1.cell? ⟨w.heap.size, 0, none⟩ = some (.slice MA m.length mc) := hr4.cell 0
  have z4 := hr4.lt
  go_wp2_with fail
  clear c40 z4
  refine (HPR.out _ BB).mono ?_
  rintro e x2 ⟨gP, uP, rfl, hrP, hcP, hb⟩
  replace hr4 := hr4.keep hb
  replace hrB := hrB.keep hb
  replace hcB := hcB.below hb
  replace BB : Below w.heap.size w x2 := BB.trans (hb.mono BB.size)
  clear hb
  have c40 : x2.cell? ⟨w.heap.size, 0, none⟩ = some (.slice MA m.length mc) := hr4.cell 0
  have z4 := hr4.lt
  go_wp2_with fail
  clear c40 z4
  refine (awake_any _).mono ?_
  rintro e x3 ⟨rfl, hb⟩
  replace hr4 := hr4.keep hb
  replace hrB := hrB.keep hb
  replace hcB := hcB.below hb
  replace hrP := hrP.keep hb
  replace hcP := hcP.below hb
  replace BB : Below w.heap.size w x3 := BB.trans (hb.mono BB.size)
  clear hb
  go_wp2_with fail
  go_ret
  exact ⟨rfl, BB⟩

set_option maxHeartbeats 32000000 in
theorem bayes_yes (wv mv : Value) (ns : List Nat) (L : Nat) (m : Mdl) (k : Nat) (w : World) (hw : Wts w wv ns L) (hm : IntsL w mv m) (hL : L ≤ 35184372087900) (hk8 : k ≤ 255) (hE : chkE ns = 0) (hP : prdE ns m = 0) (hk : k < catsOf m) :
    Calls Tryd.prog 8 #[wv, .agg #[mv], .int .u8 (k : Int)] w fun e w' => e = .returned (.bool true) ∧ Below w.heap.size w w' := by
  have HSH := Lib.hid (fun (W : World) (h : Below w.heap.size w W) => share_yes wv ns L W (hw.below h) (by omega) hE)
  have HPR := Lib.hid (fun (W : World) (h : Below w.heap.size w W) => predict_yes wv mv ns L m W (hw.below h) (hm.below h) (by omega) hP)
  have hNB : ∀ i, i < ns.length → ns.getD i 0 < bp L := wts_lt hw
  obtain ⟨h21, hc6, hu, hc2, hS0, hS1, hsum, hdm, hSB, hmod, hml⟩ := bayes_facts hE hP hk hNB
  have HUP := Lib.hid (fun (W : World) (h : Below w.heap.size w W) => update_yes wv mv ns L m (k : Int) W (hw.below h) (hm.below h) (by omega) hu)
  have HS2 := Lib.hid (fun (W : World) (v : Value) (h : Below w.heap.size w W) (hv : Wts W v (updF m (k : Int) ns) (L + 2)) => share_yes v (updF m (k : Int) ns) (L + 2) W hv (by omega) hc2)
  have HCA := Lib.hid (fun (W : World) (h : Below w.heap.size w W) => cats_any mv m W (hm.below h))
  have HUL := Lib.hid (updF_len m (k : Int) ns)
  have HPO : Hid (∀ j, j < ns.length → ∀ x : Nat, (m.getD j []).getD k 0 = (x : Int) → ∀ W, Below w.heap.size w W → Calls Tryd.prog 29 #[.agg #[mv], .int .i64 (j : Int), .int .i64 (k : Int)] W fun e w' => ∃ v, e = .returned (.tuple #[v, .int .i64 0]) ∧ RatF W.heap.size w' v (redP (x : Int) 1000) (redQ (x : Int) 1000) 2 ∧ Below W.heap.size W w') :=
    fun j hj x hx W h => prob_ok mv m j k (x : Int) W (hm.below h) (by rw [hml]; exact hmod) (by omega) hk hx
  have HX : Hid (∀ j, j < ns.length → 0 ≤ (m.getD j []).getD k 0 ∧ (m.getD j []).getD k 0 ≤ 1000) := fun j hj => by
    obtain ⟨_, _, _, _, _, m6⟩ := modE_zero hmod
    obtain ⟨r1, r2, _⟩ := m6 (m.getD j []) (getD_memZ [] (by omega))
    have := r2 ((m.getD j []).getD k 0) (getD_memZ 0 (by omega))
    omega
  have HBZ : Hid (∀ j, j < ns.length → (shareL ns).getD j (0, 1) = (redP ((ns.getD j 0 : Nat) : Int) ns.sum, redQ ((ns.getD j 0 : Nat) : Int) ns.sum)) := fun j hj => shareL_get ns hj
  have HAZ : Hid (∀ j, j < ns.length → (shareL (updF m (k : Int) ns)).getD j (0, 1) = (redP ((ns.getD j 0 * ((m.getD j []).getD k 0).toNat : Nat) : Int) (updF m (k : Int) ns).sum, redQ ((ns.getD j 0 * ((m.getD j []).getD k 0).toNat : Nat) : Int) (updF m (k : Int) ns).sum)) := fun j hj => by
    rw [shareL_get _ (by rw [updF_len]; exact hj), updF_get m _ ns hj]
    unfold facU
    rw [if_neg (by rw [Bool.not_eq_true]; exact missK_no.2 ⟨by omega, by omega⟩)]
    simp only [Int.toNat_natCast]
  have HPK : Hid ((predL ns m (catsOf m)).getD k (0, 1) = (redP ((updF m (k : Int) ns).sum : Int) (ns.sum * 1000), redQ ((updF m (k : Int) ns).sum : Int) (ns.sum * 1000))) := by
    unfold Hid
    rw [predL_get ns m _ hk, hsum]
  have HPZ : Hid (∀ j, j < catsOf m → (predL ns m (catsOf m)).getD j (0, 1) = (redP ((fun j => (dotN ns m j ns.length : Int)) j) (ns.sum * 1000), redQ ((fun j => (dotN ns m j ns.length : Int)) j) (ns.sum * 1000))) := fun j hj => predL_get ns m _ hj
  have hD : 0 < ns.sum * 1000 := by omega
  have hDb : ns.sum * 1000 < bp (L + 60) := by
    have b2 : bp (L + 2) = bp (L + 1) * 4294967296 := bp_succ _
    have b3 : bp (L + 2) ≤ bp (L + 60) := bp_mono (by omega)
    omega
  have HBD : Hid (∀ j, j ≤ catsOf m → (redP (mom (fun j => (dotN ns m j ns.length : Int)) j) (ns.sum * 1000)).natAbs < bp (L + 60) ∧ redQ (mom (fun j => (dotN ns m j ns.length : Int)) j) (ns.sum * 1000) < bp (L + 60)) := fun j hj => by
    have h1 := mom_nn (f := fun j => (dotN ns m j ns.length : Int)) (fun i => Int.natCast_nonneg _) j
    have h2 := mom_le (f := fun j => (dotN ns m j ns.length : Int)) (fun i => Int.natCast_nonneg _) (catsOf m) hj
    rw [hdm] at h2
    exact ⟨Nat.lt_of_le_of_lt (redP_le _ _) (by omega), Nat.lt_of_le_of_lt (redQ_le _ _) hDb⟩
  have HM1 : Hid (redP (mom (fun j => (dotN ns m j ns.length : Int)) (catsOf m)) (ns.sum * 1000) = 1) := by
    unfold Hid; rw [hdm]; unfold redP; rw [Int.natAbs_natCast, Nat.gcd_self]; exact Int.ediv_self (by omega)
  have HM2 : Hid (redQ (mom (fun j => (dotN ns m j ns.length : Int)) (catsOf m)) (ns.sum * 1000) = 1) := by
    unfold Hid; rw [hdm]; unfold redQ; rw [Int.natAbs_natCast, Nat.gcd_self]; exact Nat.div_self hD
  have HD := Lib.hid hD
  have HNB := Lib.hid hNB
  have HS := Lib.hid hS0
  have HSS := Lib.hid hS1
  have HSB := Lib.hid hSB
  have HKC := Lib.hid hk
  clear hNB hu hc2 hS0 hS1 hdm hSB hmod hml hD hDb hE hP
  have hz : ∀ j, (dotN ns m j ns.length) = (dotN ns m j ns.length) := fun _ => rfl
  clear hz hsum
  generalize hdj : (fun j => (dotN ns m j ns.length : Int)) = fj at *
  clear hdj
  generalize predL ns m (catsOf m) = zP at *
  generalize ns.sum = S at *
  obtain ⟨S', hS'⟩ : ∃ x, (updF m (k : Int) ns).sum = x := ⟨_, rfl⟩
  rw [hS'] at HSS HAZ HPK
  clear hS'
  obtain ⟨D, hDD⟩ : ∃ x, S * 1000 = x := ⟨_, rfl⟩
  rw [hDD] at HPZ HBD HM1 HM2 HD
  clear hDD
  generalize catsOf m = c at *
  obtain ⟨MA, mc, mus, rfl, _, _, _, _⟩ := hm
  obtain ⟨WA, wc, us, rfl, hwl, hwm, _, _⟩ := hw
  unfold maxLen at hwm
  have wk : IntKind.i64.wrap (k : Int) = (k : Int) := by rw [IntKind.wrap_i64]; omega
  obtain ⟨n, hnn⟩ : ∃ n, ns.length = n := ⟨_, rfl⟩
  rw [hnn] at HSH HPR HUP HUL HPO HX HBZ HAZ HNB h21 hwl ⊢
  clear hnn
  have t1 : decide ((c : Int) ≤ (k : Int)) = false := decide_eq_false (by omega)
  have t2 : decide (c ≤ k) = false := decide_eq_false (by omega)
  obtain ⟨W0, hW0⟩ : ∃ W0 : World, W0 = w.alloc (.cells #[.slice MA m.length mc] 25) := ⟨_, rfl⟩
  have r0 : Row W0 w.heap.size 25 [.slice MA m.length mc] := by
    rw [hW0]
    have := Row.new w 25 [.slice MA m.length mc]
    simpa using this
  have B0 : Below w.heap.size w W0 := by rw [hW0]; exact ((Below.refl _ _).alloc (Nat.le_refl _) _)
  go_enter Tryd.func8, Tryd.ntmps8
  go_wp2_with fail
  rw [← hW0]
  clear hW0
  have BB := B0
  have hr4 := r0
  clear B0 r0
  have c40 : W0.cell? ⟨w.heap.size, 0, none⟩ = some (.slice MA m.length mc) := hr4.cell 0
  have z4 := hr4.lt
  go_wp2_with fail
  clear c40 z4
  refine (HSH.out _ BB).mono ?_
  rintro e x1 ⟨gB, uB, rfl, hrB, hcB, hb⟩
  replace hr4 := hr4.keep hb
  replace BB : Below w.heap.size w x1 := BB.trans (hb.mono BB.size)
  clear hb
  have c40 : x1.cell? ⟨w.heap.size, 0, none⟩ = some (.slice MA m.length mc) := hr4.cell 0
  have z4 := hr4.lt
  go_wp2_with fail
  clear c40 z4
  refine (HPR.out _ BB).mono ?_
  rintro e x2 ⟨gP, uP, rfl, hrP, hcP, hb⟩
  replace hr4 := hr4.keep hb
  replace hrB := hrB.keep hb
  replace hcB := hcB.below hb
  replace BB : Below w.heap.size w x2 := BB.trans (hb.mono BB.size)
  clear hb
  have c40 : x2.cell? ⟨w.heap.size, 0, none⟩ = some (.slice MA m.length mc) := hr4.cell 0
  have z4 := hr4.lt
  go_wp2_with fail
  clear c40 z4
  refine (HUP.out _ BB).mono ?_
  rintro e x3 ⟨vu, rfl, hvu, _, hb⟩
  replace hr4 := hr4.keep hb
  replace hrB := hrB.keep hb
  replace hcB := hcB.below hb
  replace hrP := hrP.keep hb
  replace hcP := hcP.below hb
  replace BB : Below w.heap.size w x3 := BB.trans (hb.mono BB.size)
  clear hb
  obtain ⟨UA, uc, uus, rfl, _⟩ := id hvu
  rw [HUL.out] at hvu ⊢
  have c40 : x3.cell? ⟨w.heap.size, 0, none⟩ = some (.slice MA m.length mc) := hr4.cell 0
  have z4 := hr4.lt
  go_wp2_with fail
  clear c40 z4
  refine (HS2.out _ _ BB hvu.wts).mono ?_
  rintro e x4 ⟨gA, uA, rfl, hrA, hcA, hb⟩
  replace hr4 := hr4.keep hb
  replace hrB := hrB.keep hb
  replace hcB := hcB.below hb
  replace hrP := hrP.keep hb
  replace hcP := hcP.below hb
  replace hvu := hvu.below hb
  replace BB : Below w.heap.size w x4 := BB.trans (hb.mono BB.size)
  clear hb
  rw [HUL.out] at hcA ⊢
  have z1 : ((n : Int) != (n : Int)) = false := by simp
  have z2 : ((c : Int) != (c : Int)) = false := by simp
  have c40 : x4.cell? ⟨w.heap.size, 0, none⟩ = some (.slice MA m.length mc) := hr4.cell 0
  have z4 := hr4.lt
  go_wp2_with fail
  clear c40 z4
  refine (HCA.out _ BB).mono ?_
  rintro e x5 ⟨rfl, hb⟩
  replace hr4 := hr4.keep hb
  replace hrB := hrB.keep hb
  replace hcB := hcB.below hb
  replace hrP := hrP.keep hb
  replace hcP := hcP.below hb
  replace hvu := hvu.below hb
  replace hrA := hrA.keep hb
  replace hcA := hcA.below hb
  replace BB : Below w.heap.size w x5 := BB.trans (hb.mono BB.size)
  clear hb
  have c40 : x5.cell? ⟨w.heap.size, 0, none⟩ = some (.slice MA m.length mc) := hr4.cell 0
  have z4 := hr4.lt
  go_wp2_with fail
  clear c40 z4
  refine (qsum_any gP c D (L + 60) uP zP fj _ hrP (hcP.base0) HPZ.out HD.out (by omega) (by omega) HBD.out (by omega)).mono ?_
  rintro e x6 ⟨vs, rfl, hvs, hb⟩
  replace hr4 := hr4.keep hb
  replace hrB := hrB.keep hb
  replace hcB := hcB.below hb
  replace hrP := hrP.keep hb
  replace hcP := hcP.below hb
  replace hvu := hvu.below hb
  replace hrA := hrA.keep hb
  replace hcA := hcA.below hb
  replace BB : Below w.heap.size w x6 := BB.trans (hb.mono BB.size)
  clear hb
  rw [HM1.out, HM2.out] at hvs
  replace hvs := (hvs.tight (L := 1) (by decide) (by decide))
  have hz' := hvs
  obtain ⟨mz, dz, ez, hmz, hdz, _, _⟩ := hz'
  subst ez
  obtain ⟨Az, kz, cz, rfl⟩ := hmz.lim1.choose_spec.1.show_
  obtain ⟨Dz, lz, bz, rfl⟩ := hdz.lim1.choose_spec.1.show_
  clear hmz hdz
  have c40 : x6.cell? ⟨w.heap.size, 0, none⟩ = some (.slice MA m.length mc) := hr4.cell 0
  have z4 := hr4.lt
  go_wp2_with fail
  clear c40 z4
  refine (qprint_any _ 1 1 1 1 2 _ ((hvs.ratA (by decide)).mono (by decide)) (by decide) (by decide) (by decide +kernel) (by decide +kernel) (by decide) (by decide) (by decide)).mono ?_
  rintro e x7 ⟨rfl, hb⟩
  replace hr4 := hr4.keep hb
  replace hrB := hrB.keep hb
  replace hcB := hcB.below hb
  replace hrP := hrP.keep hb
  replace hcP := hcP.below hb
  replace hvu := hvu.below hb
  replace hrA := hrA.keep hb
  replace hcA := hcA.below hb
  replace BB : Below w.heap.size w x7 := BB.trans (hb.mono BB.size)
  clear hb
  rw [show fracText 1 1 = [49] by decide +kernel]
  clear hvs
  have c40 : x7.cell? ⟨w.heap.size, 0, none⟩ = some (.slice MA m.length mc) := hr4.cell 0
  have z4 := hr4.lt
  go_wp2_with fail
  clear c40 z4
  clear z1 z2
  go_loopw [13] (fun iv wr => ∃ (j : Nat), j ≤ n ∧ iv = .int .i64 (j : Int) ∧ Below x7.heap.size x7 wr) (fun iv _ => n - (intOf iv).toNat)
  case atStart => exact ⟨0, by omega, rfl, Below.refl _ _⟩
  case round =>
    obtain ⟨j, hj, rfl, BQ⟩ := hrel
    replace hr4 := hr4.keep BQ
    replace hrB := hrB.keep BQ
    replace hrP := hrP.keep BQ
    replace hrA := hrA.keep BQ
    replace hcB := hcB.below BQ
    replace hcP := hcP.below BQ
    replace hcA := hcA.below BQ
    have BX := BQ
    have BY : Below wr.heap.size wr wr := Below.refl _ _
    replace BB : Below w.heap.size w wr := BB.trans (BQ.mono BB.size)
    by_cases hlt : j < n
    · have hjI : (j : Int) < (n : Int) := by omega
      obtain ⟨x, hxe⟩ : ∃ x : Nat, (m.getD j []).getD k 0 = (x : Int) := ⟨((m.getD j []).getD k 0).toNat, (Int.toNat_of_nonneg (HX.out j hlt).1).symm⟩
      have hx1000 := (HX.out j hlt).2
      rw [hxe] at hx1000
      obtain ⟨nj, hnj⟩ : ∃ x : Nat, ns.getD j 0 = x := ⟨_, rfl⟩
      have hnb := HNB.out j hlt
      rw [hnj] at hnb
      have HZB := Lib.hid (HBZ.out j hlt)
      have HZA := Lib.hid (HAZ.out j hlt)
      rw [hnj] at HZB HZA
      have hxx : (m.getD j []).getD k 0 = (x : Int) := hxe
      have HFU : Hid (nj * ((m.getD j []).getD k 0).toNat = nj * x) := by unfold Hid; rw [hxe]; rfl
      rw [HFU.out] at HZA
      clear hnj HFU
      obtain ⟨a1, a2⟩ := bayes_red nj S S' x HS.out HSS.out
      obtain ⟨a3, a4⟩ := bayes_bound (x := x) (S := S) hnb (by omega) HS.out HSB.out
      have PQ1 := redQ_pos (p := ((nj * x : Nat) : Int)) HSS.out
      have PQ2 := redQ_pos (p := (S' : Int)) (q := S * 1000) (by have := HS.out; omega)
      have PQ3 := redQ_pos (p := (nj : Int)) HS.out
      have PQ4 := redQ_pos (p := (x : Int)) (q := 1000) (by decide)
      have PQ5 := redQ_pos (p := redP (nj : Int) S * redP (x : Int) 1000) (Nat.mul_pos PQ3 PQ4)
      have HZP := Lib.hid (HPK.out)
      have HPB := Lib.hid (fun (W : World) (h : Below w.heap.size w W) => HPO.out j hlt x hxe W h)
      clear hxe hxx
      generalize redP ((nj * x : Nat) : Int) S' = P1 at *
      generalize redQ ((nj * x : Nat) : Int) S' = Q1 at *
      generalize redP (S' : Int) (S * 1000) = P2 at *
      generalize redQ (S' : Int) (S * 1000) = Q2 at *
      generalize redP (nj : Int) S = P3 at *
      generalize redQ (nj : Int) S = Q3 at *
      generalize redP (x : Int) 1000 = P4 at *
      generalize redQ (x : Int) 1000 = Q4 at *
      obtain ⟨R, hR⟩ : ∃ x, redP (P3 * P4) (Q3 * Q4) = x := ⟨_, rfl⟩
      obtain ⟨T, hT⟩ : ∃ x, redQ (P3 * P4) (Q3 * Q4) = x := ⟨_, rfl⟩
      rw [hR] at a1 a3
      rw [hT] at a2 a4 PQ5
      have HR1 := Lib.hid hR
      have HT1 := Lib.hid hT
      clear hR hT
      have HA1 := Lib.hid a1
      have HA2 := Lib.hid a2
      clear a1 a2
      have c40 : wr.cell? ⟨w.heap.size, 0, none⟩ = some (.slice MA m.length mc) := hr4.cell 0
      have z4 := hr4.lt
      go_wp2_with fail
      clear c40 z4
      refine (HPB.out _ BB).mono ?_
      rintro e x51 ⟨v14, rfl, hv14, hb⟩
      replace hr4 := hr4.keep hb
      replace hrB := hrB.keep hb
      replace hrP := hrP.keep hb
      replace hrA := hrA.keep hb
      replace hcB := hcB.below hb
      replace hcP := hcP.below hb
      replace hcA := hcA.below hb
      replace BB : Below w.heap.size w x51 := BB.trans (hb.mono BB.size)
      replace BY : Below wr.heap.size wr x51 := BY.trans (hb.mono BY.size)
      clear hb
      have h14' := hv14
      obtain ⟨m14, d14, e14, hm14, hd14, _, _⟩ := h14'
      subst e14
      obtain ⟨A14, k14, c14, rfl⟩ := hm14.lim1.choose_spec.1.show_
      obtain ⟨D14, l14, b14, rfl⟩ := hd14.lim1.choose_spec.1.show_
      clear hm14 hd14
      obtain ⟨g14, hg14⟩ : ∃ g, x51.heap.size = g := ⟨_, rfl⟩
      have hr14 : Row (x51.alloc (.cells #[.bool (decide (P4 < 0)), .slice A14 k14 c14, .slice D14 l14 b14] 54)) g14 54 [.bool (decide (P4 < 0)), .slice A14 k14 c14, .slice D14 l14 b14] := row_at hg14
      have hl := lit_below x51 (.cells #[.bool (decide (P4 < 0)), .slice A14 k14 c14, .slice D14 l14 b14] 54)
      have o4_14 : w.heap.size < g14 := by have := hr4.lt; omega
      have ob_14 : w.heap.size ≤ g14 := by have := BB.size; omega
      have oBY_14 : wr.heap.size ≤ g14 := by have := BY.size; omega
      have c40 : x51.cell? ⟨w.heap.size, 0, none⟩ = some (.slice MA m.length mc) := hr4.cell 0
      have d40 : (x51.alloc (.cells #[.bool (decide (P4 < 0)), .slice A14 k14 c14, .slice D14 l14 b14] 54)).cell? ⟨w.heap.size, 0, none⟩ = some (.slice MA m.length mc) := (hr4.alloc _).cell 0
      have e0 : (x51.alloc (.cells #[.bool (decide (P4 < 0)), .slice A14 k14 c14, .slice D14 l14 b14] 54)).cell? ⟨g14, 0, none⟩ = some (.bool (decide (P4 < 0))) := hr14.cell 0
      have e1 : (x51.alloc (.cells #[.bool (decide (P4 < 0)), .slice A14 k14 c14, .slice D14 l14 b14] 54)).cell? ⟨g14, 1, none⟩ = some (.slice A14 k14 c14) := hr14.cell 1
      have e2 : (x51.alloc (.cells #[.bool (decide (P4 < 0)), .slice A14 k14 c14, .slice D14 l14 b14] 54)).cell? ⟨g14, 2, none⟩ = some (.slice D14 l14 b14) := hr14.cell 2
      go_wp2_with fail
      clear c40 d40 e0 e1 e2
      clear hg14
      generalize (x51.alloc (.cells #[.bool (decide (P4 < 0)), .slice A14 k14 c14, .slice D14 l14 b14] 54)) = x52 at *
      replace hr4 := hr4.keep hl
      replace hrB := hrB.keep hl
      replace hrP := hrP.keep hl
      replace hrA := hrA.keep hl
      replace hcB := hcB.below hl
      replace hcP := hcP.below hl
      replace hcA := hcA.below hl
      replace hv14 := hv14.below hl
      replace BB : Below w.heap.size w x52 := BB.trans (hl.mono BB.size)
      replace BY : Below wr.heap.size wr x52 := BY.trans (hl.mono BY.size)
      clear hl
      obtain ⟨Aa, na, ca, Da, la, da, ea0, ea1, ea2, hfa⟩ := ratc_at hrA hcA hlt HZA.out
      obtain ⟨Ab, nb, cb, Db, lb, db, eb0, eb1, eb2, hfb⟩ := ratc_at hrB hcB hlt HZB.out
      obtain ⟨Ap, np, cp, Dp, lp, dp, ep0, ep1, ep2, hfp⟩ := ratc_at hrP hcP HKC.out HZP.out
      have hkI : (k : Int) < (c : Int) := by have := HKC.out; omega
      have zA := hrA.lt
      have zB := hrB.lt
      have zP := hrP.lt
      have h14c := hv14
      have hL60 : L + 60 ≤ 35184372088800 := by omega
      have h260 : 2 ≤ L + 60 := by omega
      have ga := (hfa.ratA PQ1).mono (L' := L + 60) (by omega)
      have gb := (hfb.ratA PQ3).mono (L' := L + 60) (by omega)
      have gp := (hfp.ratA PQ2).mono (L' := L + 60) (by omega)
      have gh := (hv14.ratA PQ4).mono (L' := L + 60) (by omega)
      have tz : cmpZ (R * (T : Int)) (R * (T : Int)) = 0 := cmpZ_self _
      have c40 : x52.cell? ⟨w.heap.size, 0, none⟩ = some (.slice MA m.length mc) := hr4.cell 0
      have c140 : x52.cell? ⟨g14, 0, none⟩ = some (.bool (decide (P4 < 0))) := hr14.cell 0
      have c141 : x52.cell? ⟨g14, 1, none⟩ = some (.slice A14 k14 c14) := hr14.cell 1
      have c142 : x52.cell? ⟨g14, 2, none⟩ = some (.slice D14 l14 b14) := hr14.cell 2
      have z4 := hr4.lt
      have z14 := hr14.lt
      go_wp2_with fail
      go_region_held3 (fun w' => w'.cell? ⟨gA, j * 3, none⟩ = some (.bool (decide (P1 < 0))) ∧ w'.cell? ⟨gA, j * 3 + 1, none⟩ = some (.slice Aa na ca) ∧ w'.cell? ⟨gA, j * 3 + 2, none⟩ = some (.slice Da la da) ∧ w'.cell? ⟨gP, k * 3, none⟩ = some (.bool (decide (P2 < 0))) ∧ w'.cell? ⟨gP, k * 3 + 1, none⟩ = some (.slice Ap np cp) ∧ w'.cell? ⟨gP, k * 3 + 2, none⟩ = some (.slice Dp lp dp) ∧ w'.cell? ⟨gB, j * 3, none⟩ = some (.bool (decide (P3 < 0))) ∧ w'.cell? ⟨gB, j * 3 + 1, none⟩ = some (.slice Ab nb cb) ∧ w'.cell? ⟨gB, j * 3 + 2, none⟩ = some (.slice Db lb db) ∧ w'.cell? ⟨g14, 0, none⟩ = some (.bool (decide (P4 < 0))) ∧ w'.cell? ⟨g14, 1, none⟩ = some (.slice A14 k14 c14) ∧ w'.cell? ⟨g14, 2, none⟩ = some (.slice D14 l14 b14))
        ((refine keep12z zA zA zA zP zP zP zB zB zB z14 z14 z14 ea0 ea1 ea2 ep0 ep1 ep2 eb0 eb1 eb2 c140 c141 c142 ?_; (repeat (first | with_reducible exact Below.refl _ _ | with_reducible refine bl_call h3 ?_ | with_reducible refine bl_call h2 ?_ | with_reducible refine bl_call h1 ?_ | with_reducible refine bl_drew ?_)); done))
        (first
          | (go_at_call 31; ((with_reducible refine (qmul_any (.agg #[.bool (decide (P1 < 0)), .slice Aa na ca, .slice Da la da]) (.agg #[.bool (decide (P2 < 0)), .slice Ap np cp, .slice Dp lp dp]) P1 P2 Q1 Q2 (L + 60) _ (ga.below ?_) (gp.below ?_) h260 hL60).mono ?_); (repeat (first | with_reducible exact Below.refl _ _ | with_reducible refine bl_call h3 ?_ | with_reducible refine bl_call h2 ?_ | with_reducible refine bl_call h1 ?_ | with_reducible refine bl_drew ?_)); (repeat (first | with_reducible exact Below.refl _ _ | with_reducible refine bl_call h3 ?_ | with_reducible refine bl_call h2 ?_ | with_reducible refine bl_call h1 ?_ | with_reducible refine bl_drew ?_)); rintro e w1 ⟨v1, rfl, hv1, h1⟩; rw [HA1.out, HA2.out] at hv1; replace hv1 := (hv1.tight a3 a4).ratA PQ5))
          | (go_at_call 31; ((with_reducible refine (qmul_any (.agg #[.bool (decide (P3 < 0)), .slice Ab nb cb, .slice Db lb db]) (.agg #[.bool (decide (P4 < 0)), .slice A14 k14 c14, .slice D14 l14 b14]) P3 P4 Q3 Q4 (L + 60) _ (gb.below ?_) (gh.below ?_) h260 hL60).mono ?_); (repeat (first | with_reducible exact Below.refl _ _ | with_reducible refine bl_call h3 ?_ | with_reducible refine bl_call h2 ?_ | with_reducible refine bl_call h1 ?_ | with_reducible refine bl_drew ?_)); (repeat (first | with_reducible exact Below.refl _ _ | with_reducible refine bl_call h3 ?_ | with_reducible refine bl_call h2 ?_ | with_reducible refine bl_call h1 ?_ | with_reducible refine bl_drew ?_)); rintro e w2 ⟨v2, rfl, hv2, h2⟩; simp only [HR1.out, HT1.out] at hv2; replace hv2 := (hv2.tight a3 a4).ratA PQ5))
          | (go_at_call 30; ((with_reducible refine (qcmp_any v1 v2 R R T T (L + 60) _ (hv1.below ?_) (hv2.below ?_) h260 hL60).mono ?_); (repeat (first | with_reducible exact Below.refl _ _ | with_reducible refine bl_call h3 ?_ | with_reducible refine bl_call h2 ?_ | with_reducible refine bl_call h1 ?_ | with_reducible refine bl_drew ?_)); (repeat (first | with_reducible exact Below.refl _ _ | with_reducible refine bl_call h3 ?_ | with_reducible refine bl_call h2 ?_ | with_reducible refine bl_call h1 ?_ | with_reducible refine bl_drew ?_)); rintro e w3 ⟨rfl, h3⟩; rw [tz])))
      go_wp2_with fail
      go_roundw
      case rel => exact ⟨j + 1, by omega, by go_num, BX.trans ((BY.trans (Below.mono (by (repeat (first | with_reducible exact Below.refl _ _ | with_reducible refine bl_call h3 ?_ | with_reducible refine bl_call h2 ?_ | with_reducible refine bl_call h1 ?_ | with_reducible refine bl_drew ?_))) BY.size)).mono BX.size)⟩
      case measure => simp [intOf]; omega
    · obtain rfl : j = n := by omega
      go_wp2_with fail
      refine (awake_any _).mono ?_
      rintro e x91 ⟨rfl, hb⟩
      replace BB : Below w.heap.size w x91 := BB.trans (hb.mono BB.size)
      clear hb
      go_wp2_with fail
      go_ret
      exact ⟨rfl, BB⟩

set_option maxHeartbeats 32000000 in
theorem lbayes_any (wv mv : Value) (ns : List Nat) (L : Nat) (m : Mdl) (k : Nat) (w : World) (hw : Wts w wv ns L) (hm : IntsL w mv m) (hL : L ≤ 35184372087900) (hk8 : k ≤ 255) :
    Calls Tryd.prog 8 #[wv, .agg #[mv], .int .u8 (k : Int)] w fun e w' => e = .returned (.bool true) ∧ Below w.heap.size w w' := by
  by_cases hE : chkE ns = 0
  · by_cases hP : prdE ns m = 0
    · by_cases hk : k < catsOf m
      · exact bayes_yes wv mv ns L m k w hw hm hL hk8 hE hP hk
      · exact bayes_no3 wv mv ns L m k w hw hm hL hk8 hE hP (by omega)
    · exact bayes_no2 wv mv ns L m k w hw hm hL hk8 hE hP
  · exact bayes_no1 wv mv ns L m k w hw hm hL hk8 hE
end Go.Proofs.YtoihjclkocffhaaDoor
