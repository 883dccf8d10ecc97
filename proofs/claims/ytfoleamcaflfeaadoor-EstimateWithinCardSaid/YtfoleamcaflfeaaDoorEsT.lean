/- EstimateWithin. -/
import Derived.Test.YtfoleamcaflfeaaDoorEsS
import Derived.Test.YtfoleamcaflfeaaDoorEsN
import Derived.Test.YtfoleamcaflfeaaDoorRatW
namespace Go.Proofs.YtfoleamcaflfeaaDoor
open Go.RowKit
set_option linter.unusedVariables false
set_option maxRecDepth 100000

/-- The least and the greatest index of a positive weight, or -1. -/
def loI (ns : List Nat) : Nat → Int
  | 0 => -1
  | k + 1 => if 0 < ns.getD k 0 then (if loI ns k < 0 then (k : Int) else loI ns k) else loI ns k
def hiI (ns : List Nat) : Nat → Int
  | 0 => -1
  | k + 1 => if 0 < ns.getD k 0 then (k : Int) else hiI ns k
theorem rise_all {ps : List Int} (h : ∀ j, j + 1 < ps.length → ps.getD j 0 < ps.getD (j + 1) 0) {i : Nat} : ∀ j, i < j → j < ps.length → ps.getD i 0 < ps.getD j 0
  | 0, hij, _ => by omega
  | j + 1, hij, hj => by
    have h1 := h j hj
    rcases Nat.lt_or_ge i j with hl | hl
    · have := rise_all h j hl (by omega); omega
    · obtain rfl : i = j := by omega
      exact h1
/-- A number more, above all others. -/
theorem grow_ends {F0 F1 F2 n x pa pb : Int} (hn : 0 < n) (h0 : 0 < F0) (ha : pa * F0 ≤ F1) (hb : F1 ≤ pb * F0) (hxa : pa ≤ x) (hxb : pb < x) (hD : 0 ≤ F0 * F2 - F1 * F1) :
    0 < F0 + n ∧ pa * (F0 + n) ≤ F1 + n * x ∧ F1 + n * x ≤ x * (F0 + n) ∧ 0 < (F0 + n) * (F2 + n * x * x) - (F1 + n * x) * (F1 + n * x) := by
  have e1 : pa * n ≤ x * n := Int.mul_le_mul_of_nonneg_right hxa (by omega)
  have e2 : pb * F0 < x * F0 := Int.mul_lt_mul_of_pos_right hxb h0
  have e3 : x * n = n * x := Int.mul_comm _ _
  have t : 0 < x * F0 - F1 := by omega
  have tt := Int.mul_pos t t
  have hS : F0 * (F2 - 2 * x * F1 + x * x * F0) = (F0 * F2 - F1 * F1) + (x * F0 - F1) * (x * F0 - F1) := by grind
  have hS2 : 0 < F0 * (F2 - 2 * x * F1 + x * x * F0) := by omega
  have hSp : 0 < F2 - 2 * x * F1 + x * x * F0 := Int.pos_of_mul_pos_right hS2 h0 |> fun h => h
  have hnS := Int.mul_pos hn hSp
  have hD2 : (F0 + n) * (F2 + n * x * x) - (F1 + n * x) * (F1 + n * x) = (F0 * F2 - F1 * F1) + n * (F2 - 2 * x * F1 + x * x * F0) := by grind
  refine ⟨by omega, ?_, ?_, by omega⟩
  · rw [Int.mul_add]; omega
  · rw [Int.mul_add]; omega
theorem ends_inv {ps : List Int} {ns : List Nat} (h : ∀ j, j + 1 < ps.length → ps.getD j 0 < ps.getD (j + 1) 0) : ∀ k, k ≤ ps.length →
    (loI ns k = -1 ∧ hiI ns k = -1 ∧ wF0 ns k = 0 ∧ wF1 ns ps k = 0 ∧ wF2 ns ps k = 0) ∨
    ∃ a b : Nat, loI ns k = (a : Int) ∧ hiI ns k = (b : Int) ∧ a ≤ b ∧ b < k ∧ 0 < wF0 ns k ∧ ps.getD a 0 * wF0 ns k ≤ wF1 ns ps k ∧ wF1 ns ps k ≤ ps.getD b 0 * wF0 ns k ∧ 0 ≤ wF0 ns k * wF2 ns ps k - wF1 ns ps k * wF1 ns ps k ∧ (wF0 ns k * wF2 ns ps k - wF1 ns ps k * wF1 ns ps k = 0 ↔ a = b)
  | 0, _ => .inl ⟨rfl, rfl, rfl, rfl, rfl⟩
  | k + 1, hk => by
    have f0 : wF0 ns (k + 1) = wF0 ns k + (ns.getD k 0 : Int) := rfl
    have f1 : wF1 ns ps (k + 1) = wF1 ns ps k + (ns.getD k 0 : Int) * ps.getD k 0 := rfl
    have f2 : wF2 ns ps (k + 1) = wF2 ns ps k + (ns.getD k 0 : Int) * ps.getD k 0 * ps.getD k 0 := rfl
    have l1 : loI ns (k + 1) = if 0 < ns.getD k 0 then (if loI ns k < 0 then (k : Int) else loI ns k) else loI ns k := rfl
    have l2 : hiI ns (k + 1) = if 0 < ns.getD k 0 then (k : Int) else hiI ns k := rfl
    rw [f0, f1, f2, l1, l2]
    have ih := ends_inv (ns := ns) h k (by omega)
    by_cases hz : 0 < ns.getD k 0
    · rw [if_pos hz, if_pos hz]
      right
      rcases ih with ⟨i1, i2, i3, i4, i5⟩ | ⟨a, b, i1, i2, i3, i4, i5, i6, i7, i8, i9⟩
      · refine ⟨k, k, ?_, rfl, Nat.le_refl _, by omega, ?_, ?_, ?_, ?_, ?_⟩
        · rw [i1, if_pos (by omega)]
        · rw [i3]; omega
        · rw [i3, i4, Int.zero_add, Int.zero_add, Int.mul_comm]; exact Int.le_refl _
        · rw [i3, i4, Int.zero_add, Int.zero_add, Int.mul_comm]; exact Int.le_refl _
        · rw [i3, i4, i5]
          have : (0 + (ns.getD k 0 : Int)) * (0 + (ns.getD k 0 : Int) * ps.getD k 0 * ps.getD k 0) - (0 + (ns.getD k 0 : Int) * ps.getD k 0) * (0 + (ns.getD k 0 : Int) * ps.getD k 0) = 0 := by grind
          omega
        · rw [i3, i4, i5]
          have : (0 + (ns.getD k 0 : Int)) * (0 + (ns.getD k 0 : Int) * ps.getD k 0 * ps.getD k 0) - (0 + (ns.getD k 0 : Int) * ps.getD k 0) * (0 + (ns.getD k 0 : Int) * ps.getD k 0) = 0 := by grind
          exact ⟨fun _ => rfl, fun _ => this⟩
      · have ra := rise_all h k (i := a) (by omega) (by omega)
        have rb := rise_all h k (i := b) (by omega) (by omega)
        obtain ⟨g1, g2, g3, g4⟩ := grow_ends (n := (ns.getD k 0 : Int)) (by omega) i5 i6 i7 (Int.le_of_lt ra) rb i8
        refine ⟨a, k, ?_, rfl, by omega, by omega, g1, g2, g3, Int.le_of_lt g4, ?_⟩
        · rw [i1, if_neg (by omega)]
        · exact ⟨fun h => by omega, fun h => by omega⟩
    · rw [if_neg hz, if_neg hz]
      have e : ns.getD k 0 = 0 := by omega
      rw [e]
      simp only [Int.natCast_zero, Int.zero_mul, Int.add_zero]
      rcases ih with ih | ⟨a, b, i1, i2, i3, i4, r⟩
      · exact .inl ih
      · exact .inr ⟨a, b, i1, i2, i3, by omega, r⟩
/-- What the law asks of the mean and the variance. -/
theorem within_facts {ps rs : List Int} {ns : List Nat} (hE : sumE ps rs ns = 0) : ∃ a b : Nat, loI ns ps.length = (a : Int) ∧ hiI ns ps.length = (b : Int) ∧ a ≤ b ∧ b < ps.length ∧
    decide (cmpZ (meanP ps rs ns * ((1 : Nat) : Int)) (ps.getD a 0 * (meanQ ps rs ns : Int)) < 0) = false ∧ decide (0 < cmpZ (meanP ps rs ns * ((1 : Nat) : Int)) (ps.getD b 0 * (meanQ ps rs ns : Int))) = false ∧
    decide (sgnZ (varP ps rs ns) < 0) = false ∧ ((sgnZ (varP ps rs ns) == 0) = true ∧ ((a : Int) == (b : Int)) = true ∨ (sgnZ (varP ps rs ns) == 0) = false ∧ ((a : Int) == (b : Int)) = false) ∧ 0 < meanQ ps rs ns ∧ 0 < varQ ps rs ns := by
  obtain ⟨s1, s2, s3⟩ := sumE_zero hE
  obtain ⟨_, _, _, _, hr⟩ := gridE_zero s1
  rcases ends_inv (ns := ns) hr ps.length (Nat.le_refl _) with ⟨_, _, h0, _⟩ | ⟨a, b, h1, h2, h3, h4, h5, h6, h7, h8, h9⟩
  · exact absurd h0 s3
  · refine ⟨a, b, h1, h2, h3, h4, ?_⟩
    unfold meanP meanQ varP varQ
    simp only [if_pos hE]
    generalize wF0 ns ps.length = F0 at *
    generalize wF1 ns ps ps.length = F1 at *
    generalize wF0 ns ps.length * wF2 ns ps ps.length - F1 * F1 = D at *
    generalize wF2 ns ps ps.length = F2 at *
    have hq : 0 < F0.natAbs := by omega
    have hq2 : 0 < (F0 * F0).natAbs := by have := Int.mul_pos h5 h5; omega
    have hQ := redQ_pos (p := F1) hq
    have hQ2 := redQ_pos (p := F0 * F2 - F1 * F1) hq2
    obtain ⟨m1, m2⟩ := red_mul F1 F0.natAbs
    obtain ⟨v1, v2⟩ := red_mul (F0 * F2 - F1 * F1) (F0 * F0).natAbs
    have g1 : 0 < Nat.gcd F1.natAbs F0.natAbs := Nat.pos_of_ne_zero fun h => by rw [h, Nat.mul_zero] at m2; omega
    have g2 : 0 < Nat.gcd (F0 * F2 - F1 * F1).natAbs (F0 * F0).natAbs := Nat.pos_of_ne_zero fun h => by rw [h, Nat.mul_zero] at v2; omega
    generalize Nat.gcd F1.natAbs F0.natAbs = g at *
    generalize Nat.gcd (F0 * F2 - F1 * F1).natAbs (F0 * F0).natAbs = g' at *
    generalize redP F1 F0.natAbs = P at *
    generalize redQ F1 F0.natAbs = Q at *
    generalize redP (F0 * F2 - F1 * F1) (F0 * F0).natAbs = VP at *
    generalize redQ (F0 * F2 - F1 * F1) (F0 * F0).natAbs = VQ at *
    have hF0 : F0 = (Q : Int) * (g : Int) := by
      have : (F0.natAbs : Int) = ((Q * g : Nat) : Int) := by rw [← m2]
      rw [Int.natCast_mul] at this
      omega
    have hg : 0 < (g : Int) := by omega
    have hg' : 0 < (g' : Int) := by omega
    have ca : ps.getD a 0 * (Q : Int) ≤ P := by
      refine Int.le_of_mul_le_mul_right (a := (g : Int)) ?_ hg
      rw [← m1, Int.mul_assoc, ← hF0]; exact h6
    have cb : P ≤ ps.getD b 0 * (Q : Int) := by
      refine Int.le_of_mul_le_mul_right (a := (g : Int)) ?_ hg
      rw [← m1, Int.mul_assoc, ← hF0]; exact h7
    have hV0 : 0 ≤ VP := by
      rcases Int.lt_or_le VP 0 with hl | hl
      · exfalso
        have := Int.mul_neg_of_neg_of_pos hl hg'
        omega
      · exact hl
    have hVz : VP = 0 ↔ a = b := by
      rw [← h9, v1]
      exact ⟨fun h => by rw [h, Int.zero_mul], fun h => (Int.mul_eq_zero.1 h).resolve_right (by omega)⟩
    refine ⟨decide_eq_false ?_, decide_eq_false ?_, decide_eq_false ?_, ?_, hQ, hQ2⟩
    · unfold cmpZ; rw [show ((1 : Nat) : Int) = 1 from rfl, Int.mul_one]; rw [if_neg (by omega)]; split <;> omega
    · unfold cmpZ; rw [show ((1 : Nat) : Int) = 1 from rfl, Int.mul_one]; split
      · omega
      · rw [if_neg (by omega)]; omega
    · unfold sgnZ; rw [if_neg (by omega)]; split <;> omega
    · by_cases hab : a = b
      · left
        rw [hVz.2 hab, hab]
        exact ⟨by decide, by simp⟩
      · right
        have hne : VP ≠ 0 := fun h => hab (hVz.1 h)
        refine ⟨?_, ?_⟩
        · rw [beq_eq_false_iff_ne]; unfold sgnZ; rw [if_neg (by omega), if_neg hne]; omega
        · rw [beq_eq_false_iff_ne]; omega
theorem credG_reach (ns : List Nat) (p : Int) (q : Nat) : ∀ f lo hi, reachB (sumR ns lo (hi + 1)) ns.sum p q = true → reachB (sumR ns (credG ns p q f lo hi).1 ((credG ns p q f lo hi).2 + 1)) ns.sum p q = true
  | 0, lo, hi, h => h
  | f + 1, lo, hi, h => by
    unfold credG
    split
    · rename_i hr
      exact credG_reach ns p q f _ _ hr
    · exact h
theorem cred_facts {ns : List Nat} {p : Int} {q : Nat} (hE : credE ns p q = 0) : (credV ns p q).1 ≤ (credV ns p q).2 ∧ (credV ns p q).2 < ns.length ∧ ns.length ≤ 21 ∧
    decide (0 ≤ cmpZ ((sumR ns (credV ns p q).1 ((credV ns p q).2 + 1) : Int) * ((redQ (p * (sumR ns 0 ns.length : Int)) (q * 1) : Nat) : Int)) (redP (p * (sumR ns 0 ns.length : Int)) (q * 1) * ((1 : Nat) : Int))) = true := by
  have hc : chkS ns = 0 := by
    by_cases h : chkS ns = 0
    · exact h
    · rw [credE_chk h] at hE; exact hE
  obtain ⟨h21, hs⟩ := chkS_zero hc
  have hl : 0 < ns.length := by
    rcases ns with _ | ⟨x, l⟩
    · simp at hs
    · simp
  have hpq : ¬ (p < 0 ∨ (q : Int) < p) := fun h => by rw [credE_bad hc h] at hE; omega
  have hv : credV ns p q = credG ns p q (ns.length - 1) 0 (ns.length - 1) := if_pos hE
  have h0 : reachB (sumR ns 0 (ns.length - 1 + 1)) ns.sum p q = true := by
    rw [Nat.sub_add_cancel hl, sumR_all]
    unfold reachB
    rw [decide_eq_true_eq, Int.mul_comm]
    exact Int.mul_le_mul_of_nonneg_left (by omega) (by omega)
  have hr := credG_reach ns p q (ns.length - 1) 0 (ns.length - 1) h0
  obtain ⟨c1, c2, c3⟩ := credG_in ns p q (ns.length - 1) 0 (ns.length - 1) (by omega) (by omega)
  rw [hv]
  refine ⟨c2, by omega, h21, ?_⟩
  rw [sumR_all]
  generalize sumR ns (credG ns p q (ns.length - 1) 0 (ns.length - 1)).1 ((credG ns p q (ns.length - 1) 0 (ns.length - 1)).2 + 1) = X at *
  unfold reachB at hr
  rw [decide_eq_true_eq] at hr
  rw [Nat.mul_one, show ((1 : Nat) : Int) = 1 from rfl, Int.mul_one]
  generalize ns.sum = S at *
  rcases Nat.eq_zero_or_pos q with hq | hq
  · subst hq
    have : p = 0 := by omega
    subst this
    simp [redP, redQ, cmpZ]
  obtain ⟨m1, m2⟩ := red_mul (p * (S : Int)) q
  have g1 : 0 < Nat.gcd (p * (S : Int)).natAbs q := Nat.pos_of_ne_zero fun h => by rw [h, Nat.mul_zero] at m2; omega
  generalize Nat.gcd (p * (S : Int)).natAbs q = g at *
  generalize redP (p * (S : Int)) q = P at *
  generalize redQ (p * (S : Int)) q = Q at *
  have hc : P ≤ (X : Int) * (Q : Int) := by
    refine Int.le_of_mul_le_mul_right (a := (g : Int)) ?_ (by omega)
    rw [← m1, Int.mul_assoc, ← Int.natCast_mul, ← m2]
    exact hr
  refine decide_eq_true ?_
  unfold cmpZ
  rw [if_neg (by omega)]
  split <;> omega
theorem mode_facts {ns : List Nat} (hE : chkS ns = 0) : modeV ns < ns.length ∧ ∀ i, i < ns.length → ns.getD i 0 ≤ ns.getD (modeV ns) 0 := by
  obtain ⟨_, hs⟩ := chkS_zero hE
  have hl : 0 < ns.length := by
    rcases ns with _ | ⟨x, l⟩
    · simp at hs
    · simp
  unfold modeV
  rw [if_pos hE]
  exact ⟨bestI_lt ns _ hl, fun i hi => bestI_max ns _ i hi⟩
theorem cred_bad {ns : List Nat} {p : Int} {q : Nat} (hc : chkS ns = 0) (hE : credE ns p q ≠ 0) : credE ns p q = 3 ∧ (p < 0 ∨ (q : Int) < p) := by
  by_cases h : p < 0 ∨ (q : Int) < p
  · exact ⟨credE_bad hc h, h⟩
  · exfalso; apply hE; unfold credE; rw [if_neg (by simpa using hc), if_neg h]
theorem keep9w {W w' : World} {p1 p2 p3 p4 p5 p6 p7 p8 p9 : Addr} {x1 x2 x3 x4 x5 x6 x7 x8 x9 : Value} (l1 : p1.block < W.heap.size) (l2 : p2.block < W.heap.size) (l3 : p3.block < W.heap.size) (l4 : p4.block < W.heap.size) (l5 : p5.block < W.heap.size) (l6 : p6.block < W.heap.size) (l7 : p7.block < W.heap.size) (l8 : p8.block < W.heap.size) (l9 : p9.block < W.heap.size) (h1 : W.cell? p1 = some x1) (h2 : W.cell? p2 = some x2) (h3 : W.cell? p3 = some x3) (h4 : W.cell? p4 = some x4) (h5 : W.cell? p5 = some x5) (h6 : W.cell? p6 = some x6) (h7 : W.cell? p7 = some x7) (h8 : W.cell? p8 = some x8) (h9 : W.cell? p9 = some x9) (hb : Below W.heap.size W w') :
    w'.cell? p1 = some x1 ∧ w'.cell? p2 = some x2 ∧ w'.cell? p3 = some x3 ∧ w'.cell? p4 = some x4 ∧ w'.cell? p5 = some x5 ∧ w'.cell? p6 = some x6 ∧ w'.cell? p7 = some x7 ∧ w'.cell? p8 = some x8 ∧ w'.cell? p9 = some x9 :=
  ⟨(hb.cell l1).trans h1, (hb.cell l2).trans h2, (hb.cell l3).trans h3, (hb.cell l4).trans h4, (hb.cell l5).trans h5, (hb.cell l6).trans h6, (hb.cell l7).trans h7, (hb.cell l8).trans h8, (hb.cell l9).trans h9⟩
theorem RatA.q_lt {w : World} {v : Value} {p : Int} {q L : Nat} (h : RatA w v p q L) (hL : 1 ≤ L) : q < bp L := by
  obtain ⟨neg, mv, ls, dv, ld, rfl, _, h2, _, h4, _, hq⟩ := h
  have h1 : 1 < bp L := by
    have : bp 1 ≤ bp L := by unfold bp; exact Nat.pow_le_pow_right (by decide) hL
    have h2 : bp 1 = 4294967296 := by decide
    omega
  rw [hq]
  split
  · exact h1
  · have h5 := val_lt h2.2
    have h6 : bp ld.length ≤ bp L := by unfold bp; exact Nat.pow_le_pow_right (by decide) h4
    omega

set_option maxHeartbeats 2000000 in
theorem total_any (wv : Value) (ns : List Nat) (L lo hi : Nat) (h : Int) (w : World) (hw : Wts w wv ns L) (hL : L ≤ 35184372088800) (h21 : ns.length ≤ 21) (h1 : lo ≤ hi) (h2 : hi ≤ ns.length) (hh : h = (hi : Int) - 1) :
    Calls Tryd.prog 24 #[wv, .int .i64 (lo : Int), .int .i64 h] w fun e w' => ∃ v, e = .returned v ∧ NatAt w' v (sumR ns lo hi) (L + ns.length + 2) ∧ Below w.heap.size w w' := by
  obtain ⟨WA, wc, us, rfl, hwc, hwm, hws, hwu⟩ := hw
  have HWU := Lib.hid hwu
  unfold maxLen at hwm
  clear hwu
  obtain ⟨n, hn⟩ : ∃ n, ns.length = n := ⟨_, rfl⟩
  have HN := Lib.hid hn
  rw [hn] at hws hwc h21 h2 ⊢
  clear hn
  go_enter Tryd.func24, Tryd.ntmps24
  go_wp2_with fail
  go_loopw [7, 8] (fun v iv wr => ∃ (j : Nat), lo ≤ j ∧ j ≤ hi ∧ iv = .int .i64 (j : Int) ∧ NatAt wr v (sumR ns lo j) (L + j + 2) ∧ Below w.heap.size w wr) (fun _ iv _ => hi - (intOf iv).toNat)
  case atStart => exact ⟨lo, Nat.le_refl _, h1, rfl, ⟨[], Lim.nil _, .inl rfl, by rw [sumR_start _ (Nat.le_refl _)]; rfl, by simp⟩, Below.refl _ _⟩
  case round =>
    obtain ⟨j, hj0, hj, rfl, hv, BQ⟩ := hrel
    obtain ⟨lv, hlv, ntv, hvv, hkv⟩ := id hv
    obtain ⟨⟨VA, vc, rfl, _, _, _⟩, _⟩ := id hlv
    by_cases hlh : j < hi
    · have hlt : j < n := by omega
      obtain ⟨b, o, u, rfl, hbl, hcell, hu⟩ := lst_at (R := fun w u x => NatAny w u x L) (d := 0) (xs := ns) hws HWU.out hlt
      obtain ⟨lk, hlim, hval, hlen⟩ := hu.below BQ
      have HVL := Lib.hid hval
      clear hval
      have g2 := (BQ.cell (p := ⟨b, o + j, none⟩) hbl).trans hcell
      clear hcell hu
      have hjI : (j : Int) < (n : Int) := by omega
      have hjH : (j : Int) ≤ h := by omega
      have HSUM := Lib.hid (sumR_succ ns hj0 (by rw [HN.out]; exact hlt))
      obtain ⟨⟨UA, uc, rfl, _, _, _⟩, _⟩ := id hlim
      go_wp2_with fail
      refine (add_wide _ _ lv lk _ hlv hlim (by omega) (by omega)).mono ?_
      rintro e w6 ⟨v6, rfl, l6, hl6, nt6, hv6, hk6, hf6, h6⟩
      obtain ⟨⟨A6, c6, rfl, _, _, _⟩, _⟩ := id hl6
      go_wp2_with fail
      go_roundw
      case rel => exact ⟨j + 1, by omega, by omega, by go_num, ⟨l6, hl6, nt6, by rw [hv6, hvv, HVL.out, HSUM.out], by omega⟩, BQ.trans (h6.mono BQ.size)⟩
      case measure => simp [intOf]; omega
    · obtain rfl : j = hi := by omega
      have hjH : ¬ (j : Int) ≤ h := by omega
      go_wp2_with fail
      go_ret
      obtain ⟨l9, a1, a2, a3, a4⟩ := hv
      exact ⟨_, rfl, ⟨l9, a1, a2, a3, by omega⟩, BQ⟩

theorem total0_any (wv : Value) (ns : List Nat) (L : Nat) (w : World) (hw : Wts w wv ns L) (hL : L ≤ 35184372088800) (h21 : ns.length ≤ 21) :
    Calls Tryd.prog 24 #[wv, .int .i64 0, .int .i64 ((ns.length : Int) - 1)] w fun e w' => ∃ v, e = .returned v ∧ NatAt w' v (sumR ns 0 ns.length) (L + ns.length + 2) ∧ Below w.heap.size w w' :=
  total_any wv ns L 0 ns.length _ w hw hL h21 (Nat.zero_le _) (Nat.le_refl _) rfl

set_option maxHeartbeats 4000000 in
theorem lwhole_any (v : Value) (n K : Nat) (w : World) (hv : NatAt w v n K) (hK : 2 ≤ K) (hM : K ≤ 70368744177600) :
    Calls Tryd.prog 23 #[v] w fun e w' => ∃ y, e = .returned y ∧ RatF w.heap.size w' y (n : Int) 1 K ∧ Below w.heap.size w w' := by
  obtain ⟨lv, hlv, ntv, hvv, hkv⟩ := id hv
  obtain ⟨⟨VA, vc, rfl, _, _, _⟩, _⟩ := id hlv
  obtain ⟨W0, hW0⟩ : ∃ W0 : World, W0 = w.alloc (.cells #[.bool false, .slice none 0 0, .slice none 0 0] 28) := ⟨_, rfl⟩
  have r0 : Row W0 w.heap.size 28 [.bool false, .slice none 0 0, .slice none 0 0] := by
    rw [hW0]
    have := Row.new w 28 [.bool false, .slice none 0 0, .slice none 0 0]
    simpa using this
  have B0 : Below w.heap.size w W0 := by rw [hW0]; exact ((Below.refl _ _).alloc (Nat.le_refl _) _)
  go_enter Tryd.func23, Tryd.ntmps23
  go_wp2_with fail
  rw [← hW0]
  clear hW0
  go_wp2_with fail
  refine (of_any 1 _ (by omega)).mono ?_
  rintro e w6 ⟨v6, rfl, l6, hl6, nt6, hv6, hk6, hf6, h6⟩
  obtain ⟨⟨A6, c6, rfl, _, _, _⟩, _⟩ := id hl6
  have B6 := B0.trans (h6.mono B0.size)
  have q6 := r0.keep h6
  have hlv6 := hlv.below B6
  have hra : RatA w6 (.agg #[.bool false, .slice VA lv.length vc, .slice A6 l6.length c6]) (n : Int) 1 K := ⟨false, _, lv, _, l6, rfl, hlv6, hl6, hkv, by omega, by rw [hv6]; rw [if_neg (by omega)]; unfold sg; simp [hvv], by rw [hv6]; rfl⟩
  clear hl6 nt6 hv6 hk6 hf6 hlv hlv6 ntv hvv hkv hv
  go_wp2_with fail
  refine (qnorm_any _ _ _ K _ hra hK hM).mono ?_
  rintro e w7 ⟨x, rfl, hx, hb⟩
  rw [(redQ_one (n : Int)).1, (redQ_one (n : Int)).2] at hx
  have B7 := B6.trans (hb.mono B6.size)
  have q7 := q6.keep hb
  have hx' := hx.base q6.lt
  obtain ⟨mv, dv, rfl, hm, hd, fm, fd⟩ := hx'
  obtain ⟨A8, n8, c8, rfl⟩ := hm.lim1.choose_spec.1.show_
  obtain ⟨A9, n9, c9, rfl⟩ := hd.lim1.choose_spec.1.show_
  have c0 : w7.cell? ⟨w.heap.size, 0, none⟩ = some (.bool false) := q7.cell 0
  have c1 : w7.cell? ⟨w.heap.size, 1, none⟩ = some (.slice none 0 0) := q7.cell 1
  have c2 : w7.cell? ⟨w.heap.size, 2, none⟩ = some (.slice none 0 0) := q7.cell 2
  have f0 := q7.frozen 0
  have f1 := q7.frozen 1
  have f2 := q7.frozen 2
  have z1 := q7.lt
  clear q7 q6 hx hb hra
  go_wp2_with fail
  refine bodyPost_ret (v := .agg #[.bool (decide ((n : Int) < 0)), .slice A8 n8 c8, .slice A9 n9 c9]) (by simp [results, Tryd.results23, go_sem, c0, c1, c2]) rfl ⟨_, rfl, ⟨_, _, rfl, ?_, ?_, fm.mono (by omega), fd.mono (by omega)⟩, ((B7.setCell (by simp) _).setCell (by simp) _).setCell (by simp) _⟩
  · exact ((hm.set_ fm (by simp) _).set_ fm (by simp) _).set_ fm (by simp) _
  · exact ((hd.set_ fd (by simp) _).set_ fd (by simp) _).set_ fd (by simp) _

set_option maxHeartbeats 32000000 in
theorem within_no (pv rv wv lv : Value) (ps rs : List Int) (ns : List Nat) (L M : Nat) (p : Int) (q : Nat) (w : World) (hp : Nums .i64 w pv ps) (hr : Nums .i64 w rv rs) (hw : Wts w wv ns L) (hq : RatA w lv p q M) (hL : L ≤ 35184372087900) (hM2 : 2 ≤ M) (hM : M ≤ 35184372087900) (htab : Pow10 w) (hE : sumE ps rs ns ≠ 0) :
    Calls Tryd.prog 6 #[.agg #[pv, rv], wv, lv] w fun e w' => e = .returned (.bool true) ∧ Below w.heap.size w w' := by
  have HME := Lib.hid (fun (W : World) (h : Below w.heap.size w W) => emean_any pv rv wv ps rs ns L W (hp.below h) (hr.below h) (hw.below h) (by omega))
  have HVA := Lib.hid (fun (W : World) (h : Below w.heap.size w W) => evar_any pv rv wv ps rs ns L W (hp.below h) (hr.below h) (hw.below h) (by omega))
  have HMO := Lib.hid (fun (W : World) (h : Below w.heap.size w W) => emode_any wv ns L W (hw.below h) (by omega))
  have HCR := Lib.hid (fun (W : World) (h : Below w.heap.size w W) => ecred_any wv lv ns L M p q W (hw.below h) (hq.below h) hM2 ⟨by omega, by omega⟩)
  have HAW := Lib.hid (fun (W : World) (h : Below w.heap.size w W) => awake_any W (htab.below h))
  have HT1 := Lib.hid (fun (W : World) (h : Below w.heap.size w W) (lo hi : Nat) (z : Int) (h21 : ns.length ≤ 21) (h1 : lo ≤ hi) (h2 : hi ≤ ns.length) (hz : z = (hi : Int) - 1) => total_any wv ns L lo hi z W (hw.below h) (by omega) h21 h1 h2 hz)
  have HT0 := Lib.hid (fun (W : World) (h : Below w.heap.size w W) (h21 : ns.length ≤ 21) => total0_any wv ns L W (hw.below h) (by omega) h21)
  have HQ := Lib.hid (fun (W : World) (h : Below w.heap.size w W) => hq.below h)
  have HF1 : Hid (chkS ns ≠ 0 → credE ns p q = chkS ns) := fun h => credE_chk h
  have HF2 : Hid (chkS ns = 0 → modeV ns < ns.length ∧ ∀ i, i < ns.length → ns.getD i 0 ≤ ns.getD (modeV ns) 0) := fun h => mode_facts h
  have HF3 : Hid (chkS ns = 0 → credE ns p q ≠ 0 → credE ns p q = 3 ∧ (p < 0 ∨ (q : Int) < p)) := fun h h2 => cred_bad h h2
  have HF4 : Hid (credE ns p q = 0 → (credV ns p q).1 ≤ (credV ns p q).2 ∧ (credV ns p q).2 < ns.length ∧ ns.length ≤ 21 ∧
    decide (0 ≤ cmpZ ((sumR ns (credV ns p q).1 ((credV ns p q).2 + 1) : Int) * ((redQ (p * (sumR ns 0 ns.length : Int)) (q * 1) : Nat) : Int)) (redP (p * (sumR ns 0 ns.length : Int)) (q * 1) * ((1 : Nat) : Int))) = true) := fun h => cred_facts h
  have HQL := Lib.hid (hq.q_lt (by omega))
  have HQP := Lib.hid hq.pos
  generalize meanP ps rs ns = P1 at HME
  generalize meanQ ps rs ns = Q1 at HME
  generalize varP ps rs ns = P2 at HVA
  generalize varQ ps rs ns = Q2 at HVA
  generalize sumE ps rs ns = E1 at HME HVA hE
  generalize modeV ns = V3 at HMO HF2
  generalize chkS ns = E3 at HMO HF1 HF2 HF3
  generalize (credV ns p q).1 = V4 at HCR HF4
  generalize (credV ns p q).2 = V5 at HCR HF4
  generalize credE ns p q = E4 at HCR HF1 HF3 HF4
  have HLL := Lib.hid hL
  have HMM := Lib.hid hM
  have HM2 := Lib.hid hM2
  obtain ⟨na, QA, qn, qc, QB, qm, qd, rfl⟩ := hq.show_
  obtain ⟨PA, pc, rfl, _, hpm, hps⟩ := hp
  obtain ⟨RV, vc, rfl, _, _, _⟩ := hr
  obtain ⟨WA, wc, us, rfl, hwl, hwm, hws, hwu⟩ := hw
  unfold maxLen at hpm hwm
  have HWS := Lib.hid hws
  have HWU := Lib.hid hwu
  clear hq hws hwu htab hL hM hM2
  obtain ⟨n, hnn⟩ : ∃ n, ns.length = n := ⟨_, rfl⟩
  obtain ⟨pn, hpn⟩ : ∃ n, ps.length = n := ⟨_, rfl⟩
  rw [hnn] at HWS HME HVA HMO HCR HT0 HT1 HF2 HF4 hwl ⊢
  rw [hpn] at HME HVA ⊢
  clear hnn hpn hps hpm
  obtain ⟨W0, hW0⟩ : ∃ W0 : World, W0 = (w.alloc (.cells #[.slice PA pn pc, .slice RV rs.length vc] 37)).alloc (.cells #[.bool na, .slice QA qn qc, .slice QB qm qd] 28) := ⟨_, rfl⟩
  have r0 : Row W0 w.heap.size 37 [.slice PA pn pc, .slice RV rs.length vc] := by
    rw [hW0]
    have := Row.alloc (Row.new w 37 [.slice PA pn pc, .slice RV rs.length vc]) (.cells #[.bool na, .slice QA qn qc, .slice QB qm qd] 28)
    simpa using this
  have r1 : Row W0 (w.heap.size + 1) 28 [.bool na, .slice QA qn qc, .slice QB qm qd] := by
    rw [hW0]
    have := Row.new (w.alloc (.cells #[.slice PA pn pc, .slice RV rs.length vc] 37)) 28 [.bool na, .slice QA qn qc, .slice QB qm qd]
    simpa using this
  have B0 : Below w.heap.size w W0 := by rw [hW0]; exact (((Below.refl _ _).alloc (Nat.le_refl _) _).alloc (by simp) _)
  go_enter Tryd.func6, Tryd.ntmps6
  go_wp2_with fail
  rw [← hW0]
  clear hW0
  have BB := B0
  have hr3 := r0
  have hr5 := r1
  clear B0 r0 r1
  have c30 : W0.cell? ⟨w.heap.size, 0, none⟩ = some (.slice PA pn pc) := hr3.cell 0
  have c31 : W0.cell? ⟨w.heap.size, 1, none⟩ = some (.slice RV rs.length vc) := hr3.cell 1
  have c50 : W0.cell? ⟨w.heap.size + 1, 0, none⟩ = some (.bool na) := hr5.cell 0
  have c51 : W0.cell? ⟨w.heap.size + 1, 1, none⟩ = some (.slice QA qn qc) := hr5.cell 1
  have c52 : W0.cell? ⟨w.heap.size + 1, 2, none⟩ = some (.slice QB qm qd) := hr5.cell 2
  have z3 := hr3.lt
  have z5 := hr5.lt
  go_wp2_with fail
  clear c30 c31 c50 c51 c52 z3 z5
  refine (HME.out _ BB).mono ?_
  rintro e x1 ⟨v7, rfl, hv7, hb⟩
  replace hr3 := hr3.keep hb
  replace hr5 := hr5.keep hb
  replace BB : Below w.heap.size w x1 := BB.trans (hb.mono BB.size)
  clear hb
  have h7' := hv7
  obtain ⟨m7, d7, e7, hm7, hd7, _, _⟩ := h7'
  subst e7
  obtain ⟨A7, k7, c7, rfl⟩ := hm7.lim1.choose_spec.1.show_
  obtain ⟨D7, l7, b7, rfl⟩ := hd7.lim1.choose_spec.1.show_
  clear hm7 hd7
  obtain ⟨g7, hg7⟩ : ∃ g, x1.heap.size = g := ⟨_, rfl⟩
  have hr7 : Row (x1.alloc (.cells #[.bool (decide (P1 < 0)), .slice A7 k7 c7, .slice D7 l7 b7] 28)) g7 28 [.bool (decide (P1 < 0)), .slice A7 k7 c7, .slice D7 l7 b7] := row_at hg7
  have hl := lit_below x1 (.cells #[.bool (decide (P1 < 0)), .slice A7 k7 c7, .slice D7 l7 b7] 28)
  have o3_7 : w.heap.size < g7 := by have := hr3.lt; omega
  have o5_7 : w.heap.size + 1 < g7 := by have := hr5.lt; omega
  have ob_7 : w.heap.size ≤ g7 := by have := BB.size; omega
  have c30 : x1.cell? ⟨w.heap.size, 0, none⟩ = some (.slice PA pn pc) := hr3.cell 0
  have c31 : x1.cell? ⟨w.heap.size, 1, none⟩ = some (.slice RV rs.length vc) := hr3.cell 1
  have c50 : x1.cell? ⟨w.heap.size + 1, 0, none⟩ = some (.bool na) := hr5.cell 0
  have c51 : x1.cell? ⟨w.heap.size + 1, 1, none⟩ = some (.slice QA qn qc) := hr5.cell 1
  have c52 : x1.cell? ⟨w.heap.size + 1, 2, none⟩ = some (.slice QB qm qd) := hr5.cell 2
  have d30 : (x1.alloc (.cells #[.bool (decide (P1 < 0)), .slice A7 k7 c7, .slice D7 l7 b7] 28)).cell? ⟨w.heap.size, 0, none⟩ = some (.slice PA pn pc) := (hr3.alloc _).cell 0
  have d31 : (x1.alloc (.cells #[.bool (decide (P1 < 0)), .slice A7 k7 c7, .slice D7 l7 b7] 28)).cell? ⟨w.heap.size, 1, none⟩ = some (.slice RV rs.length vc) := (hr3.alloc _).cell 1
  have d50 : (x1.alloc (.cells #[.bool (decide (P1 < 0)), .slice A7 k7 c7, .slice D7 l7 b7] 28)).cell? ⟨w.heap.size + 1, 0, none⟩ = some (.bool na) := (hr5.alloc _).cell 0
  have d51 : (x1.alloc (.cells #[.bool (decide (P1 < 0)), .slice A7 k7 c7, .slice D7 l7 b7] 28)).cell? ⟨w.heap.size + 1, 1, none⟩ = some (.slice QA qn qc) := (hr5.alloc _).cell 1
  have d52 : (x1.alloc (.cells #[.bool (decide (P1 < 0)), .slice A7 k7 c7, .slice D7 l7 b7] 28)).cell? ⟨w.heap.size + 1, 2, none⟩ = some (.slice QB qm qd) := (hr5.alloc _).cell 2
  have e0 : (x1.alloc (.cells #[.bool (decide (P1 < 0)), .slice A7 k7 c7, .slice D7 l7 b7] 28)).cell? ⟨g7, 0, none⟩ = some (.bool (decide (P1 < 0))) := hr7.cell 0
  have e1 : (x1.alloc (.cells #[.bool (decide (P1 < 0)), .slice A7 k7 c7, .slice D7 l7 b7] 28)).cell? ⟨g7, 1, none⟩ = some (.slice A7 k7 c7) := hr7.cell 1
  have e2 : (x1.alloc (.cells #[.bool (decide (P1 < 0)), .slice A7 k7 c7, .slice D7 l7 b7] 28)).cell? ⟨g7, 2, none⟩ = some (.slice D7 l7 b7) := hr7.cell 2
  go_wp2_with fail
  clear c30 c31 c50 c51 c52 d30 d31 d50 d51 d52 e0 e1 e2
  clear hg7
  generalize (x1.alloc (.cells #[.bool (decide (P1 < 0)), .slice A7 k7 c7, .slice D7 l7 b7] 28)) = x2 at *
  replace hr3 := hr3.keep hl
  replace hr5 := hr5.keep hl
  replace hv7 := hv7.below hl
  replace BB : Below w.heap.size w x2 := BB.trans (hl.mono BB.size)
  clear hl
  refine (HVA.out _ BB).mono ?_
  rintro e x3 ⟨v9, rfl, hv9, hb⟩
  replace hr3 := hr3.keep hb
  replace hr5 := hr5.keep hb
  replace hv7 := hv7.below hb
  replace hr7 := hr7.keep hb
  replace BB : Below w.heap.size w x3 := BB.trans (hb.mono BB.size)
  clear hb
  have h9' := hv9
  obtain ⟨m9, d9, e9, hm9, hd9, _, _⟩ := h9'
  subst e9
  obtain ⟨A9, k9, c9, rfl⟩ := hm9.lim1.choose_spec.1.show_
  obtain ⟨D9, l9, b9, rfl⟩ := hd9.lim1.choose_spec.1.show_
  clear hm9 hd9
  obtain ⟨g9, hg9⟩ : ∃ g, x3.heap.size = g := ⟨_, rfl⟩
  have hr9 : Row (x3.alloc (.cells #[.bool (decide (P2 < 0)), .slice A9 k9 c9, .slice D9 l9 b9] 28)) g9 28 [.bool (decide (P2 < 0)), .slice A9 k9 c9, .slice D9 l9 b9] := row_at hg9
  have hl := lit_below x3 (.cells #[.bool (decide (P2 < 0)), .slice A9 k9 c9, .slice D9 l9 b9] 28)
  have o3_9 : w.heap.size < g9 := by have := hr3.lt; omega
  have o5_9 : w.heap.size + 1 < g9 := by have := hr5.lt; omega
  have o7_9 : g7 < g9 := by have := hr7.lt; omega
  have ob_9 : w.heap.size ≤ g9 := by have := BB.size; omega
  have c30 : x3.cell? ⟨w.heap.size, 0, none⟩ = some (.slice PA pn pc) := hr3.cell 0
  have c31 : x3.cell? ⟨w.heap.size, 1, none⟩ = some (.slice RV rs.length vc) := hr3.cell 1
  have c50 : x3.cell? ⟨w.heap.size + 1, 0, none⟩ = some (.bool na) := hr5.cell 0
  have c51 : x3.cell? ⟨w.heap.size + 1, 1, none⟩ = some (.slice QA qn qc) := hr5.cell 1
  have c52 : x3.cell? ⟨w.heap.size + 1, 2, none⟩ = some (.slice QB qm qd) := hr5.cell 2
  have c70 : x3.cell? ⟨g7, 0, none⟩ = some (.bool (decide (P1 < 0))) := hr7.cell 0
  have c71 : x3.cell? ⟨g7, 1, none⟩ = some (.slice A7 k7 c7) := hr7.cell 1
  have c72 : x3.cell? ⟨g7, 2, none⟩ = some (.slice D7 l7 b7) := hr7.cell 2
  have d30 : (x3.alloc (.cells #[.bool (decide (P2 < 0)), .slice A9 k9 c9, .slice D9 l9 b9] 28)).cell? ⟨w.heap.size, 0, none⟩ = some (.slice PA pn pc) := (hr3.alloc _).cell 0
  have d31 : (x3.alloc (.cells #[.bool (decide (P2 < 0)), .slice A9 k9 c9, .slice D9 l9 b9] 28)).cell? ⟨w.heap.size, 1, none⟩ = some (.slice RV rs.length vc) := (hr3.alloc _).cell 1
  have d50 : (x3.alloc (.cells #[.bool (decide (P2 < 0)), .slice A9 k9 c9, .slice D9 l9 b9] 28)).cell? ⟨w.heap.size + 1, 0, none⟩ = some (.bool na) := (hr5.alloc _).cell 0
  have d51 : (x3.alloc (.cells #[.bool (decide (P2 < 0)), .slice A9 k9 c9, .slice D9 l9 b9] 28)).cell? ⟨w.heap.size + 1, 1, none⟩ = some (.slice QA qn qc) := (hr5.alloc _).cell 1
  have d52 : (x3.alloc (.cells #[.bool (decide (P2 < 0)), .slice A9 k9 c9, .slice D9 l9 b9] 28)).cell? ⟨w.heap.size + 1, 2, none⟩ = some (.slice QB qm qd) := (hr5.alloc _).cell 2
  have d70 : (x3.alloc (.cells #[.bool (decide (P2 < 0)), .slice A9 k9 c9, .slice D9 l9 b9] 28)).cell? ⟨g7, 0, none⟩ = some (.bool (decide (P1 < 0))) := (hr7.alloc _).cell 0
  have d71 : (x3.alloc (.cells #[.bool (decide (P2 < 0)), .slice A9 k9 c9, .slice D9 l9 b9] 28)).cell? ⟨g7, 1, none⟩ = some (.slice A7 k7 c7) := (hr7.alloc _).cell 1
  have d72 : (x3.alloc (.cells #[.bool (decide (P2 < 0)), .slice A9 k9 c9, .slice D9 l9 b9] 28)).cell? ⟨g7, 2, none⟩ = some (.slice D7 l7 b7) := (hr7.alloc _).cell 2
  have e0 : (x3.alloc (.cells #[.bool (decide (P2 < 0)), .slice A9 k9 c9, .slice D9 l9 b9] 28)).cell? ⟨g9, 0, none⟩ = some (.bool (decide (P2 < 0))) := hr9.cell 0
  have e1 : (x3.alloc (.cells #[.bool (decide (P2 < 0)), .slice A9 k9 c9, .slice D9 l9 b9] 28)).cell? ⟨g9, 1, none⟩ = some (.slice A9 k9 c9) := hr9.cell 1
  have e2 : (x3.alloc (.cells #[.bool (decide (P2 < 0)), .slice A9 k9 c9, .slice D9 l9 b9] 28)).cell? ⟨g9, 2, none⟩ = some (.slice D9 l9 b9) := hr9.cell 2
  go_wp2_with fail
  clear c30 c31 c50 c51 c52 c70 c71 c72 d30 d31 d50 d51 d52 d70 d71 d72 e0 e1 e2
  clear hg9
  generalize (x3.alloc (.cells #[.bool (decide (P2 < 0)), .slice A9 k9 c9, .slice D9 l9 b9] 28)) = x4 at *
  replace hr3 := hr3.keep hl
  replace hr5 := hr5.keep hl
  replace hv7 := hv7.below hl
  replace hr7 := hr7.keep hl
  replace hv9 := hv9.below hl
  replace BB : Below w.heap.size w x4 := BB.trans (hl.mono BB.size)
  clear hl
  have t0 : (E1 != E1) = false := by simp
  have t1 : (E1 == 0) = false := by rw [beq_eq_false_iff_ne]; exact hE
  have c30 : x4.cell? ⟨w.heap.size, 0, none⟩ = some (.slice PA pn pc) := hr3.cell 0
  have c31 : x4.cell? ⟨w.heap.size, 1, none⟩ = some (.slice RV rs.length vc) := hr3.cell 1
  have c50 : x4.cell? ⟨w.heap.size + 1, 0, none⟩ = some (.bool na) := hr5.cell 0
  have c51 : x4.cell? ⟨w.heap.size + 1, 1, none⟩ = some (.slice QA qn qc) := hr5.cell 1
  have c52 : x4.cell? ⟨w.heap.size + 1, 2, none⟩ = some (.slice QB qm qd) := hr5.cell 2
  have c70 : x4.cell? ⟨g7, 0, none⟩ = some (.bool (decide (P1 < 0))) := hr7.cell 0
  have c71 : x4.cell? ⟨g7, 1, none⟩ = some (.slice A7 k7 c7) := hr7.cell 1
  have c72 : x4.cell? ⟨g7, 2, none⟩ = some (.slice D7 l7 b7) := hr7.cell 2
  have c90 : x4.cell? ⟨g9, 0, none⟩ = some (.bool (decide (P2 < 0))) := hr9.cell 0
  have c91 : x4.cell? ⟨g9, 1, none⟩ = some (.slice A9 k9 c9) := hr9.cell 1
  have c92 : x4.cell? ⟨g9, 2, none⟩ = some (.slice D9 l9 b9) := hr9.cell 2
  have z3 := hr3.lt
  have z5 := hr5.lt
  have z7 := hr7.lt
  have z9 := hr9.lt
  go_wp2_with fail
  clear c30 c31 c50 c51 c52 c70 c71 c72 c90 c91 c92 z3 z5 z7 z9
  clear t0 t1 hv7 hv9 hr7 hr9 hr3
  refine (HMO.out _ BB).mono ?_
  rintro e x5 ⟨rfl, hb⟩
  replace hr5 := hr5.keep hb
  replace BB : Below w.heap.size w x5 := BB.trans (hb.mono BB.size)
  clear hb
  have c50 : x5.cell? ⟨w.heap.size + 1, 0, none⟩ = some (.bool na) := hr5.cell 0
  have c51 : x5.cell? ⟨w.heap.size + 1, 1, none⟩ = some (.slice QA qn qc) := hr5.cell 1
  have c52 : x5.cell? ⟨w.heap.size + 1, 2, none⟩ = some (.slice QB qm qd) := hr5.cell 2
  have z5 := hr5.lt
  go_wp2_with fail
  clear c50 c51 c52 z5
  refine (HCR.out _ BB).mono ?_
  rintro e x6 ⟨rfl, hb⟩
  replace hr5 := hr5.keep hb
  replace BB : Below w.heap.size w x6 := BB.trans (hb.mono BB.size)
  clear hb
  by_cases h3 : E3 = 0
  · subst h3
    obtain ⟨f1, f2⟩ := HF2.out rfl
    have HFM := Lib.hid f2
    have HF5 := Lib.hid (HF3.out rfl)
    clear f2 HF1 HF2 HF3
    have f1I : (V3 : Int) < (n : Int) := by omega
    have f10 : decide ((V3 : Int) < 0) = false := decide_eq_false (by omega)
    have f11 : decide ((n : Int) ≤ (V3 : Int)) = false := decide_eq_false (by omega)
    have f12 : decide (n ≤ V3) = false := decide_eq_false (by omega)
    have c50 : x6.cell? ⟨w.heap.size + 1, 0, none⟩ = some (.bool na) := hr5.cell 0
    have c51 : x6.cell? ⟨w.heap.size + 1, 1, none⟩ = some (.slice QA qn qc) := hr5.cell 1
    have c52 : x6.cell? ⟨w.heap.size + 1, 2, none⟩ = some (.slice QB qm qd) := hr5.cell 2
    have z5 := hr5.lt
    go_wp2_with fail
    clear c50 c51 c52 z5
    go_loopw [128] (fun iv wr => ∃ (k : Nat), k ≤ n ∧ iv = .int .i64 (k : Int) ∧ Below x6.heap.size x6 wr) (fun iv _ => n - (intOf iv).toNat)
    case atStart => exact ⟨0, by omega, rfl, Below.refl _ _⟩
    case round =>
      obtain ⟨k, hk, rfl, BQ⟩ := hrel
      have hbw := BB.trans (BQ.mono BB.size)
      by_cases hlt : k < n
      · obtain ⟨b2, o2, u, hA, hb2, hcell, la, hla, hva, hll⟩ := lst_at (R := fun w u n => NatAny w u n L) (d := 0) (xs := ns) HWS.out HWU.out hlt
        obtain ⟨b3, o3, u3, hA3, hb3, hcell3, lb, hlb, hvb, hlb2⟩ := lst_at (R := fun w u n => NatAny w u n L) (d := 0) (xs := ns) HWS.out HWU.out f1
        subst hA
        obtain ⟨rfl, rfl⟩ : b2 = b3 ∧ o2 = o3 := by injection hA3 with h; injection h with h1 h2 h3; exact ⟨h1, h2⟩
        clear hA3
        have g1 := (hbw.cell (p := ⟨b2, o2 + k, none⟩) hb2).trans hcell
        have g2 := (hbw.cell (p := ⟨b2, o2 + V3, none⟩) hb2).trans hcell3
        have hla2 := hla.below hbw
        have hlb3 := hlb.below hbw
        have hle := HFM.out k hlt
        rw [← hva, ← hvb] at hle
        have t1 : decide (0 < cmpN (val la) (val lb)) = false := by rw [pos_gt]; exact decide_eq_false (by omega)
        clear hcell hcell3 hla hlb hva hvb hle
        obtain ⟨⟨UA, uc, rfl, _, _, _⟩, _⟩ := id hla2
        obtain ⟨⟨VA, vc2, rfl, _, _, _⟩, _⟩ := id hlb3
        have hltI : (k : Int) < (n : Int) := by omega
        go_wp2_with fail
        refine (cmp_any _ _ la lb _ hla2 hlb3).mono ?_
        rintro e w2 ⟨rfl, d, rfl⟩
        go_wp2_with fail
        go_roundw
        case rel => exact ⟨k + 1, by omega, by go_num, below_drewN BQ _⟩
        case measure => simp [intOf]; omega
      · obtain rfl : k = n := by omega
        replace hr5 := hr5.keep BQ
        replace BB : Below w.heap.size w wr := hbw
        clear hbw BQ HFM
        by_cases h4 : E4 = 0
        · subst h4
          clear HF5
          obtain ⟨c1, c2, c3, c4⟩ := HF4.out rfl
          clear HF4
          have d1 : decide ((V4 : Int) < 0) = false := decide_eq_false (by omega)
          have d2 : decide ((V5 : Int) < (V4 : Int)) = false := decide_eq_false (by omega)
          have d3 : decide ((k : Int) ≤ (V5 : Int)) = false := decide_eq_false (by omega)
          have d4 : decide (k ≤ V5) = false := decide_eq_false (by omega)
          have d5 : decide (V5 < V4) = false := decide_eq_false (by omega)
          have u1 : IntKind.i64.wrap ((k : Int) - 1) = (k : Int) - 1 := by rw [IntKind.wrap_i64]; omega
          have hK2 : 2 ≤ L + k + 2 := by omega
          have hLL := HLL.out
          have hMM := HMM.out
          have hK3 : L + k + 2 ≤ 70368744177600 := by omega
          have hN1 : M + (L + k + 2) ≤ 70368744177600 := by omega
          have hN2 : L + k + 2 + M ≤ 70368744177600 := by omega
          have hN3 : M + (L + k + 2) + 2 ≤ 70368744177600 := by omega
          have hb12 : 1 < bp 2 := by decide
          have hqm : redQ (p * (sumR ns 0 k : Int)) (q * 1) < bp M := Nat.lt_of_le_of_lt (Nat.le_trans (Nat.div_le_self _ _) (by omega)) HQL.out
          have hq1 : 0 < q * 1 := by have := HQP.out; omega
          have hHQ := HQ.out _ BB
          have V45 : V4 ≤ V5 + 1 := by omega
          have V5n : V5 + 1 ≤ k := by omega
          have HZ5 := Lib.hid (show (V5 : Int) = ((V5 + 1 : Nat) : Int) - 1 by omega)
          have c5 := c4
          simp only [Nat.mul_one, Int.cast_ofNat_Int, Int.mul_one] at c5
          have c50 : wr.cell? ⟨w.heap.size + 1, 0, none⟩ = some (.bool na) := hr5.cell 0
          have c51 : wr.cell? ⟨w.heap.size + 1, 1, none⟩ = some (.slice QA qn qc) := hr5.cell 1
          have c52 : wr.cell? ⟨w.heap.size + 1, 2, none⟩ = some (.slice QB qm qd) := hr5.cell 2
          have z5 := hr5.lt
          go_wp2_with fail
          go_region_held3 (fun w' => w'.cell? ⟨w.heap.size + 1, 0, none⟩ = some (.bool na) ∧ w'.cell? ⟨w.heap.size + 1, 1, none⟩ = some (.slice QA qn qc) ∧ w'.cell? ⟨w.heap.size + 1, 2, none⟩ = some (.slice QB qm qd))
            ((refine keep3e z5 c50 c51 c52 ?_; (repeat (first | with_reducible exact Below.refl _ _ | with_reducible refine bl_call h7 ?_ | with_reducible refine bl_call h6 ?_ | with_reducible refine bl_call h5 ?_ | with_reducible refine bl_call h4 ?_ | with_reducible refine bl_call h3 ?_ | with_reducible refine bl_call h2 ?_ | with_reducible refine bl_call h1 ?_ | with_reducible refine bl_drew ?_)); done))
            (first
              | (go_at_call 24; ((with_reducible refine (HT1.out _ (BB.trans (Below.mono ?_ BB.size)) V4 (V5 + 1) _ c3 V45 V5n HZ5.out).mono ?_); (repeat (first | with_reducible exact Below.refl _ _ | with_reducible refine bl_call h7 ?_ | with_reducible refine bl_call h6 ?_ | with_reducible refine bl_call h5 ?_ | with_reducible refine bl_call h4 ?_ | with_reducible refine bl_call h3 ?_ | with_reducible refine bl_call h2 ?_ | with_reducible refine bl_call h1 ?_ | with_reducible refine bl_drew ?_)); rintro e w1 ⟨v1, rfl, hv1, h1⟩; obtain ⟨A1, n1, e1, rfl⟩ := hv1.lim1.choose_spec.1.show_))
              | (go_at_call 24; ((with_reducible refine (HT0.out _ (BB.trans (Below.mono ?_ BB.size)) c3).mono ?_); (repeat (first | with_reducible exact Below.refl _ _ | with_reducible refine bl_call h7 ?_ | with_reducible refine bl_call h6 ?_ | with_reducible refine bl_call h5 ?_ | with_reducible refine bl_call h4 ?_ | with_reducible refine bl_call h3 ?_ | with_reducible refine bl_call h2 ?_ | with_reducible refine bl_call h1 ?_ | with_reducible refine bl_drew ?_)); rintro e w2 ⟨v2, rfl, hv2, h2⟩; obtain ⟨A2, n2, e2, rfl⟩ := hv2.lim1.choose_spec.1.show_))
              | (go_at_call 23; ((with_reducible refine (lwhole_any (.slice A1 n1 e1) _ _ _ (hv1.below ?_) hK2 hK3).mono ?_); (repeat (first | with_reducible exact Below.refl _ _ | with_reducible refine bl_call h7 ?_ | with_reducible refine bl_call h6 ?_ | with_reducible refine bl_call h5 ?_ | with_reducible refine bl_call h4 ?_ | with_reducible refine bl_call h3 ?_ | with_reducible refine bl_call h2 ?_ | with_reducible refine bl_call h1 ?_ | with_reducible refine bl_drew ?_)); rintro e w3 ⟨v3, rfl, hv3, h3⟩))
              | (go_at_call 23; ((with_reducible refine (lwhole_any (.slice A2 n2 e2) _ _ _ (hv2.below ?_) hK2 hK3).mono ?_); (repeat (first | with_reducible exact Below.refl _ _ | with_reducible refine bl_call h7 ?_ | with_reducible refine bl_call h6 ?_ | with_reducible refine bl_call h5 ?_ | with_reducible refine bl_call h4 ?_ | with_reducible refine bl_call h3 ?_ | with_reducible refine bl_call h2 ?_ | with_reducible refine bl_call h1 ?_ | with_reducible refine bl_drew ?_)); rintro e w4 ⟨v4, rfl, hv4, h4⟩))
              | (go_at_call 25; ((with_reducible refine (qmul_wide _ _ p _ q 1 M M (L + k + 2) (L + k + 2) (M + (L + k + 2)) _ ((hHQ.below ?_).wide) (((hv4.ratA (by decide)).below ?_).wide) HM2.out hK2 (Nat.le_refl _) (Nat.le_refl _) hN1).mono ?_); (repeat (first | with_reducible exact Below.refl _ _ | with_reducible refine bl_call h7 ?_ | with_reducible refine bl_call h6 ?_ | with_reducible refine bl_call h5 ?_ | with_reducible refine bl_call h4 ?_ | with_reducible refine bl_call h3 ?_ | with_reducible refine bl_call h2 ?_ | with_reducible refine bl_call h1 ?_ | with_reducible refine bl_drew ?_)); (repeat (first | with_reducible exact Below.refl _ _ | with_reducible refine bl_call h7 ?_ | with_reducible refine bl_call h6 ?_ | with_reducible refine bl_call h5 ?_ | with_reducible refine bl_call h4 ?_ | with_reducible refine bl_call h3 ?_ | with_reducible refine bl_call h2 ?_ | with_reducible refine bl_call h1 ?_ | with_reducible refine bl_drew ?_)); rintro e w5 ⟨v5, rfl, hv5, h5⟩))
              | (go_at_call 9; ((with_reducible refine (qcmp_wide _ _ _ _ 1 _ (L + k + 2) 2 (M + (L + k + 2)) M _ (((hv3.wide (by decide) hb12)).below ?_) ((hv5.wide (redQ_pos hq1) hqm).below ?_) (by decide) HM2.out hN2 hN3).mono ?_); (repeat (first | with_reducible exact Below.refl _ _ | with_reducible refine bl_call h7 ?_ | with_reducible refine bl_call h6 ?_ | with_reducible refine bl_call h5 ?_ | with_reducible refine bl_call h4 ?_ | with_reducible refine bl_call h3 ?_ | with_reducible refine bl_call h2 ?_ | with_reducible refine bl_call h1 ?_ | with_reducible refine bl_drew ?_)); (repeat (first | with_reducible exact Below.refl _ _ | with_reducible refine bl_call h7 ?_ | with_reducible refine bl_call h6 ?_ | with_reducible refine bl_call h5 ?_ | with_reducible refine bl_call h4 ?_ | with_reducible refine bl_call h3 ?_ | with_reducible refine bl_call h2 ?_ | with_reducible refine bl_call h1 ?_ | with_reducible refine bl_drew ?_)); rintro e w6 ⟨rfl, h6⟩))
              | (go_at_call 11; ((refine (HAW.out _ (BB.trans (Below.mono ?_ BB.size))).mono ?_); (repeat (first | with_reducible exact Below.refl _ _ | with_reducible refine bl_call h7 ?_ | with_reducible refine bl_call h6 ?_ | with_reducible refine bl_call h5 ?_ | with_reducible refine bl_call h4 ?_ | with_reducible refine bl_call h3 ?_ | with_reducible refine bl_call h2 ?_ | with_reducible refine bl_call h1 ?_ | with_reducible refine bl_drew ?_)); rintro e w7 ⟨rfl, h7⟩)))
          all_goals go_wp2_with fail
          all_goals go_ret
          all_goals exact ⟨rfl, BB.trans (Below.mono (by (repeat (first | with_reducible exact Below.refl _ _ | with_reducible refine bl_call h7 ?_ | with_reducible refine bl_call h6 ?_ | with_reducible refine bl_call h5 ?_ | with_reducible refine bl_call h4 ?_ | with_reducible refine bl_call h3 ?_ | with_reducible refine bl_call h2 ?_ | with_reducible refine bl_call h1 ?_ | with_reducible refine bl_drew ?_))) BB.size)⟩
        · obtain ⟨rfl, hbad⟩ := HF5.out h4
          clear HF5 HF4 h4
          by_cases hpn : p < 0
          · have hsg : sgnZ p = -1 := if_pos hpn
            have hHQ := HQ.out _ BB
            have hMM := HMM.out
            have hM3 : M ≤ 35184372088800 := by omega
            have c50 : wr.cell? ⟨w.heap.size + 1, 0, none⟩ = some (.bool na) := hr5.cell 0
            have c51 : wr.cell? ⟨w.heap.size + 1, 1, none⟩ = some (.slice QA qn qc) := hr5.cell 1
            have c52 : wr.cell? ⟨w.heap.size + 1, 2, none⟩ = some (.slice QB qm qd) := hr5.cell 2
            have z5 := hr5.lt
            go_wp2_with fail
            go_region_law (first | (go_simp; (go_at_call 21; ((with_reducible refine (qsign_any _ p q M _ (hHQ.below ?_) HM2.out).mono ?_); (repeat (first | with_reducible exact Below.refl _ _ | with_reducible refine bl_call h7 ?_ | with_reducible refine bl_call h3 ?_ | with_reducible refine bl_call h2 ?_ | with_reducible refine bl_call h1 ?_ | with_reducible refine bl_drew ?_)); rintro e w1 ⟨rfl, h1⟩; (try rw [hsg])))) | (go_simp; (go_at_call 11; ((refine (HAW.out _ (BB.trans (Below.mono ?_ BB.size))).mono ?_); (repeat (first | with_reducible exact Below.refl _ _ | with_reducible refine bl_call h7 ?_ | with_reducible refine bl_call h3 ?_ | with_reducible refine bl_call h2 ?_ | with_reducible refine bl_call h1 ?_ | with_reducible refine bl_drew ?_)); rintro e w7 ⟨rfl, h7⟩))))
            all_goals go_wp2_with fail
            all_goals go_ret
            all_goals exact ⟨rfl, BB.trans (Below.mono (by (repeat (first | with_reducible exact Below.refl _ _ | with_reducible refine bl_call h7 ?_ | with_reducible refine bl_call h3 ?_ | with_reducible refine bl_call h2 ?_ | with_reducible refine bl_call h1 ?_ | with_reducible refine bl_drew ?_))) BB.size)⟩
          · have t1 : decide (sgnZ p < 0) = false := decide_eq_false (by unfold sgnZ; rw [if_neg hpn]; split <;> omega)
            have t2 : decide (0 < cmpZ (p * ((1 : Nat) : Int)) (1 * (q : Int))) = true := by rw [cmpZ_pos]; exact decide_eq_true (by omega)
            have t3 : decide (0 < cmpZ p (q : Int)) = true := by rw [cmpZ_pos]; exact decide_eq_true (by omega)
            have hHQ := HQ.out _ BB
            have hMM := HMM.out
            have hM3 : M ≤ 35184372088800 := by omega
            have c50 : wr.cell? ⟨w.heap.size + 1, 0, none⟩ = some (.bool na) := hr5.cell 0
            have c51 : wr.cell? ⟨w.heap.size + 1, 1, none⟩ = some (.slice QA qn qc) := hr5.cell 1
            have c52 : wr.cell? ⟨w.heap.size + 1, 2, none⟩ = some (.slice QB qm qd) := hr5.cell 2
            have z5 := hr5.lt
            go_wp2_with fail
            go_region_held3 (fun w' => w'.cell? ⟨w.heap.size + 1, 0, none⟩ = some (.bool na) ∧ w'.cell? ⟨w.heap.size + 1, 1, none⟩ = some (.slice QA qn qc) ∧ w'.cell? ⟨w.heap.size + 1, 2, none⟩ = some (.slice QB qm qd))
              ((refine keep3e z5 c50 c51 c52 ?_; (repeat (first | with_reducible exact Below.refl _ _ | with_reducible refine bl_call h7 ?_ | with_reducible refine bl_call h3 ?_ | with_reducible refine bl_call h2 ?_ | with_reducible refine bl_call h1 ?_ | with_reducible refine bl_drew ?_)); done))
              (first
                | (go_at_call 21; ((with_reducible refine (qsign_any _ p q M _ (hHQ.below ?_) HM2.out).mono ?_); (repeat (first | with_reducible exact Below.refl _ _ | with_reducible refine bl_call h7 ?_ | with_reducible refine bl_call h3 ?_ | with_reducible refine bl_call h2 ?_ | with_reducible refine bl_call h1 ?_ | with_reducible refine bl_drew ?_)); rintro e w1 ⟨rfl, h1⟩; (try rw [hsg])))
                | (go_at_call 20; ((with_reducible refine (part_any 1 1 _ (by decide) (by decide) (by decide) (by decide)).mono ?_); rintro e w2 ⟨v2, rfl, hv2, h2⟩; rw [show redP 1 (1 : Int).toNat = 1 by decide +kernel, show redQ 1 (1 : Int).toNat = 1 by decide +kernel] at hv2))
                | (go_at_call 9; ((with_reducible refine (qcmp_any _ _ p 1 q 1 M _ (hHQ.below ?_) (((hv2.ratA (by decide)).mono HM2.out).below ?_) HM2.out hM3).mono ?_); (repeat (first | with_reducible exact Below.refl _ _ | with_reducible refine bl_call h7 ?_ | with_reducible refine bl_call h3 ?_ | with_reducible refine bl_call h2 ?_ | with_reducible refine bl_call h1 ?_ | with_reducible refine bl_drew ?_)); (repeat (first | with_reducible exact Below.refl _ _ | with_reducible refine bl_call h7 ?_ | with_reducible refine bl_call h3 ?_ | with_reducible refine bl_call h2 ?_ | with_reducible refine bl_call h1 ?_ | with_reducible refine bl_drew ?_)); rintro e w3 ⟨rfl, h3⟩))
                | (go_at_call 11; ((refine (HAW.out _ (BB.trans (Below.mono ?_ BB.size))).mono ?_); (repeat (first | with_reducible exact Below.refl _ _ | with_reducible refine bl_call h7 ?_ | with_reducible refine bl_call h3 ?_ | with_reducible refine bl_call h2 ?_ | with_reducible refine bl_call h1 ?_ | with_reducible refine bl_drew ?_)); rintro e w7 ⟨rfl, h7⟩)))
            all_goals go_wp2_with fail
            all_goals go_ret
            all_goals exact ⟨rfl, BB.trans (Below.mono (by (repeat (first | with_reducible exact Below.refl _ _ | with_reducible refine bl_call h7 ?_ | with_reducible refine bl_call h3 ?_ | with_reducible refine bl_call h2 ?_ | with_reducible refine bl_call h1 ?_ | with_reducible refine bl_drew ?_))) BB.size)⟩
  · have f1 := HF1.out h3
    subst f1
    have t1 : (E4 != 0) = true := by rw [bne_iff_ne]; exact h3
    have t2 : (E4 == E4) = true := by simp
    clear HF1 HF2 HF3 HF4
    go_wp2_with fail
    refine (HAW.out _ BB).mono ?_
    rintro e x201 ⟨rfl, hb⟩
    replace BB : Below w.heap.size w x201 := BB.trans (hb.mono BB.size)
    clear hb
    go_wp2_with fail
    go_ret
    exact ⟨rfl, BB⟩

set_option maxHeartbeats 32000000 in
theorem within_ok (pv rv wv lv : Value) (ps rs : List Int) (ns : List Nat) (L M : Nat) (p : Int) (q : Nat) (w : World) (hp : Nums .i64 w pv ps) (hr : Nums .i64 w rv rs) (hw : Wts w wv ns L) (hq : RatA w lv p q M) (hL : L ≤ 35184372087900) (hM2 : 2 ≤ M) (hM : M ≤ 35184372087900) (htab : Pow10 w) (hE : sumE ps rs ns = 0) :
    Calls Tryd.prog 6 #[.agg #[pv, rv], wv, lv] w fun e w' => e = .returned (.bool true) ∧ Below w.heap.size w w' := by
  have HME := Lib.hid (fun (W : World) (h : Below w.heap.size w W) => emean_any pv rv wv ps rs ns L W (hp.below h) (hr.below h) (hw.below h) (by omega))
  have HVA := Lib.hid (fun (W : World) (h : Below w.heap.size w W) => evar_any pv rv wv ps rs ns L W (hp.below h) (hr.below h) (hw.below h) (by omega))
  have HMO := Lib.hid (fun (W : World) (h : Below w.heap.size w W) => emode_any wv ns L W (hw.below h) (by omega))
  have HCR := Lib.hid (fun (W : World) (h : Below w.heap.size w W) => ecred_any wv lv ns L M p q W (hw.below h) (hq.below h) hM2 ⟨by omega, by omega⟩)
  have HAW := Lib.hid (fun (W : World) (h : Below w.heap.size w W) => awake_any W (htab.below h))
  have HT1 := Lib.hid (fun (W : World) (h : Below w.heap.size w W) (lo hi : Nat) (z : Int) (h21 : ns.length ≤ 21) (h1 : lo ≤ hi) (h2 : hi ≤ ns.length) (hz : z = (hi : Int) - 1) => total_any wv ns L lo hi z W (hw.below h) (by omega) h21 h1 h2 hz)
  have HT0 := Lib.hid (fun (W : World) (h : Below w.heap.size w W) (h21 : ns.length ≤ 21) => total0_any wv ns L W (hw.below h) (by omega) h21)
  have HQ := Lib.hid (fun (W : World) (h : Below w.heap.size w W) => hq.below h)
  have HF1 : Hid (chkS ns ≠ 0 → credE ns p q = chkS ns) := fun h => credE_chk h
  have HF2 : Hid (chkS ns = 0 → modeV ns < ns.length ∧ ∀ i, i < ns.length → ns.getD i 0 ≤ ns.getD (modeV ns) 0) := fun h => mode_facts h
  have HF3 : Hid (chkS ns = 0 → credE ns p q ≠ 0 → credE ns p q = 3 ∧ (p < 0 ∨ (q : Int) < p)) := fun h h2 => cred_bad h h2
  have HF4 : Hid (credE ns p q = 0 → (credV ns p q).1 ≤ (credV ns p q).2 ∧ (credV ns p q).2 < ns.length ∧ ns.length ≤ 21 ∧
    decide (0 ≤ cmpZ ((sumR ns (credV ns p q).1 ((credV ns p q).2 + 1) : Int) * ((redQ (p * (sumR ns 0 ns.length : Int)) (q * 1) : Nat) : Int)) (redP (p * (sumR ns 0 ns.length : Int)) (q * 1) * ((1 : Nat) : Int))) = true) := fun h => cred_facts h
  have HQL := Lib.hid (hq.q_lt (by omega))
  have HQP := Lib.hid hq.pos
  obtain ⟨ia, ib, w1, w2, w3, w4, w5, w6, w7, w8, hQ1, hQ2⟩ := within_facts hE
  have HLO := Lib.hid w1
  have HHI := Lib.hid w2
  have HCA := Lib.hid w5
  have HCB := Lib.hid w6
  have HSG := Lib.hid w7
  have HZV := Lib.hid w8
  clear w1 w2 w5 w6 w7 w8
  obtain ⟨s1, s2, s3⟩ := sumE_zero hE
  obtain ⟨s5, s6, s7, s4, s8⟩ := gridE_zero s1
  have HZ : Hid (∀ j, j < ps.length → -9223372036854775808 ≤ ps.getD j 0 ∧ ps.getD j 0 ≤ 9223372036854775807) := fun j hj => by have := s4 j hj; omega
  rw [hE] at HME HVA
  generalize meanP ps rs ns = P1 at HME HCA HCB
  generalize meanQ ps rs ns = Q1 at HME HCA HCB hQ1
  generalize varP ps rs ns = P2 at HVA HSG HZV
  generalize varQ ps rs ns = Q2 at HVA hQ2
  clear s1 s3 s4 s5 s6 s7 s8 hE
  generalize modeV ns = V3 at HMO HF2
  generalize chkS ns = E3 at HMO HF1 HF2 HF3
  generalize (credV ns p q).1 = V4 at HCR HF4
  generalize (credV ns p q).2 = V5 at HCR HF4
  generalize credE ns p q = E4 at HCR HF1 HF3 HF4
  have HLL := Lib.hid hL
  have HMM := Lib.hid hM
  have HM2 := Lib.hid hM2
  obtain ⟨na, QA, qn, qc, QB, qm, qd, rfl⟩ := hq.show_
  obtain ⟨PA, pc, rfl, _, hpm, hps⟩ := hp
  obtain ⟨RV, vc, rfl, _, _, _⟩ := hr
  obtain ⟨WA, wc, us, rfl, hwl, hwm, hws, hwu⟩ := hw
  unfold maxLen at hpm hwm
  have HWS := Lib.hid hws
  have HWU := Lib.hid hwu
  clear hq hws hwu htab hL hM hM2
  obtain ⟨pb, po, rfl, hpb, hcell⟩ := hps.num w4
  rw [s2] at HWS HME HVA HMO HCR HT0 HT1 HF2 HF4 hwl ⊢
  obtain ⟨n, hnn⟩ : ∃ n, ps.length = n := ⟨_, rfl⟩
  rw [hnn] at HWS HME HVA HMO HCR HT0 HT1 HF2 HF4 HLO HHI HZ w4 hcell hwl ⊢
  clear hnn hps hpm s2
  obtain ⟨W0, hW0⟩ : ∃ W0 : World, W0 = (w.alloc (.cells #[.slice (some ⟨pb, po, none⟩) n pc, .slice RV rs.length vc] 37)).alloc (.cells #[.bool na, .slice QA qn qc, .slice QB qm qd] 28) := ⟨_, rfl⟩
  have r0 : Row W0 w.heap.size 37 [.slice (some ⟨pb, po, none⟩) n pc, .slice RV rs.length vc] := by
    rw [hW0]
    have := Row.alloc (Row.new w 37 [.slice (some ⟨pb, po, none⟩) n pc, .slice RV rs.length vc]) (.cells #[.bool na, .slice QA qn qc, .slice QB qm qd] 28)
    simpa using this
  have r1 : Row W0 (w.heap.size + 1) 28 [.bool na, .slice QA qn qc, .slice QB qm qd] := by
    rw [hW0]
    have := Row.new (w.alloc (.cells #[.slice (some ⟨pb, po, none⟩) n pc, .slice RV rs.length vc] 37)) 28 [.bool na, .slice QA qn qc, .slice QB qm qd]
    simpa using this
  have B0 : Below w.heap.size w W0 := by rw [hW0]; exact (((Below.refl _ _).alloc (Nat.le_refl _) _).alloc (by simp) _)
  go_enter Tryd.func6, Tryd.ntmps6
  go_wp2_with fail
  rw [← hW0]
  clear hW0
  have BB := B0
  have hr3 := r0
  have hr5 := r1
  clear B0 r0 r1
  have c30 : W0.cell? ⟨w.heap.size, 0, none⟩ = some (.slice (some ⟨pb, po, none⟩) n pc) := hr3.cell 0
  have c31 : W0.cell? ⟨w.heap.size, 1, none⟩ = some (.slice RV rs.length vc) := hr3.cell 1
  have c50 : W0.cell? ⟨w.heap.size + 1, 0, none⟩ = some (.bool na) := hr5.cell 0
  have c51 : W0.cell? ⟨w.heap.size + 1, 1, none⟩ = some (.slice QA qn qc) := hr5.cell 1
  have c52 : W0.cell? ⟨w.heap.size + 1, 2, none⟩ = some (.slice QB qm qd) := hr5.cell 2
  have z3 := hr3.lt
  have z5 := hr5.lt
  go_wp2_with fail
  clear c30 c31 c50 c51 c52 z3 z5
  refine (HME.out _ BB).mono ?_
  rintro e x1 ⟨v7, rfl, hv7, hb⟩
  replace hr3 := hr3.keep hb
  replace hr5 := hr5.keep hb
  replace BB : Below w.heap.size w x1 := BB.trans (hb.mono BB.size)
  clear hb
  have h7' := hv7
  obtain ⟨m7, d7, e7, hm7, hd7, _, _⟩ := h7'
  subst e7
  obtain ⟨A7, k7, c7, rfl⟩ := hm7.lim1.choose_spec.1.show_
  obtain ⟨D7, l7, b7, rfl⟩ := hd7.lim1.choose_spec.1.show_
  clear hm7 hd7
  obtain ⟨g7, hg7⟩ : ∃ g, x1.heap.size = g := ⟨_, rfl⟩
  have hr7 : Row (x1.alloc (.cells #[.bool (decide (P1 < 0)), .slice A7 k7 c7, .slice D7 l7 b7] 28)) g7 28 [.bool (decide (P1 < 0)), .slice A7 k7 c7, .slice D7 l7 b7] := row_at hg7
  have hl := lit_below x1 (.cells #[.bool (decide (P1 < 0)), .slice A7 k7 c7, .slice D7 l7 b7] 28)
  have o3_7 : w.heap.size < g7 := by have := hr3.lt; omega
  have o5_7 : w.heap.size + 1 < g7 := by have := hr5.lt; omega
  have ob_7 : w.heap.size ≤ g7 := by have := BB.size; omega
  have c30 : x1.cell? ⟨w.heap.size, 0, none⟩ = some (.slice (some ⟨pb, po, none⟩) n pc) := hr3.cell 0
  have c31 : x1.cell? ⟨w.heap.size, 1, none⟩ = some (.slice RV rs.length vc) := hr3.cell 1
  have c50 : x1.cell? ⟨w.heap.size + 1, 0, none⟩ = some (.bool na) := hr5.cell 0
  have c51 : x1.cell? ⟨w.heap.size + 1, 1, none⟩ = some (.slice QA qn qc) := hr5.cell 1
  have c52 : x1.cell? ⟨w.heap.size + 1, 2, none⟩ = some (.slice QB qm qd) := hr5.cell 2
  have d30 : (x1.alloc (.cells #[.bool (decide (P1 < 0)), .slice A7 k7 c7, .slice D7 l7 b7] 28)).cell? ⟨w.heap.size, 0, none⟩ = some (.slice (some ⟨pb, po, none⟩) n pc) := (hr3.alloc _).cell 0
  have d31 : (x1.alloc (.cells #[.bool (decide (P1 < 0)), .slice A7 k7 c7, .slice D7 l7 b7] 28)).cell? ⟨w.heap.size, 1, none⟩ = some (.slice RV rs.length vc) := (hr3.alloc _).cell 1
  have d50 : (x1.alloc (.cells #[.bool (decide (P1 < 0)), .slice A7 k7 c7, .slice D7 l7 b7] 28)).cell? ⟨w.heap.size + 1, 0, none⟩ = some (.bool na) := (hr5.alloc _).cell 0
  have d51 : (x1.alloc (.cells #[.bool (decide (P1 < 0)), .slice A7 k7 c7, .slice D7 l7 b7] 28)).cell? ⟨w.heap.size + 1, 1, none⟩ = some (.slice QA qn qc) := (hr5.alloc _).cell 1
  have d52 : (x1.alloc (.cells #[.bool (decide (P1 < 0)), .slice A7 k7 c7, .slice D7 l7 b7] 28)).cell? ⟨w.heap.size + 1, 2, none⟩ = some (.slice QB qm qd) := (hr5.alloc _).cell 2
  have e0 : (x1.alloc (.cells #[.bool (decide (P1 < 0)), .slice A7 k7 c7, .slice D7 l7 b7] 28)).cell? ⟨g7, 0, none⟩ = some (.bool (decide (P1 < 0))) := hr7.cell 0
  have e1 : (x1.alloc (.cells #[.bool (decide (P1 < 0)), .slice A7 k7 c7, .slice D7 l7 b7] 28)).cell? ⟨g7, 1, none⟩ = some (.slice A7 k7 c7) := hr7.cell 1
  have e2 : (x1.alloc (.cells #[.bool (decide (P1 < 0)), .slice A7 k7 c7, .slice D7 l7 b7] 28)).cell? ⟨g7, 2, none⟩ = some (.slice D7 l7 b7) := hr7.cell 2
  go_wp2_with fail
  clear c30 c31 c50 c51 c52 d30 d31 d50 d51 d52 e0 e1 e2
  clear hg7
  generalize (x1.alloc (.cells #[.bool (decide (P1 < 0)), .slice A7 k7 c7, .slice D7 l7 b7] 28)) = x2 at *
  replace hr3 := hr3.keep hl
  replace hr5 := hr5.keep hl
  replace hv7 := hv7.below hl
  replace BB : Below w.heap.size w x2 := BB.trans (hl.mono BB.size)
  clear hl
  refine (HVA.out _ BB).mono ?_
  rintro e x3 ⟨v9, rfl, hv9, hb⟩
  replace hr3 := hr3.keep hb
  replace hr5 := hr5.keep hb
  replace hv7 := hv7.below hb
  replace hr7 := hr7.keep hb
  replace BB : Below w.heap.size w x3 := BB.trans (hb.mono BB.size)
  clear hb
  have h9' := hv9
  obtain ⟨m9, d9, e9, hm9, hd9, _, _⟩ := h9'
  subst e9
  obtain ⟨A9, k9, c9, rfl⟩ := hm9.lim1.choose_spec.1.show_
  obtain ⟨D9, l9, b9, rfl⟩ := hd9.lim1.choose_spec.1.show_
  clear hm9 hd9
  obtain ⟨g9, hg9⟩ : ∃ g, x3.heap.size = g := ⟨_, rfl⟩
  have hr9 : Row (x3.alloc (.cells #[.bool (decide (P2 < 0)), .slice A9 k9 c9, .slice D9 l9 b9] 28)) g9 28 [.bool (decide (P2 < 0)), .slice A9 k9 c9, .slice D9 l9 b9] := row_at hg9
  have hl := lit_below x3 (.cells #[.bool (decide (P2 < 0)), .slice A9 k9 c9, .slice D9 l9 b9] 28)
  have o3_9 : w.heap.size < g9 := by have := hr3.lt; omega
  have o5_9 : w.heap.size + 1 < g9 := by have := hr5.lt; omega
  have o7_9 : g7 < g9 := by have := hr7.lt; omega
  have ob_9 : w.heap.size ≤ g9 := by have := BB.size; omega
  have c30 : x3.cell? ⟨w.heap.size, 0, none⟩ = some (.slice (some ⟨pb, po, none⟩) n pc) := hr3.cell 0
  have c31 : x3.cell? ⟨w.heap.size, 1, none⟩ = some (.slice RV rs.length vc) := hr3.cell 1
  have c50 : x3.cell? ⟨w.heap.size + 1, 0, none⟩ = some (.bool na) := hr5.cell 0
  have c51 : x3.cell? ⟨w.heap.size + 1, 1, none⟩ = some (.slice QA qn qc) := hr5.cell 1
  have c52 : x3.cell? ⟨w.heap.size + 1, 2, none⟩ = some (.slice QB qm qd) := hr5.cell 2
  have c70 : x3.cell? ⟨g7, 0, none⟩ = some (.bool (decide (P1 < 0))) := hr7.cell 0
  have c71 : x3.cell? ⟨g7, 1, none⟩ = some (.slice A7 k7 c7) := hr7.cell 1
  have c72 : x3.cell? ⟨g7, 2, none⟩ = some (.slice D7 l7 b7) := hr7.cell 2
  have d30 : (x3.alloc (.cells #[.bool (decide (P2 < 0)), .slice A9 k9 c9, .slice D9 l9 b9] 28)).cell? ⟨w.heap.size, 0, none⟩ = some (.slice (some ⟨pb, po, none⟩) n pc) := (hr3.alloc _).cell 0
  have d31 : (x3.alloc (.cells #[.bool (decide (P2 < 0)), .slice A9 k9 c9, .slice D9 l9 b9] 28)).cell? ⟨w.heap.size, 1, none⟩ = some (.slice RV rs.length vc) := (hr3.alloc _).cell 1
  have d50 : (x3.alloc (.cells #[.bool (decide (P2 < 0)), .slice A9 k9 c9, .slice D9 l9 b9] 28)).cell? ⟨w.heap.size + 1, 0, none⟩ = some (.bool na) := (hr5.alloc _).cell 0
  have d51 : (x3.alloc (.cells #[.bool (decide (P2 < 0)), .slice A9 k9 c9, .slice D9 l9 b9] 28)).cell? ⟨w.heap.size + 1, 1, none⟩ = some (.slice QA qn qc) := (hr5.alloc _).cell 1
  have d52 : (x3.alloc (.cells #[.bool (decide (P2 < 0)), .slice A9 k9 c9, .slice D9 l9 b9] 28)).cell? ⟨w.heap.size + 1, 2, none⟩ = some (.slice QB qm qd) := (hr5.alloc _).cell 2
  have d70 : (x3.alloc (.cells #[.bool (decide (P2 < 0)), .slice A9 k9 c9, .slice D9 l9 b9] 28)).cell? ⟨g7, 0, none⟩ = some (.bool (decide (P1 < 0))) := (hr7.alloc _).cell 0
  have d71 : (x3.alloc (.cells #[.bool (decide (P2 < 0)), .slice A9 k9 c9, .slice D9 l9 b9] 28)).cell? ⟨g7, 1, none⟩ = some (.slice A7 k7 c7) := (hr7.alloc _).cell 1
  have d72 : (x3.alloc (.cells #[.bool (decide (P2 < 0)), .slice A9 k9 c9, .slice D9 l9 b9] 28)).cell? ⟨g7, 2, none⟩ = some (.slice D7 l7 b7) := (hr7.alloc _).cell 2
  have e0 : (x3.alloc (.cells #[.bool (decide (P2 < 0)), .slice A9 k9 c9, .slice D9 l9 b9] 28)).cell? ⟨g9, 0, none⟩ = some (.bool (decide (P2 < 0))) := hr9.cell 0
  have e1 : (x3.alloc (.cells #[.bool (decide (P2 < 0)), .slice A9 k9 c9, .slice D9 l9 b9] 28)).cell? ⟨g9, 1, none⟩ = some (.slice A9 k9 c9) := hr9.cell 1
  have e2 : (x3.alloc (.cells #[.bool (decide (P2 < 0)), .slice A9 k9 c9, .slice D9 l9 b9] 28)).cell? ⟨g9, 2, none⟩ = some (.slice D9 l9 b9) := hr9.cell 2
  go_wp2_with fail
  clear c30 c31 c50 c51 c52 c70 c71 c72 d30 d31 d50 d51 d52 d70 d71 d72 e0 e1 e2
  clear hg9
  generalize (x3.alloc (.cells #[.bool (decide (P2 < 0)), .slice A9 k9 c9, .slice D9 l9 b9] 28)) = x4 at *
  replace hr3 := hr3.keep hl
  replace hr5 := hr5.keep hl
  replace hv7 := hv7.below hl
  replace hr7 := hr7.keep hl
  replace hv9 := hv9.below hl
  replace BB : Below w.heap.size w x4 := BB.trans (hl.mono BB.size)
  clear hl
  have c30 : x4.cell? ⟨w.heap.size, 0, none⟩ = some (.slice (some ⟨pb, po, none⟩) n pc) := hr3.cell 0
  have c31 : x4.cell? ⟨w.heap.size, 1, none⟩ = some (.slice RV rs.length vc) := hr3.cell 1
  have c50 : x4.cell? ⟨w.heap.size + 1, 0, none⟩ = some (.bool na) := hr5.cell 0
  have c51 : x4.cell? ⟨w.heap.size + 1, 1, none⟩ = some (.slice QA qn qc) := hr5.cell 1
  have c52 : x4.cell? ⟨w.heap.size + 1, 2, none⟩ = some (.slice QB qm qd) := hr5.cell 2
  have c70 : x4.cell? ⟨g7, 0, none⟩ = some (.bool (decide (P1 < 0))) := hr7.cell 0
  have c71 : x4.cell? ⟨g7, 1, none⟩ = some (.slice A7 k7 c7) := hr7.cell 1
  have c72 : x4.cell? ⟨g7, 2, none⟩ = some (.slice D7 l7 b7) := hr7.cell 2
  have c90 : x4.cell? ⟨g9, 0, none⟩ = some (.bool (decide (P2 < 0))) := hr9.cell 0
  have c91 : x4.cell? ⟨g9, 1, none⟩ = some (.slice A9 k9 c9) := hr9.cell 1
  have c92 : x4.cell? ⟨g9, 2, none⟩ = some (.slice D9 l9 b9) := hr9.cell 2
  have z3 := hr3.lt
  have z5 := hr5.lt
  have z7 := hr7.lt
  have z9 := hr9.lt
  go_wp2_with fail
  clear c30 c31 c50 c51 c52 c70 c71 c72 c90 c91 c92 z3 z5 z7 z9
  have t0 : ((n : Int) != (n : Int)) = false := by simp
  have c30 : x4.cell? ⟨w.heap.size, 0, none⟩ = some (.slice (some ⟨pb, po, none⟩) n pc) := hr3.cell 0
  have c31 : x4.cell? ⟨w.heap.size, 1, none⟩ = some (.slice RV rs.length vc) := hr3.cell 1
  have c50 : x4.cell? ⟨w.heap.size + 1, 0, none⟩ = some (.bool na) := hr5.cell 0
  have c51 : x4.cell? ⟨w.heap.size + 1, 1, none⟩ = some (.slice QA qn qc) := hr5.cell 1
  have c52 : x4.cell? ⟨w.heap.size + 1, 2, none⟩ = some (.slice QB qm qd) := hr5.cell 2
  have c70 : x4.cell? ⟨g7, 0, none⟩ = some (.bool (decide (P1 < 0))) := hr7.cell 0
  have c71 : x4.cell? ⟨g7, 1, none⟩ = some (.slice A7 k7 c7) := hr7.cell 1
  have c72 : x4.cell? ⟨g7, 2, none⟩ = some (.slice D7 l7 b7) := hr7.cell 2
  have c90 : x4.cell? ⟨g9, 0, none⟩ = some (.bool (decide (P2 < 0))) := hr9.cell 0
  have c91 : x4.cell? ⟨g9, 1, none⟩ = some (.slice A9 k9 c9) := hr9.cell 1
  have c92 : x4.cell? ⟨g9, 2, none⟩ = some (.slice D9 l9 b9) := hr9.cell 2
  have z3 := hr3.lt
  have z5 := hr5.lt
  have z7 := hr7.lt
  have z9 := hr9.lt
  go_wp2_with fail
  clear c30 c31 c50 c51 c52 c70 c71 c72 c90 c91 c92 z3 z5 z7 z9
  clear t0
  go_loopw [11, 12, 46] (fun lv hv iv wr => ∃ (k : Nat), k ≤ n ∧ iv = .int .i64 (k : Int) ∧ lv = .int .i64 (loI ns k) ∧ hv = .int .i64 (hiI ns k) ∧ Below x4.heap.size x4 wr) (fun _ _ iv _ => n - (intOf iv).toNat)
  case atStart => exact ⟨0, by omega, rfl, rfl, rfl, Below.refl _ _⟩
  case round =>
    obtain ⟨k, hk, rfl, rfl, rfl, BQ⟩ := hrel
    have hbw := BB.trans (BQ.mono BB.size)
    by_cases hlt : k < n
    · obtain ⟨b2, o2, u, rfl, hb2, hcell, la, hla, hva, hll⟩ := lst_at (R := fun w u n => NatAny w u n L) (d := 0) (xs := ns) HWS.out HWU.out hlt
      have g1 := (hbw.cell (p := ⟨b2, o2 + k, none⟩) hb2).trans hcell
      have hla2 := hla.below hbw
      have hLL := HLL.out
      clear hcell hla
      have HS1 : Hid (loI ns (k + 1) = if 0 < ns.getD k 0 then (if loI ns k < 0 then (k : Int) else loI ns k) else loI ns k) := rfl
      have HS2 : Hid (hiI ns (k + 1) = if 0 < ns.getD k 0 then (k : Int) else hiI ns k) := rfl
      rw [← hva] at HS1 HS2
      generalize loI ns k = l0 at *
      generalize hiI ns k = h0 at *
      clear hva
      obtain ⟨⟨UA, uc, rfl, _, _, _⟩, _⟩ := id hla2
      have hltI : (k : Int) < (n : Int) := by omega
      go_wp2_with fail
      refine (bits_any _ la _ hla2 (by omega)).mono ?_
      rintro e w2 ⟨bt, rfl, rfl, hbt⟩
      by_cases hz : 0 < val la
      · rw [if_pos hz] at HS1 HS2
        have t1 : decide (0 < (bt : Int)) = true := decide_eq_true (by have := (hbt.2 hz).1; omega)
        have t1n : decide (0 < bt) = true := decide_eq_true (hbt.2 hz).1
        by_cases hl0 : l0 < 0
        · rw [if_pos hl0] at HS1
          have t2 : decide (l0 < 0) = true := decide_eq_true hl0
          go_wp2_with fail
          go_roundw
          case rel => exact ⟨k + 1, by omega, by go_num, by rw [HS1.out], by rw [HS2.out], BQ⟩
          case measure => simp [intOf]; omega
        · rw [if_neg hl0] at HS1
          have t2 : decide (l0 < 0) = false := decide_eq_false hl0
          go_wp2_with fail
          go_roundw
          case rel => exact ⟨k + 1, by omega, by go_num, by rw [HS1.out], by rw [HS2.out], BQ⟩
          case measure => simp [intOf]; omega
      · rw [if_neg hz] at HS1 HS2
        have t1 : decide (0 < (bt : Int)) = false := decide_eq_false (by have := hbt.1 (by omega); omega)
        have t1n : decide (0 < bt) = false := decide_eq_false (by have := hbt.1 (by omega); omega)
        go_wp2_with fail
        go_roundw
        case rel => exact ⟨k + 1, by omega, by go_num, by rw [HS1.out], by rw [HS2.out], BQ⟩
        case measure => simp [intOf]; omega
    · obtain rfl : n = k := by omega
      replace hr3 := hr3.keep BQ
      replace hr5 := hr5.keep BQ
      replace hr7 := hr7.keep BQ
      replace hr9 := hr9.keep BQ
      replace hv7 := hv7.below BQ
      replace hv9 := hv9.below BQ
      replace BB : Below w.heap.size w wr := hbw
      clear hbw BQ hk hlt
      rw [HLO.out, HHI.out]
      obtain ⟨xa, hxa⟩ : ∃ x, ps.getD ia 0 = x := ⟨_, rfl⟩
      obtain ⟨xb, hxb⟩ : ∃ x, ps.getD ib 0 = x := ⟨_, rfl⟩
      have ca := hcell ia (by omega)
      have cb := hcell ib (by omega)
      have ya := HZ.out ia (by omega)
      have yb := HZ.out ib (by omega)
      rw [hxa] at ca HCA ya
      rw [hxb] at cb HCB yb
      clear hxa hxb hcell
      have iaI : (ia : Int) < (n : Int) := by omega
      have ibI : (ib : Int) < (n : Int) := by omega
      have ia0 : decide ((ia : Int) < 0) = false := decide_eq_false (by omega)
      have hLL := HLL.out
      have hm2 : 2 ≤ L + 3 := by omega
      have hm3 : L + 3 ≤ 35184372088800 := by omega
      have hm4 : 2 ≤ L + 1 + (L + 5) + 1 := by omega
      have tCA := HCA.out
      have tCB := HCB.out
      have tSG := HSG.out
      have tCC := tCA
      have tCD := tCB
      simp only [Int.cast_ofNat_Int, Int.mul_one] at tCC tCD
      clear HCA HCB
      have c30 : wr.cell? ⟨w.heap.size, 0, none⟩ = some (.slice (some ⟨pb, po, none⟩) n pc) := hr3.cell 0
      have c31 : wr.cell? ⟨w.heap.size, 1, none⟩ = some (.slice RV rs.length vc) := hr3.cell 1
      have c50 : wr.cell? ⟨w.heap.size + 1, 0, none⟩ = some (.bool na) := hr5.cell 0
      have c51 : wr.cell? ⟨w.heap.size + 1, 1, none⟩ = some (.slice QA qn qc) := hr5.cell 1
      have c52 : wr.cell? ⟨w.heap.size + 1, 2, none⟩ = some (.slice QB qm qd) := hr5.cell 2
      have c70 : wr.cell? ⟨g7, 0, none⟩ = some (.bool (decide (P1 < 0))) := hr7.cell 0
      have c71 : wr.cell? ⟨g7, 1, none⟩ = some (.slice A7 k7 c7) := hr7.cell 1
      have c72 : wr.cell? ⟨g7, 2, none⟩ = some (.slice D7 l7 b7) := hr7.cell 2
      have c90 : wr.cell? ⟨g9, 0, none⟩ = some (.bool (decide (P2 < 0))) := hr9.cell 0
      have c91 : wr.cell? ⟨g9, 1, none⟩ = some (.slice A9 k9 c9) := hr9.cell 1
      have c92 : wr.cell? ⟨g9, 2, none⟩ = some (.slice D9 l9 b9) := hr9.cell 2
      have z3 := hr3.lt
      have z5 := hr5.lt
      have z7 := hr7.lt
      have z9 := hr9.lt
      have qa : wr.cell? ⟨pb, po + ia, none⟩ = some (.int .i64 xa) := (BB.cell (p := ⟨pb, _, none⟩) hpb).trans ca
      have qb : wr.cell? ⟨pb, po + ib, none⟩ = some (.int .i64 xb) := (BB.cell (p := ⟨pb, _, none⟩) hpb).trans cb
      have zq := Nat.lt_of_lt_of_le hpb BB.size
      clear ca cb
      go_wp2_with fail
      go_cut [97] (fun s wx => s = .bool false ∧ Below wr.heap.size wr wx)
      case first =>
        rcases HZV.out with ⟨tz, te⟩ | ⟨tz, te⟩
        · go_region_held3 (fun w' => w'.cell? ⟨w.heap.size, 0, none⟩ = some (.slice (some ⟨pb, po, none⟩) n pc) ∧ w'.cell? ⟨g7, 0, none⟩ = some (.bool (decide (P1 < 0))) ∧ w'.cell? ⟨g7, 1, none⟩ = some (.slice A7 k7 c7) ∧ w'.cell? ⟨g7, 2, none⟩ = some (.slice D7 l7 b7) ∧ w'.cell? ⟨g9, 0, none⟩ = some (.bool (decide (P2 < 0))) ∧ w'.cell? ⟨g9, 1, none⟩ = some (.slice A9 k9 c9) ∧ w'.cell? ⟨g9, 2, none⟩ = some (.slice D9 l9 b9) ∧ w'.cell? ⟨pb, po + ia, none⟩ = some (.int .i64 xa) ∧ w'.cell? ⟨pb, po + ib, none⟩ = some (.int .i64 xb))
            ((refine keep9w z3 z7 z7 z7 z9 z9 z9 zq zq c30 c70 c71 c72 c90 c91 c92 qa qb ?_; (repeat (first | with_reducible exact Below.refl _ _ | with_reducible refine bl_call h6 ?_ | with_reducible refine bl_call h5 ?_ | with_reducible refine bl_call h4 ?_ | with_reducible refine bl_call h3 ?_ | with_reducible refine bl_call h2 ?_ | with_reducible refine bl_call h1 ?_ | with_reducible refine bl_drew ?_)); done))
            (first
              | (go_at_call 20; ((with_reducible refine (part_any xa 1 _ ya.1 ya.2 (by decide) (by decide)).mono ?_); rintro e w1 ⟨v1, rfl, hv1, h1⟩; rw [show (1 : Int).toNat = 1 from rfl, (redQ_one xa).1, (redQ_one xa).2] at hv1))
              | (go_at_call 9; ((with_reducible refine (qcmp_any (.agg #[.bool (decide (P1 < 0)), .slice A7 k7 c7, .slice D7 l7 b7]) v1 P1 xa Q1 1 (L + 3) _ ((hv7.ratA hQ1).below ?_) (((hv1.ratA (by decide)).mono hm2).below ?_) hm2 hm3).mono ?_); (repeat (first | with_reducible exact Below.refl _ _ | with_reducible refine bl_call h6 ?_ | with_reducible refine bl_call h5 ?_ | with_reducible refine bl_call h4 ?_ | with_reducible refine bl_call h3 ?_ | with_reducible refine bl_call h2 ?_ | with_reducible refine bl_call h1 ?_ | with_reducible refine bl_drew ?_)); (repeat (first | with_reducible exact Below.refl _ _ | with_reducible refine bl_call h6 ?_ | with_reducible refine bl_call h5 ?_ | with_reducible refine bl_call h4 ?_ | with_reducible refine bl_call h3 ?_ | with_reducible refine bl_call h2 ?_ | with_reducible refine bl_call h1 ?_ | with_reducible refine bl_drew ?_)); rintro e w2 ⟨rfl, h2⟩))
              | (go_at_call 20; ((with_reducible refine (part_any xb 1 _ yb.1 yb.2 (by decide) (by decide)).mono ?_); rintro e w3 ⟨v3, rfl, hv3, h3⟩; rw [show (1 : Int).toNat = 1 from rfl, (redQ_one xb).1, (redQ_one xb).2] at hv3))
              | (go_at_call 9; ((with_reducible refine (qcmp_any (.agg #[.bool (decide (P1 < 0)), .slice A7 k7 c7, .slice D7 l7 b7]) v3 P1 xb Q1 1 (L + 3) _ ((hv7.ratA hQ1).below ?_) (((hv3.ratA (by decide)).mono hm2).below ?_) hm2 hm3).mono ?_); (repeat (first | with_reducible exact Below.refl _ _ | with_reducible refine bl_call h6 ?_ | with_reducible refine bl_call h5 ?_ | with_reducible refine bl_call h4 ?_ | with_reducible refine bl_call h3 ?_ | with_reducible refine bl_call h2 ?_ | with_reducible refine bl_call h1 ?_ | with_reducible refine bl_drew ?_)); (repeat (first | with_reducible exact Below.refl _ _ | with_reducible refine bl_call h6 ?_ | with_reducible refine bl_call h5 ?_ | with_reducible refine bl_call h4 ?_ | with_reducible refine bl_call h3 ?_ | with_reducible refine bl_call h2 ?_ | with_reducible refine bl_call h1 ?_ | with_reducible refine bl_drew ?_)); rintro e w4 ⟨rfl, h4⟩))
              | (go_at_call 21; ((have hagain := h5); (with_reducible refine (qsign_any (.agg #[.bool (decide (P2 < 0)), .slice A9 k9 c9, .slice D9 l9 b9]) P2 Q2 (L + 1 + (L + 5) + 1) _ ((hv9.ratA hQ2).below ?_) hm4).mono ?_); (repeat (first | with_reducible exact Below.refl _ _ | with_reducible refine bl_call h6 ?_ | with_reducible refine bl_call h5 ?_ | with_reducible refine bl_call h4 ?_ | with_reducible refine bl_call h3 ?_ | with_reducible refine bl_call h2 ?_ | with_reducible refine bl_call h1 ?_ | with_reducible refine bl_drew ?_)); rintro e w6 ⟨rfl, h6⟩))
              | (go_at_call 21; ((with_reducible refine (qsign_any (.agg #[.bool (decide (P2 < 0)), .slice A9 k9 c9, .slice D9 l9 b9]) P2 Q2 (L + 1 + (L + 5) + 1) _ ((hv9.ratA hQ2).below ?_) hm4).mono ?_); (repeat (first | with_reducible exact Below.refl _ _ | with_reducible refine bl_call h6 ?_ | with_reducible refine bl_call h5 ?_ | with_reducible refine bl_call h4 ?_ | with_reducible refine bl_call h3 ?_ | with_reducible refine bl_call h2 ?_ | with_reducible refine bl_call h1 ?_ | with_reducible refine bl_drew ?_)); rintro e w5 ⟨rfl, h5⟩)))
          all_goals go_wp2_with fail
          all_goals go_meet
          all_goals go_light
          all_goals refine ⟨?_, ?_⟩
          all_goals first | rfl | (repeat (first | with_reducible exact Below.refl _ _ | with_reducible refine bl_call h6 ?_ | with_reducible refine bl_call h5 ?_ | with_reducible refine bl_call h4 ?_ | with_reducible refine bl_call h3 ?_ | with_reducible refine bl_call h2 ?_ | with_reducible refine bl_call h1 ?_ | with_reducible refine bl_drew ?_))
        
        · go_region_held3 (fun w' => w'.cell? ⟨w.heap.size, 0, none⟩ = some (.slice (some ⟨pb, po, none⟩) n pc) ∧ w'.cell? ⟨g7, 0, none⟩ = some (.bool (decide (P1 < 0))) ∧ w'.cell? ⟨g7, 1, none⟩ = some (.slice A7 k7 c7) ∧ w'.cell? ⟨g7, 2, none⟩ = some (.slice D7 l7 b7) ∧ w'.cell? ⟨g9, 0, none⟩ = some (.bool (decide (P2 < 0))) ∧ w'.cell? ⟨g9, 1, none⟩ = some (.slice A9 k9 c9) ∧ w'.cell? ⟨g9, 2, none⟩ = some (.slice D9 l9 b9) ∧ w'.cell? ⟨pb, po + ia, none⟩ = some (.int .i64 xa) ∧ w'.cell? ⟨pb, po + ib, none⟩ = some (.int .i64 xb))
            ((refine keep9w z3 z7 z7 z7 z9 z9 z9 zq zq c30 c70 c71 c72 c90 c91 c92 qa qb ?_; (repeat (first | with_reducible exact Below.refl _ _ | with_reducible refine bl_call h6 ?_ | with_reducible refine bl_call h5 ?_ | with_reducible refine bl_call h4 ?_ | with_reducible refine bl_call h3 ?_ | with_reducible refine bl_call h2 ?_ | with_reducible refine bl_call h1 ?_ | with_reducible refine bl_drew ?_)); done))
            (first
              | (go_at_call 20; ((with_reducible refine (part_any xa 1 _ ya.1 ya.2 (by decide) (by decide)).mono ?_); rintro e w1 ⟨v1, rfl, hv1, h1⟩; rw [show (1 : Int).toNat = 1 from rfl, (redQ_one xa).1, (redQ_one xa).2] at hv1))
              | (go_at_call 9; ((with_reducible refine (qcmp_any (.agg #[.bool (decide (P1 < 0)), .slice A7 k7 c7, .slice D7 l7 b7]) v1 P1 xa Q1 1 (L + 3) _ ((hv7.ratA hQ1).below ?_) (((hv1.ratA (by decide)).mono hm2).below ?_) hm2 hm3).mono ?_); (repeat (first | with_reducible exact Below.refl _ _ | with_reducible refine bl_call h6 ?_ | with_reducible refine bl_call h5 ?_ | with_reducible refine bl_call h4 ?_ | with_reducible refine bl_call h3 ?_ | with_reducible refine bl_call h2 ?_ | with_reducible refine bl_call h1 ?_ | with_reducible refine bl_drew ?_)); (repeat (first | with_reducible exact Below.refl _ _ | with_reducible refine bl_call h6 ?_ | with_reducible refine bl_call h5 ?_ | with_reducible refine bl_call h4 ?_ | with_reducible refine bl_call h3 ?_ | with_reducible refine bl_call h2 ?_ | with_reducible refine bl_call h1 ?_ | with_reducible refine bl_drew ?_)); rintro e w2 ⟨rfl, h2⟩))
              | (go_at_call 20; ((with_reducible refine (part_any xb 1 _ yb.1 yb.2 (by decide) (by decide)).mono ?_); rintro e w3 ⟨v3, rfl, hv3, h3⟩; rw [show (1 : Int).toNat = 1 from rfl, (redQ_one xb).1, (redQ_one xb).2] at hv3))
              | (go_at_call 9; ((with_reducible refine (qcmp_any (.agg #[.bool (decide (P1 < 0)), .slice A7 k7 c7, .slice D7 l7 b7]) v3 P1 xb Q1 1 (L + 3) _ ((hv7.ratA hQ1).below ?_) (((hv3.ratA (by decide)).mono hm2).below ?_) hm2 hm3).mono ?_); (repeat (first | with_reducible exact Below.refl _ _ | with_reducible refine bl_call h6 ?_ | with_reducible refine bl_call h5 ?_ | with_reducible refine bl_call h4 ?_ | with_reducible refine bl_call h3 ?_ | with_reducible refine bl_call h2 ?_ | with_reducible refine bl_call h1 ?_ | with_reducible refine bl_drew ?_)); (repeat (first | with_reducible exact Below.refl _ _ | with_reducible refine bl_call h6 ?_ | with_reducible refine bl_call h5 ?_ | with_reducible refine bl_call h4 ?_ | with_reducible refine bl_call h3 ?_ | with_reducible refine bl_call h2 ?_ | with_reducible refine bl_call h1 ?_ | with_reducible refine bl_drew ?_)); rintro e w4 ⟨rfl, h4⟩))
              | (go_at_call 21; ((have hagain := h5); (with_reducible refine (qsign_any (.agg #[.bool (decide (P2 < 0)), .slice A9 k9 c9, .slice D9 l9 b9]) P2 Q2 (L + 1 + (L + 5) + 1) _ ((hv9.ratA hQ2).below ?_) hm4).mono ?_); (repeat (first | with_reducible exact Below.refl _ _ | with_reducible refine bl_call h6 ?_ | with_reducible refine bl_call h5 ?_ | with_reducible refine bl_call h4 ?_ | with_reducible refine bl_call h3 ?_ | with_reducible refine bl_call h2 ?_ | with_reducible refine bl_call h1 ?_ | with_reducible refine bl_drew ?_)); rintro e w6 ⟨rfl, h6⟩))
              | (go_at_call 21; ((with_reducible refine (qsign_any (.agg #[.bool (decide (P2 < 0)), .slice A9 k9 c9, .slice D9 l9 b9]) P2 Q2 (L + 1 + (L + 5) + 1) _ ((hv9.ratA hQ2).below ?_) hm4).mono ?_); (repeat (first | with_reducible exact Below.refl _ _ | with_reducible refine bl_call h6 ?_ | with_reducible refine bl_call h5 ?_ | with_reducible refine bl_call h4 ?_ | with_reducible refine bl_call h3 ?_ | with_reducible refine bl_call h2 ?_ | with_reducible refine bl_call h1 ?_ | with_reducible refine bl_drew ?_)); rintro e w5 ⟨rfl, h5⟩)))
          all_goals go_wp2_with fail
          all_goals go_meet
          all_goals go_light
          all_goals refine ⟨?_, ?_⟩
          all_goals first | rfl | (repeat (first | with_reducible exact Below.refl _ _ | with_reducible refine bl_call h6 ?_ | with_reducible refine bl_call h5 ?_ | with_reducible refine bl_call h4 ?_ | with_reducible refine bl_call h3 ?_ | with_reducible refine bl_call h2 ?_ | with_reducible refine bl_call h1 ?_ | with_reducible refine bl_drew ?_))
      case rest =>
        obtain ⟨rfl, hbc⟩ := hcut
        obtain ⟨x9, hx9⟩ : ∃ x, x = wc := ⟨_, rfl⟩
        rw [← hx9] at hbc ⊢
        clear hx9 c30 c31 c50 c51 c52 c70 c71 c72 c90 c91 c92 z3 z5 z7 z9 qa qb zq tCA tCB tCC tCD tSG
        replace hr3 := hr3.keep hbc
        replace hr5 := hr5.keep hbc
        replace hr7 := hr7.keep hbc
        replace hr9 := hr9.keep hbc
        replace hv7 := hv7.below hbc
        replace hv9 := hv9.below hbc
        replace BB : Below w.heap.size w x9 := BB.trans (hbc.mono BB.size)
        clear hbc hv7 hv9 hr7 hr9 hr3 HZV HSG ia0 iaI ibI
        go_wp2_with fail
        refine (HMO.out _ BB).mono ?_
        rintro e x31 ⟨rfl, hb⟩
        replace hr5 := hr5.keep hb
        replace BB : Below w.heap.size w x31 := BB.trans (hb.mono BB.size)
        clear hb
        have c50 : x31.cell? ⟨w.heap.size + 1, 0, none⟩ = some (.bool na) := hr5.cell 0
        have c51 : x31.cell? ⟨w.heap.size + 1, 1, none⟩ = some (.slice QA qn qc) := hr5.cell 1
        have c52 : x31.cell? ⟨w.heap.size + 1, 2, none⟩ = some (.slice QB qm qd) := hr5.cell 2
        have z5 := hr5.lt
        go_wp2_with fail
        clear c50 c51 c52 z5
        refine (HCR.out _ BB).mono ?_
        rintro e x32 ⟨rfl, hb⟩
        replace hr5 := hr5.keep hb
        replace BB : Below w.heap.size w x32 := BB.trans (hb.mono BB.size)
        clear hb
        by_cases h3 : E3 = 0
        · subst h3
          obtain ⟨f1, f2⟩ := HF2.out rfl
          have HFM := Lib.hid f2
          have HF5 := Lib.hid (HF3.out rfl)
          clear f2 HF1 HF2 HF3
          have f1I : (V3 : Int) < (n : Int) := by omega
          have f10 : decide ((V3 : Int) < 0) = false := decide_eq_false (by omega)
          have f11 : decide ((n : Int) ≤ (V3 : Int)) = false := decide_eq_false (by omega)
          have f12 : decide (n ≤ V3) = false := decide_eq_false (by omega)
          have c50 : x32.cell? ⟨w.heap.size + 1, 0, none⟩ = some (.bool na) := hr5.cell 0
          have c51 : x32.cell? ⟨w.heap.size + 1, 1, none⟩ = some (.slice QA qn qc) := hr5.cell 1
          have c52 : x32.cell? ⟨w.heap.size + 1, 2, none⟩ = some (.slice QB qm qd) := hr5.cell 2
          have z5 := hr5.lt
          go_wp2_with fail
          clear c50 c51 c52 z5
          go_loopw [128] (fun iv wr => ∃ (k : Nat), k ≤ n ∧ iv = .int .i64 (k : Int) ∧ Below x32.heap.size x32 wr) (fun iv _ => n - (intOf iv).toNat)
          case atStart => exact ⟨0, by omega, rfl, Below.refl _ _⟩
          case round =>
            obtain ⟨k, hk, rfl, BQ⟩ := hrel
            have hbw := BB.trans (BQ.mono BB.size)
            by_cases hlt : k < n
            · obtain ⟨b2, o2, u, hA, hb2, hcell, la, hla, hva, hll⟩ := lst_at (R := fun w u n => NatAny w u n L) (d := 0) (xs := ns) HWS.out HWU.out hlt
              obtain ⟨b3, o3, u3, hA3, hb3, hcell3, lb, hlb, hvb, hlb2⟩ := lst_at (R := fun w u n => NatAny w u n L) (d := 0) (xs := ns) HWS.out HWU.out f1
              subst hA
              obtain ⟨rfl, rfl⟩ : b2 = b3 ∧ o2 = o3 := by injection hA3 with h; injection h with h1 h2 h3; exact ⟨h1, h2⟩
              clear hA3
              have g1 := (hbw.cell (p := ⟨b2, o2 + k, none⟩) hb2).trans hcell
              have g2 := (hbw.cell (p := ⟨b2, o2 + V3, none⟩) hb2).trans hcell3
              have hla2 := hla.below hbw
              have hlb3 := hlb.below hbw
              have hle := HFM.out k hlt
              rw [← hva, ← hvb] at hle
              have t1 : decide (0 < cmpN (val la) (val lb)) = false := by rw [pos_gt]; exact decide_eq_false (by omega)
              clear hcell hcell3 hla hlb hva hvb hle
              obtain ⟨⟨UA, uc, rfl, _, _, _⟩, _⟩ := id hla2
              obtain ⟨⟨VA, vc2, rfl, _, _, _⟩, _⟩ := id hlb3
              have hltI : (k : Int) < (n : Int) := by omega
              go_wp2_with fail
              refine (cmp_any _ _ la lb _ hla2 hlb3).mono ?_
              rintro e w2 ⟨rfl, d, rfl⟩
              go_wp2_with fail
              go_roundw
              case rel => exact ⟨k + 1, by omega, by go_num, below_drewN BQ _⟩
              case measure => simp [intOf]; omega
            · obtain rfl : k = n := by omega
              replace hr5 := hr5.keep BQ
              replace BB : Below w.heap.size w wr := hbw
              clear hbw BQ HFM
              by_cases h4 : E4 = 0
              · subst h4
                clear HF5
                obtain ⟨c1, c2, c3, c4⟩ := HF4.out rfl
                clear HF4
                have d1 : decide ((V4 : Int) < 0) = false := decide_eq_false (by omega)
                have d2 : decide ((V5 : Int) < (V4 : Int)) = false := decide_eq_false (by omega)
                have d3 : decide ((k : Int) ≤ (V5 : Int)) = false := decide_eq_false (by omega)
                have d4 : decide (k ≤ V5) = false := decide_eq_false (by omega)
                have d5 : decide (V5 < V4) = false := decide_eq_false (by omega)
                have u1 : IntKind.i64.wrap ((k : Int) - 1) = (k : Int) - 1 := by rw [IntKind.wrap_i64]; omega
                have hK2 : 2 ≤ L + k + 2 := by omega
                have hLL := HLL.out
                have hMM := HMM.out
                have hK3 : L + k + 2 ≤ 70368744177600 := by omega
                have hN1 : M + (L + k + 2) ≤ 70368744177600 := by omega
                have hN2 : L + k + 2 + M ≤ 70368744177600 := by omega
                have hN3 : M + (L + k + 2) + 2 ≤ 70368744177600 := by omega
                have hb12 : 1 < bp 2 := by decide
                have hqm : redQ (p * (sumR ns 0 k : Int)) (q * 1) < bp M := Nat.lt_of_le_of_lt (Nat.le_trans (Nat.div_le_self _ _) (by omega)) HQL.out
                have hq1 : 0 < q * 1 := by have := HQP.out; omega
                have hHQ := HQ.out _ BB
                have V45 : V4 ≤ V5 + 1 := by omega
                have V5n : V5 + 1 ≤ k := by omega
                have HZ5 := Lib.hid (show (V5 : Int) = ((V5 + 1 : Nat) : Int) - 1 by omega)
                have c5 := c4
                simp only [Nat.mul_one, Int.cast_ofNat_Int, Int.mul_one] at c5
                have c50 : wr.cell? ⟨w.heap.size + 1, 0, none⟩ = some (.bool na) := hr5.cell 0
                have c51 : wr.cell? ⟨w.heap.size + 1, 1, none⟩ = some (.slice QA qn qc) := hr5.cell 1
                have c52 : wr.cell? ⟨w.heap.size + 1, 2, none⟩ = some (.slice QB qm qd) := hr5.cell 2
                have z5 := hr5.lt
                go_wp2_with fail
                go_region_held3 (fun w' => w'.cell? ⟨w.heap.size + 1, 0, none⟩ = some (.bool na) ∧ w'.cell? ⟨w.heap.size + 1, 1, none⟩ = some (.slice QA qn qc) ∧ w'.cell? ⟨w.heap.size + 1, 2, none⟩ = some (.slice QB qm qd))
                  ((refine keep3e z5 c50 c51 c52 ?_; (repeat (first | with_reducible exact Below.refl _ _ | with_reducible refine bl_call h7 ?_ | with_reducible refine bl_call h6 ?_ | with_reducible refine bl_call h5 ?_ | with_reducible refine bl_call h4 ?_ | with_reducible refine bl_call h3 ?_ | with_reducible refine bl_call h2 ?_ | with_reducible refine bl_call h1 ?_ | with_reducible refine bl_drew ?_)); done))
                  (first
                    | (go_at_call 24; ((with_reducible refine (HT1.out _ (BB.trans (Below.mono ?_ BB.size)) V4 (V5 + 1) _ c3 V45 V5n HZ5.out).mono ?_); (repeat (first | with_reducible exact Below.refl _ _ | with_reducible refine bl_call h7 ?_ | with_reducible refine bl_call h6 ?_ | with_reducible refine bl_call h5 ?_ | with_reducible refine bl_call h4 ?_ | with_reducible refine bl_call h3 ?_ | with_reducible refine bl_call h2 ?_ | with_reducible refine bl_call h1 ?_ | with_reducible refine bl_drew ?_)); rintro e w1 ⟨v1, rfl, hv1, h1⟩; obtain ⟨A1, n1, e1, rfl⟩ := hv1.lim1.choose_spec.1.show_))
                    | (go_at_call 24; ((with_reducible refine (HT0.out _ (BB.trans (Below.mono ?_ BB.size)) c3).mono ?_); (repeat (first | with_reducible exact Below.refl _ _ | with_reducible refine bl_call h7 ?_ | with_reducible refine bl_call h6 ?_ | with_reducible refine bl_call h5 ?_ | with_reducible refine bl_call h4 ?_ | with_reducible refine bl_call h3 ?_ | with_reducible refine bl_call h2 ?_ | with_reducible refine bl_call h1 ?_ | with_reducible refine bl_drew ?_)); rintro e w2 ⟨v2, rfl, hv2, h2⟩; obtain ⟨A2, n2, e2, rfl⟩ := hv2.lim1.choose_spec.1.show_))
                    | (go_at_call 23; ((with_reducible refine (lwhole_any (.slice A1 n1 e1) _ _ _ (hv1.below ?_) hK2 hK3).mono ?_); (repeat (first | with_reducible exact Below.refl _ _ | with_reducible refine bl_call h7 ?_ | with_reducible refine bl_call h6 ?_ | with_reducible refine bl_call h5 ?_ | with_reducible refine bl_call h4 ?_ | with_reducible refine bl_call h3 ?_ | with_reducible refine bl_call h2 ?_ | with_reducible refine bl_call h1 ?_ | with_reducible refine bl_drew ?_)); rintro e w3 ⟨v3, rfl, hv3, h3⟩))
                    | (go_at_call 23; ((with_reducible refine (lwhole_any (.slice A2 n2 e2) _ _ _ (hv2.below ?_) hK2 hK3).mono ?_); (repeat (first | with_reducible exact Below.refl _ _ | with_reducible refine bl_call h7 ?_ | with_reducible refine bl_call h6 ?_ | with_reducible refine bl_call h5 ?_ | with_reducible refine bl_call h4 ?_ | with_reducible refine bl_call h3 ?_ | with_reducible refine bl_call h2 ?_ | with_reducible refine bl_call h1 ?_ | with_reducible refine bl_drew ?_)); rintro e w4 ⟨v4, rfl, hv4, h4⟩))
                    | (go_at_call 25; ((with_reducible refine (qmul_wide _ _ p _ q 1 M M (L + k + 2) (L + k + 2) (M + (L + k + 2)) _ ((hHQ.below ?_).wide) (((hv4.ratA (by decide)).below ?_).wide) HM2.out hK2 (Nat.le_refl _) (Nat.le_refl _) hN1).mono ?_); (repeat (first | with_reducible exact Below.refl _ _ | with_reducible refine bl_call h7 ?_ | with_reducible refine bl_call h6 ?_ | with_reducible refine bl_call h5 ?_ | with_reducible refine bl_call h4 ?_ | with_reducible refine bl_call h3 ?_ | with_reducible refine bl_call h2 ?_ | with_reducible refine bl_call h1 ?_ | with_reducible refine bl_drew ?_)); (repeat (first | with_reducible exact Below.refl _ _ | with_reducible refine bl_call h7 ?_ | with_reducible refine bl_call h6 ?_ | with_reducible refine bl_call h5 ?_ | with_reducible refine bl_call h4 ?_ | with_reducible refine bl_call h3 ?_ | with_reducible refine bl_call h2 ?_ | with_reducible refine bl_call h1 ?_ | with_reducible refine bl_drew ?_)); rintro e w5 ⟨v5, rfl, hv5, h5⟩))
                    | (go_at_call 9; ((with_reducible refine (qcmp_wide _ _ _ _ 1 _ (L + k + 2) 2 (M + (L + k + 2)) M _ (((hv3.wide (by decide) hb12)).below ?_) ((hv5.wide (redQ_pos hq1) hqm).below ?_) (by decide) HM2.out hN2 hN3).mono ?_); (repeat (first | with_reducible exact Below.refl _ _ | with_reducible refine bl_call h7 ?_ | with_reducible refine bl_call h6 ?_ | with_reducible refine bl_call h5 ?_ | with_reducible refine bl_call h4 ?_ | with_reducible refine bl_call h3 ?_ | with_reducible refine bl_call h2 ?_ | with_reducible refine bl_call h1 ?_ | with_reducible refine bl_drew ?_)); (repeat (first | with_reducible exact Below.refl _ _ | with_reducible refine bl_call h7 ?_ | with_reducible refine bl_call h6 ?_ | with_reducible refine bl_call h5 ?_ | with_reducible refine bl_call h4 ?_ | with_reducible refine bl_call h3 ?_ | with_reducible refine bl_call h2 ?_ | with_reducible refine bl_call h1 ?_ | with_reducible refine bl_drew ?_)); rintro e w6 ⟨rfl, h6⟩))
                    | (go_at_call 11; ((refine (HAW.out _ (BB.trans (Below.mono ?_ BB.size))).mono ?_); (repeat (first | with_reducible exact Below.refl _ _ | with_reducible refine bl_call h7 ?_ | with_reducible refine bl_call h6 ?_ | with_reducible refine bl_call h5 ?_ | with_reducible refine bl_call h4 ?_ | with_reducible refine bl_call h3 ?_ | with_reducible refine bl_call h2 ?_ | with_reducible refine bl_call h1 ?_ | with_reducible refine bl_drew ?_)); rintro e w7 ⟨rfl, h7⟩)))
                all_goals go_wp2_with fail
                all_goals go_ret
                all_goals exact ⟨rfl, BB.trans (Below.mono (by (repeat (first | with_reducible exact Below.refl _ _ | with_reducible refine bl_call h7 ?_ | with_reducible refine bl_call h6 ?_ | with_reducible refine bl_call h5 ?_ | with_reducible refine bl_call h4 ?_ | with_reducible refine bl_call h3 ?_ | with_reducible refine bl_call h2 ?_ | with_reducible refine bl_call h1 ?_ | with_reducible refine bl_drew ?_))) BB.size)⟩
              · obtain ⟨rfl, hbad⟩ := HF5.out h4
                clear HF5 HF4 h4
                by_cases hpn : p < 0
                · have hsg : sgnZ p = -1 := if_pos hpn
                  have hHQ := HQ.out _ BB
                  have hMM := HMM.out
                  have hM3 : M ≤ 35184372088800 := by omega
                  have c50 : wr.cell? ⟨w.heap.size + 1, 0, none⟩ = some (.bool na) := hr5.cell 0
                  have c51 : wr.cell? ⟨w.heap.size + 1, 1, none⟩ = some (.slice QA qn qc) := hr5.cell 1
                  have c52 : wr.cell? ⟨w.heap.size + 1, 2, none⟩ = some (.slice QB qm qd) := hr5.cell 2
                  have z5 := hr5.lt
                  go_wp2_with fail
                  go_region_law (first | (go_simp; (go_at_call 21; ((with_reducible refine (qsign_any _ p q M _ (hHQ.below ?_) HM2.out).mono ?_); (repeat (first | with_reducible exact Below.refl _ _ | with_reducible refine bl_call h7 ?_ | with_reducible refine bl_call h3 ?_ | with_reducible refine bl_call h2 ?_ | with_reducible refine bl_call h1 ?_ | with_reducible refine bl_drew ?_)); rintro e w1 ⟨rfl, h1⟩; (try rw [hsg])))) | (go_simp; (go_at_call 11; ((refine (HAW.out _ (BB.trans (Below.mono ?_ BB.size))).mono ?_); (repeat (first | with_reducible exact Below.refl _ _ | with_reducible refine bl_call h7 ?_ | with_reducible refine bl_call h3 ?_ | with_reducible refine bl_call h2 ?_ | with_reducible refine bl_call h1 ?_ | with_reducible refine bl_drew ?_)); rintro e w7 ⟨rfl, h7⟩))))
                  all_goals go_wp2_with fail
                  all_goals go_ret
                  all_goals exact ⟨rfl, BB.trans (Below.mono (by (repeat (first | with_reducible exact Below.refl _ _ | with_reducible refine bl_call h7 ?_ | with_reducible refine bl_call h3 ?_ | with_reducible refine bl_call h2 ?_ | with_reducible refine bl_call h1 ?_ | with_reducible refine bl_drew ?_))) BB.size)⟩
                · have t1 : decide (sgnZ p < 0) = false := decide_eq_false (by unfold sgnZ; rw [if_neg hpn]; split <;> omega)
                  have t2 : decide (0 < cmpZ (p * ((1 : Nat) : Int)) (1 * (q : Int))) = true := by rw [cmpZ_pos]; exact decide_eq_true (by omega)
                  have t3 : decide (0 < cmpZ p (q : Int)) = true := by rw [cmpZ_pos]; exact decide_eq_true (by omega)
                  have hHQ := HQ.out _ BB
                  have hMM := HMM.out
                  have hM3 : M ≤ 35184372088800 := by omega
                  have c50 : wr.cell? ⟨w.heap.size + 1, 0, none⟩ = some (.bool na) := hr5.cell 0
                  have c51 : wr.cell? ⟨w.heap.size + 1, 1, none⟩ = some (.slice QA qn qc) := hr5.cell 1
                  have c52 : wr.cell? ⟨w.heap.size + 1, 2, none⟩ = some (.slice QB qm qd) := hr5.cell 2
                  have z5 := hr5.lt
                  go_wp2_with fail
                  go_region_held3 (fun w' => w'.cell? ⟨w.heap.size + 1, 0, none⟩ = some (.bool na) ∧ w'.cell? ⟨w.heap.size + 1, 1, none⟩ = some (.slice QA qn qc) ∧ w'.cell? ⟨w.heap.size + 1, 2, none⟩ = some (.slice QB qm qd))
                    ((refine keep3e z5 c50 c51 c52 ?_; (repeat (first | with_reducible exact Below.refl _ _ | with_reducible refine bl_call h7 ?_ | with_reducible refine bl_call h3 ?_ | with_reducible refine bl_call h2 ?_ | with_reducible refine bl_call h1 ?_ | with_reducible refine bl_drew ?_)); done))
                    (first
                      | (go_at_call 21; ((with_reducible refine (qsign_any _ p q M _ (hHQ.below ?_) HM2.out).mono ?_); (repeat (first | with_reducible exact Below.refl _ _ | with_reducible refine bl_call h7 ?_ | with_reducible refine bl_call h3 ?_ | with_reducible refine bl_call h2 ?_ | with_reducible refine bl_call h1 ?_ | with_reducible refine bl_drew ?_)); rintro e w1 ⟨rfl, h1⟩; (try rw [hsg])))
                      | (go_at_call 20; ((with_reducible refine (part_any 1 1 _ (by decide) (by decide) (by decide) (by decide)).mono ?_); rintro e w2 ⟨v2, rfl, hv2, h2⟩; rw [show redP 1 (1 : Int).toNat = 1 by decide +kernel, show redQ 1 (1 : Int).toNat = 1 by decide +kernel] at hv2))
                      | (go_at_call 9; ((with_reducible refine (qcmp_any _ _ p 1 q 1 M _ (hHQ.below ?_) (((hv2.ratA (by decide)).mono HM2.out).below ?_) HM2.out hM3).mono ?_); (repeat (first | with_reducible exact Below.refl _ _ | with_reducible refine bl_call h7 ?_ | with_reducible refine bl_call h3 ?_ | with_reducible refine bl_call h2 ?_ | with_reducible refine bl_call h1 ?_ | with_reducible refine bl_drew ?_)); (repeat (first | with_reducible exact Below.refl _ _ | with_reducible refine bl_call h7 ?_ | with_reducible refine bl_call h3 ?_ | with_reducible refine bl_call h2 ?_ | with_reducible refine bl_call h1 ?_ | with_reducible refine bl_drew ?_)); rintro e w3 ⟨rfl, h3⟩))
                      | (go_at_call 11; ((refine (HAW.out _ (BB.trans (Below.mono ?_ BB.size))).mono ?_); (repeat (first | with_reducible exact Below.refl _ _ | with_reducible refine bl_call h7 ?_ | with_reducible refine bl_call h3 ?_ | with_reducible refine bl_call h2 ?_ | with_reducible refine bl_call h1 ?_ | with_reducible refine bl_drew ?_)); rintro e w7 ⟨rfl, h7⟩)))
                  all_goals go_wp2_with fail
                  all_goals go_ret
                  all_goals exact ⟨rfl, BB.trans (Below.mono (by (repeat (first | with_reducible exact Below.refl _ _ | with_reducible refine bl_call h7 ?_ | with_reducible refine bl_call h3 ?_ | with_reducible refine bl_call h2 ?_ | with_reducible refine bl_call h1 ?_ | with_reducible refine bl_drew ?_))) BB.size)⟩
        · have f1 := HF1.out h3
          subst f1
          have t1 : (E4 != 0) = true := by rw [bne_iff_ne]; exact h3
          have t2 : (E4 == E4) = true := by simp
          clear HF1 HF2 HF3 HF4
          go_wp2_with fail
          refine (HAW.out _ BB).mono ?_
          rintro e x201 ⟨rfl, hb⟩
          replace BB : Below w.heap.size w x201 := BB.trans (hb.mono BB.size)
          clear hb
          go_wp2_with fail
          go_ret
          exact ⟨rfl, BB⟩

theorem lwithin_any (pv rv wv lv : Value) (ps rs : List Int) (ns : List Nat) (L M : Nat) (p : Int) (q : Nat) (w : World) (hp : Nums .i64 w pv ps) (hr : Nums .i64 w rv rs) (hw : Wts w wv ns L) (hq : RatA w lv p q M) (hL : L ≤ 35184372087900) (hM2 : 2 ≤ M) (hM : M ≤ 35184372087900) (htab : Pow10 w) :
    Calls Tryd.prog 6 #[.agg #[pv, rv], wv, lv] w fun e w' => e = .returned (.bool true) ∧ Below w.heap.size w w' := by
  by_cases hE : sumE ps rs ns = 0
  · exact within_ok pv rv wv lv ps rs ns L M p q w hp hr hw hq hL hM2 hM htab hE
  · exact within_no pv rv wv lv ps rs ns L M p q w hp hr hw hq hL hM2 hM htab hE
end Go.Proofs.YtfoleamcaflfeaaDoor
