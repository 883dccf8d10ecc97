/- The walk of calibrate.Run. -/
import Derived.Test.YtneoglmfabilnaaSwB
namespace Go.Proofs.Ytneoglmfabilnaa
open Go.RowKit
set_option linter.unusedVariables false

/-- The choice after k sweeps. -/
def itS (rs : List Int) (cs : List (List Int)) (fs : List (List Mod)) (ch : List Int) : Nat → List Int
  | 0 => ch
  | k + 1 => swp rs cs fs (itS rs cs fs ch k)
/-- The number of sweeps. -/
def RunIs (rs : List Int) (cs : List (List Int)) (fs : List (List Mod)) (ch : List Int) (n : Nat) : Prop :=
  1 ≤ n ∧ n ≤ 20 ∧ (∀ j, 1 ≤ j → j < n → itS rs cs fs ch j ≠ itS rs cs fs ch (j - 1)) ∧ (n = 20 ∨ itS rs cs fs ch n = itS rs cs fs ch (n - 1))
theorem RunIs.same {rs : List Int} {cs : List (List Int)} {fs : List (List Mod)} {ch : List Int} {n m : Nat} (h : RunIs rs cs fs ch n) (h' : RunIs rs cs fs ch m) : n = m := by
  obtain ⟨a1, a2, a3, a4⟩ := h
  obtain ⟨b1, b2, b3, b4⟩ := h'
  rcases Nat.lt_trichotomy n m with h | h | h
  · rcases a4 with a4 | a4
    · omega
    · exact absurd a4 (b3 n a1 h)
  · exact h
  · rcases b4 with b4 | b4
    · omega
    · exact absurd b4 (a3 m b1 h)
/-- What Run returns. -/
def RunV (E : Int) (rs : List Int) (cs : List (List Int)) (fs : List (List Mod)) (ch : List Int) (n : Nat) (l : List Int) : Prop :=
  (E = 0 → RunIs rs cs fs ch n ∧ l = itS rs cs fs ch n) ∧ (E ≠ 0 → n = 0 ∧ l = [])
theorem RunV.bad {E : Int} {rs : List Int} {cs : List (List Int)} {fs : List (List Mod)} {ch : List Int} (h : E ≠ 0) : RunV E rs cs fs ch 0 [] := ⟨fun h' => absurd h' h, fun _ => ⟨rfl, rfl⟩⟩
theorem RunV.good {E : Int} {rs : List Int} {cs : List (List Int)} {fs : List (List Mod)} {ch : List Int} {n : Nat} (h : E = 0) (h2 : RunIs rs cs fs ch n) : RunV E rs cs fs ch n (itS rs cs fs ch n) := ⟨fun _ => ⟨h2, rfl⟩, fun h' => absurd h h'⟩
theorem RunV.same {E : Int} {rs : List Int} {cs : List (List Int)} {fs : List (List Mod)} {ch : List Int} {n m : Nat} {l k : List Int} (h : RunV E rs cs fs ch n l) (h' : RunV E rs cs fs ch m k) : n = m ∧ l = k := by
  by_cases he : E = 0
  · obtain ⟨a, b⟩ := h.1 he
    obtain ⟨c, d⟩ := h'.1 he
    obtain rfl := a.same c
    exact ⟨rfl, b.trans d.symm⟩
  · obtain ⟨a, b⟩ := h.2 he
    obtain ⟨c, d⟩ := h'.2 he
    exact ⟨a.trans c.symm, b.trans d.symm⟩
theorem itS_E {ps rs qs is : List Int} {cs : List (List Int)} {fs : List (List Mod)} {ch : List Int} (h : swE ps rs qs is cs fs ch = 0) : ∀ k, swE ps rs qs is cs fs (itS rs cs fs ch k) = 0
  | 0 => h
  | k + 1 => swp_E (itS_E h k)

theorem ret3 {v : Value} {a b E : Int} (h : a = b) : Ending.returned (.tuple #[v, .int .i64 a, .int .i64 E]) = .returned (.tuple #[v, .int .i64 b, .int .i64 E]) := by rw [h]
theorem equal_any (v u : Value) (xs ys : List Int) (w : World) (h : Nums .i64 w v xs) (h' : Nums .i64 w u ys) :
    Calls Try.prog 53 #[v, u] w fun e w' => e = .returned (.bool (decide (xs = ys))) ∧ ∃ q, w' = w.drewN q := by
  obtain ⟨A, c, rfl, hc, hm, hs⟩ := h
  obtain ⟨B, d, rfl, hd, hm', hs'⟩ := h'
  unfold maxLen at hm hm'
  by_cases hl : xs.length = ys.length
  · rcases Nat.eq_zero_or_pos xs.length with h0 | h0
    · have hx : xs = [] := List.eq_nil_of_length_eq_zero h0
      have hy : ys = [] := List.eq_nil_of_length_eq_zero (by omega)
      subst hx hy
      exact (Try.slices_Equal_int_empty _ _ _ _ _ _ (by simp)).mono fun e w' ⟨he, hw⟩ => ⟨by rw [he]; simp, 0, hw⟩
    · obtain ⟨b, o, rfl, _, hcell⟩ := hs.num h0
      obtain ⟨b', o', rfl, _, hcell'⟩ := hs'.num (show 0 < ys.length by omega)
      refine (Try.slices_Equal_int b o xs.length c b' o' ys.length d xs ys w (Nat.le_refl _) (Nat.le_refl _) (by omega) (by omega) hcell hcell').mono fun e w' ⟨he, hq⟩ => ⟨?_, hq⟩
      rw [he, List.take_length, List.take_length]
      congr 2
      rw [Bool.eq_iff_iff]
      simp
  · refine (Try.slices_Equal_int_lens _ _ _ _ _ _ _ hl).mono fun e w' ⟨he, hw⟩ => ⟨?_, 0, hw⟩
    rw [he, decide_eq_false (fun h => hl (by rw [h]))]

set_option maxHeartbeats 2000000 in
theorem run_any (pv rv qv iv cv fv xv : Value) (ps rs qs is : List Int) (cs : List (List Int)) (fs : List (List Mod)) (ch : List Int) (w : World) (hp : Nums .i64 w pv ps) (hr : Nums .i64 w rv rs) (hq : Nums .i64 w qv qs) (hi : Nums .i64 w iv is) (hc : IntsL w cv cs) (hf : FamL w fv fs) (hx : Nums .i64 w xv ch) :
    Calls Try.prog 25 #[.agg #[pv, rv], .agg #[qv, iv, cv], fv, xv] w fun e w' => ∃ v n l, e = .returned (.tuple #[v, .int .i64 ((n : Nat) : Int), .int .i64 (swE ps rs qs is cs fs ch)]) ∧ Nums .i64 w' v l ∧ RunV (swE ps rs qs is cs fs ch) rs cs fs ch n l ∧ Below w.heap.size w w' := by
  have hp0 := hp
  have hr0 := hr
  have hq0 := hq
  have hi0 := hi
  have hc0 := hc
  have hf0 := hf
  have hx0 := hx
  obtain ⟨A, c, rfl, hc1, hm1, hsp⟩ := hp
  obtain ⟨B, c', rfl, hc', hm2, hsr⟩ := hr
  obtain ⟨X, cX, rfl, x1, x2, x3⟩ := hq
  obtain ⟨Y, cY, rfl, y1, y2, y3⟩ := hi
  obtain ⟨Z, cZ, vs, rfl, z1, z2, hsc, hcu⟩ := hc
  obtain ⟨Q, cQ, us, rfl, fq1, fq2, hsf, hfu⟩ := hf
  obtain ⟨D, cD, rfl, d1, d2, hsd⟩ := hx
  have HF := Lib.hid hfu
  unfold maxLen at x2 y2 z2 hm1 hm2 fq2 d2
  clear hsp hsr x3 y3 hcu hsc hfu
  have hgb := (Row.new w 24 [.slice A ps.length c, .slice B rs.length c']).alloc (.cells #[.slice X qs.length cX, .slice Y is.length cY, .slice Z cs.length cZ] 36)
  have hmb := Row.new (w.alloc (.cells #[.slice A ps.length c, .slice B rs.length c'] 24)) 36 [.slice X qs.length cX, .slice Y is.length cY, .slice Z cs.length cZ]
  have B0 : Below w.heap.size w ((w.alloc (.cells #[.slice A ps.length c, .slice B rs.length c'] 24)).alloc (.cells #[.slice X qs.length cX, .slice Y is.length cY, .slice Z cs.length cZ] 36)) := ((Below.refl _ _).alloc (Nat.le_refl _) _).alloc (by simp) _
  rw [show (w.alloc (.cells #[.slice A ps.length c, .slice B rs.length c'] 24)).heap.size = w.heap.size + 1 by simp] at hmb
  have qg0 : ((w.alloc (.cells #[.slice A ps.length c, .slice B rs.length c'] 24)).alloc (.cells #[.slice X qs.length cX, .slice Y is.length cY, .slice Z cs.length cZ] 36)).cell? ⟨w.heap.size, 0, none⟩ = some (.slice A ps.length c) := hgb.cell 0
  have qg1 : ((w.alloc (.cells #[.slice A ps.length c, .slice B rs.length c'] 24)).alloc (.cells #[.slice X qs.length cX, .slice Y is.length cY, .slice Z cs.length cZ] 36)).cell? ⟨w.heap.size, 1, none⟩ = some (.slice B rs.length c') := hgb.cell 1
  have q0 : ((w.alloc (.cells #[.slice A ps.length c, .slice B rs.length c'] 24)).alloc (.cells #[.slice X qs.length cX, .slice Y is.length cY, .slice Z cs.length cZ] 36)).cell? ⟨w.heap.size + 1, 0, none⟩ = some (.slice X qs.length cX) := hmb.cell 0
  have q1 : ((w.alloc (.cells #[.slice A ps.length c, .slice B rs.length c'] 24)).alloc (.cells #[.slice X qs.length cX, .slice Y is.length cY, .slice Z cs.length cZ] 36)).cell? ⟨w.heap.size + 1, 1, none⟩ = some (.slice Y is.length cY) := hmb.cell 1
  have q2 : ((w.alloc (.cells #[.slice A ps.length c, .slice B rs.length c'] 24)).alloc (.cells #[.slice X qs.length cX, .slice Y is.length cY, .slice Z cs.length cZ] 36)).cell? ⟨w.heap.size + 1, 2, none⟩ = some (.slice Z cs.length cZ) := hmb.cell 2
  clear qg0 qg1 q0 q1 q2
  go_enter Try.func25, Try.ntmps25
  go_wp2_with fail
  go_loopw [11, 12] (fun p i wr => ∃ (k : Nat) (v : Value), k ≤ 19 ∧ i = .int .i64 ((k : Int) + 1) ∧ p = v ∧ Nums .i64 wr v (itS rs cs fs ch k) ∧ Hid (swE ps rs qs is cs fs ch = 0 ∨ k = 0) ∧ Hid (∀ j, 1 ≤ j → j ≤ k → itS rs cs fs ch j ≠ itS rs cs fs ch (j - 1)) ∧ Row wr w.heap.size 24 [.slice A ps.length c, .slice B rs.length c'] ∧ Row wr (w.heap.size + 1) 36 [.slice X qs.length cX, .slice Y is.length cY, .slice Z cs.length cZ] ∧ Below w.heap.size w wr) (fun _ i _ => 20 - (intOf i).toNat)
  case atStart => exact ⟨0, _, by omega, rfl, rfl, hx0.below B0, .inr rfl, fun j h1 h2 => by omega, hgb, hmb, B0⟩
  case round =>
    clear hgb hmb B0
    obtain ⟨k, v, hk, rfl, rfl, hnp, hE, hne, hgw, hmw, hb⟩ := hrel
    have hnp' := hnp
    obtain ⟨P, cP, rfl, _, _, _⟩ := hnp'
    have qg0 : wr.cell? ⟨w.heap.size, 0, none⟩ = some (.slice A ps.length c) := hgw.cell 0
    have qg1 : wr.cell? ⟨w.heap.size, 1, none⟩ = some (.slice B rs.length c') := hgw.cell 1
    have q0 : wr.cell? ⟨w.heap.size + 1, 0, none⟩ = some (.slice X qs.length cX) := hmw.cell 0
    have q1 : wr.cell? ⟨w.heap.size + 1, 1, none⟩ = some (.slice Y is.length cY) := hmw.cell 1
    have q2 : wr.cell? ⟨w.heap.size + 1, 2, none⟩ = some (.slice Z cs.length cZ) := hmw.cell 2
    have HSV : Hid (swE ps rs qs is cs fs ch = 0 → swV ps rs qs is cs fs (itS rs cs fs ch k) = itS rs cs fs ch (k + 1)) := fun h => if_pos (itS_E h k)
    have HSE : Hid (swE ps rs qs is cs fs (itS rs cs fs ch k) = swE ps rs qs is cs fs ch) := by
      rcases hE.out with h | h
      · exact (itS_E h k).trans h.symm
      · subst h; rfl
    have HN1 : Hid (itS rs cs fs ch (k + 1) ≠ itS rs cs fs ch k → ∀ j, 1 ≤ j → j ≤ k + 1 → itS rs cs fs ch j ≠ itS rs cs fs ch (j - 1)) := by
      intro h j h1 h2
      rcases Nat.lt_or_ge k j with h3 | h3
      · obtain rfl : j = k + 1 := by omega
        exact h
      · exact hne.out j h1 h3
    have HSB : Hid (swE ps rs qs is cs fs ch ≠ 0 → swV ps rs qs is cs fs (itS rs cs fs ch k) = []) := fun h => if_neg (by rw [HSE.out]; exact h)
    obtain ⟨now, hnow⟩ : ∃ now, itS rs cs fs ch k = now := ⟨_, rfl⟩
    obtain ⟨nxt, hnxt⟩ : ∃ nxt, itS rs cs fs ch (k + 1) = nxt := ⟨_, rfl⟩
    have HNW := Lib.hid hnow
    have HNX := Lib.hid hnxt
    rw [hnow] at hnp HSV HSE HN1 HSB ⊢
    rw [hnxt] at HSV HN1
    clear hnow hnxt
    go_wp2_with fail
    clear qg0 qg1 q0 q1 q2
    refine (sweep_any _ _ _ _ _ _ _ ps rs qs is cs fs now _ (hp0.below hb) (hr0.below hb) (hq0.below hb) (hi0.below hb) (hc0.below hb) (hf0.below hb) hnp).mono ?_
    rintro e w1 ⟨v1, rfl, hv1, hb1⟩
    have B1 : Below w.heap.size w w1 := hb.trans (hb1.mono hb.size)
    have hgb := hgw.keep hb1
    have hmb := hmw.keep hb1
    have hnp1 := hnp.below hb1
    clear hb1 hgw hmw
    rw [HSE.out]
    by_cases he : swE ps rs qs is cs fs ch = 0
    case neg =>
      have HV := Lib.hid (RunV.bad (rs := rs) (cs := cs) (fs := fs) (ch := ch) he)
      have f1 : (swE ps rs qs is cs fs ch != 0) = true := by rw [bne_iff_ne]; exact he
      clear he
      obtain ⟨E, hEE⟩ : ∃ E, swE ps rs qs is cs fs ch = E := ⟨_, rfl⟩
      have HEE := Lib.hid hEE
      rw [hEE] at f1 HV ⊢
      clear hEE
      go_wp2_with fail
      go_ret3
      exact ⟨_, 0, [], by rw [HEE.out]; rfl, Nums.nil _ _, by rw [HEE.out]; exact HV.out, B1⟩
    rw [HSV.out he] at hv1
    have HE := Lib.hid he
    rw [he]
    have hv1' := hv1
    obtain ⟨V, cV, rfl, _, _, _⟩ := hv1'
    clear he
    by_cases h19 : k = 19
    · have f2 : (((k : Int) + 1) == 20) = true := by rw [beq_iff_eq]; omega
      have HR : Hid (RunV 0 rs cs fs ch (k + 1) nxt) := by
        rw [← HNX.out]
        exact RunV.good rfl ⟨by omega, by omega, fun j h1 h2 => hne.out j h1 (by omega), .inl (by omega)⟩
      clear h19
      go_wp2_with fail
      go_ret3
      exact ⟨_, k + 1, nxt, by rw [HE.out]; exact ret3 (by omega), hv1, by rw [HE.out]; exact HR.out, B1⟩
    · have f2 : (((k : Int) + 1) == 20) = false := by rw [beq_eq_false_iff_ne]; omega
      have hk19 : k ≤ 18 := by omega
      clear h19
      by_cases hq : nxt = now
      · have HQ := Lib.hid (decide_eq_true hq)
        have HR : Hid (RunV 0 rs cs fs ch (k + 1) nxt) := by
          rw [← HNX.out]
          exact RunV.good rfl ⟨by omega, by omega, fun j h1 h2 => hne.out j h1 (by omega), .inr (by rw [HNX.out, hq, ← HNW.out]; rfl)⟩
        clear hq
        go_wp2_with fail
        refine (equal_any _ _ nxt now _ hv1 hnp1).mono ?_
        rintro e w2 ⟨rfl, d, rfl⟩
        rw [HQ.out]
        go_wp2_with fail
        go_ret3
        exact ⟨_, k + 1, nxt, by rw [HE.out]; exact ret3 (by omega), hv1, by rw [HE.out]; exact HR.out, below_drewN B1 _⟩
      · have HQ := Lib.hid (decide_eq_false hq)
        have HR := Lib.hid (HN1.out hq)
        clear hq
        go_wp2_with fail
        refine (equal_any _ _ nxt now _ hv1 hnp1).mono ?_
        rintro e w2 ⟨rfl, d, rfl⟩
        rw [HQ.out]
        go_wp2_with fail
        go_roundw
        case rel => exact ⟨k + 1, _, by omega, by go_num, rfl, by rw [HNX.out]; exact hv1, .inl HE.out, HR.out, hgb, hmb, below_drewN B1 _⟩
        case measure => simp [intOf]; omega
end Go.Proofs.Ytneoglmfabilnaa
