/- The walks of sample, same, rising, fits of the law. -/
import Derived.Test.YtgdngopemlajjaaMtH
namespace Go.Proofs.Ytgdngopemlajjaa
open Go.RowKit
set_option linter.unusedVariables false

theorem lit_nums (w : World) (t : Nat) (zs : List Int) (n : Nat) (hn : zs.length = n) (hm : n ≤ 1000) : Nums .i64 (w.alloc (.cells (zs.map (Value.int .i64)).toArray t)) (.slice (some ⟨w.heap.size, 0, none⟩) n n) zs := by
  subst hn
  exact Nums.of_row (Row.new w t (zs.map (Value.int .i64))) (by unfold maxLen; omega)
theorem lit_below (w : World) (o : Obj) : Below w.heap.size w (w.alloc o) := (Below.refl _ _).alloc (Nat.le_refl _) _
theorem nums_alloc {k : IntKind} {w : World} {v : Value} {zs : List Int} (h : Nums k w v zs) (o : Obj) : Nums k (w.alloc o) v zs := h.below (lit_below w o)

theorem row_at {w : World} {t : Nat} {xs : List Value} {g : Nat} (h : w.heap.size = g) : Row (w.alloc (.cells xs.toArray t)) g t xs := by
  subst h; exact Row.new w t xs
set_option maxHeartbeats 1000000 in
theorem sample_any (w : World) : Calls Try.prog 29 #[] w fun e w' => ∃ pv iv cv, e = .returned (.agg #[pv, iv, cv]) ∧ Mat w' pv iv cv [1, 2] [7, 9] [[1, 0], [-1, 2]] ∧ Below w.heap.size w w' := by
  go_enter Try.func29, Try.ntmps29
  go_wp2
  refine bodyPost_ret (v := .agg #[.slice (some ⟨w.heap.size + 1, 0, none⟩) 2 2, .slice (some ⟨w.heap.size + 1 + 1, 0, none⟩) 2 2, .slice (some ⟨w.heap.size + 1 + 1 + 1 + 1 + 1, 0, none⟩) 2 2]) (by simp [results, Try.results29, go_sem]) rfl ⟨_, _, _, rfl, ⟨?_, ?_, ?_⟩, ?_⟩
  · exact Nums.of_row (zs := [1, 2]) (((((row_at (xs := [.int .i64 1, .int .i64 2]) (by simp)).alloc _).alloc _).alloc _).alloc _) (by simp [maxLen])
  · exact Nums.of_row (zs := [7, 9]) ((((row_at (xs := [.int .i64 7, .int .i64 9]) (by simp)).alloc _).alloc _).alloc _) (by simp [maxLen])
  · have r := row_at (w := ((((w.alloc (.cells #[.slice (some ⟨w.heap.size + 1, 0, none⟩) 2 2, .slice (some ⟨w.heap.size + 1 + 1, 0, none⟩) 2 2, .slice (some ⟨w.heap.size + 1 + 1 + 1 + 1 + 1, 0, none⟩) 2 2] 25)).alloc (.cells #[.int .i64 1, .int .i64 2] 3)).alloc (.cells #[.int .i64 7, .int .i64 9] 3)).alloc (.cells #[.int .i64 1, .int .i64 0] 3)).alloc (.cells #[.int .i64 (-1), .int .i64 2] 3)) (t := 22) (xs := [.slice (some ⟨w.heap.size + 1 + 1 + 1, 0, none⟩) 2 2, .slice (some ⟨w.heap.size + 1 + 1 + 1 + 1, 0, none⟩) 2 2]) (g := w.heap.size + 1 + 1 + 1 + 1 + 1) (by simp)
    refine ⟨_, 2, _, rfl, by simp, by simp [maxLen], r.sl, fun i u hu => ?_⟩
    match i with
    | 0 =>
      simp only [List.getElem?_cons_zero, Option.some.injEq] at hu
      subst hu
      exact Nums.of_row (zs := [1, 0]) (((row_at (xs := [.int .i64 1, .int .i64 0]) (by simp)).alloc _).alloc _) (by simp [maxLen])
    | 1 =>
      simp only [List.getElem?_cons_succ, List.getElem?_cons_zero, Option.some.injEq] at hu
      subst hu
      exact Nums.of_row (zs := [-1, 2]) ((row_at (xs := [.int .i64 (-1), .int .i64 2]) (by simp)).alloc _) (by simp [maxLen])
    | i + 2 => simp at hu
  · exact (((((lit_below w _).alloc (by simp) _).alloc (by simp; omega) _).alloc (by simp; omega) _).alloc (by simp; omega) _).alloc (by simp; omega) _

set_option maxHeartbeats 1000000 in
theorem lris_any (v : Value) (l : List Int) (w : World) (h : Nums .i64 w v l) :
    Calls Try.prog 40 #[v] w fun e w' => e = .returned (.bool (ris l)) ∧ w = w' := by
  obtain ⟨X, cX, rfl, x1, x2, x3⟩ := h
  unfold maxLen at x2
  obtain ⟨n, hn⟩ : ∃ n, l.length = n := ⟨_, rfl⟩
  have HN := Lib.hid hn
  rw [hn] at x1 x3 ⊢
  clear hn
  go_enter Try.func40, Try.ntmps40
  go_wp2
  go_loop [7] (fun i => ∃ k : Nat, k ≤ n ∧ i = .int .i64 (k : Int) ∧ Hid (∀ i, i < k → 1 ≤ l.getD i 0 ∧ (0 < i → l.getD (i - 1) 0 < l.getD i 0))) (fun i => n - (intOf i).toNat)
  case atStart => exact ⟨0, by omega, rfl, fun i hi => by omega⟩
  case round =>
    obtain ⟨k, hk, rfl, hinv⟩ := hrel
    by_cases hlt : k < n
    · obtain ⟨b3, o3, rfl, hb3, hcell⟩ := x3.num hlt
      have g1 := hcell k hlt
      have HKL : Hid (k < l.length) := by unfold Hid; rw [HN.out]; exact hlt
      have HNo := Lib.hid (fun h => ris_no (l := l) (k := k) HKL.out h)
      have HYes := Lib.hid (fun h => all_snoc (p := fun i => 1 ≤ l.getD i 0 ∧ (0 < i → l.getD (i - 1) 0 < l.getD i 0)) (k := k) hinv.out h)
      rcases Nat.eq_zero_or_pos k with rfl | hpos
      · clear hcell
        simp only [Nat.add_zero] at g1
        have d0 : decide (0 < ((0 : Nat) : Int)) = false := by simp
        by_cases e1 : l.getD 0 0 < 1
        · have HR := Lib.hid (HNo.out (by omega))
          have f1 : decide (l.getD 0 0 < 1) = true := by simpa using e1
          clear HNo HYes hinv e1
          generalize l.getD 0 0 = x at *
          go_wp2
          go_ret
          exact ⟨by rw [HR.out]; rfl, rfl⟩
        · have HY := Lib.hid (HYes.out ⟨by omega, by omega⟩)
          have f1 : decide (l.getD 0 0 < 1) = false := by simpa using e1
          clear HNo HYes hinv e1
          generalize hz : l.getD 0 0 = x at g1 f1
          clear hz
          go_wp2
          go_round
          case rel => exact ⟨1, by omega, by go_num, HY.out⟩
          case measure => simp [intOf]; omega
      · have g2 := hcell (k - 1) (by omega)
        clear hcell
        have d0 : decide (0 < (k : Int)) = true := by simp; omega
        by_cases e1 : l.getD k 0 < 1
        · have HR := Lib.hid (HNo.out (by omega))
          have f1 : decide (l.getD k 0 < 1) = true := by simpa using e1
          clear HNo HYes hinv e1 g2
          generalize l.getD k 0 = x at *
          go_wp2
          go_ret
          exact ⟨by rw [HR.out]; rfl, rfl⟩
        · have f1 : decide (l.getD k 0 < 1) = false := by simpa using e1
          have g3 : w.cell? ⟨b3, o3 + ((k : Int) - 1).toNat, none⟩ = some (.int .i64 (l.getD (k - 1) 0)) := by
            rw [show ((k : Int) - 1).toNat = k - 1 by omega]; exact g2
          by_cases e2 : l.getD k 0 ≤ l.getD (k - 1) 0
          · have HR := Lib.hid (HNo.out (by omega))
            have f2 : decide (l.getD k 0 ≤ l.getD (k - 1) 0) = true := by simpa using e2
            clear HNo HYes hinv e1 e2
            generalize l.getD k 0 = x at *
            generalize l.getD (k - 1) 0 = y at *
            go_wp2
            go_ret
            exact ⟨by rw [HR.out]; rfl, rfl⟩
          · have HY := Lib.hid (HYes.out ⟨by omega, by omega⟩)
            have f2 : decide (l.getD k 0 ≤ l.getD (k - 1) 0) = false := by simpa using e2
            clear HNo HYes hinv e1 e2
            generalize hz : l.getD k 0 = x at g1 f1 f2
            generalize hz2 : l.getD (k - 1) 0 = y at g2 g3 f2
            clear hz hz2
            go_wp2
            go_round
            case rel => exact ⟨k + 1, by omega, by go_num, HY.out⟩
            case measure => simp [intOf]; omega
    · have HR := Lib.hid (ris_yes (l := l) (fun i hi => hinv.out i (by have := HN.out; omega)))
      go_wp2
      go_ret
      exact ⟨by rw [HR.out]; rfl, rfl⟩


/-- Two matrices are equal. -/
def sameB (ps is : List Int) (cs : List (List Int)) (qs js : List Int) (ds : List (List Int)) : Bool := decide (ps = qs ∧ is = js ∧ cs = ds)
theorem sameB_refl (ps is : List Int) (cs : List (List Int)) : sameB ps is cs ps is cs = true := by unfold sameB; exact decide_eq_true ⟨rfl, rfl, rfl⟩
set_option maxHeartbeats 4000000 in
theorem same_any (pv iv cv qv jv dv : Value) (ps is : List Int) (cs : List (List Int)) (qs js : List Int) (ds : List (List Int)) (w : World) (hA : Mat w pv iv cv ps is cs) (hB : Mat w qv jv dv qs js ds) :
    Calls Try.prog 16 #[.agg #[pv, iv, cv], .agg #[qv, jv, dv]] w fun e w' => e = .returned (.bool (sameB ps is cs qs js ds)) ∧ Below w.heap.size w w' := by
  obtain ⟨hp, hi, hc⟩ := hA
  obtain ⟨hp2, hi2, hc2⟩ := hB
  have hp0 := hp
  have hi0 := hi
  have hp20 := hp2
  have hi20 := hi2
  obtain ⟨X, cX, rfl, x1, x2, x3⟩ := hp
  obtain ⟨Y, cY, rfl, y1, y2, y3⟩ := hi
  obtain ⟨Z, cZ, us, rfl, z1, z2, hs, hu⟩ := hc
  obtain ⟨X2, cX2, rfl, x21, x22, x23⟩ := hp2
  obtain ⟨Y2, cY2, rfl, y21, y22, y23⟩ := hi2
  obtain ⟨Z2, cZ2, us2, rfl, z21, z22, hs2, hu2⟩ := hc2
  have HU := Lib.hid hu
  have HU2 := Lib.hid hu2
  unfold maxLen at x2 y2 z2 x22 y22 z22
  clear hu hu2 x3 y3 x23 y23
  have hra := (Row.new w 25 [.slice X ps.length cX, .slice Y is.length cY, .slice Z cs.length cZ]).alloc (.cells #[.slice X2 qs.length cX2, .slice Y2 js.length cY2, .slice Z2 ds.length cZ2] 25)
  have hrb := Row.new (w.alloc (.cells #[.slice X ps.length cX, .slice Y is.length cY, .slice Z cs.length cZ] 25)) 25 [.slice X2 qs.length cX2, .slice Y2 js.length cY2, .slice Z2 ds.length cZ2]
  rw [show (w.alloc (.cells #[.slice X ps.length cX, .slice Y is.length cY, .slice Z cs.length cZ] 25)).heap.size = w.heap.size + 1 by simp] at hrb
  have B0 : Below w.heap.size w ((w.alloc (.cells #[.slice X ps.length cX, .slice Y is.length cY, .slice Z cs.length cZ] 25)).alloc (.cells #[.slice X2 qs.length cX2, .slice Y2 js.length cY2, .slice Z2 ds.length cZ2] 25)) := ((Below.refl _ _).alloc (Nat.le_refl _) _).alloc (by simp) _
  have n1 := hp0.below B0
  have n2 := hp20.below B0
  have n3 := hi0.below B0
  have n4 := hi20.below B0
  clear hp0 hp20 hi0 hi20
  go_enter Try.func16, Try.ntmps16
  go_wp2_with fail
  generalize hW : (w.alloc (.cells #[.slice X ps.length cX, .slice Y is.length cY, .slice Z cs.length cZ] 25)).alloc (.cells #[.slice X2 qs.length cX2, .slice Y2 js.length cY2, .slice Z2 ds.length cZ2] 25) = W0 at *
  clear hW
  refine (equal_any _ _ ps qs _ n1 n2).mono ?_
  rintro e w1 ⟨rfl, d, rfl⟩
  have hra1 : Row (W0.drewN d) w.heap.size 25 [.slice X ps.length cX, .slice Y is.length cY, .slice Z cs.length cZ] := hra
  have hrb1 : Row (W0.drewN d) (w.heap.size + 1) 25 [.slice X2 qs.length cX2, .slice Y2 js.length cY2, .slice Z2 ds.length cZ2] := hrb
  have n31 : Nums .i64 (W0.drewN d) (.slice Y is.length cY) is := n3
  have n41 : Nums .i64 (W0.drewN d) (.slice Y2 js.length cY2) js := n4
  have B1 : Below w.heap.size w (W0.drewN d) := below_drewN B0 d
  clear n1 n2 n3 n4 hra hrb B0
  generalize W0.drewN d = w1 at *
  have a1 : w1.cell? ⟨w.heap.size, 1, none⟩ = some (.slice Y is.length cY) := hra1.cell 1
  have a2 : w1.cell? ⟨w.heap.size, 2, none⟩ = some (.slice Z cs.length cZ) := hra1.cell 2
  have b1 : w1.cell? ⟨w.heap.size + 1, 1, none⟩ = some (.slice Y2 js.length cY2) := hrb1.cell 1
  have b2 : w1.cell? ⟨w.heap.size + 1, 2, none⟩ = some (.slice Z2 ds.length cZ2) := hrb1.cell 2
  by_cases e1 : ps = qs
  case neg =>
    have HR : Hid (sameB ps is cs qs js ds = false) := decide_eq_false (fun h => e1 h.1)
    have d1 : decide (ps = qs) = false := decide_eq_false e1
    rw [d1]
    clear d1 e1
    go_wp2_with fail
    go_ret
    exact ⟨by rw [HR.out]; rfl, B1⟩
  have d1 : decide (ps = qs) = true := decide_eq_true e1
  have HE1 := Lib.hid e1
  rw [d1]
  clear d1 e1
  go_wp2_with fail
  refine (equal_any _ _ is js _ n31 n41).mono ?_
  rintro e w2 ⟨rfl, d', rfl⟩
  have hra2 : Row (w1.drewN d') w.heap.size 25 [.slice X ps.length cX, .slice Y is.length cY, .slice Z cs.length cZ] := hra1
  have hrb2 : Row (w1.drewN d') (w.heap.size + 1) 25 [.slice X2 qs.length cX2, .slice Y2 js.length cY2, .slice Z2 ds.length cZ2] := hrb1
  have B2 : Below w.heap.size w (w1.drewN d') := below_drewN B1 d'
  clear n31 n41 hra1 hrb1 B1 a1 a2 b1 b2
  generalize w1.drewN d' = w2 at *
  have a2 : w2.cell? ⟨w.heap.size, 2, none⟩ = some (.slice Z cs.length cZ) := hra2.cell 2
  have b2 : w2.cell? ⟨w.heap.size + 1, 2, none⟩ = some (.slice Z2 ds.length cZ2) := hrb2.cell 2
  by_cases e2 : is = js
  case neg =>
    have HR : Hid (sameB ps is cs qs js ds = false) := decide_eq_false (fun h => e2 h.2.1)
    have d1 : decide (is = js) = false := decide_eq_false e2
    rw [d1]
    clear d1 e2
    go_wp2_with fail
    go_ret
    exact ⟨by rw [HR.out]; rfl, B2⟩
  have d1 : decide (is = js) = true := decide_eq_true e2
  have HE2 := Lib.hid e2
  rw [d1]
  clear d1 e2
  obtain ⟨n, hn⟩ : ∃ n, cs.length = n := ⟨_, rfl⟩
  have HN := Lib.hid hn
  by_cases e3 : n = ds.length
  case neg =>
    have HR : Hid (sameB ps is cs qs js ds = false) := decide_eq_false (fun h => e3 (by rw [← hn, h.2.2]))
    have hne : ((n : Int) != (ds.length : Int)) = true := by rw [bne_iff_ne]; omega
    rw [hn] at a2
    clear e3 hn
    generalize ds.length = m at *
    go_wp2_with fail
    go_ret
    exact ⟨by rw [HR.out]; rfl, B2⟩
  have HM := Lib.hid e3.symm
  rw [hn] at a2 hs z1 hra2
  rw [← e3] at b2 hs2 z21 hrb2
  clear hn e3
  have hne : ((n : Int) != (n : Int)) = false := by simp
  go_wp2_with fail
  go_loopw [32] (fun i wr => ∃ k : Nat, k ≤ n ∧ i = .int .i64 (k : Int) ∧ Hid (∀ j, j < k → cs.getD j [] = ds.getD j []) ∧ Below w2.heap.size w2 wr) (fun i _ => n - (intOf i).toNat)
  case atStart => exact ⟨0, by omega, rfl, fun j hj => by omega, Below.refl _ _⟩
  case round =>
    obtain ⟨k, hk, rfl, hinv, hbo⟩ := hrel
    have BW : Below w.heap.size w wr := B2.trans (hbo.mono B2.size)
    by_cases hlt : k < n
    · obtain ⟨b3, o3, u3, rfl, hb3, g3, hI⟩ := lst_at hs HU.out hlt
      obtain ⟨b4, o4, u4, rfl, hb4, g4, hI4⟩ := lst_at hs2 HU2.out hlt
      have q3 : wr.cell? ⟨b3, o3 + k, none⟩ = some u3 := (BW.cell (p := ⟨b3, o3 + k, none⟩) hb3).trans g3
      have q4 : wr.cell? ⟨b4, o4 + k, none⟩ = some u4 := (BW.cell (p := ⟨b4, o4 + k, none⟩) hb4).trans g4
      have p3 := (hra2.keep hbo).cell 2
      have p4 := (hrb2.keep hbo).cell 2
      have p3' : wr.cell? ⟨w.heap.size, 2, none⟩ = some (.slice (some ⟨b3, o3, none⟩) n cZ) := p3
      have p4' : wr.cell? ⟨w.heap.size + 1, 2, none⟩ = some (.slice (some ⟨b4, o4, none⟩) n cZ2) := p4
      have hI' := hI.below BW
      have hI4' := hI4.below BW
      clear g3 g4 p3 p4 hI hI4
      have hI0 := hI'
      have hI40 := hI4'
      obtain ⟨R3, c3, rfl, _, _, _⟩ := hI'
      obtain ⟨R4, c4, rfl, _, _, _⟩ := hI4'
      have i1 : (0 : Int) ≤ (k : Int) := by omega
      have i2 : (k : Int) < (n : Int) := by omega
      by_cases he : cs.getD k [] = ds.getD k []
      · have HI := Lib.hid (all_snoc (p := fun j => cs.getD j [] = ds.getD j []) hinv.out he)
        have HD : Hid (decide (cs.getD k [] = ds.getD k []) = true) := decide_eq_true he
        clear he hinv
        generalize cs.getD k [] = l3 at *
        generalize ds.getD k [] = l4 at *
        go_wp2_with fail
        go_quiet ((go_at_call 21; exact Calls.quiet_of (equal_any _ _ l3 l4 _ hI0 hI40)))
        rw [HD.out]
        go_wp2_with fail
        go_roundw
        case rel => exact ⟨k + 1, by omega, by go_num, HI.out, below_drewN hbo _⟩
        case measure => simp [intOf]; omega
      · have HR : Hid (sameB ps is cs qs js ds = false) := decide_eq_false (fun h => he (by rw [h.2.2]))
        have HD : Hid (decide (cs.getD k [] = ds.getD k []) = false) := decide_eq_false he
        clear he hinv
        generalize cs.getD k [] = l3 at *
        generalize ds.getD k [] = l4 at *
        go_wp2_with fail
        go_quiet ((go_at_call 21; exact Calls.quiet_of (equal_any _ _ l3 l4 _ hI0 hI40)))
        rw [HD.out]
        go_wp2_with fail
        go_ret
        exact ⟨by rw [HR.out]; rfl, below_drewN BW _⟩
    · have HR : Hid (sameB ps is cs qs js ds = true) := by
        unfold Hid sameB
        refine decide_eq_true ⟨HE1.out, HE2.out, ?_⟩
        exact ext_getD [] (by rw [HN.out, HM.out]) fun i hi => hinv.out i (by rw [HN.out] at hi; omega)
      clear hinv
      go_wp2_with fail
      go_ret
      exact ⟨by rw [HR.out]; rfl, BW⟩
end Go.Proofs.Ytgdngopemlajjaa
