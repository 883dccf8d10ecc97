/- The walk of awake: the chapter's examples. -/
import Derived.Test.YtgdngopemlajjaaMtI
import Derived.Test.YtgdngopemlajjaaMtG
namespace Go.Proofs.Ytgdngopemlajjaa
open Go.RowKit
set_option linter.unusedVariables false

theorem equal_yes (v u : Value) (xs : List Int) (w : World) (h1 : Nums .i64 w v xs) (h2 : Nums .i64 w u xs) :
    Calls Try.prog 21 #[v, u] w fun e w' => e = .returned (.bool true) ∧ Below w.heap.size w w' :=
  (equal_any v u xs xs w h1 h2).mono fun e w' ⟨he, d, hw⟩ => ⟨by rw [he, decide_eq_true rfl], by rw [hw]; exact below_drewN (Below.refl _ _) d⟩
theorem total_b (v : Value) (l : List Int) (w : World) (h : Nums .i64 w v l) :
    Calls Try.prog 20 #[v] w fun e w' => e = .returned (.tuple #[.int .i64 (totF l 0 0).1, .int .i64 (totF l 0 0).2]) ∧ Below w.heap.size w w' :=
  (mtotal_any v l w h).mono fun e w' ⟨he, hw⟩ => ⟨he, by rw [← hw]; exact Below.refl _ _⟩
theorem lit_more {a w : World} (h : Below a.heap.size a w) (o : Obj) : Below a.heap.size a (w.alloc o) := h.alloc h.size _
theorem lit_at {w : World} {t g n : Nat} (zs : List Int) (hg : w.heap.size = g) (hn : zs.length = n) (hm : n ≤ 1000) : Nums .i64 (w.alloc (.cells (zs.map (Value.int .i64)).toArray t)) (.slice (some ⟨g, 0, none⟩) n n) zs := by
  subst hg; exact lit_nums w t zs n hn hm
theorem i64s (l : List Int) (h : l.all (fun z => (Lit.int .i64 z).wf) = true) : I64 l := fun z hz => by rw [List.all_eq_true] at h; exact h z hz
/-- A cell that holds a row. -/
def RowAt (w : World) (b o : Nat) (u : Value) (xs : List Int) : Prop := w.cell? ⟨b, o, none⟩ = some u ∧ Nums .i64 w u xs
theorem RowAt.below {w w' : World} {b o : Nat} {u : Value} {xs : List Int} (h : RowAt w b o u xs) (hb : Below w.heap.size w w') : RowAt w' b o u xs :=
  ⟨(hb.cell (p := ⟨b, o, none⟩) (block_lt_of_cell h.1)).trans h.1, h.2.below hb⟩
theorem intsL_one {w : World} {v : Value} {xs : List Int} (h : IntsL w v [xs]) : ∃ b o c u, v = .slice (some ⟨b, o, none⟩) 1 c ∧ RowAt w b o u xs := by
  obtain ⟨A, c, us, rfl, _, _, hs, hu⟩ := h
  obtain ⟨b, o, u, rfl, _, g, hI⟩ := lst_at hs hu (k := 0) (by simp)
  exact ⟨b, o, c, u, rfl, by simpa using g, by simpa using hI⟩
theorem intsL_two {w : World} {v : Value} {xs ys : List Int} (h : IntsL w v [xs, ys]) : ∃ b o c u u', v = .slice (some ⟨b, o, none⟩) 2 c ∧ RowAt w b o u xs ∧ RowAt w b (o + 1) u' ys := by
  obtain ⟨A, c, us, rfl, _, _, hs, hu⟩ := h
  obtain ⟨b, o, u, hA, _, g, hI⟩ := lst_at hs hu (k := 0) (by simp)
  obtain ⟨b', o', u', hA', _, g', hI'⟩ := lst_at hs hu (k := 1) (by simp)
  subst hA
  injection hA' with hA'
  injection hA' with h1 h2
  subst h1 h2
  exact ⟨b, o, c, u, u', rfl, ⟨by simpa using g, by simpa using hI⟩, ⟨g', by simpa using hI'⟩⟩
theorem intsL_lit {w : World} {g t : Nat} {u : Value} {xs : List Int} (hr : Row w g t [u]) (hn : Nums .i64 w u xs) : IntsL w (.slice (some ⟨g, 0, none⟩) 1 1) [xs] := by
  refine ⟨_, 1, _, rfl, by simp, by simp [maxLen], hr.sl, fun i v hv => ?_⟩
  match i with
  | 0 => simp only [List.getElem?_cons_zero, Option.some.injEq] at hv; subst hv; exact hn
  | i + 1 => simp at hv
theorem uni_ex1 : uni [1, 2] [2] = [1, 2] := by rw [uni_lt _ _ (by decide), uni_eq _ _ rfl, uni_nil_left]
theorem uni_ex2 : uni [7, 9] [8] = [7, 8, 9] := by rw [uni_lt _ _ (by decide), uni_gt _ _ (by decide), uni_nil_right]

set_option maxRecDepth 100000 in
set_option maxHeartbeats 16000000 in
theorem awake_any (w : World) : Calls Try.prog 13 #[] w fun e w' => e = .returned (.bool true) ∧ Below w.heap.size w w' := by
  go_enter Try.func13, Try.ntmps13
  go_wp2_with fail
  have hl : Below w.heap.size w w := Below.refl _ _
  refine (sample_any _).mono ?_
  rintro e w1 ⟨p1, i1, c1, rfl, hM1, hb⟩
  replace hb : Below w.heap.size w w1 := hl.trans (hb.mono hl.size)
  clear hl
  have BB : Below w.heap.size w w1 := hb
  clear hb
  go_wp2_with fail
  have hl : Below w1.heap.size w1 w1 := Below.refl _ _
  refine (column_any _ _ _ [1, 2] [7, 9] [[1, 0], [-1, 2]] 0 _ hM1.1 hM1.2.1 hM1.2.2 (by decide)).mono ?_
  rintro e w2 ⟨col, rfl, hcol, hb⟩
  replace hb : Below w1.heap.size w1 w2 := hl.trans (hb.mono hl.size)
  clear hl
  replace hM1 := hM1.below hb
  replace BB : Below w.heap.size w w2 := BB.trans (hb.mono BB.size)
  clear hb
  clear hM1
  have k1 : colOK [7, 9] [[1, 0], [-1, 2]] 0 = true := by decide +kernel
  rw [k1]
  rw [onB_true k1, show colL [[1, 0], [-1, 2]] 0 = [1, -1] by decide +kernel] at hcol
  clear k1
  have hcol' := hcol
  obtain ⟨KA, kc, rfl, _, _, _⟩ := hcol'
  go_wp2_with fail
  have hl : Below w2.heap.size w2 (w2.alloc (.cells #[.int .i64 1, .int .i64 (-1), .int .i64 2] 3)) := lit_below _ _
  refine (total_b _ [1, -1, 2] _ (lit_at [1, -1, 2] (by simp) rfl (by decide))).mono ?_
  rintro e w3 ⟨rfl, hb⟩
  replace hb : Below w2.heap.size w2 w3 := hl.trans (hb.mono hl.size)
  clear hl
  replace hcol := hcol.below hb
  replace BB : Below w.heap.size w w3 := BB.trans (hb.mono BB.size)
  clear hb
  rw [show totF [1, -1, 2] 0 0 = (3, 2) by decide +kernel]
  go_wp2_with fail
  have hl : Below w3.heap.size w3 w3 := Below.refl _ _
  refine (sample_any _).mono ?_
  rintro e w4 ⟨p2, i2, c2, rfl, hM2, hb⟩
  replace hb : Below w3.heap.size w3 w4 := hl.trans (hb.mono hl.size)
  clear hl
  replace hcol := hcol.below hb
  replace BB : Below w.heap.size w w4 := BB.trans (hb.mono BB.size)
  clear hb
  go_wp2_with fail
  have hl : Below w4.heap.size w4 ((w4.alloc (.cells #[.int .i64 2] 3)).alloc (.cells #[.int .i64 7, .int .i64 9] 3)) := lit_more (lit_below _ _) _
  refine (select_any _ _ _ _ _ [1, 2] [7, 9] [[1, 0], [-1, 2]] [2] [7, 9] _ (hM2.below hl) (nums_alloc (lit_at [2] (by simp) rfl (by decide)) _) (lit_at [7, 9] (by simp) rfl (by decide)) (i64s _ (by decide +kernel)) (i64s _ (by decide +kernel)) (i64s _ (by decide +kernel)) (i64s _ (by decide +kernel)) (by decide) (by decide) (by decide) (by decide) (by decide)).mono ?_
  rintro e w5 ⟨sp, si, sc, rfl, hS, hb⟩
  replace hb : Below w4.heap.size w4 w5 := hl.trans (hb.mono hl.size)
  clear hl
  replace hcol := hcol.below hb
  replace hM2 := hM2.below hb
  replace BB : Below w.heap.size w w5 := BB.trans (hb.mono BB.size)
  clear hb
  clear hM2
  have k1 : selE [1, 2] [7, 9] [[1, 0], [-1, 2]] [2] [7, 9] = 0 := by decide +kernel
  rw [k1]
  rw [k1, onZ_zero rfl, onZ_zero rfl, onZ_zero rfl, show selC [1, 2] [7, 9] [[1, 0], [-1, 2]] [2] [7, 9] = [[-1, 2]] by decide +kernel] at hS
  clear k1
  obtain ⟨⟨SA, sac, rfl, _, _, _⟩, ⟨SB, sbc, rfl, _, _, _⟩, hSc⟩ := hS
  obtain ⟨sb, so, scc, su0, rfl, hs0⟩ := intsL_one hSc
  clear hSc
  have hs0' := hs0.2
  obtain ⟨SU, suc, rfl, _, _, _⟩ := hs0'
  obtain ⟨gs, hgs⟩ : ∃ g, w5.heap.size = g := ⟨_, rfl⟩
  have hrs0 : Row (w5.alloc (.cells #[.slice SA 1 sac, .slice SB 2 sbc, .slice (some ⟨sb, so, none⟩) 1 scc] 25)) gs 25 [.slice SA 1 sac, .slice SB 2 sbc, .slice (some ⟨sb, so, none⟩) 1 scc] := row_at hgs
  have HGS := Lib.hid hgs
  go_wp2_with fail
  have hl := lit_below w5 (.cells #[.slice SA 1 sac, .slice SB 2 sbc, .slice (some ⟨sb, so, none⟩) 1 scc] 25)
  clear hgs
  generalize w5.alloc (.cells #[.slice SA 1 sac, .slice SB 2 sbc, .slice (some ⟨sb, so, none⟩) 1 scc] 25) = wS at *
  replace hcol := hcol.below hl
  replace hs0 := hs0.below hl
  replace BB : Below w.heap.size w wS := BB.trans (hl.mono BB.size)
  clear hl HGS
  have hrs := hrs0
  clear hrs0
  go_wp2_with fail
  have hl : Below wS.heap.size wS wS := Below.refl _ _
  refine (sample_any _).mono ?_
  rintro e w6 ⟨p3, i3, c3, rfl, hM3, hb⟩
  replace hb : Below wS.heap.size wS w6 := hl.trans (hb.mono hl.size)
  clear hl
  replace hcol := hcol.below hb
  replace hs0 := hs0.below hb
  replace hrs := hrs.keep hb
  replace BB : Below w.heap.size w w6 := BB.trans (hb.mono BB.size)
  clear hb
  go_wp2_with fail
  have hlc : IntsL ((((w6.alloc (.cells #[.int .i64 2] 3)).alloc (.cells #[.int .i64 8] 3)).alloc (.cells #[.int .i64 0] 3)).alloc (.cells #[.slice (some ⟨w6.heap.size + 1 + 1, 0, none⟩) 1 1] 22)) (.slice (some ⟨w6.heap.size + 1 + 1 + 1, 0, none⟩) 1 1) [[0]] := intsL_lit (row_at (by simp)) (nums_alloc (lit_at [0] (by simp) rfl (by decide)) _)
  go_wp2_with fail
  have hl : Below w6.heap.size w6 ((((w6.alloc (.cells #[.int .i64 2] 3)).alloc (.cells #[.int .i64 8] 3)).alloc (.cells #[.int .i64 0] 3)).alloc (.cells #[.slice (some ⟨w6.heap.size + 1 + 1, 0, none⟩) 1 1] 22)) := lit_more (lit_more (lit_more (lit_below _ _) _) _) _
  refine (merge_any _ _ _ _ _ _ [1, 2] [7, 9] [[1, 0], [-1, 2]] [2] [8] [[0]] _ (hM3.below hl) ⟨(nums_alloc (nums_alloc (nums_alloc (lit_at [2] (by simp) rfl (by decide)) _) _) _), (nums_alloc (nums_alloc (lit_at [8] (by simp) rfl (by decide)) _) _), hlc⟩ (i64s _ (by decide +kernel)) (i64s _ (by decide +kernel)) (i64s _ (by decide +kernel)) (i64s _ (by decide +kernel)) (by decide) (by decide)).mono ?_
  rintro e w7 ⟨mp, mi, mc, rfl, hM, hb⟩
  replace hb : Below w6.heap.size w6 w7 := hl.trans (hb.mono hl.size)
  clear hl
  replace hcol := hcol.below hb
  replace hs0 := hs0.below hb
  replace hrs := hrs.keep hb
  replace hM3 := hM3.below hb
  replace BB : Below w.heap.size w w7 := BB.trans (hb.mono BB.size)
  clear hb
  clear hM3
  clear hlc
  have k1 : merE [1, 2] [7, 9] [[1, 0], [-1, 2]] [2] [8] [[0]] = 0 := by unfold merE; rw [uni_ex1, uni_ex2]; decide +kernel
  rw [k1]
  rw [k1, onZ_zero rfl, onZ_zero rfl, onZ_zero rfl, show merC [1, 2] [7, 9] [[1, 0], [-1, 2]] [2] [8] [[0]] = [[1, -1, 0], [-1, 0, 2]] by unfold merC; rw [uni_ex1, uni_ex2]; decide +kernel, uni_ex1, uni_ex2] at hM
  clear k1
  obtain ⟨⟨MA, mac, rfl, _, _, _⟩, hMi, hMc⟩ := hM
  have hMi' := hMi
  obtain ⟨MB, mbc, rfl, _, _, _⟩ := hMi'
  obtain ⟨mb_, mo, mcc, mu0, mu1, rfl, hm0, hm1⟩ := intsL_two hMc
  clear hMc
  have hm0' := hm0.2
  obtain ⟨MU, muc, rfl, _, _, _⟩ := hm0'
  have hm1' := hm1.2
  obtain ⟨MV, mvc, rfl, _, _, _⟩ := hm1'
  obtain ⟨gm, hgm⟩ : ∃ g, w7.heap.size = g := ⟨_, rfl⟩
  have hrm0 : Row (w7.alloc (.cells #[.slice MA 2 mac, .slice MB 3 mbc, .slice (some ⟨mb_, mo, none⟩) 2 mcc] 25)) gm 25 [.slice MA 2 mac, .slice MB 3 mbc, .slice (some ⟨mb_, mo, none⟩) 2 mcc] := row_at hgm
  go_wp2_with fail
  have hl := lit_below w7 (.cells #[.slice MA 2 mac, .slice MB 3 mbc, .slice (some ⟨mb_, mo, none⟩) 2 mcc] 25)
  skip
  generalize hWM : w7.alloc (.cells #[.slice MA 2 mac, .slice MB 3 mbc, .slice (some ⟨mb_, mo, none⟩) 2 mcc] 25) = wM at *
  have hwm : wM.heap.size = gm + 1 := by rw [← hWM]; simp [hgm]
  clear hWM hgm
  replace hcol := hcol.below hl
  replace hs0 := hs0.below hl
  replace hrs := hrs.keep hl
  replace hMi := hMi.below hl
  replace hm0 := hm0.below hl
  replace hm1 := hm1.below hl
  replace BB : Below w.heap.size w wM := BB.trans (hl.mono BB.size)
  clear hl
  have hrm := hrm0
  clear hrm0
  go_wp2_with fail
  have hl : Below wM.heap.size wM (wM.alloc (.cells #[.int .i64 1, .int .i64 (-1)] 3)) := lit_below _ _
  refine (equal_yes _ _ [1, -1] _ (hcol.below hl) (lit_at [1, -1] hwm rfl (by decide))).mono ?_
  rintro e w8 ⟨rfl, hb⟩
  replace hb : Below wM.heap.size wM w8 := hl.trans (hb.mono hl.size)
  clear hl
  replace hcol := hcol.below hb
  replace hs0 := hs0.below hb
  replace hrs := hrs.keep hb
  replace hMi := hMi.below hb
  replace hm0 := hm0.below hb
  replace hm1 := hm1.below hb
  replace hrm := hrm.keep hb
  replace BB : Below w.heap.size w w8 := BB.trans (hb.mono BB.size)
  clear hb
  clear hwm
  clear hcol
  have q1 : w8.cell? ⟨gm, 1, none⟩ = some (.slice MB 3 mbc) := hrm.cell 1
  have q2 : w8.cell? ⟨gm, 2, none⟩ = some (.slice (some ⟨mb_, mo, none⟩) 2 mcc) := hrm.cell 2
  have q3 : w8.cell? ⟨gs, 2, none⟩ = some (.slice (some ⟨sb, so, none⟩) 1 scc) := hrs.cell 2
  have q4 := hm0.1
  have q5 := hm1.1
  have q6 := hs0.1
  go_wp2_with fail
  clear q1 q2 q3 q4 q5 q6
  have hl : Below w8.heap.size w8 (w8.alloc (.cells #[.int .i64 7, .int .i64 8, .int .i64 9] 3)) := lit_below _ _
  refine (equal_yes _ _ [7, 8, 9] _ (hMi.below hl) (lit_at [7, 8, 9] (by simp) rfl (by decide))).mono ?_
  rintro e w9 ⟨rfl, hb⟩
  replace hb : Below w8.heap.size w8 w9 := hl.trans (hb.mono hl.size)
  clear hl
  replace hs0 := hs0.below hb
  replace hrs := hrs.keep hb
  replace hMi := hMi.below hb
  replace hm0 := hm0.below hb
  replace hm1 := hm1.below hb
  replace hrm := hrm.keep hb
  replace BB : Below w.heap.size w w9 := BB.trans (hb.mono BB.size)
  clear hb
  have q1 : w9.cell? ⟨gm, 1, none⟩ = some (.slice MB 3 mbc) := hrm.cell 1
  have q2 : w9.cell? ⟨gm, 2, none⟩ = some (.slice (some ⟨mb_, mo, none⟩) 2 mcc) := hrm.cell 2
  have q3 : w9.cell? ⟨gs, 2, none⟩ = some (.slice (some ⟨sb, so, none⟩) 1 scc) := hrs.cell 2
  have q4 := hm0.1
  have q5 := hm1.1
  have q6 := hs0.1
  go_wp2_with fail
  clear q1 q2 q3 q4 q5 q6
  have hl : Below w9.heap.size w9 (w9.alloc (.cells #[.int .i64 1, .int .i64 (-1), .int .i64 0] 3)) := lit_below _ _
  refine (equal_yes _ _ [1, -1, 0] _ (hm0.2.below hl) (lit_at [1, -1, 0] (by simp) rfl (by decide))).mono ?_
  rintro e w10 ⟨rfl, hb⟩
  replace hb : Below w9.heap.size w9 w10 := hl.trans (hb.mono hl.size)
  clear hl
  replace hs0 := hs0.below hb
  replace hrs := hrs.keep hb
  replace hMi := hMi.below hb
  replace hm0 := hm0.below hb
  replace hm1 := hm1.below hb
  replace hrm := hrm.keep hb
  replace BB : Below w.heap.size w w10 := BB.trans (hb.mono BB.size)
  clear hb
  have q1 : w10.cell? ⟨gm, 1, none⟩ = some (.slice MB 3 mbc) := hrm.cell 1
  have q2 : w10.cell? ⟨gm, 2, none⟩ = some (.slice (some ⟨mb_, mo, none⟩) 2 mcc) := hrm.cell 2
  have q3 : w10.cell? ⟨gs, 2, none⟩ = some (.slice (some ⟨sb, so, none⟩) 1 scc) := hrs.cell 2
  have q4 := hm0.1
  have q5 := hm1.1
  have q6 := hs0.1
  go_wp2_with fail
  clear q1 q2 q3 q4 q5 q6
  have hl : Below w10.heap.size w10 (w10.alloc (.cells #[.int .i64 (-1), .int .i64 0, .int .i64 2] 3)) := lit_below _ _
  refine (equal_yes _ _ [-1, 0, 2] _ (hm1.2.below hl) (lit_at [-1, 0, 2] (by simp) rfl (by decide))).mono ?_
  rintro e w11 ⟨rfl, hb⟩
  replace hb : Below w10.heap.size w10 w11 := hl.trans (hb.mono hl.size)
  clear hl
  replace hs0 := hs0.below hb
  replace hrs := hrs.keep hb
  replace hMi := hMi.below hb
  replace hm0 := hm0.below hb
  replace hm1 := hm1.below hb
  replace hrm := hrm.keep hb
  replace BB : Below w.heap.size w w11 := BB.trans (hb.mono BB.size)
  clear hb
  have q1 : w11.cell? ⟨gm, 1, none⟩ = some (.slice MB 3 mbc) := hrm.cell 1
  have q2 : w11.cell? ⟨gm, 2, none⟩ = some (.slice (some ⟨mb_, mo, none⟩) 2 mcc) := hrm.cell 2
  have q3 : w11.cell? ⟨gs, 2, none⟩ = some (.slice (some ⟨sb, so, none⟩) 1 scc) := hrs.cell 2
  have q4 := hm0.1
  have q5 := hm1.1
  have q6 := hs0.1
  go_wp2_with fail
  clear q1 q2 q3 q4 q5 q6
  have hl : Below w11.heap.size w11 (w11.alloc (.cells #[.int .i64 (-1), .int .i64 2] 3)) := lit_below _ _
  refine (equal_yes _ _ [-1, 2] _ (hs0.2.below hl) (lit_at [-1, 2] (by simp) rfl (by decide))).mono ?_
  rintro e w12 ⟨rfl, hb⟩
  replace hb : Below w11.heap.size w11 w12 := hl.trans (hb.mono hl.size)
  clear hl
  replace hs0 := hs0.below hb
  replace hrs := hrs.keep hb
  replace hMi := hMi.below hb
  replace hm0 := hm0.below hb
  replace hm1 := hm1.below hb
  replace hrm := hrm.keep hb
  replace BB : Below w.heap.size w w12 := BB.trans (hb.mono BB.size)
  clear hb
  have q1 : w12.cell? ⟨gm, 1, none⟩ = some (.slice MB 3 mbc) := hrm.cell 1
  have q2 : w12.cell? ⟨gm, 2, none⟩ = some (.slice (some ⟨mb_, mo, none⟩) 2 mcc) := hrm.cell 2
  have q3 : w12.cell? ⟨gs, 2, none⟩ = some (.slice (some ⟨sb, so, none⟩) 1 scc) := hrs.cell 2
  have q4 := hm0.1
  have q5 := hm1.1
  have q6 := hs0.1
  go_wp2_with fail
  clear q1 q2 q3 q4 q5 q6
  have hl : Below w12.heap.size w12 w12 := Below.refl _ _
  refine (sample_any _).mono ?_
  rintro e w13 ⟨p4, i4, c4, rfl, hM4, hb⟩
  replace hb : Below w12.heap.size w12 w13 := hl.trans (hb.mono hl.size)
  clear hl
  replace hs0 := hs0.below hb
  replace hrs := hrs.keep hb
  replace hMi := hMi.below hb
  replace hm0 := hm0.below hb
  replace hm1 := hm1.below hb
  replace hrm := hrm.keep hb
  replace BB : Below w.heap.size w w13 := BB.trans (hb.mono BB.size)
  clear hb
  have q1 : w13.cell? ⟨gm, 1, none⟩ = some (.slice MB 3 mbc) := hrm.cell 1
  have q2 : w13.cell? ⟨gm, 2, none⟩ = some (.slice (some ⟨mb_, mo, none⟩) 2 mcc) := hrm.cell 2
  have q3 : w13.cell? ⟨gs, 2, none⟩ = some (.slice (some ⟨sb, so, none⟩) 1 scc) := hrs.cell 2
  have q4 := hm0.1
  have q5 := hm1.1
  have q6 := hs0.1
  go_wp2_with fail
  clear q1 q2 q3 q4 q5 q6
  have hl : Below w13.heap.size w13 (w13.alloc (.cells #[.int .i64 2, .int .i64 3] 3)) := lit_below _ _
  refine (matv_any _ _ _ _ [1, 2] [7, 9] [2, 3] [[1, 0], [-1, 2]] _ (hM4.1.below hl) (hM4.2.1.below hl) (hM4.2.2.below hl) (lit_at [2, 3] (by simp) rfl (by decide))).mono ?_
  rintro e w14 ⟨rfl, hb⟩
  replace hb : Below w13.heap.size w13 w14 := hl.trans (hb.mono hl.size)
  clear hl
  replace hs0 := hs0.below hb
  replace hrs := hrs.keep hb
  replace hMi := hMi.below hb
  replace hm0 := hm0.below hb
  replace hm1 := hm1.below hb
  replace hrm := hrm.keep hb
  replace hM4 := hM4.below hb
  replace BB : Below w.heap.size w w14 := BB.trans (hb.mono BB.size)
  clear hb
  clear hM4
  rw [show matE [1, 2] [7, 9] [[1, 0], [-1, 2]] [2, 3] = 0 by decide +kernel]
  have q1 : w14.cell? ⟨gm, 1, none⟩ = some (.slice MB 3 mbc) := hrm.cell 1
  have q2 : w14.cell? ⟨gm, 2, none⟩ = some (.slice (some ⟨mb_, mo, none⟩) 2 mcc) := hrm.cell 2
  have q3 : w14.cell? ⟨gs, 2, none⟩ = some (.slice (some ⟨sb, so, none⟩) 1 scc) := hrs.cell 2
  have q4 := hm0.1
  have q5 := hm1.1
  have q6 := hs0.1
  go_wp2_with fail
  clear q1 q2 q3 q4 q5 q6
  have hl : Below w14.heap.size w14 w14 := Below.refl _ _
  refine (sample_any _).mono ?_
  rintro e w15 ⟨p5, i5, c5, rfl, hM5, hb⟩
  replace hb : Below w14.heap.size w14 w15 := hl.trans (hb.mono hl.size)
  clear hl
  replace hs0 := hs0.below hb
  replace hrs := hrs.keep hb
  replace hMi := hMi.below hb
  replace hm0 := hm0.below hb
  replace hm1 := hm1.below hb
  replace hrm := hrm.keep hb
  replace BB : Below w.heap.size w w15 := BB.trans (hb.mono BB.size)
  clear hb
  have q1 : w15.cell? ⟨gm, 1, none⟩ = some (.slice MB 3 mbc) := hrm.cell 1
  have q2 : w15.cell? ⟨gm, 2, none⟩ = some (.slice (some ⟨mb_, mo, none⟩) 2 mcc) := hrm.cell 2
  have q3 : w15.cell? ⟨gs, 2, none⟩ = some (.slice (some ⟨sb, so, none⟩) 1 scc) := hrs.cell 2
  have q4 := hm0.1
  have q5 := hm1.1
  have q6 := hs0.1
  go_wp2_with fail
  clear q1 q2 q3 q4 q5 q6
  have hl : Below w15.heap.size w15 (w15.alloc (.cells #[.int .i64 2, .int .i64 2] 3)) := lit_below _ _
  refine (matv_any _ _ _ _ [1, 2] [7, 9] [2, 2] [[1, 0], [-1, 2]] _ (hM5.1.below hl) (hM5.2.1.below hl) (hM5.2.2.below hl) (lit_at [2, 2] (by simp) rfl (by decide))).mono ?_
  rintro e w16 ⟨rfl, hb⟩
  replace hb : Below w15.heap.size w15 w16 := hl.trans (hb.mono hl.size)
  clear hl
  replace hs0 := hs0.below hb
  replace hrs := hrs.keep hb
  replace hMi := hMi.below hb
  replace hm0 := hm0.below hb
  replace hm1 := hm1.below hb
  replace hrm := hrm.keep hb
  replace hM5 := hM5.below hb
  replace BB : Below w.heap.size w w16 := BB.trans (hb.mono BB.size)
  clear hb
  clear hM5
  rw [show matE [1, 2] [7, 9] [[1, 0], [-1, 2]] [2, 2] = 3 by decide +kernel]
  have q1 : w16.cell? ⟨gm, 1, none⟩ = some (.slice MB 3 mbc) := hrm.cell 1
  have q2 : w16.cell? ⟨gm, 2, none⟩ = some (.slice (some ⟨mb_, mo, none⟩) 2 mcc) := hrm.cell 2
  have q3 : w16.cell? ⟨gs, 2, none⟩ = some (.slice (some ⟨sb, so, none⟩) 1 scc) := hrs.cell 2
  have q4 := hm0.1
  have q5 := hm1.1
  have q6 := hs0.1
  go_wp2_with fail
  clear q1 q2 q3 q4 q5 q6
  have hl : Below w16.heap.size w16 (w16.alloc (.cells #[.int .i64 1, .int .i64 (-1), .int .i64 0, .int .i64 (-1)] 3)) := lit_below _ _
  refine (mark_any _ [1, -1, 0, -1] _ (lit_at [1, -1, 0, -1] (by simp) rfl (by decide)) (by decide)).mono ?_
  rintro e w17 ⟨mv, rfl, hmk, hmf, hb⟩
  replace hb : Below w16.heap.size w16 w17 := hl.trans (hb.mono hl.size)
  clear hl
  replace hs0 := hs0.below hb
  replace hrs := hrs.keep hb
  replace hMi := hMi.below hb
  replace hm0 := hm0.below hb
  replace hm1 := hm1.below hb
  replace hrm := hrm.keep hb
  replace BB : Below w.heap.size w w17 := BB.trans (hb.mono BB.size)
  clear hb
  rw [show markL [1, -1, 0, -1] = [1, -1, 0, -2] by decide +kernel] at hmk
  have hmk' := hmk
  obtain ⟨KA2, kc2, rfl, _, _, _⟩ := hmk'
  have q1 : w17.cell? ⟨gm, 1, none⟩ = some (.slice MB 3 mbc) := hrm.cell 1
  have q2 : w17.cell? ⟨gm, 2, none⟩ = some (.slice (some ⟨mb_, mo, none⟩) 2 mcc) := hrm.cell 2
  have q3 : w17.cell? ⟨gs, 2, none⟩ = some (.slice (some ⟨sb, so, none⟩) 1 scc) := hrs.cell 2
  have q4 := hm0.1
  have q5 := hm1.1
  have q6 := hs0.1
  go_wp2_with fail
  clear q1 q2 q3 q4 q5 q6
  have hl : Below w17.heap.size w17 (w17.alloc (.cells #[.int .i64 1, .int .i64 (-1), .int .i64 0, .int .i64 (-2)] 3)) := lit_below _ _
  refine (equal_yes _ _ [1, -1, 0, -2] _ (hmk.below hl) (lit_at [1, -1, 0, -2] (by simp) rfl (by decide))).mono ?_
  rintro e w18 ⟨rfl, hb⟩
  replace hb : Below w17.heap.size w17 w18 := hl.trans (hb.mono hl.size)
  clear hl
  replace hs0 := hs0.below hb
  replace hrs := hrs.keep hb
  replace hMi := hMi.below hb
  replace hm0 := hm0.below hb
  replace hm1 := hm1.below hb
  replace hrm := hrm.keep hb
  replace hmk := hmk.below hb
  replace BB : Below w.heap.size w w18 := BB.trans (hb.mono BB.size)
  clear hb
  go_wp2_with fail
  go_ret
  exact ⟨rfl, BB⟩
end Go.Proofs.Ytgdngopemlajjaa
