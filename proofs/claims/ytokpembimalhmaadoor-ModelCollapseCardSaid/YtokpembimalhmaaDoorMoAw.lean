/- The walk of awake: the chapter's examples. -/
import Derived.Test.YtokpembimalhmaaDoorMoC
import Derived.Test.YtokpembimalhmaaDoorMoE
import Derived.Test.YtokpembimalhmaaDoorMoM
import Derived.Test.YtokpembimalhmaaDoorMoU
import Derived.Test.YtokpembimalhmaaDoorMoW
import Derived.Test.YtokpembimalhmaaDoorIntB
import Derived.Deep.RegionHeld3
import Derived.Deep.CutRange
import Derived.Deep.DeepCutAuto
import Derived.Deep.Light
namespace Go.Proofs.YtokpembimalhmaaDoor
open Go.RowKit
set_option linter.unusedVariables false

theorem lit_below (w : World) (o : Obj) : Below w.heap.size w (w.alloc o) := (Below.refl _ _).alloc (Nat.le_refl _) _
theorem lit_more {a w : World} (h : Below a.heap.size a w) (o : Obj) : Below a.heap.size a (w.alloc o) := h.alloc h.size _
theorem nums_alloc {k : IntKind} {w : World} {v : Value} {zs : List Int} (h : Nums k w v zs) (o : Obj) : Nums k (w.alloc o) v zs := h.below (lit_below w o)
theorem row_at {w : World} {t : Nat} {xs : List Value} {g : Nat} (h : w.heap.size = g) : Row (w.alloc (.cells xs.toArray t)) g t xs := by
  subst h; exact Row.new w t xs
theorem lit_at {w : World} {t g n : Nat} (zs : List Int) (hg : w.heap.size = g) (hn : zs.length = n) (hm : n ≤ 1000) : Nums .i64 (w.alloc (.cells (zs.map (Value.int .i64)).toArray t)) (.slice (some ⟨g, 0, none⟩) n n) zs := by
  subst hg hn
  exact Nums.of_row (Row.new w t (zs.map (Value.int .i64))) (by unfold maxLen; omega)
theorem intsL_lit {w : World} {g t : Nat} {us : List Value} {xs : List (List Int)} (hr : Row w g t us) (hl : us.length = xs.length) (hm : us.length ≤ 1000) (hn : ∀ i u, us[i]? = some u → Nums .i64 w u (xs.getD i [])) : IntsL w (.slice (some ⟨g, 0, none⟩) us.length us.length) xs := by
  rw [hl] at hm ⊢
  refine ⟨_, _, us, rfl, Nat.le_refl _, by unfold maxLen; omega, ?_, hn⟩
  have := hr.sl
  rwa [hl] at this
theorem intsL_lit1 {w : World} {g t : Nat} {u : Value} {x : List Int} (hr : Row w g t [u]) (h1 : Nums .i64 w u x) : IntsL w (.slice (some ⟨g, 0, none⟩) 1 1) [x] := by
  refine intsL_lit hr rfl (by simp) fun i v hv => ?_
  match i with
  | 0 => simp only [List.getElem?_cons_zero, Option.some.injEq] at hv; subst hv; exact h1
  | i + 1 => simp at hv
theorem intsL_lit2 {w : World} {g t : Nat} {u v : Value} {x y : List Int} (hr : Row w g t [u, v]) (h1 : Nums .i64 w u x) (h2 : Nums .i64 w v y) : IntsL w (.slice (some ⟨g, 0, none⟩) 2 2) [x, y] := by
  refine intsL_lit hr rfl (by simp) fun i z hv => ?_
  match i with
  | 0 => simp only [List.getElem?_cons_zero, Option.some.injEq] at hv; subst hv; exact h1
  | 1 => simp only [List.getElem?_cons_succ, List.getElem?_cons_zero, Option.some.injEq] at hv; subst hv; exact h2
  | i + 2 => simp at hv
theorem intsL_lit3 {w : World} {g t : Nat} {u v s : Value} {x y z : List Int} (hr : Row w g t [u, v, s]) (h1 : Nums .i64 w u x) (h2 : Nums .i64 w v y) (h3 : Nums .i64 w s z) : IntsL w (.slice (some ⟨g, 0, none⟩) 3 3) [x, y, z] := by
  refine intsL_lit hr rfl (by simp) fun i q hv => ?_
  match i with
  | 0 => simp only [List.getElem?_cons_zero, Option.some.injEq] at hv; subst hv; exact h1
  | 1 => simp only [List.getElem?_cons_succ, List.getElem?_cons_zero, Option.some.injEq] at hv; subst hv; exact h2
  | 2 => simp only [List.getElem?_cons_succ, List.getElem?_cons_zero, Option.some.injEq] at hv; subst hv; exact h3
  | i + 3 => simp at hv
theorem intsL_show {w : World} {v : Value} {xs : List (List Int)} (h : IntsL w v xs) {n : Nat} (hn : xs.length = n) : ∃ A c, v = .slice A n c := by
  subst hn
  obtain ⟨A, c, _, hv, _⟩ := h
  exact ⟨A, c, hv⟩
theorem same_yes (av bv : Value) (xs : List (List Int)) (w : World) (ha : IntsL w av xs) (hb : IntsL w bv xs) :
    Calls Tryd.prog 19 #[.agg #[av], .agg #[bv]] w fun e w' => e = .returned (.bool true) ∧ Below w.heap.size w w' :=
  (same_any av bv xs xs w ha hb).mono fun e w' h => ⟨by rw [h.1, decide_eq_true rfl], h.2⟩
theorem keep1c {W w' : World} {p1 : Addr} {x1 : Value} (l1 : p1.block < W.heap.size) (h1 : W.cell? p1 = some x1) (hb : Below W.heap.size W w') : w'.cell? p1 = some x1 := (hb.cell l1).trans h1
theorem keep2d {W w' : World} {p1 p2 : Addr} {x1 x2 : Value} (l1 : p1.block < W.heap.size) (l2 : p2.block < W.heap.size) (h1 : W.cell? p1 = some x1) (h2 : W.cell? p2 = some x2) (hb : Below W.heap.size W w') :
    w'.cell? p1 = some x1 ∧ w'.cell? p2 = some x2 := ⟨(hb.cell l1).trans h1, (hb.cell l2).trans h2⟩
theorem IntsL.drew_ {w : World} {v : Value} {xs : List (List Int)} (h : IntsL w v xs) : IntsL w.drew v xs := h
theorem Nums.drew_ {k : IntKind} {w : World} {v : Value} {xs : List Int} (h : Nums k w v xs) : Nums k w.drew v xs := h
theorem rows_any (A : Option Addr) (n c : Nat) (w : World) : Calls Tryd.prog 35 #[.slice A n c] w fun e w' => e = .returned (.agg #[.slice A n c]) ∧ Below w.heap.size w w' := by
  go_enter Tryd.func35, Tryd.ntmps35
  go_wp2_with fail
  exact bodyPost_ret (v := .agg #[.slice A n c]) (by simp [results, Tryd.results35, go_sem]) rfl ⟨rfl, (Below.refl _ _).alloc (Nat.le_refl _) _⟩

set_option maxRecDepth 100000 in
set_option maxHeartbeats 32000000 in
theorem awake_any (w : World) : Calls Tryd.prog 16 #[] w fun e w' => e = .returned (.bool true) ∧ Below w.heap.size w w' := by
  go_enter Tryd.func16, Tryd.ntmps16
  go_wp2_with fail
  have hl : Below w.heap.size w (((w.alloc (.cells #[.int .i64 500, .int .i64 500] 3)).alloc (.cells #[.int .i64 300, .int .i64 700] 3)).alloc (.cells #[.slice (some ⟨w.heap.size, 0, none⟩) 2 2, .slice (some ⟨w.heap.size + 1, 0, none⟩) 2 2] 31)) := lit_more (lit_more (lit_below _ _) _) _
  have hm : IntsL (((w.alloc (.cells #[.int .i64 500, .int .i64 500] 3)).alloc (.cells #[.int .i64 300, .int .i64 700] 3)).alloc (.cells #[.slice (some ⟨w.heap.size, 0, none⟩) 2 2, .slice (some ⟨w.heap.size + 1, 0, none⟩) 2 2] 31)) (.slice (some ⟨w.heap.size + 2, 0, none⟩) 2 2) [[500, 500], [300, 700]] := intsL_lit2 (row_at (by simp)) (nums_alloc (nums_alloc (lit_at [500, 500] (by simp) rfl (by decide)) _) _) (nums_alloc (lit_at [300, 700] (by simp) rfl (by decide)) _)
  refine (rows_any _ _ _ _).mono ?_
  rintro e w1 ⟨rfl, hb⟩
  replace hm := hm.below hb
  replace hb : Below w.heap.size w w1 := hl.trans (hb.mono hl.size)
  clear hl
  have BB : Below w.heap.size w w1 := hb
  clear hb
  go_wp2_with fail
  have hl : Below w1.heap.size w1 (w1.alloc (.cells #[.slice (some ⟨w.heap.size + 2, 0, none⟩) 2 2] 24)) := lit_below _ _
  have hr1 : Row (w1.alloc (.cells #[.slice (some ⟨w.heap.size + 2, 0, none⟩) 2 2] 24)) (w1.heap.size) 24 [.slice (some ⟨w.heap.size + 2, 0, none⟩) 2 2] := row_at (by simp)
  refine (mvalid_any _ [[500, 500], [300, 700]] 2 _ (hm.below hl)).mono ?_
  rintro e w2 ⟨rfl, hb⟩
  replace hr1 := hr1.keep hb
  replace hb : Below w1.heap.size w1 w2 := hl.trans (hb.mono hl.size)
  clear hl
  replace hm := hm.below hb
  replace BB : Below w.heap.size w w2 := BB.trans (hb.mono BB.size)
  clear hb
  rw [show modE [[500, 500], [300, 700]] 2 = 0 by decide +kernel]
  have q00 : w2.cell? ⟨w1.heap.size, 0, none⟩ = some (.slice (some ⟨w.heap.size + 2, 0, none⟩) 2 2) := hr1.cell 0
  have z0 := hr1.lt
  go_wp2_with fail
  clear q00 z0
  have hl : Below w2.heap.size w2 w2 := Below.refl _ _
  refine (mvalid_any _ [[500, 500], [300, 700]] 3 _ (hm.below hl)).mono ?_
  rintro e w3 ⟨rfl, hb⟩
  replace hb : Below w2.heap.size w2 w3 := hl.trans (hb.mono hl.size)
  clear hl
  replace hm := hm.below hb
  replace hr1 := hr1.keep hb
  replace BB : Below w.heap.size w w3 := BB.trans (hb.mono BB.size)
  clear hb
  rw [show modE [[500, 500], [300, 700]] 3 = 1 by decide +kernel]
  have q00 : w3.cell? ⟨w1.heap.size, 0, none⟩ = some (.slice (some ⟨w.heap.size + 2, 0, none⟩) 2 2) := hr1.cell 0
  have z0 := hr1.lt
  go_wp2_with fail
  clear q00 z0
  have hl : Below w3.heap.size w3 w3 := Below.refl _ _
  refine (mmono_any _ [[500, 500], [300, 700]] _ (hm.below hl)).mono ?_
  rintro e w4 ⟨rfl, hb⟩
  replace hb : Below w3.heap.size w3 w4 := hl.trans (hb.mono hl.size)
  clear hl
  replace hm := hm.below hb
  replace hr1 := hr1.keep hb
  replace BB : Below w.heap.size w w4 := BB.trans (hb.mono BB.size)
  clear hb
  rw [show monoB (modE [[500, 500], [300, 700]] (([[500, 500], [300, 700]] : List (List Int)).length : Int)) (catsOf [[500, 500], [300, 700]]) [[500, 500], [300, 700]] = true by decide +kernel]
  have q00 : w4.cell? ⟨w1.heap.size, 0, none⟩ = some (.slice (some ⟨w.heap.size + 2, 0, none⟩) 2 2) := hr1.cell 0
  have z0 := hr1.lt
  go_wp2_with fail
  clear q00 z0
  have hl : Below w4.heap.size w4 (((w4.alloc (.cells #[.int .i64 300, .int .i64 700] 3)).alloc (.cells #[.int .i64 500, .int .i64 500] 3)).alloc (.cells #[.slice (some ⟨w4.heap.size, 0, none⟩) 2 2, .slice (some ⟨w4.heap.size + 1, 0, none⟩) 2 2] 31)) := lit_more (lit_more (lit_below _ _) _) _
  have hx : IntsL (((w4.alloc (.cells #[.int .i64 300, .int .i64 700] 3)).alloc (.cells #[.int .i64 500, .int .i64 500] 3)).alloc (.cells #[.slice (some ⟨w4.heap.size, 0, none⟩) 2 2, .slice (some ⟨w4.heap.size + 1, 0, none⟩) 2 2] 31)) (.slice (some ⟨w4.heap.size + 2, 0, none⟩) 2 2) [[300, 700], [500, 500]] := intsL_lit2 (row_at (by simp)) (nums_alloc (nums_alloc (lit_at [300, 700] (by simp) rfl (by decide)) _) _) (nums_alloc (lit_at [500, 500] (by simp) rfl (by decide)) _)
  refine (rows_any _ _ _ _).mono ?_
  rintro e w5 ⟨rfl, hb⟩
  replace hx := hx.below hb
  replace hb : Below w4.heap.size w4 w5 := hl.trans (hb.mono hl.size)
  clear hl
  replace hm := hm.below hb
  replace hr1 := hr1.keep hb
  replace BB : Below w.heap.size w w5 := BB.trans (hb.mono BB.size)
  clear hb
  have q00 : w5.cell? ⟨w1.heap.size, 0, none⟩ = some (.slice (some ⟨w.heap.size + 2, 0, none⟩) 2 2) := hr1.cell 0
  have z0 := hr1.lt
  go_wp2_with fail
  clear q00 z0
  have hl : Below w5.heap.size w5 w5 := Below.refl _ _
  refine (mmono_any _ [[300, 700], [500, 500]] _ (hx.below hl)).mono ?_
  rintro e w6 ⟨rfl, hb⟩
  replace hb : Below w5.heap.size w5 w6 := hl.trans (hb.mono hl.size)
  clear hl
  replace hm := hm.below hb
  replace hr1 := hr1.keep hb
  replace hx := hx.below hb
  replace BB : Below w.heap.size w w6 := BB.trans (hb.mono BB.size)
  clear hb
  clear hx
  rw [show monoB (modE [[300, 700], [500, 500]] (([[300, 700], [500, 500]] : List (List Int)).length : Int)) (catsOf [[300, 700], [500, 500]]) [[300, 700], [500, 500]] = false by decide +kernel]
  have q00 : w6.cell? ⟨w1.heap.size, 0, none⟩ = some (.slice (some ⟨w.heap.size + 2, 0, none⟩) 2 2) := hr1.cell 0
  have z0 := hr1.lt
  go_wp2_with fail
  clear q00 z0
  have hl : Below w6.heap.size w6 w6 := Below.refl _ _
  refine (cats_any _ [[500, 500], [300, 700]] _ (hm.below hl)).mono ?_
  rintro e w7 ⟨rfl, hb⟩
  replace hb : Below w6.heap.size w6 w7 := hl.trans (hb.mono hl.size)
  clear hl
  replace hm := hm.below hb
  replace hr1 := hr1.keep hb
  replace BB : Below w.heap.size w w7 := BB.trans (hb.mono BB.size)
  clear hb
  rw [show ((catsOf [[500, 500], [300, 700]] : Nat) : Int) = 2 by decide +kernel]
  have q00 : w7.cell? ⟨w1.heap.size, 0, none⟩ = some (.slice (some ⟨w.heap.size + 2, 0, none⟩) 2 2) := hr1.cell 0
  have z0 := hr1.lt
  go_wp2_with fail
  clear q00 z0
  have hl : Below w7.heap.size w7 ((w7.alloc (.cells #[.int .i64 0, .int .i64 1000] 3)).alloc (.cells #[.slice (some ⟨w7.heap.size, 0, none⟩) 2 2] 31)) := lit_more (lit_below _ _) _
  have hx : IntsL ((w7.alloc (.cells #[.int .i64 0, .int .i64 1000] 3)).alloc (.cells #[.slice (some ⟨w7.heap.size, 0, none⟩) 2 2] 31)) (.slice (some ⟨w7.heap.size + 1, 0, none⟩) 1 1) [[0, 1000]] := intsL_lit1 (row_at (by simp)) (nums_alloc (lit_at [0, 1000] (by simp) rfl (by decide)) _)
  refine (rows_any _ _ _ _).mono ?_
  rintro e w8 ⟨rfl, hb⟩
  replace hx := hx.below hb
  replace hb : Below w7.heap.size w7 w8 := hl.trans (hb.mono hl.size)
  clear hl
  replace hm := hm.below hb
  replace hr1 := hr1.keep hb
  replace BB : Below w.heap.size w w8 := BB.trans (hb.mono BB.size)
  clear hb
  have q00 : w8.cell? ⟨w1.heap.size, 0, none⟩ = some (.slice (some ⟨w.heap.size + 2, 0, none⟩) 2 2) := hr1.cell 0
  have z0 := hr1.lt
  go_wp2_with fail
  clear q00 z0
  have hl : Below w8.heap.size w8 w8 := Below.refl _ _
  refine (mvalid_any _ [[0, 1000]] 1 _ (hx.below hl)).mono ?_
  rintro e w9 ⟨rfl, hb⟩
  replace hb : Below w8.heap.size w8 w9 := hl.trans (hb.mono hl.size)
  clear hl
  replace hm := hm.below hb
  replace hr1 := hr1.keep hb
  replace hx := hx.below hb
  replace BB : Below w.heap.size w w9 := BB.trans (hb.mono BB.size)
  clear hb
  clear hx
  rw [show modE [[0, 1000]] 1 = 3 by decide +kernel]
  have q00 : w9.cell? ⟨w1.heap.size, 0, none⟩ = some (.slice (some ⟨w.heap.size + 2, 0, none⟩) 2 2) := hr1.cell 0
  have z0 := hr1.lt
  go_wp2_with fail
  clear q00 z0
  have hl : Below w9.heap.size w9 ((w9.alloc (.cells #[.int .i64 500, .int .i64 501] 3)).alloc (.cells #[.slice (some ⟨w9.heap.size, 0, none⟩) 2 2] 31)) := lit_more (lit_below _ _) _
  have hx : IntsL ((w9.alloc (.cells #[.int .i64 500, .int .i64 501] 3)).alloc (.cells #[.slice (some ⟨w9.heap.size, 0, none⟩) 2 2] 31)) (.slice (some ⟨w9.heap.size + 1, 0, none⟩) 1 1) [[500, 501]] := intsL_lit1 (row_at (by simp)) (nums_alloc (lit_at [500, 501] (by simp) rfl (by decide)) _)
  refine (rows_any _ _ _ _).mono ?_
  rintro e w10 ⟨rfl, hb⟩
  replace hx := hx.below hb
  replace hb : Below w9.heap.size w9 w10 := hl.trans (hb.mono hl.size)
  clear hl
  replace hm := hm.below hb
  replace hr1 := hr1.keep hb
  replace BB : Below w.heap.size w w10 := BB.trans (hb.mono BB.size)
  clear hb
  have q00 : w10.cell? ⟨w1.heap.size, 0, none⟩ = some (.slice (some ⟨w.heap.size + 2, 0, none⟩) 2 2) := hr1.cell 0
  have z0 := hr1.lt
  go_wp2_with fail
  clear q00 z0
  have hl : Below w10.heap.size w10 w10 := Below.refl _ _
  refine (mvalid_any _ [[500, 501]] 1 _ (hx.below hl)).mono ?_
  rintro e w11 ⟨rfl, hb⟩
  replace hb : Below w10.heap.size w10 w11 := hl.trans (hb.mono hl.size)
  clear hl
  replace hm := hm.below hb
  replace hr1 := hr1.keep hb
  replace hx := hx.below hb
  replace BB : Below w.heap.size w w11 := BB.trans (hb.mono BB.size)
  clear hb
  clear hx
  rw [show modE [[500, 501]] 1 = 19 by decide +kernel]
  have q00 : w11.cell? ⟨w1.heap.size, 0, none⟩ = some (.slice (some ⟨w.heap.size + 2, 0, none⟩) 2 2) := hr1.cell 0
  have z0 := hr1.lt
  go_wp2_with fail
  clear q00 z0
  have hl : Below w11.heap.size w11 ((w11.alloc (.cells #[.int .i64 1000] 3)).alloc (.cells #[.slice (some ⟨w11.heap.size, 0, none⟩) 1 1] 31)) := lit_more (lit_below _ _) _
  have hx : IntsL ((w11.alloc (.cells #[.int .i64 1000] 3)).alloc (.cells #[.slice (some ⟨w11.heap.size, 0, none⟩) 1 1] 31)) (.slice (some ⟨w11.heap.size + 1, 0, none⟩) 1 1) [[1000]] := intsL_lit1 (row_at (by simp)) (nums_alloc (lit_at [1000] (by simp) rfl (by decide)) _)
  refine (rows_any _ _ _ _).mono ?_
  rintro e w12 ⟨rfl, hb⟩
  replace hx := hx.below hb
  replace hb : Below w11.heap.size w11 w12 := hl.trans (hb.mono hl.size)
  clear hl
  replace hm := hm.below hb
  replace hr1 := hr1.keep hb
  replace BB : Below w.heap.size w w12 := BB.trans (hb.mono BB.size)
  clear hb
  have q00 : w12.cell? ⟨w1.heap.size, 0, none⟩ = some (.slice (some ⟨w.heap.size + 2, 0, none⟩) 2 2) := hr1.cell 0
  have z0 := hr1.lt
  go_wp2_with fail
  clear q00 z0
  have hl : Below w12.heap.size w12 w12 := Below.refl _ _
  refine (mvalid_any _ [[1000]] 1 _ (hx.below hl)).mono ?_
  rintro e w13 ⟨rfl, hb⟩
  replace hb : Below w12.heap.size w12 w13 := hl.trans (hb.mono hl.size)
  clear hl
  replace hm := hm.below hb
  replace hr1 := hr1.keep hb
  replace hx := hx.below hb
  replace BB : Below w.heap.size w w13 := BB.trans (hb.mono BB.size)
  clear hb
  clear hx
  rw [show modE [[1000]] 1 = 3 by decide +kernel]
  have q00 : w13.cell? ⟨w1.heap.size, 0, none⟩ = some (.slice (some ⟨w.heap.size + 2, 0, none⟩) 2 2) := hr1.cell 0
  have z0 := hr1.lt
  go_wp2_with fail
  clear q00 z0
  have hl : Below w13.heap.size w13 ((w13.alloc (.cells #[.int .i64 250, .int .i64 750] 3)).alloc (.cells #[.slice (some ⟨w13.heap.size, 0, none⟩) 2 2] 31)) := lit_more (lit_below _ _) _
  have hx : IntsL ((w13.alloc (.cells #[.int .i64 250, .int .i64 750] 3)).alloc (.cells #[.slice (some ⟨w13.heap.size, 0, none⟩) 2 2] 31)) (.slice (some ⟨w13.heap.size + 1, 0, none⟩) 1 1) [[250, 750]] := intsL_lit1 (row_at (by simp)) (nums_alloc (lit_at [250, 750] (by simp) rfl (by decide)) _)
  refine (rows_any _ _ _ _).mono ?_
  rintro e w14 ⟨rfl, hb⟩
  replace hx := hx.below hb
  replace hb : Below w13.heap.size w13 w14 := hl.trans (hb.mono hl.size)
  clear hl
  replace hm := hm.below hb
  replace hr1 := hr1.keep hb
  replace BB : Below w.heap.size w w14 := BB.trans (hb.mono BB.size)
  clear hb
  have q00 : w14.cell? ⟨w1.heap.size, 0, none⟩ = some (.slice (some ⟨w.heap.size + 2, 0, none⟩) 2 2) := hr1.cell 0
  have z0 := hr1.lt
  go_wp2_with fail
  clear q00 z0
  have hl : Below w14.heap.size w14 w14 := Below.refl _ _
  refine (prob_ok _ [[250, 750]] 0 1 750 _ (hx.below hl) (by decide +kernel) (by decide) (by decide +kernel) rfl).mono ?_
  rintro e w15 ⟨vp, rfl, hP, hb⟩
  replace hb : Below w14.heap.size w14 w15 := hl.trans (hb.mono hl.size)
  clear hl
  replace hm := hm.below hb
  replace hr1 := hr1.keep hb
  replace hx := hx.below hb
  replace BB : Below w.heap.size w w15 := BB.trans (hb.mono BB.size)
  clear hb
  clear hx
  have hPA := hP.ratA (by decide +kernel)
  clear hP
  obtain ⟨pN, pA, pn, pc, pB, pk, pd, rfl⟩ := hPA.show_
  have q00 : w15.cell? ⟨w1.heap.size, 0, none⟩ = some (.slice (some ⟨w.heap.size + 2, 0, none⟩) 2 2) := hr1.cell 0
  have z0 := hr1.lt
  go_wp2_with fail
  clear q00 z0
  have hl : Below w15.heap.size w15 (((w15.alloc (.cells #[.bool pN, .slice pA pn pc, .slice pB pk pd] 48)).alloc (.cells #[.int .i64 250, .int .i64 750] 3)).alloc (.cells #[.slice (some ⟨w15.heap.size + 1, 0, none⟩) 2 2] 31)) := lit_more (lit_more (lit_below _ _) _) _
  have hx : IntsL (((w15.alloc (.cells #[.bool pN, .slice pA pn pc, .slice pB pk pd] 48)).alloc (.cells #[.int .i64 250, .int .i64 750] 3)).alloc (.cells #[.slice (some ⟨w15.heap.size + 1, 0, none⟩) 2 2] 31)) (.slice (some ⟨w15.heap.size + 2, 0, none⟩) 1 1) [[250, 750]] := intsL_lit1 (row_at (by simp)) (nums_alloc (lit_at [250, 750] (by simp) rfl (by decide)) _)
  have hr2 : Row (((w15.alloc (.cells #[.bool pN, .slice pA pn pc, .slice pB pk pd] 48)).alloc (.cells #[.int .i64 250, .int .i64 750] 3)).alloc (.cells #[.slice (some ⟨w15.heap.size + 1, 0, none⟩) 2 2] 31)) (w15.heap.size) 48 [.bool pN, .slice pA pn pc, .slice pB pk pd] := ((row_at (by simp)).alloc _).alloc _
  refine (rows_any _ _ _ _).mono ?_
  rintro e w16 ⟨rfl, hb⟩
  replace hx := hx.below hb
  replace hr2 := hr2.keep hb
  replace hb : Below w15.heap.size w15 w16 := hl.trans (hb.mono hl.size)
  clear hl
  replace hm := hm.below hb
  replace hr1 := hr1.keep hb
  replace hPA := hPA.below hb
  replace BB : Below w.heap.size w w16 := BB.trans (hb.mono BB.size)
  clear hb
  have q00 : w16.cell? ⟨w1.heap.size, 0, none⟩ = some (.slice (some ⟨w.heap.size + 2, 0, none⟩) 2 2) := hr1.cell 0
  have z0 := hr1.lt
  have q10 : w16.cell? ⟨w15.heap.size, 0, none⟩ = some (.bool pN) := hr2.cell 0
  have q11 : w16.cell? ⟨w15.heap.size, 1, none⟩ = some (.slice pA pn pc) := hr2.cell 1
  have q12 : w16.cell? ⟨w15.heap.size, 2, none⟩ = some (.slice pB pk pd) := hr2.cell 2
  have z1 := hr2.lt
  go_wp2_with fail
  clear q00 q10 q11 q12 z0 z1
  have hl : Below w16.heap.size w16 (w16.alloc (.cells #[.int .i64 (-1), .int .i64 1] 3)) := lit_below _ _
  refine (mexp_any _ _ [[250, 750]] 0 [-1, 1] _ (hx.below hl) (lit_at [-1, 1] (by simp) rfl (by decide)) (by decide +kernel) (by decide)).mono ?_
  rintro e w17 ⟨xN, xA, xn, xc, xB, xk, xd, rfl, hX, hb⟩
  replace hb : Below w16.heap.size w16 w17 := hl.trans (hb.mono hl.size)
  clear hl
  replace hm := hm.below hb
  replace hr1 := hr1.keep hb
  replace hPA := hPA.below hb
  replace hx := hx.below hb
  replace hr2 := hr2.keep hb
  replace BB : Below w.heap.size w w17 := BB.trans (hb.mono BB.size)
  clear hb
  clear hx
  have hXA := (hX (by decide +kernel)).ratA (by decide +kernel)
  clear hX
  rw [show expE (catsOf [[250, 750]]) [-1, 1] = 0 by decide +kernel]
  have q00 : w17.cell? ⟨w1.heap.size, 0, none⟩ = some (.slice (some ⟨w.heap.size + 2, 0, none⟩) 2 2) := hr1.cell 0
  have z0 := hr1.lt
  have q10 : w17.cell? ⟨w15.heap.size, 0, none⟩ = some (.bool pN) := hr2.cell 0
  have q11 : w17.cell? ⟨w15.heap.size, 1, none⟩ = some (.slice pA pn pc) := hr2.cell 1
  have q12 : w17.cell? ⟨w15.heap.size, 2, none⟩ = some (.slice pB pk pd) := hr2.cell 2
  have z1 := hr2.lt
  go_wp2_with fail
  clear q00 q10 q11 q12 z0 z1
  have hl : Below w17.heap.size w17 (w17.alloc (.cells #[.bool xN, .slice xA xn xc, .slice xB xk xd] 48)) := lit_below _ _
  have hr4 : Row (w17.alloc (.cells #[.bool xN, .slice xA xn xc, .slice xB xk xd] 48)) (w17.heap.size) 48 [.bool xN, .slice xA xn xc, .slice xB xk xd] := row_at (by simp)
  refine (qprint_any _ (redP 750 1000) (redQ 750 1000) 3 4 2 _ (hPA.below hl) (by decide) (by decide) (by decide +kernel) (by decide +kernel) (by decide +kernel) (by decide) (by decide) (by decide)).mono ?_
  rintro e w18 ⟨rfl, hb⟩
  replace hr4 := hr4.keep hb
  replace hb : Below w17.heap.size w17 w18 := hl.trans (hb.mono hl.size)
  clear hl
  replace hm := hm.below hb
  replace hr1 := hr1.keep hb
  replace hPA := hPA.below hb
  replace hr2 := hr2.keep hb
  replace hXA := hXA.below hb
  replace BB : Below w.heap.size w w18 := BB.trans (hb.mono BB.size)
  clear hb
  rw [show fracText 3 4 = [51, 47, 52] by decide +kernel]
  clear hPA
  have q00 : w18.cell? ⟨w1.heap.size, 0, none⟩ = some (.slice (some ⟨w.heap.size + 2, 0, none⟩) 2 2) := hr1.cell 0
  have z0 := hr1.lt
  have q10 : w18.cell? ⟨w15.heap.size, 0, none⟩ = some (.bool pN) := hr2.cell 0
  have q11 : w18.cell? ⟨w15.heap.size, 1, none⟩ = some (.slice pA pn pc) := hr2.cell 1
  have q12 : w18.cell? ⟨w15.heap.size, 2, none⟩ = some (.slice pB pk pd) := hr2.cell 2
  have z1 := hr2.lt
  have q20 : w18.cell? ⟨w17.heap.size, 0, none⟩ = some (.bool xN) := hr4.cell 0
  have q21 : w18.cell? ⟨w17.heap.size, 1, none⟩ = some (.slice xA xn xc) := hr4.cell 1
  have q22 : w18.cell? ⟨w17.heap.size, 2, none⟩ = some (.slice xB xk xd) := hr4.cell 2
  have z2 := hr4.lt
  go_wp2_with fail
  clear q00 q10 q11 q12 q20 q21 q22 z0 z1 z2
  have hl : Below w18.heap.size w18 w18 := Below.refl _ _
  refine (qprint_any _ (redP (expS ((([[250, 750]] : List (List Int))).getD 0 []) [-1, 1] (catsOf [[250, 750]])) 1000) (redQ (expS ((([[250, 750]] : List (List Int))).getD 0 []) [-1, 1] (catsOf [[250, 750]])) 1000) 1 2 2 _ (hXA.below hl) (by decide) (by decide) (by decide +kernel) (by decide +kernel) (by decide +kernel) (by decide) (by decide) (by decide)).mono ?_
  rintro e w19 ⟨rfl, hb⟩
  replace hb : Below w18.heap.size w18 w19 := hl.trans (hb.mono hl.size)
  clear hl
  replace hm := hm.below hb
  replace hr1 := hr1.keep hb
  replace hr2 := hr2.keep hb
  replace hXA := hXA.below hb
  replace hr4 := hr4.keep hb
  replace BB : Below w.heap.size w w19 := BB.trans (hb.mono BB.size)
  clear hb
  clear hXA
  rw [show fracText 1 2 = [49, 47, 50] by decide +kernel]
  clear hr2
  clear hr4
  have q00 : w19.cell? ⟨w1.heap.size, 0, none⟩ = some (.slice (some ⟨w.heap.size + 2, 0, none⟩) 2 2) := hr1.cell 0
  have z0 := hr1.lt
  go_wp2_with fail
  clear q00 z0
  have hl : Below w19.heap.size w19 (((w19.alloc (.cells #[.int .i64 (-100), .int .i64 0, .int .i64 100] 3)).alloc (.cells #[.int .i64 1, .int .i64 1, .int .i64 1] 3)).alloc (.cells #[.slice (some ⟨w19.heap.size, 0, none⟩) 3 3, .slice (some ⟨w19.heap.size + 1, 0, none⟩) 3 3] 33)) := lit_more (lit_more (lit_below _ _) _) _
  refine (ramp_any _ _ [-100, 0, 100] [1, 1, 1] 50 301 100 900 _ (nums_alloc (nums_alloc (lit_at [-100, 0, 100] (by simp) rfl (by decide)) _) _) (nums_alloc (lit_at [1, 1, 1] (by simp) rfl (by decide)) _)).mono ?_
  rintro e w20 ⟨va, rfl, hA, hb⟩
  replace hb : Below w19.heap.size w19 w20 := hl.trans (hb.mono hl.size)
  clear hl
  replace hm := hm.below hb
  replace hr1 := hr1.keep hb
  replace BB : Below w.heap.size w w20 := BB.trans (hb.mono BB.size)
  clear hb
  rw [show rampE (gridE [-100, 0, 100] [1, 1, 1]) 50 301 100 900 = 0 by decide +kernel]
  have e9 : onE (rampE (gridE [-100, 0, 100] [1, 1, 1]) 50 301 100 900) (rampL [-100, 0, 100] 50 301 100 900) = [[900, 100], [651, 349], [350, 650]] := by decide +kernel
  rw [e9] at hA
  clear e9
  obtain ⟨aA, ac, rfl⟩ := intsL_show hA (n := 3) rfl
  have q00 : w20.cell? ⟨w1.heap.size, 0, none⟩ = some (.slice (some ⟨w.heap.size + 2, 0, none⟩) 2 2) := hr1.cell 0
  have z0 := hr1.lt
  go_wp2_with fail
  clear q00 z0
  have hl : Below w20.heap.size w20 (w20.alloc (.cells #[.slice aA 3 ac] 24)) := lit_below _ _
  have hr7 : Row (w20.alloc (.cells #[.slice aA 3 ac] 24)) (w20.heap.size) 24 [.slice aA 3 ac] := row_at (by simp)
  replace hm := hm.below hl
  replace hr1 := hr1.keep hl
  replace hA := hA.below hl
  replace BB : Below w.heap.size w (w20.alloc (.cells #[.slice aA 3 ac] 24)) := BB.trans (hl.mono BB.size)
  clear hl
  generalize (w20.alloc (.cells #[.slice aA 3 ac] 24)) = w21 at *
  have q00 : w21.cell? ⟨w1.heap.size, 0, none⟩ = some (.slice (some ⟨w.heap.size + 2, 0, none⟩) 2 2) := hr1.cell 0
  have z0 := hr1.lt
  have q10 : w21.cell? ⟨w20.heap.size, 0, none⟩ = some (.slice aA 3 ac) := hr7.cell 0
  have z1 := hr7.lt
  go_cut [110] (fun s wx => s = .bool false ∧ Below w21.heap.size w21 wx)
  case first =>
    go_region_held3 (fun w' => w'.cell? ⟨w20.heap.size, 0, none⟩ = some (.slice aA 3 ac))
      ((refine keep1c z1 q10 ?_; (repeat (first | with_reducible exact Below.refl _ _ | with_reducible refine bl_call hws1 ?_ | with_reducible refine bl_call hwr1 ?_ | with_reducible refine lit_more ?_ _ | with_reducible refine bl_drew ?_)); done))
      (first | (go_at_call 35; ((with_reducible refine (rows_any _ _ _ _).mono ?_); rintro e wr1 ⟨rfl, hwr1⟩)) | (go_at_call 19; ((with_reducible refine (same_yes _ _ [[900, 100], [651, 349], [350, 650]] _ (hA.below ?h1) ?h2).mono ?_)); (case h1 => ((repeat (first | with_reducible exact Below.refl _ _ | with_reducible refine bl_call hwr1 ?_ | with_reducible refine lit_more ?_ _ | with_reducible refine bl_drew ?_)))); (case h2 => (refine IntsL.below ?_ hwr1; (try refine IntsL.drew_ ?_); refine intsL_lit3 (row_at (by simp)) (by (first | exact lit_at [900, 100] (by simp) rfl (by decide) | exact nums_alloc (lit_at [900, 100] (by simp) rfl (by decide)) _ | exact nums_alloc (nums_alloc (lit_at [900, 100] (by simp) rfl (by decide)) _) _ | exact nums_alloc (nums_alloc (nums_alloc (lit_at [900, 100] (by simp) rfl (by decide)) _) _) _)) (by (first | exact lit_at [651, 349] (by simp) rfl (by decide) | exact nums_alloc (lit_at [651, 349] (by simp) rfl (by decide)) _ | exact nums_alloc (nums_alloc (lit_at [651, 349] (by simp) rfl (by decide)) _) _ | exact nums_alloc (nums_alloc (nums_alloc (lit_at [651, 349] (by simp) rfl (by decide)) _) _) _)) (by (first | exact lit_at [350, 650] (by simp) rfl (by decide) | exact nums_alloc (lit_at [350, 650] (by simp) rfl (by decide)) _ | exact nums_alloc (nums_alloc (lit_at [350, 650] (by simp) rfl (by decide)) _) _ | exact nums_alloc (nums_alloc (nums_alloc (lit_at [350, 650] (by simp) rfl (by decide)) _) _) _)))); rintro e ws1 ⟨rfl, hws1⟩))
    all_goals go_wp2_with fail
    all_goals go_meet
    all_goals go_light
    all_goals exact ⟨rfl, by (repeat (first | with_reducible exact Below.refl _ _ | with_reducible refine bl_call hws1 ?_ | with_reducible refine bl_call hwr1 ?_ | with_reducible refine lit_more ?_ _ | with_reducible refine bl_drew ?_))⟩
  case rest =>
    obtain ⟨rfl, hbc⟩ := hcut
    clear q00 q10 z0 z1
    replace BB : Below w.heap.size w wc := BB.trans (hbc.mono BB.size)
    replace hm := hm.below hbc
    replace hr1 := hr1.keep hbc
    replace hA := hA.below hbc
    replace hr7 := hr7.keep hbc
    clear hbc
    clear hA
    clear hr7
    have q00 : wc.cell? ⟨w1.heap.size, 0, none⟩ = some (.slice (some ⟨w.heap.size + 2, 0, none⟩) 2 2) := hr1.cell 0
    have z0 := hr1.lt
    go_wp2_with fail
    clear q00 z0
    have hl : Below wc.heap.size wc ((((wc.alloc (.cells #[.int .i64 0] 3)).alloc (.cells #[.int .i64 1] 3)).alloc (.cells #[.slice (some ⟨wc.heap.size, 0, none⟩) 1 1, .slice (some ⟨wc.heap.size + 1, 0, none⟩) 1 1] 33)).alloc (.cells #[.int .i64 (-100), .int .i64 100] 3)) := lit_more (lit_more (lit_more (lit_below _ _) _) _) _
    have hp8 : Nums .i64 ((((wc.alloc (.cells #[.int .i64 0] 3)).alloc (.cells #[.int .i64 1] 3)).alloc (.cells #[.slice (some ⟨wc.heap.size, 0, none⟩) 1 1, .slice (some ⟨wc.heap.size + 1, 0, none⟩) 1 1] 33)).alloc (.cells #[.int .i64 (-100), .int .i64 100] 3)) (.slice (some ⟨wc.heap.size, 0, none⟩) 1 1) [0] := (nums_alloc (nums_alloc (nums_alloc (lit_at [0] (by simp) rfl (by decide)) _) _) _)
    have hs8 : Nums .i64 ((((wc.alloc (.cells #[.int .i64 0] 3)).alloc (.cells #[.int .i64 1] 3)).alloc (.cells #[.slice (some ⟨wc.heap.size, 0, none⟩) 1 1, .slice (some ⟨wc.heap.size + 1, 0, none⟩) 1 1] 33)).alloc (.cells #[.int .i64 (-100), .int .i64 100] 3)) (.slice (some ⟨wc.heap.size + 1, 0, none⟩) 1 1) [1] := (nums_alloc (nums_alloc (lit_at [1] (by simp) rfl (by decide)) _) _)
    have hr8 : Row ((((wc.alloc (.cells #[.int .i64 0] 3)).alloc (.cells #[.int .i64 1] 3)).alloc (.cells #[.slice (some ⟨wc.heap.size, 0, none⟩) 1 1, .slice (some ⟨wc.heap.size + 1, 0, none⟩) 1 1] 33)).alloc (.cells #[.int .i64 (-100), .int .i64 100] 3)) (wc.heap.size + 2) 33 [.slice (some ⟨wc.heap.size, 0, none⟩) 1 1, .slice (some ⟨wc.heap.size + 1, 0, none⟩) 1 1] := (row_at (by simp)).alloc _
    refine (msteps_any _ _ _ [0] [1] [-100, 100] 200 _ hp8 hs8 (lit_at [-100, 100] (by simp) rfl (by decide))).mono ?_
    rintro e w22 ⟨vb, rfl, hB, hb⟩
    replace hp8 := hp8.below hb
    replace hs8 := hs8.below hb
    replace hr8 := hr8.keep hb
    replace hb : Below wc.heap.size wc w22 := hl.trans (hb.mono hl.size)
    clear hl
    replace hm := hm.below hb
    replace hr1 := hr1.keep hb
    replace BB : Below w.heap.size w w22 := BB.trans (hb.mono BB.size)
    clear hb
    rw [show stepsE (gridE [0] [1]) [-100, 100] 200 = 0 by decide +kernel]
    have e9 : onE (stepsE (gridE [0] [1]) [-100, 100] 200) (stepsL [0] [-100, 100] 200) = [[300, 400, 300]] := by decide +kernel
    rw [e9] at hB
    clear e9
    obtain ⟨bA, bc, rfl⟩ := intsL_show hB (n := 1) rfl
    have q00 : w22.cell? ⟨w1.heap.size, 0, none⟩ = some (.slice (some ⟨w.heap.size + 2, 0, none⟩) 2 2) := hr1.cell 0
    have z0 := hr1.lt
    have q10 : w22.cell? ⟨wc.heap.size + 2, 0, none⟩ = some (.slice (some ⟨wc.heap.size, 0, none⟩) 1 1) := hr8.cell 0
    have q11 : w22.cell? ⟨wc.heap.size + 2, 1, none⟩ = some (.slice (some ⟨wc.heap.size + 1, 0, none⟩) 1 1) := hr8.cell 1
    have z1 := hr8.lt
    go_wp2_with fail
    clear q00 q10 q11 z0 z1
    have hl : Below w22.heap.size w22 ((w22.alloc (.cells #[.slice bA 1 bc] 24)).alloc (.cells #[.int .i64 (-100), .int .i64 100] 3)) := lit_more (lit_below _ _) _
    have hr9 : Row ((w22.alloc (.cells #[.slice bA 1 bc] 24)).alloc (.cells #[.int .i64 (-100), .int .i64 100] 3)) (w22.heap.size) 24 [.slice bA 1 bc] := (row_at (by simp)).alloc _
    refine (msteps_any _ _ _ [0] [1] [-100, 100] 0 _ (hp8.below hl) (hs8.below hl) (lit_at [-100, 100] (by simp) rfl (by decide))).mono ?_
    rintro e w23 ⟨vc, rfl, hC, hb⟩
    replace hr9 := hr9.keep hb
    replace hb : Below w22.heap.size w22 w23 := hl.trans (hb.mono hl.size)
    clear hl
    replace hm := hm.below hb
    replace hr1 := hr1.keep hb
    replace hp8 := hp8.below hb
    replace hs8 := hs8.below hb
    replace hr8 := hr8.keep hb
    replace hB := hB.below hb
    replace BB : Below w.heap.size w w23 := BB.trans (hb.mono BB.size)
    clear hb
    rw [show stepsE (gridE [0] [1]) [-100, 100] 0 = 0 by decide +kernel]
    have e9 : onE (stepsE (gridE [0] [1]) [-100, 100] 0) (stepsL [0] [-100, 100] 0) = [[500, 1, 499]] := by decide +kernel
    rw [e9] at hC
    clear e9
    obtain ⟨cA, cc, rfl⟩ := intsL_show hC (n := 1) rfl
    clear hp8
    clear hs8
    have q00 : w23.cell? ⟨w1.heap.size, 0, none⟩ = some (.slice (some ⟨w.heap.size + 2, 0, none⟩) 2 2) := hr1.cell 0
    have z0 := hr1.lt
    have q10 : w23.cell? ⟨wc.heap.size + 2, 0, none⟩ = some (.slice (some ⟨wc.heap.size, 0, none⟩) 1 1) := hr8.cell 0
    have q11 : w23.cell? ⟨wc.heap.size + 2, 1, none⟩ = some (.slice (some ⟨wc.heap.size + 1, 0, none⟩) 1 1) := hr8.cell 1
    have z1 := hr8.lt
    have q20 : w23.cell? ⟨w22.heap.size, 0, none⟩ = some (.slice bA 1 bc) := hr9.cell 0
    have z2 := hr9.lt
    go_wp2_with fail
    clear q00 q10 q11 q20 z0 z1 z2
    have hl : Below w23.heap.size w23 (w23.alloc (.cells #[.slice cA 1 cc] 24)) := lit_below _ _
    have hr10 : Row (w23.alloc (.cells #[.slice cA 1 cc] 24)) (w23.heap.size) 24 [.slice cA 1 cc] := row_at (by simp)
    replace hm := hm.below hl
    replace hr1 := hr1.keep hl
    replace hr8 := hr8.keep hl
    replace hB := hB.below hl
    replace hr9 := hr9.keep hl
    replace hC := hC.below hl
    replace BB : Below w.heap.size w (w23.alloc (.cells #[.slice cA 1 cc] 24)) := BB.trans (hl.mono BB.size)
    clear hl
    generalize (w23.alloc (.cells #[.slice cA 1 cc] 24)) = w24 at *
    have q00 : w24.cell? ⟨w1.heap.size, 0, none⟩ = some (.slice (some ⟨w.heap.size + 2, 0, none⟩) 2 2) := hr1.cell 0
    have z0 := hr1.lt
    have q10 : w24.cell? ⟨wc.heap.size + 2, 0, none⟩ = some (.slice (some ⟨wc.heap.size, 0, none⟩) 1 1) := hr8.cell 0
    have q11 : w24.cell? ⟨wc.heap.size + 2, 1, none⟩ = some (.slice (some ⟨wc.heap.size + 1, 0, none⟩) 1 1) := hr8.cell 1
    have z1 := hr8.lt
    have q20 : w24.cell? ⟨w22.heap.size, 0, none⟩ = some (.slice bA 1 bc) := hr9.cell 0
    have z2 := hr9.lt
    have q30 : w24.cell? ⟨w23.heap.size, 0, none⟩ = some (.slice cA 1 cc) := hr10.cell 0
    have z3 := hr10.lt
    have tok1 : True := trivial
    have tok2 : True := trivial
    go_region_held3 (fun w' => w'.cell? ⟨w22.heap.size, 0, none⟩ = some (.slice bA 1 bc) ∧ w'.cell? ⟨w23.heap.size, 0, none⟩ = some (.slice cA 1 cc))
      ((refine keep2d z2 z3 q20 q30 ?_; (repeat (first | with_reducible exact Below.refl _ _ | with_reducible refine bl_call hws3 ?_ | with_reducible refine bl_call hwr3 ?_ | with_reducible refine bl_call hws2 ?_ | with_reducible refine bl_call hwr2 ?_ | with_reducible refine lit_more ?_ _ | with_reducible refine bl_drew ?_)); done))
      (first | (go_at_call 35; have _t := tok1; ((with_reducible refine (rows_any _ _ _ _).mono ?_); rintro e wr2 ⟨rfl, hwr2⟩; clear tok1 _t)) | (go_at_call 35; have _t := tok2; ((with_reducible refine (rows_any _ _ _ _).mono ?_); rintro e wr3 ⟨rfl, hwr3⟩; clear tok2 _t)) | (go_at_call 19; ((with_reducible refine (same_yes _ _ [[300, 400, 300]] _ (hB.below ?h1) ?h2).mono ?_)); (case h1 => ((repeat (first | with_reducible exact Below.refl _ _ | with_reducible refine bl_call hws3 ?_ | with_reducible refine bl_call hwr3 ?_ | with_reducible refine bl_call hws2 ?_ | with_reducible refine bl_call hwr2 ?_ | with_reducible refine lit_more ?_ _ | with_reducible refine bl_drew ?_)))); (case h2 => (refine IntsL.below ?_ hwr2; (try refine IntsL.drew_ ?_); refine intsL_lit1 (row_at (by simp)) (by (first | exact lit_at [300, 400, 300] (by simp) rfl (by decide) | exact nums_alloc (lit_at [300, 400, 300] (by simp) rfl (by decide)) _ | exact nums_alloc (nums_alloc (lit_at [300, 400, 300] (by simp) rfl (by decide)) _) _ | exact nums_alloc (nums_alloc (nums_alloc (lit_at [300, 400, 300] (by simp) rfl (by decide)) _) _) _)))); rintro e ws2 ⟨rfl, hws2⟩) | (go_at_call 19; ((with_reducible refine (same_yes _ _ [[500, 1, 499]] _ (hC.below ?h1) ?h2).mono ?_)); (case h1 => ((repeat (first | with_reducible exact Below.refl _ _ | with_reducible refine bl_call hws3 ?_ | with_reducible refine bl_call hwr3 ?_ | with_reducible refine bl_call hws2 ?_ | with_reducible refine bl_call hwr2 ?_ | with_reducible refine lit_more ?_ _ | with_reducible refine bl_drew ?_)))); (case h2 => (refine IntsL.below ?_ hwr3; (try refine IntsL.drew_ ?_); refine intsL_lit1 (row_at (by simp)) (by (first | exact lit_at [500, 1, 499] (by simp) rfl (by decide) | exact nums_alloc (lit_at [500, 1, 499] (by simp) rfl (by decide)) _ | exact nums_alloc (nums_alloc (lit_at [500, 1, 499] (by simp) rfl (by decide)) _) _ | exact nums_alloc (nums_alloc (nums_alloc (lit_at [500, 1, 499] (by simp) rfl (by decide)) _) _) _)))); rintro e ws3 ⟨rfl, hws3⟩))
    have hb : Below w24.heap.size w24 ws3 := by (repeat (first | with_reducible exact Below.refl _ _ | with_reducible refine bl_call hws3 ?_ | with_reducible refine bl_call hwr3 ?_ | with_reducible refine bl_call hws2 ?_ | with_reducible refine bl_call hwr2 ?_ | with_reducible refine lit_more ?_ _ | with_reducible refine bl_drew ?_))
    clear q00 q10 q11 q20 q30 z0 z1 z2 z3
    replace BB : Below w.heap.size w ws3 := BB.trans (hb.mono BB.size)
    replace hm := hm.below hb
    replace hr1 := hr1.keep hb
    replace hr8 := hr8.keep hb
    replace hB := hB.below hb
    replace hr9 := hr9.keep hb
    replace hC := hC.below hb
    replace hr10 := hr10.keep hb
    clear hb
    clear hB
    clear hC
    clear hr8
    clear hr9
    clear hr10
    have q00 : ws3.cell? ⟨w1.heap.size, 0, none⟩ = some (.slice (some ⟨w.heap.size + 2, 0, none⟩) 2 2) := hr1.cell 0
    have z0 := hr1.lt
    go_wp2_with fail
    clear q00 z0
    have hl : Below ws3.heap.size ws3 ((ws3.alloc (.cells #[.int .i64 100, .int .i64 200, .int .i64 300, .int .i64 400] 3)).alloc (.cells #[.slice (some ⟨ws3.heap.size, 0, none⟩) 4 4] 31)) := lit_more (lit_below _ _) _
    have hd : IntsL ((ws3.alloc (.cells #[.int .i64 100, .int .i64 200, .int .i64 300, .int .i64 400] 3)).alloc (.cells #[.slice (some ⟨ws3.heap.size, 0, none⟩) 4 4] 31)) (.slice (some ⟨ws3.heap.size + 1, 0, none⟩) 1 1) [[100, 200, 300, 400]] := intsL_lit1 (row_at (by simp)) (nums_alloc (lit_at [100, 200, 300, 400] (by simp) rfl (by decide)) _)
    refine (rows_any _ _ _ _).mono ?_
    rintro e w25 ⟨rfl, hb⟩
    replace hd := hd.below hb
    replace hb : Below ws3.heap.size ws3 w25 := hl.trans (hb.mono hl.size)
    clear hl
    replace hm := hm.below hb
    replace hr1 := hr1.keep hb
    replace BB : Below w.heap.size w w25 := BB.trans (hb.mono BB.size)
    clear hb
    have q00 : w25.cell? ⟨w1.heap.size, 0, none⟩ = some (.slice (some ⟨w.heap.size + 2, 0, none⟩) 2 2) := hr1.cell 0
    have z0 := hr1.lt
    go_wp2_with fail
    clear q00 z0
    have hl : Below w25.heap.size w25 (w25.alloc (.cells #[.int .i64 0, .int .i64 1, .int .i64 1, .int .i64 2] 3)) := lit_below _ _
    refine (mcol_any _ _ [[100, 200, 300, 400]] [0, 1, 1, 2] _ (hd.below hl) (lit_at [0, 1, 1, 2] (by simp) rfl (by decide))).mono ?_
    rintro e w26 ⟨vd, rfl, hD, hb⟩
    replace hb : Below w25.heap.size w25 w26 := hl.trans (hb.mono hl.size)
    clear hl
    replace hm := hm.below hb
    replace hr1 := hr1.keep hb
    replace hd := hd.below hb
    replace BB : Below w.heap.size w w26 := BB.trans (hb.mono BB.size)
    clear hb
    clear hd
    rw [show colE (modE [[100, 200, 300, 400]] (([[100, 200, 300, 400]] : List (List Int)).length : Int)) (catsOf [[100, 200, 300, 400]]) [0, 1, 1, 2] = 0 by decide +kernel]
    have e9 : onE (colE (modE [[100, 200, 300, 400]] (([[100, 200, 300, 400]] : List (List Int)).length : Int)) (catsOf [[100, 200, 300, 400]]) [0, 1, 1, 2]) (colL [[100, 200, 300, 400]] [0, 1, 1, 2]) = [[100, 500, 400]] := by decide +kernel
    rw [e9] at hD
    clear e9
    obtain ⟨dA, dc, rfl⟩ := intsL_show hD (n := 1) rfl
    have q00 : w26.cell? ⟨w1.heap.size, 0, none⟩ = some (.slice (some ⟨w.heap.size + 2, 0, none⟩) 2 2) := hr1.cell 0
    have z0 := hr1.lt
    go_wp2_with fail
    clear q00 z0
    have hl : Below w26.heap.size w26 ((w26.alloc (.cells #[.slice dA 1 dc] 24)).alloc (.cells #[.int .i64 0, .int .i64 0] 3)) := lit_more (lit_below _ _) _
    have hr11 : Row ((w26.alloc (.cells #[.slice dA 1 dc] 24)).alloc (.cells #[.int .i64 0, .int .i64 0] 3)) (w26.heap.size) 24 [.slice dA 1 dc] := (row_at (by simp)).alloc _
    refine (mcol_any _ _ [[500, 500], [300, 700]] [0, 0] _ (hm.below hl) (lit_at [0, 0] (by simp) rfl (by decide))).mono ?_
    rintro e w27 ⟨vf, rfl, hF, hb⟩
    replace hr11 := hr11.keep hb
    replace hb : Below w26.heap.size w26 w27 := hl.trans (hb.mono hl.size)
    clear hl
    replace hm := hm.below hb
    replace hr1 := hr1.keep hb
    replace hD := hD.below hb
    replace BB : Below w.heap.size w w27 := BB.trans (hb.mono BB.size)
    clear hb
    rw [show colE (modE [[500, 500], [300, 700]] (([[500, 500], [300, 700]] : List (List Int)).length : Int)) (catsOf [[500, 500], [300, 700]]) [0, 0] = 19 by decide +kernel]
    clear hF
    have q00 : w27.cell? ⟨w1.heap.size, 0, none⟩ = some (.slice (some ⟨w.heap.size + 2, 0, none⟩) 2 2) := hr1.cell 0
    have z0 := hr1.lt
    have q10 : w27.cell? ⟨w26.heap.size, 0, none⟩ = some (.slice dA 1 dc) := hr11.cell 0
    have z1 := hr11.lt
    go_wp2_with fail
    go_region_held3 (fun w' => w'.cell? ⟨w26.heap.size, 0, none⟩ = some (.slice dA 1 dc))
      ((refine keep1c z1 q10 ?_; (repeat (first | with_reducible exact Below.refl _ _ | with_reducible refine bl_call hws4 ?_ | with_reducible refine bl_call hwr4 ?_ | with_reducible refine lit_more ?_ _ | with_reducible refine bl_drew ?_)); done))
      (first | (go_at_call 35; ((with_reducible refine (rows_any _ _ _ _).mono ?_); rintro e wr4 ⟨rfl, hwr4⟩)) | (go_at_call 19; ((with_reducible refine (same_yes _ _ [[100, 500, 400]] _ (hD.below ?h1) ?h2).mono ?_)); (case h1 => ((repeat (first | with_reducible exact Below.refl _ _ | with_reducible refine bl_call hws4 ?_ | with_reducible refine bl_call hwr4 ?_ | with_reducible refine lit_more ?_ _ | with_reducible refine bl_drew ?_)))); (case h2 => (refine IntsL.below ?_ hwr4; (try refine IntsL.drew_ ?_); refine intsL_lit1 (row_at (by simp)) (by (first | exact lit_at [100, 500, 400] (by simp) rfl (by decide) | exact nums_alloc (lit_at [100, 500, 400] (by simp) rfl (by decide)) _ | exact nums_alloc (nums_alloc (lit_at [100, 500, 400] (by simp) rfl (by decide)) _) _ | exact nums_alloc (nums_alloc (nums_alloc (lit_at [100, 500, 400] (by simp) rfl (by decide)) _) _) _)))); rintro e ws4 ⟨rfl, hws4⟩))
    go_wp2_with fail
    go_ret
    exact ⟨rfl, BB.trans ((by (repeat (first | with_reducible exact Below.refl _ _ | with_reducible refine bl_call hws4 ?_ | with_reducible refine bl_call hwr4 ?_ | with_reducible refine lit_more ?_ _ | with_reducible refine bl_drew ?_)) : Below w27.heap.size w27 ws4).mono BB.size)⟩
end Go.Proofs.YtokpembimalhmaaDoor
