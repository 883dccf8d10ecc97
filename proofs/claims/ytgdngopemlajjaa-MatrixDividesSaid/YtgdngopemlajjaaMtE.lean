/- The walks of cmp.Compare, union. -/
import Derived.Test.YtgdngopemlajjaaMtC
import Derived.Deep.AppendLies
import Derived.Deep.RegionHeld3
namespace Go.Proofs.Ytgdngopemlajjaa
open Go.RowKit
set_option linter.unusedVariables false

def lenV : Value → Nat | .slice _ k _ => k | _ => 0
def cmpI (x y : Int) : Int := if x < y then -1 else if y < x then 1 else 0
theorem nan_any (x : Int) (w : World) : Calls Try.prog 44 #[.int .i64 x] w fun e w' => e = .returned (.bool false) ∧ w = w' := by
  have h : (x != x) = false := by simp
  go_enter Try.func44, Try.ntmps44
  go_wp2
  go_ret
  exact ⟨rfl, rfl⟩
theorem compare_any (x y : Int) (w : World) : Calls Try.prog 43 #[.int .i64 x, .int .i64 y] w fun e w' => e = .returned (.int .i64 (cmpI x y)) ∧ w = w' := by
  rcases Int.lt_trichotomy x y with h | h | h
  · have d1 : decide (x < y) = true := decide_eq_true h
    have HR : Hid (cmpI x y = -1) := if_pos h
    clear h
    go_enter Try.func43, Try.ntmps43
    go_wp2_with (go_at_call 44; refine (nan_any _ _).mono ?_; rintro e w' ⟨rfl, rfl⟩)
    go_ret
    exact ⟨by rw [HR.out]; rfl, rfl⟩
  · have d1 : decide (x < y) = false := decide_eq_false (by omega)
    have d2 : decide (y < x) = false := decide_eq_false (by omega)
    have HR : Hid (cmpI x y = 0) := by unfold Hid cmpI; rw [if_neg (by omega), if_neg (by omega)]
    clear h
    go_enter Try.func43, Try.ntmps43
    go_wp2_with (go_at_call 44; refine (nan_any _ _).mono ?_; rintro e w' ⟨rfl, rfl⟩)
    go_ret
    exact ⟨by rw [HR.out]; rfl, rfl⟩
  · have d1 : decide (x < y) = false := decide_eq_false (by omega)
    have d2 : decide (y < x) = true := decide_eq_true (by omega)
    have HR : Hid (cmpI x y = 1) := by unfold Hid cmpI; rw [if_neg (by omega), if_pos h]
    clear h
    go_enter Try.func43, Try.ntmps43
    go_wp2_with (go_at_call 44; refine (nan_any _ _).mono ?_; rintro e w' ⟨rfl, rfl⟩)
    go_ret
    exact ⟨by rw [HR.out]; rfl, rfl⟩

/-- 's[1:]' of a slice with an element: the address under one name. -/
theorem cut1 {t e : TypeId} (ht : Try.prog.underlying t = some (.slice (Try.prog.elem t))) (hs1 : ∀ w, (sizeOf (Try.prog.elem t)).run Try.prog w = .ok 1 w) {w : World} {A : Option Addr} {n c : Nat} {xs : List Value} (h : Sl w A n xs) (hn : 0 < n) (hc : n ≤ c) :
    ∃ X, (∀ w', (Instr.sliceAt t (.slice A n c) (some (.int .i64 1)) none none).run Try.prog w' = .ok (.slice X (n - 1) (c - 1)) w') ∧ (∀ w', (Instr.slice t (.slice A n c) (some (.int .i64 1)) none none).run Try.prog w' = .ok (.slice X (n - 1) (c - 1)) w') ∧ Sl w X (n - 1) (xs.drop 1) := by
  have key : ∀ w', (Instr.slice t (.slice A n c) (some (.int .i64 1)) none none).run Try.prog w' = .ok (.slice (if c = 1 then A else A.map (·.add 1)) (n - 1) (c - 1)) w' := by
    intro w'
    rw [run_slice_l w' t A n c ht .i64 1 (by omega) (by omega), hs1]
    rfl
  refine ⟨_, fun w' => by rw [run_sliceAt_slice w' t _ _ _ _ ht]; exact key w', key, ?_⟩
  have := h.cut (k := 1) (m := n - 1) (c := c) (by omega) hc
  rwa [List.take_of_length_le (by rw [List.length_drop, h.1]; omega)] at this
set_option maxHeartbeats 4000000 in
theorem union_any (v u : Value) (A B : List Int) (w : World) (hA : Nums .i64 w v A) (hB : Nums .i64 w u B) (h8 : (A.length + B.length) * 8 ≤ 140737488351232) :
    Calls Try.prog 37 #[v, u] w fun e w' => ∃ x, e = .returned x ∧ Nums .i64 w' x (uni A B) ∧ Fresh w.heap.size x ∧ Below w.heap.size w w' := by
  have hA0 := hA
  have hB0 := hB
  obtain ⟨XA, cA, rfl, a1, a2, a3⟩ := hA
  obtain ⟨XB, cB, rfl, b1, b2, b3⟩ := hB
  obtain ⟨i0, hi0, hz0, hz1, hz2⟩ := info_parts mInfoInt
  have HI : Hid ([] ++ uni A B = uni A B) := rfl
  go_enter Try.func37, Try.ntmps37
  go_wp2
  go_loopw [0, 1, 5] (fun va vb v wr => ∃ (la lb acc : List Int) (XA XB V : Option Addr) (cA cB cv n m k : Nat), va = .slice XA n cA ∧ vb = .slice XB m cB ∧ v = .slice V k cv ∧ Hid (la.length = n ∧ lb.length = m ∧ acc.length = k) ∧ n ≤ cA ∧ cA ≤ maxLen ∧ m ≤ cB ∧ cB ≤ maxLen ∧ Sl w XA n (la.map (Value.int .i64)) ∧ Sl w XB m (lb.map (Value.int .i64)) ∧ k + n + m ≤ A.length + B.length ∧ wr.ownsRow w.heap.size 3 1 (.slice V k cv) k (acc.map (Value.int .i64)) ∧ Hid (acc ++ uni la lb = uni A B) ∧ Below w.heap.size w wr) (fun va vb _ _ => lenV va + lenV vb)
  case atStart => exact ⟨A, B, [], XA, XB, none, cA, cB, 0, _, _, 0, rfl, rfl, rfl, ⟨rfl, rfl, rfl⟩, a1, a2, b1, b2, a3, b3, by omega, World.ownsRow_nil _ _ _ _, HI, Below.refl _ _⟩
  case round =>
    clear a1 a2 a3 b1 b2 b3 hA0 hB0 HI
    obtain ⟨la, lb, acc, XA, XB, V, cA, cB, cv, n, m, k, rfl, rfl, rfl, HL, a1, a2, b1, b2, a3, b3, hsum, hown, hinv, hb⟩ := hrel
    unfold maxLen at a2 b2
    by_cases hn : 0 < n
    · by_cases hm : 0 < m
      · obtain ⟨ba, oa, rfl, hba, ca⟩ := a3.num hn
        obtain ⟨bb, ob, rfl, hbb, cb⟩ := b3.num hm
        have g1 : wr.cell? ⟨ba, oa, none⟩ = some (.int .i64 (la.getD 0 0)) := (hb.cell (p := ⟨ba, oa, none⟩) hba).trans (ca 0 hn)
        have g2 : wr.cell? ⟨bb, ob, none⟩ = some (.int .i64 (lb.getD 0 0)) := (hb.cell (p := ⟨bb, ob, none⟩) hbb).trans (cb 0 hm)
        have d1 : decide (0 < (n : Int)) = true := decide_eq_true (by omega)
        have d2 : decide (0 < (m : Int)) = true := decide_eq_true (by omega)
        obtain ⟨x, la', hla⟩ : ∃ x la', la = x :: la' := by cases la with | nil => (have := HL.out.1; simp at this; omega) | cons x l => exact ⟨x, l, rfl⟩
        obtain ⟨y, lb', hlb⟩ : ∃ y lb', lb = y :: lb' := by cases lb with | nil => (have := HL.out.2.1; simp at this; omega) | cons x l => exact ⟨x, l, rfl⟩
        subst hla hlb
        simp only [List.getD_cons_zero] at g1 g2
        have i1 : (0 : Int) < (n : Int) := by omega
        have i2 : (0 : Int) < (m : Int) := by omega
        clear ca cb
        rcases Int.lt_trichotomy x y with hxy | hxy | hxy
        · have HC : Hid (cmpI x y = -1) := if_pos hxy
          have HN : Hid ((acc ++ [x]) ++ uni la' (y :: lb') = uni A B) := by unfold Hid; rw [← hinv.out, uni_lt la' lb' hxy, List.append_assoc]; rfl
          have HL' := HL.out
          simp only [List.length_cons] at HL'
          have HLN : Hid (la'.length = n - 1 ∧ (y :: lb').length = m ∧ (acc ++ [x]).length = k + 1) := by unfold Hid; simp only [List.length_cons, List.length_append, List.length_nil]; omega
          clear HL' hinv hxy HL
          go_wp2_with fail
          go_quiet ((go_at_call 43; exact Calls.quiet_of_same ((compare_any _ _ _).mono fun _ _ h => ⟨h.1, h.2.symm⟩)))
          rw [HC.out]
          go_wp2_with fail
          have g1' : (wr.drewN nq).cell? ⟨ba, oa, none⟩ = some (.int .i64 x) := g1
          have g2' : (wr.drewN nq).cell? ⟨bb, ob, none⟩ = some (.int .i64 y) := g2
          have hown' : (wr.drewN nq).ownsRow w.heap.size 3 1 (.slice V k cv) k (acc.map (Value.int .i64)) := hown
          have hb' : Below w.heap.size w (wr.drewN nq) := below_drewN hb nq
          clear g1 g2 hown hb
          generalize wr.drewN nq = w2 at *
          obtain ⟨XA', cu1, cu2, a4⟩ := cut1 (t := 48) (e := 3) Try.underlying48 (fun _ => by kernel_rfl) a3 hn a1
          have ag : (Value.slice V k cv).ownBlock ≠ some ba := fun e => by have := (hown'.lt ba e).1; omega
          have hbs := hb'.size
          go_region_held3 (fun w' => w'.cell? ⟨ba, oa, none⟩ = some (.int .i64 x))
            (first
              | go_keep
              | (rw [hgrow.cell_far _ (by simp; omega) (Ne.symm ag)]; assumption))
            ((refine step_append_lies _ (by rfl) _ _ _ (by rfl) w.heap.size 3 i0 _ 1 8 Try.underlying48 hi0 hz0 hz1 hz2 rfl (by omega) (.slice V k cv) k _ (by rfl) ((hown'.alloc _).drew)
                ⟨w2.heap.size, 0, none⟩ 1 1 [.int .i64 x] (by rfl) (by rfl) (World.news_of_block (cs := #[.int .i64 x]) (t := 3) (fr := (0, 0)) (heap_alloc_new w2 _)) (by simp [Value.oneCell'])
                (by omega) (by unfold maxLen; omega) (by omega) (by simp; omega) (w2.heap.size + 1) (by simp) ?_; intro gg cap w1 hown1 hgrow hat hlt))
          clear cu1 cu2
          simp only [List.map_cons, List.drop_succ_cons, List.drop_zero] at a4
          go_wp2_with fail
          go_roundw
          case rel =>
            refine ⟨la', (y :: lb'), acc ++ [x], XA', some ⟨bb, ob, none⟩, some ⟨gg, 0, none⟩, cA - 1, cB, cap, n - 1, m, k + 1, rfl, rfl, rfl, HLN.out, by omega, by unfold maxLen; omega, by omega, by unfold maxLen; omega, a4, b3, by omega, ?_, HN.out, ?_⟩
            · rw [List.map_append, List.map_cons, List.map_nil]; exact hown1
            · exact ((hb'.alloc (by omega) _).drew).grown hgrow (by simp; omega) (fun j hj => (hown'.lt j hj).1)
          case measure => simp [lenV]; omega
        · have HC : Hid (cmpI x y = 0) := by unfold Hid cmpI; rw [if_neg (by omega), if_neg (by omega)]
          have HN : Hid ((acc ++ [x]) ++ uni la' lb' = uni A B) := by unfold Hid; rw [← hinv.out, uni_eq la' lb' hxy, List.append_assoc]; rfl
          have HL' := HL.out
          simp only [List.length_cons] at HL'
          have HLN : Hid (la'.length = n - 1 ∧ lb'.length = m - 1 ∧ (acc ++ [x]).length = k + 1) := by unfold Hid; simp only [List.length_cons, List.length_append, List.length_nil]; omega
          clear HL' hinv hxy HL
          go_wp2_with fail
          go_quiet ((go_at_call 43; exact Calls.quiet_of_same ((compare_any _ _ _).mono fun _ _ h => ⟨h.1, h.2.symm⟩)))
          rw [HC.out]
          go_wp2_with fail
          have g1' : (wr.drewN nq).cell? ⟨ba, oa, none⟩ = some (.int .i64 x) := g1
          have g2' : (wr.drewN nq).cell? ⟨bb, ob, none⟩ = some (.int .i64 y) := g2
          have hown' : (wr.drewN nq).ownsRow w.heap.size 3 1 (.slice V k cv) k (acc.map (Value.int .i64)) := hown
          have hb' : Below w.heap.size w (wr.drewN nq) := below_drewN hb nq
          clear g1 g2 hown hb
          generalize wr.drewN nq = w2 at *
          obtain ⟨XA', cu1, cu2, a4⟩ := cut1 (t := 48) (e := 3) Try.underlying48 (fun _ => by kernel_rfl) a3 hn a1
          obtain ⟨XB', cv1, cv2, b4⟩ := cut1 (t := 48) (e := 3) Try.underlying48 (fun _ => by kernel_rfl) b3 hm b1
          have ag : (Value.slice V k cv).ownBlock ≠ some ba := fun e => by have := (hown'.lt ba e).1; omega
          have hbs := hb'.size
          go_region_held3 (fun w' => w'.cell? ⟨ba, oa, none⟩ = some (.int .i64 x))
            (first
              | go_keep
              | (rw [hgrow.cell_far _ (by simp; omega) (Ne.symm ag)]; assumption))
            ((refine step_append_lies _ (by rfl) _ _ _ (by rfl) w.heap.size 3 i0 _ 1 8 Try.underlying48 hi0 hz0 hz1 hz2 rfl (by omega) (.slice V k cv) k _ (by rfl) ((hown'.alloc _).drew)
                ⟨w2.heap.size, 0, none⟩ 1 1 [.int .i64 x] (by rfl) (by rfl) (World.news_of_block (cs := #[.int .i64 x]) (t := 3) (fr := (0, 0)) (heap_alloc_new w2 _)) (by simp [Value.oneCell'])
                (by omega) (by unfold maxLen; omega) (by omega) (by simp; omega) (w2.heap.size + 1) (by simp) ?_; intro gg cap w1 hown1 hgrow hat hlt))
          clear cu1 cu2
          simp only [List.map_cons, List.drop_succ_cons, List.drop_zero] at a4
          clear cv1 cv2
          simp only [List.map_cons, List.drop_succ_cons, List.drop_zero] at b4
          go_wp2_with fail
          go_roundw
          case rel =>
            refine ⟨la', lb', acc ++ [x], XA', XB', some ⟨gg, 0, none⟩, cA - 1, cB - 1, cap, n - 1, m - 1, k + 1, rfl, rfl, rfl, HLN.out, by omega, by unfold maxLen; omega, by omega, by unfold maxLen; omega, a4, b4, by omega, ?_, HN.out, ?_⟩
            · rw [List.map_append, List.map_cons, List.map_nil]; exact hown1
            · exact ((hb'.alloc (by omega) _).drew).grown hgrow (by simp; omega) (fun j hj => (hown'.lt j hj).1)
          case measure => simp [lenV]; omega
        · have HC : Hid (cmpI x y = 1) := by unfold Hid cmpI; rw [if_neg (by omega), if_pos hxy]
          have HN : Hid ((acc ++ [y]) ++ uni (x :: la') lb' = uni A B) := by unfold Hid; rw [← hinv.out, uni_gt la' lb' hxy, List.append_assoc]; rfl
          have HL' := HL.out
          simp only [List.length_cons] at HL'
          have HLN : Hid ((x :: la').length = n ∧ lb'.length = m - 1 ∧ (acc ++ [y]).length = k + 1) := by unfold Hid; simp only [List.length_cons, List.length_append, List.length_nil]; omega
          clear HL' hinv hxy HL
          go_wp2_with fail
          go_quiet ((go_at_call 43; exact Calls.quiet_of_same ((compare_any _ _ _).mono fun _ _ h => ⟨h.1, h.2.symm⟩)))
          rw [HC.out]
          go_wp2_with fail
          have g1' : (wr.drewN nq).cell? ⟨ba, oa, none⟩ = some (.int .i64 x) := g1
          have g2' : (wr.drewN nq).cell? ⟨bb, ob, none⟩ = some (.int .i64 y) := g2
          have hown' : (wr.drewN nq).ownsRow w.heap.size 3 1 (.slice V k cv) k (acc.map (Value.int .i64)) := hown
          have hb' : Below w.heap.size w (wr.drewN nq) := below_drewN hb nq
          clear g1 g2 hown hb
          generalize wr.drewN nq = w2 at *
          obtain ⟨XB', cv1, cv2, b4⟩ := cut1 (t := 48) (e := 3) Try.underlying48 (fun _ => by kernel_rfl) b3 hm b1
          have ag : (Value.slice V k cv).ownBlock ≠ some bb := fun e => by have := (hown'.lt bb e).1; omega
          have hbs := hb'.size
          go_region_held3 (fun w' => w'.cell? ⟨bb, ob, none⟩ = some (.int .i64 y))
            (first
              | go_keep
              | (rw [hgrow.cell_far _ (by simp; omega) (Ne.symm ag)]; assumption))
            ((refine step_append_lies _ (by rfl) _ _ _ (by rfl) w.heap.size 3 i0 _ 1 8 Try.underlying48 hi0 hz0 hz1 hz2 rfl (by omega) (.slice V k cv) k _ (by rfl) ((hown'.alloc _).drew)
                ⟨w2.heap.size, 0, none⟩ 1 1 [.int .i64 y] (by rfl) (by rfl) (World.news_of_block (cs := #[.int .i64 y]) (t := 3) (fr := (0, 0)) (heap_alloc_new w2 _)) (by simp [Value.oneCell'])
                (by omega) (by unfold maxLen; omega) (by omega) (by simp; omega) (w2.heap.size + 1) (by simp) ?_; intro gg cap w1 hown1 hgrow hat hlt))
          clear cv1 cv2
          simp only [List.map_cons, List.drop_succ_cons, List.drop_zero] at b4
          go_wp2_with fail
          go_roundw
          case rel =>
            refine ⟨(x :: la'), lb', acc ++ [y], some ⟨ba, oa, none⟩, XB', some ⟨gg, 0, none⟩, cA, cB - 1, cap, n, m - 1, k + 1, rfl, rfl, rfl, HLN.out, by omega, by unfold maxLen; omega, by omega, by unfold maxLen; omega, a3, b4, by omega, ?_, HN.out, ?_⟩
            · rw [List.map_append, List.map_cons, List.map_nil]; exact hown1
            · exact ((hb'.alloc (by omega) _).drew).grown hgrow (by simp; omega) (fun j hj => (hown'.lt j hj).1)
          case measure => simp [lenV]; omega
      · have d1 : decide (0 < (n : Int)) = true := decide_eq_true (by omega)
        have d2 : decide (0 < (m : Int)) = false := decide_eq_false (by omega)
        obtain rfl : m = 0 := by omega
        have hl0 : lb = [] := List.eq_nil_of_length_eq_zero HL.out.2.1
        subst hl0
        have HU : Hid ((acc ++ la) ++ [] = uni A B) := by unfold Hid; rw [← hinv.out]; simp [uni_nil_right]
        clear hinv
        have sa := a3.belowN (Nat.le_refl _) hb
        have hbs := hb.size
        go_wp2_with (first
          | (at_builtin; refine wpList_append_sl wr rfl (.tmp 51) (.tmp 52) 48 rfl w.heap.size 3 (.int .i64 0) 8 Try.underlying48 mInfoInt rfl (.slice V k cv) k _ XA n cA _ rfl rfl hown sa (ints_one _ _) (by unfold maxLen; omega) (by omega) hbs ?_; intro A1 c1 w1 ho1 hb1; have sb := b3.belowN (Nat.le_refl _) (hb.trans hb1); have hbs1 := (hb.trans hb1).size)
          | (at_builtin; refine wpList_append_sl w1 rfl (.tmp 54) (.tmp 55) 48 rfl w.heap.size 3 (.int .i64 0) 8 Try.underlying48 mInfoInt rfl (.slice A1 (k + n) c1) (k + n) _ XB 0 cB _ rfl rfl ho1 sb (ints_one _ _) (by unfold maxLen; omega) (by omega) hbs1 ?_; intro A2 c2 w3 ho2 hb2))
        go_ret
        refine ⟨_, rfl, ?_, fresh_own ho2, (hb.trans hb1).trans hb2⟩
        rw [← HU.out]
        have := ho2
        rw [← List.map_append, ← List.map_append] at this
        exact Nums.of_own this
    · have d1 : decide (0 < (n : Int)) = false := decide_eq_false (by omega)
      obtain rfl : n = 0 := by omega
      have hl0 : la = [] := List.eq_nil_of_length_eq_zero HL.out.1
      subst hl0
      have HU : Hid ((acc ++ []) ++ lb = uni A B) := by unfold Hid; rw [← hinv.out]; simp [uni_nil_left]
      clear hinv
      have sa := a3.belowN (Nat.le_refl _) hb
      have hbs := hb.size
      go_wp2_with (first
        | (at_builtin; refine wpList_append_sl wr rfl (.tmp 51) (.tmp 52) 48 rfl w.heap.size 3 (.int .i64 0) 8 Try.underlying48 mInfoInt rfl (.slice V k cv) k _ XA 0 cA _ rfl rfl hown sa (ints_one _ _) (by unfold maxLen; omega) (by omega) hbs ?_; intro A1 c1 w1 ho1 hb1; have sb := b3.belowN (Nat.le_refl _) (hb.trans hb1); have hbs1 := (hb.trans hb1).size)
        | (at_builtin; refine wpList_append_sl w1 rfl (.tmp 54) (.tmp 55) 48 rfl w.heap.size 3 (.int .i64 0) 8 Try.underlying48 mInfoInt rfl (.slice A1 (k + 0) c1) (k + 0) _ XB m cB _ rfl rfl ho1 sb (ints_one _ _) (by unfold maxLen; omega) (by omega) hbs1 ?_; intro A2 c2 w3 ho2 hb2))
      go_ret
      refine ⟨_, rfl, ?_, fresh_own ho2, (hb.trans hb1).trans hb2⟩
      rw [← HU.out]
      have := ho2
      rw [← List.map_append, ← List.map_append] at this
      exact Nums.of_own this
end Go.Proofs.Ytgdngopemlajjaa
