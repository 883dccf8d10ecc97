/- The walks of Clone, Total, Column. -/
import Derived.Test.YtgdngopemlajjaaMtA
namespace Go.Proofs.Ytgdngopemlajjaa
open Go.RowKit
set_option linter.unusedVariables false

theorem own_empty (w : World) (e : Nat) : (w.alloc (.cells #[] e)).ownsRow w.heap.size e 1 (.slice (some ⟨w.heap.size, 0, none⟩) 0 0) 0 [] :=
  own_zero w (.int .i64 0) e 0 (by unfold maxLen; omega)
theorem Sl.alloc {w : World} {A : Option Addr} {n : Nat} {xs : List Value} (h : Sl w A n xs) (o : Obj) : Sl (w.alloc o) A n xs := h.below ((Below.refl _ _).alloc (Nat.le_refl _) _)
theorem ints_one (k : IntKind) (l : List Int) : ∀ u ∈ l.map (Value.int k), u.oneCell' = true := by
  intro u hu
  obtain ⟨z, _, rfl⟩ := List.mem_map.1 hu
  rfl

set_option maxHeartbeats 1000000 in
theorem clone_any (v : Value) (l : List Int) (w : World) (h : Nums .i64 w v l) (hl8 : l.length * 8 ≤ 140737488351232) :
    Calls Try.prog 31 #[v] w fun e w' => ∃ A' c', e = .returned (.slice A' l.length c') ∧ w'.ownsRow w.heap.size 3 1 (.slice A' l.length c') l.length (l.map (Value.int .i64)) ∧ Below w.heap.size w w' := by
  obtain ⟨A, c, rfl, hc, hm, hs⟩ := h
  unfold maxLen at hm
  obtain ⟨n, hn⟩ : ∃ n, l.length = n := ⟨_, rfl⟩
  have HN := Lib.hid hn
  rw [hn] at hs hc hl8 ⊢
  clear hn
  cases A with
  | none =>
    have h0 : n = 0 := by
      rcases Nat.eq_zero_or_pos n with h0 | h0
      · exact h0
      · obtain ⟨b, o, h, _⟩ := hs.2 h0; cases h
    subst h0
    have hl0 : l = [] := List.eq_nil_of_length_eq_zero HN.out
    subst hl0
    have q := fun (w : World) => Lib.run_eql_slice_nil (P := Try.prog) w 22 3 none 0 c 0 0 Try.underlying22
    go_enter Try.func31, Try.ntmps31
    go_wp2
    go_ret
    exact ⟨none, 0, rfl, World.ownsRow_nil _ _ _ _, Below.refl _ _⟩
  | some ad =>
    have q := fun (w : World) => Lib.run_eql_slice_nil (P := Try.prog) w 22 3 (some ad) n c 0 0 Try.underlying22
    have hown := own_empty w 3
    have hs' := hs.alloc (.cells #[] 3)
    go_enter Try.func31, Try.ntmps31
    go_wp2_with (at_builtin; refine wpList_append_sl _ rfl (.tmp 5) (.tmp 6) 22 rfl w.heap.size 3 (.int .i64 0) 8 Try.underlying22 mInfoInt rfl _ 0 [] (some ad) n c _ rfl rfl hown hs' (ints_one _ _) (by unfold maxLen; omega) (by omega) (by simp) ?_; intro A' c3 w3 hown3 hb4)
    go_ret
    simp only [Nat.zero_add, List.nil_append] at hown3 ⊢
    exact ⟨A', c3, rfl, hown3, ((Below.refl _ _).alloc (Nat.le_refl _) _).trans hb4⟩

theorem totF_bd (l : List Int) : 0 ≤ (totF l 0 0).2 ∧ (totF l 0 0).2 ≤ l.length := by
  have key : ∀ (l : List Int) (s n : Int), n ≤ (totF l s n).2 ∧ (totF l s n).2 ≤ n + l.length := by
    intro l
    induction l with
    | nil => intro s n; simp [totF]
    | cons x l ih =>
      intro s n
      unfold totF
      simp only [List.length_cons]
      split
      · have := ih (wrap64 (s + if 1000000 < x then 1000000 else x)) (n + 1); omega
      · have := ih s n; omega
  have := key l 0 0
  omega
set_option maxHeartbeats 1000000 in
theorem mtotal_any (v : Value) (l : List Int) (w : World) (h : Nums .i64 w v l) :
    Calls Try.prog 20 #[v] w fun e w' => e = .returned (.tuple #[.int .i64 (totF l 0 0).1, .int .i64 (totF l 0 0).2]) ∧ w = w' := by
  obtain ⟨A, c, rfl, hc, hm, hs⟩ := h
  unfold maxLen at hm
  obtain ⟨n, hn⟩ : ∃ n, l.length = n := ⟨_, rfl⟩
  have HN := Lib.hid hn
  rw [hn] at hs hc ⊢
  clear hn
  go_enter Try.func20, Try.ntmps20
  go_wp2
  go_loop [4, 5, 10] (fun s t i => ∃ k : Nat, k ≤ n ∧ i = .int .i64 (k : Int) ∧ s = .int .i64 (totF (l.take k) 0 0).1 ∧ t = .int .i64 (totF (l.take k) 0 0).2) (fun _ _ i => n - (intOf i).toNat)
  case atStart => exact ⟨0, by omega, rfl, rfl, rfl⟩
  case round =>
    obtain ⟨k, hk, rfl, rfl, rfl⟩ := hrel
    by_cases hlt : k < n
    · obtain ⟨b, o, rfl, hb, hcell⟩ := hs.num hlt
      have g1 := hcell k hlt
      have HT := Lib.hid (take_succ_getD l 0 (show k < l.length by rw [HN.out]; exact hlt))
      have HB := totF_bd (l.take k)
      rw [List.length_take] at HB
      clear hcell
      generalize hz : l.getD k 0 = z at g1 HT
      clear hz
      have HS : Hid (totF (l.take (k + 1)) 0 0 = if 0 ≤ z then (wrap64 ((totF (l.take k) 0 0).1 + if 1000000 < z then 1000000 else z), (totF (l.take k) 0 0).2 + 1) else totF (l.take k) 0 0) := by
        unfold Hid; rw [HT.out]; exact totF_snoc _ _ _ _
      generalize totF (l.take k) 0 0 = T at *
      obtain ⟨T1, T2⟩ := T
      simp only at HB HS ⊢
      by_cases he : 0 ≤ z
      · have hne : decide (0 ≤ z) = true := by simpa using he
        rw [if_pos he] at HS
        go_wp2
        go_round
        case rel => exact ⟨k + 1, by omega, by go_num, by rw [HS.out], by rw [HS.out]⟩
        case measure => simp [intOf]; omega
      · have hne : decide (0 ≤ z) = false := by simpa using he
        rw [if_neg he] at HS
        clear he
        go_wp2
        go_round
        case rel => exact ⟨k + 1, by omega, by go_num, by rw [HS.out], by rw [HS.out]⟩
        case measure => simp [intOf]; omega
    · obtain rfl : k = n := by omega
      have HW : Hid (l.take k = l) := by unfold Hid; apply List.take_of_length_le; rw [HN.out]; exact Nat.le_refl _
      rw [HW.out]
      go_wp2
      go_ret2
      exact ⟨rfl, rfl⟩

def onB {α : Type} (b : Bool) (l : List α) : List α := if b = true then l else []
theorem onB_true {α : Type} {b : Bool} (h : b = true) (l : List α) : onB b l = l := if_pos h
theorem onB_false {α : Type} {b : Bool} (h : b = false) (l : List α) : onB b l = [] := by unfold onB; rw [h]; rfl
theorem colOK_no {is : List Int} {cs : List (List Int)} {i : Int} (h : i < 0 ∨ (is.length : Int) ≤ i) : colOK is cs i = false := by
  unfold colOK; simp only [decide_eq_false_iff_not]; omega
theorem colOK_row {is : List Int} {cs : List (List Int)} {i : Int} {k : Nat} (hk : k < cs.length) (h : ((cs.getD k []).length : Int) ≤ i) : colOK is cs i = false := by
  unfold colOK; simp only [decide_eq_false_iff_not]; intro ⟨_, _, H⟩; have := H k hk; omega
theorem colOK_yes {is : List Int} {cs : List (List Int)} {i : Int} (h0 : 0 ≤ i) (h1 : i < (is.length : Int)) (h : ∀ k, k < cs.length → i < ((cs.getD k []).length : Int)) : colOK is cs i = true := by
  unfold colOK; exact decide_eq_true ⟨h0, h1, h⟩
theorem colL_len (cs : List (List Int)) (i : Int) : (colL cs i).length = cs.length := by simp [colL]
theorem colL_get (cs : List (List Int)) (i : Int) {k : Nat} (h : k < cs.length) : (colL cs i).getD k 0 = (cs.getD k []).getD i.toNat 0 := by
  unfold colL; rw [getD_map cs _ [] 0 h]
set_option maxHeartbeats 2000000 in
theorem column_any (pv iv cv : Value) (ps is : List Int) (cs : List (List Int)) (i : Int) (w : World) (hp : Nums .i64 w pv ps) (hi : Nums .i64 w iv is) (hcs : IntsL w cv cs) (h8 : cs.length * 8 ≤ 140737488351232) :
    Calls Try.prog 23 #[.agg #[pv, iv, cv], .int .i64 i] w fun e w' => ∃ v, e = .returned (.tuple #[v, .bool (colOK is cs i)]) ∧ Nums .i64 w' v (onB (colOK is cs i) (colL cs i)) ∧ Below w.heap.size w w' := by
  obtain ⟨X, cX, rfl, x1, x2, x3⟩ := hp
  obtain ⟨Y, cY, rfl, y1, y2, y3⟩ := hi
  obtain ⟨Z, cZ, us, rfl, z1, z2, hs, hu⟩ := hcs
  have HU := Lib.hid hu
  unfold maxLen at x2 y2 z2
  clear x3 y3 hu
  obtain ⟨n, hn⟩ : ∃ n, cs.length = n := ⟨_, rfl⟩
  have HN := Lib.hid hn
  rw [hn] at hs z1 h8 ⊢
  clear hn
  obtain ⟨m, hm⟩ : ∃ m, is.length = m := ⟨_, rfl⟩
  have HM := Lib.hid hm
  rw [hm] at y1 ⊢
  clear hm
  generalize ps.length = np at *
  have hbox : Below w.heap.size w (w.alloc (.cells #[.slice X np cX, .slice Y m cY, .slice Z n cZ] 25)) := (Below.refl _ _).alloc (Nat.le_refl _) _
  have hrb := Row.new w 25 [.slice X np cX, .slice Y m cY, .slice Z n cZ]
  by_cases c1 : i < 0
  · have d1 : decide (i < 0) = true := by simpa using c1
    have HR := Lib.hid (colOK_no (is := is) (cs := cs) (.inl c1))
    go_enter Try.func23, Try.ntmps23
    go_wp2
    go_ret2
    exact ⟨_, by rw [HR.out]; rfl, by rw [onB_false HR.out]; exact Nums.nil _ _, hbox⟩
  have d1 : decide (i < 0) = false := by simpa using c1
  by_cases c2 : (m : Int) ≤ i
  · have d2 : decide ((m : Int) ≤ i) = true := by simpa using c2
    have HR := Lib.hid (colOK_no (is := is) (cs := cs) (i := i) (.inr (by rw [HM.out]; exact c2)))
    go_enter Try.func23, Try.ntmps23
    go_wp2
    go_ret2
    exact ⟨_, by rw [HR.out]; rfl, by rw [onB_false HR.out]; exact Nums.nil _ _, hbox⟩
  have d2 : decide ((m : Int) ≤ i) = false := by simpa using c2
  obtain ⟨j, rfl⟩ := Int.eq_ofNat_of_zero_le (show 0 ≤ i by omega)
  have hmk := run_mk0 (P := Try.prog) Try.underlying22 mInfoInt rfl n (by omega) (by omega)
  go_enter Try.func23, Try.ntmps23
  go_wp2
  clear hmk
  go_loopw [6, 25] (fun v i wr => ∃ (k : Nat) (V : Option Addr) (cv : Nat), k ≤ n ∧ i = .int .i64 (k : Int) ∧ v = .slice V k cv ∧ wr.ownsRow (w.heap.size + 1) 3 1 (.slice V k cv) k (((colL cs (j : Int)).take k).map (Value.int .i64)) ∧ Hid (∀ q, q < k → (j : Int) < ((cs.getD q []).length : Int)) ∧ Row wr w.heap.size 25 [.slice X np cX, .slice Y m cY, .slice Z n cZ] ∧ Below w.heap.size w wr) (fun _ i _ => n - (intOf i).toNat)
  case atStart =>
    refine ⟨0, _, n, by omega, rfl, rfl, ?_, fun q hq => by omega, hrb.alloc _, hbox.alloc (by simp) _⟩
    have := own_zero (w.alloc (.cells #[.slice X np cX, .slice Y m cY, .slice Z n cZ] 25)) (.int .i64 0) 3 n (by unfold maxLen; omega)
    simpa using this
  case round =>
    obtain ⟨k, V, cv, hk, rfl, rfl, hown, hinv, hrow, hb⟩ := hrel
    by_cases hlt : k < n
    · obtain ⟨b1, o1, u1, rfl, hb1, g1, hI⟩ := lst_at hs HU.out hlt
      have hkl : Hid (k < cs.length) := by unfold Hid; rw [HN.out]; exact hlt
      have g2 : wr.cell? ⟨b1, o1 + k, none⟩ = some u1 := (hb.cell (p := ⟨b1, o1 + k, none⟩) hb1).trans g1
      clear g1
      obtain ⟨R, cR, rfl, r1, r2, r3⟩ := hI
      unfold maxLen at r2
      have HT := Lib.hid (take_succ_getD (colL cs (j : Int)) 0 (show k < (colL cs (j : Int)).length by rw [colL_len]; exact hkl.out))
      have HG := Lib.hid (colL_get cs (j : Int) hkl.out)
      rw [Int.toNat_natCast] at HG
      by_cases c3 : ((cs.getD k []).length : Int) ≤ (j : Int)
      · have HR := Lib.hid (colOK_row (is := is) hkl.out c3)
        have d3 : decide ((cs.getD k []).length ≤ j) = true := decide_eq_true (by omega)
        generalize cs.getD k [] = rows at *
        go_wp2
        go_ret2
        exact ⟨_, by rw [HR.out]; rfl, by rw [onB_false HR.out]; exact Nums.nil _ _, hb⟩
      · have HI := Lib.hid (all_snoc (p := fun q => (j : Int) < ((cs.getD q []).length : Int)) hinv.out (show (j : Int) < ((cs.getD k []).length : Int) by omega))
        have d3 : decide ((cs.getD k []).length ≤ j) = false := decide_eq_false (by omega)
        generalize cs.getD k [] = rows at *
        have hj : j < rows.length := by omega
        obtain ⟨b3, o3, rfl, hb3, hcell⟩ := r3.num hj
        have g3 : wr.cell? ⟨b3, o3 + j, none⟩ = some (.int .i64 (rows.getD j 0)) := (hb.cell (p := ⟨b3, o3 + j, none⟩) hb3).trans (hcell j hj)
        clear hcell c3 hinv
        generalize rows.getD j 0 = z at *
        have zb : w.heap.size + 1 ≤ wr.heap.size := by have := hrow.lt; omega
        go_wp2_with (at_builtin; refine wpList_append_one wr rfl (.tmp 33) (.tmp 38) 22 rfl (w.heap.size + 1) 3 (.int .i64 0) 8 Try.underlying22 mInfoInt rfl (.slice V k cv) k _ (.int .i64 z) rfl rfl hown rfl (by unfold maxLen; omega) (by omega) zb ?_; intro A' c4 w3 hown3 hb4)
        go_roundw
        case rel =>
          refine ⟨k + 1, A', c4, by omega, by go_num, rfl, ?_, HI.out, hrow.below hb4 (by omega), hb.trans (hb4.mono (by omega))⟩
          rw [HT.out, HG.out, List.map_append, List.map_cons, List.map_nil]
          exact hown3
        case measure => simp [intOf]; omega
    · obtain rfl : k = n := by omega
      have HR := Lib.hid (colOK_yes (is := is) (cs := cs) (i := (j : Int)) (by omega) (by rw [HM.out]; omega) (by rw [HN.out]; exact hinv.out))
      have HW : Hid ((colL cs (j : Int)).take k = colL cs (j : Int)) := by unfold Hid; apply List.take_of_length_le; rw [colL_len, HN.out]; exact Nat.le_refl _
      rw [HW.out] at hown
      clear hinv
      go_wp2_with fail
      go_ret2
      exact ⟨_, by rw [HR.out]; rfl, by rw [onB_true HR.out]; exact Nums.of_own hown, hb⟩
end Go.Proofs.Ytgdngopemlajjaa
