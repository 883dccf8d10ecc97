/- Plain facts of marginal likelihoods: they are positive, they do not depend on the order of the rows, an item left out is a missing response, a model put in multiplies. No condition. -/
import Derived.Test.YtneoglmfabilnaaTotB
namespace Go.Proofs.Ytneoglmfabilnaa
open Go.RowKit
set_option linter.unusedVariables false

theorem getD_mem {α : Type} {l : List α} {d : α} {k : Nat} (h : k < l.length) : l.getD k d ∈ l := by
  rw [List.getD_eq_getElem?_getD, List.getElem?_eq_getElem h]
  exact List.getElem_mem h
/-- Each response that counts has a positive weight. -/
def FPos (n : Nat) (ms : List (List (List Int))) (row : List Int) : Prop := ∀ i, i < row.length → 0 ≤ row.getD i 0 → ∀ q, q < n → 0 < fac ms row q i
theorem wUp_pos {n : Nat} {ms : List (List (List Int))} {row : List Int} {skip : Int} {q p0 : Nat} (h : FPos n ms row) (hq : q < n) (hp : 0 < p0) : ∀ k, k ≤ row.length → 0 < wUp ms row skip q p0 k
  | 0, _ => hp
  | k + 1, hk => by
    rw [wUp]
    have ih := wUp_pos (skip := skip) h hq hp k (by omega)
    split
    · rename_i hc
      exact Nat.mul_pos ih (h k (by omega) hc.2 q hq)
    · exact ih
theorem sumTo_ge {l : List Nat} {q : Nat} : ∀ k, q < k → l.getD q 0 ≤ sumTo l k
  | 0, h => by omega
  | k + 1, h => by
    rw [sumTo]
    rcases Nat.lt_or_ge q k with hl | hl
    · have := sumTo_ge (l := l) k hl; omega
    · obtain rfl : q = k := by omega
      omega
theorem fpos_of {ps row : List Int} {ms : List (List (List Int))} (hlen : row.length = ms.length) (hc : chkFrom (ps.length : Int) (-1) 0 ms = 0) (hr : rowOK ms row = true) : FPos ps.length ms row := by
  intro i hi h0 q hq
  have hi' : i < ms.length := by omega
  have hm : modE (ms.getD i []) (ps.length : Int) = 0 := chk_zero hc i _ (by rw [List.getD_eq_getElem?_getD, List.getElem?_eq_getElem hi']; rfl) (by omega)
  obtain ⟨_, _, h3, _, _, h6⟩ := modE_zero hm
  obtain ⟨_, hlt⟩ := rowOK_at hr hi
  have hql : q < (ms.getD i []).length := by omega
  obtain ⟨h7, h8, _⟩ := h6 _ (getD_mem (d := []) hql)
  unfold fac
  have hk : (row.getD i 0).toNat < ((ms.getD i []).getD q []).length := by omega
  have := (h8 _ (getD_mem (d := 0) hk)).1
  omega
theorem totTo_pos {ps rs : List Int} {ms : List (List (List Int))} {qs is : List Int} {cs : List (List Int)} (h : totE ps rs ms qs is cs = 0) : ∀ k, k ≤ cs.length → 0 < totTo rs ms cs k
  | 0, _ => by simp [totTo]
  | k + 1, hk => by
    obtain ⟨h1, h2, h3, h4, h5⟩ := totE_zero h
    obtain ⟨r1, r2⟩ := rows_ok (ms := ms) (qs := qs) h3 h5 (k := k) (by omega)
    have hf := fpos_of r1 h4 r2
    obtain ⟨g1, g2, g3, g4, _⟩ := gridE_zero h1
    rw [totTo]
    refine Nat.mul_pos (totTo_pos h k (by omega)) ?_
    refine Nat.lt_of_lt_of_le ?_ (sumTo_ge (q := 0) _ (by omega))
    rw [wL_get _ _ _ _ _ _ (by omega)]
    have := (g4 0 (by omega)).2.2.1
    exact wUp_pos hf g2 (by omega) _ (Nat.le_refl _)

/-! ### The order of the rows -/
def pr : List Nat → Nat
  | [] => 1
  | x :: l => x * pr l
theorem pr_append : ∀ l m : List Nat, pr (l ++ m) = pr l * pr m
  | [], m => by simp [pr]
  | x :: l, m => by rw [List.cons_append, pr, pr, pr_append l m, Nat.mul_assoc]
theorem pr_reverse : ∀ l : List Nat, pr l.reverse = pr l
  | [] => rfl
  | x :: l => by rw [List.reverse_cons, pr_append, pr_reverse l, pr, pr, pr, Nat.mul_one, Nat.mul_comm]
/-- One person's sum. -/
def rowS (rs : List Int) (ms : List (List (List Int))) (row : List Int) : Nat := sumTo (wL rs ms row (-1) rs.length) rs.length
theorem totTo_pr (rs : List Int) (ms : List (List (List Int))) (cs : List (List Int)) : ∀ k, k ≤ cs.length → totTo rs ms cs k = pr ((cs.take k).map (rowS rs ms))
  | 0, _ => by simp [totTo, pr]
  | k + 1, hk => by
    rw [totTo, totTo_pr rs ms cs k (by omega), take_snoc cs [] (show k < cs.length by omega), List.map_append, pr_append]
    simp [pr, rowS]
theorem totTo_all (rs : List Int) (ms : List (List (List Int))) (cs : List (List Int)) : totTo rs ms cs cs.length = pr (cs.map (rowS rs ms)) := by
  rw [totTo_pr rs ms cs _ (Nat.le_refl _), List.take_length]
theorem totTo_rev (rs : List Int) (ms : List (List (List Int))) (cs : List (List Int)) : totTo rs ms cs.reverse cs.reverse.length = totTo rs ms cs cs.length := by
  rw [totTo_all, totTo_all, List.map_reverse, pr_reverse]
theorem rev_get {α : Type} (l : List α) (d : α) {i : Nat} (h : i < l.length) : l.reverse.getD i d = l.getD (l.length - 1 - i) d := by
  rw [List.getD_eq_getElem?_getD, List.getD_eq_getElem?_getD, List.getElem?_reverse h]
theorem matE_rev {qs is : List Int} {cs : List (List Int)} {cats : List Int} (h : matE qs is cs cats = 0) : matE qs is cs.reverse cats = 0 := by
  obtain ⟨h1, h2, h3, h4, h5, h6, h7, h8, h9⟩ := matE_zero h
  have hl : cs.reverse.length = cs.length := List.length_reverse
  rw [matE_rest h1 h2 (by omega) h3 h4 (shp_yes (by omega) (fun i hi => by rw [rev_get cs [] (by omega)]; exact h7 _ (by omega))) h6, if_neg (by rw [catsB_yes h8]; simp), if_neg]
  rw [cellsB_yes (fun i hi => by rw [rev_get cs [] (by omega)]; exact rowB_yes (h9 _ (by omega)))]
  simp
theorem totE_mk {ps rs : List Int} {ms : List (List (List Int))} {qs is : List Int} {cs : List (List Int)} (h1 : gridE ps rs = 0) (h2 : ms.length ≤ 60) (h3 : ms.length = is.length) (h4 : chkFrom (ps.length : Int) (-1) 0 ms = 0) (h5 : matE qs is cs (catsL ms) = 0) : totE ps rs ms qs is cs = 0 := (totE_5 h1 h2 h3 h4).trans h5
theorem totE_rev {ps rs : List Int} {ms : List (List (List Int))} {qs is : List Int} {cs : List (List Int)} (h : totE ps rs ms qs is cs = 0) : totE ps rs ms qs is cs.reverse = 0 := by
  obtain ⟨h1, h2, h3, h4, h5⟩ := totE_zero h
  exact totE_mk h1 h2 h3 h4 (matE_rev h5)
theorem totV_rev {ps rs : List Int} {ms : List (List (List Int))} {qs is : List Int} {cs : List (List Int)} (h : totE ps rs ms qs is cs = 0) : totV ps rs ms qs is cs.reverse = totV ps rs ms qs is cs := by
  rw [totV_ok (totE_rev h), totV_ok h, totTo_rev]
theorem totV_pos {ps rs : List Int} {ms : List (List (List Int))} {qs is : List Int} {cs : List (List Int)} (h : totE ps rs ms qs is cs = 0) : 0 < totV ps rs ms qs is cs := by
  rw [totV_ok h]; exact totTo_pos h _ (Nat.le_refl _)

/-! ### An item that is left out -/
theorem set_get {α : Type} (l : List α) (d x : α) {k : Nat} (h : k < l.length) : (l.set k x).getD k d = x := by
  rw [List.getD_eq_getElem?_getD, List.getElem?_set_self h]; rfl
theorem set_other {α : Type} (l : List α) (d x : α) {k i : Nat} (h : i ≠ k) : (l.set k x).getD i d = l.getD i d := by
  rw [List.getD_eq_getElem?_getD, List.getD_eq_getElem?_getD, List.getElem?_set_ne (by omega)]
theorem wUp_out {ms : List (List (List Int))} {row : List Int} {s q p0 : Nat} (hs : s < row.length) : ∀ k, k ≤ row.length → wUp ms (row.set s (-1)) (-1) q p0 k = wUp ms row (s : Int) q p0 k
  | 0, _ => rfl
  | k + 1, hk => by
    rw [wUp, wUp, wUp_out hs k (by omega)]
    by_cases he : k = s
    · subst he
      rw [set_get _ _ _ hs, if_neg (by omega), if_neg (by omega)]
    · unfold fac
      rw [set_other _ _ _ he]
      by_cases h0 : 0 ≤ row.getD k 0
      · rw [if_pos ⟨by omega, h0⟩, if_pos ⟨by omega, h0⟩]
      · rw [if_neg (fun h => h0 h.2), if_neg (fun h => h0 h.2)]
theorem wL_out {rs : List Int} {ms : List (List (List Int))} {row : List Int} {s n : Nat} (hs : s < row.length) : wL rs ms (row.set s (-1)) (-1) n = wL rs ms row (s : Int) n := by
  unfold wL
  apply List.map_congr_left
  intro q _
  rw [List.length_set]
  exact wUp_out hs _ (Nat.le_refl _)
theorem rowOK_set {ms : List (List (List Int))} {row : List Int} {s : Nat} (h : rowOK ms row = true) : rowOK ms (row.set s (-1)) = true := by
  refine rowOK_yes fun i hi => ?_
  rw [List.length_set] at hi
  by_cases he : i = s
  · subst he
    rw [set_get _ _ _ hi]
    omega
  · rw [set_other _ _ _ he]
    exact rowOK_at h hi
theorem wtE_mk {ps rs row : List Int} {ms : List (List (List Int))} {skip : Int} (h1 : gridE ps rs = 0) (h2 : ms.length ≤ 60) (h3 : row.length = ms.length) (h4 : chkFrom (ps.length : Int) (-1) 0 ms = 0) (h5 : rowOK ms row = true) (h6 : -1 ≤ skip) (h7 : skip < (ms.length : Int)) : wtE ps rs row ms skip = 0 := by
  unfold wtE
  rw [if_neg (by simpa using h1), if_neg (by omega), if_neg (by omega), if_neg (by simpa using h4), if_neg (by simp [h5]), if_neg (by omega)]

/-! ### A model put in -/
/-- What the model x gives to the weight at q. -/
def facX (x : List (List Int)) (row : List Int) (i q : Nat) : Nat := if 0 ≤ row.getD i 0 then ((x.getD q []).getD (row.getD i 0).toNat 0).toNat else 1
theorem wUp_put {ms : List (List (List Int))} {x : List (List Int)} {row : List Int} {i q p0 : Nat} (hi : i < ms.length) : ∀ k, k ≤ row.length →
    wUp (ms.set i x) row (-1) q p0 k = if i < k then wUp ms row (i : Int) q p0 k * facX x row i q else wUp ms row (i : Int) q p0 k
  | 0, _ => by simp [wUp]
  | k + 1, hk => by
    have ih := wUp_put (x := x) (q := q) (p0 := p0) (row := row) hi k (by omega)
    rw [wUp, wUp, ih]
    by_cases he : k = i
    · subst he
      rw [if_neg (Nat.lt_irrefl k), if_pos (Nat.lt_succ_self k), if_neg (c := (k : Int) ≠ (k : Int) ∧ 0 ≤ row.getD k 0) (fun h => h.1 rfl)]
      unfold facX fac
      rw [set_get _ _ _ hi]
      by_cases h0 : 0 ≤ row.getD k 0
      · rw [if_pos ⟨by omega, h0⟩, if_pos h0]
      · rw [if_neg (fun h => h0 h.2), if_neg h0, Nat.mul_one]
    · have hf : fac (ms.set i x) row q k = fac ms row q k := by unfold fac; rw [set_other _ _ _ he]
      rw [hf]
      by_cases h0 : 0 ≤ row.getD k 0
      · rw [if_pos (c := (k : Int) ≠ -1 ∧ _) ⟨by omega, h0⟩, if_pos (c := (k : Int) ≠ (i : Int) ∧ _) ⟨by omega, h0⟩]
        by_cases hik : i < k
        · rw [if_pos hik, if_pos (by omega)]
          rw [Nat.mul_assoc, Nat.mul_comm (facX x row i q), ← Nat.mul_assoc]
        · rw [if_neg hik, if_neg (by omega)]
      · rw [if_neg (c := (k : Int) ≠ -1 ∧ _) (fun h => h0 h.2), if_neg (c := (k : Int) ≠ (i : Int) ∧ _) (fun h => h0 h.2)]
        by_cases hik : i < k
        · rw [if_pos hik, if_pos (by omega)]
        · rw [if_neg hik, if_neg (by omega)]
/-- One person's sum with the model x for the item i. -/
def sumX (w : List Nat) (x : List (List Int)) (row : List Int) (i : Nat) : Nat → Nat
  | 0 => 0
  | j + 1 => sumX w x row i j + w.getD j 0 * facX x row i j
theorem sumX_row {rs : List Int} {ms : List (List (List Int))} {x : List (List Int)} {row : List Int} {i : Nat} (hi : i < ms.length) (hl : row.length = ms.length) : ∀ k, k ≤ rs.length →
    sumX (wL rs ms row (i : Int) rs.length) x row i k = sumTo (wL rs (ms.set i x) row (-1) rs.length) k
  | 0, _ => rfl
  | k + 1, hk => by
    rw [sumX, sumTo, sumX_row hi hl k (by omega), wL_get _ _ _ _ _ _ (by omega), wL_get _ _ _ _ _ _ (by omega), wUp_put hi _ (Nat.le_refl _), if_pos (by omega)]
end Go.Proofs.Ytneoglmfabilnaa
