/- Plain facts on dividing a matrix by its persons. -/
import Derived.Test.YtgdngopemlajjaaMtS
namespace Go.Proofs.Ytgdngopemlajjaa
open Go.RowKit
set_option linter.unusedVariables false

theorem getD_take {α : Type} (l : List α) (d : α) {k i : Nat} (h : i < k) : (l.take k).getD i d = l.getD i d := by
  rw [List.getD_eq_getElem?_getD, List.getD_eq_getElem?_getD, List.getElem?_take_of_lt h]
theorem getD_drop {α : Type} (l : List α) (d : α) (k i : Nat) : (l.drop k).getD i d = l.getD (k + i) d := by
  rw [List.getD_eq_getElem?_getD, List.getD_eq_getElem?_getD, List.getElem?_drop]
theorem ris_take {l : List Int} (h : ris l = true) (k : Nat) : ris (l.take k) = true := by
  obtain ⟨a, b⟩ := (ris_iff l).1 h
  exact (ris_iff _).2 ⟨a.sublist (List.take_sublist k l), fun n hn => b n (List.mem_of_mem_take hn)⟩
theorem ris_drop {l : List Int} (h : ris l = true) (k : Nat) : ris (l.drop k) = true := by
  obtain ⟨a, b⟩ := (ris_iff l).1 h
  exact (ris_iff _).2 ⟨a.sublist (List.drop_sublist k l), fun n hn => b n (List.mem_of_mem_drop hn)⟩
theorem uni_app : ∀ (a b : List Int), (∀ x ∈ a, ∀ y ∈ b, x < y) → uni a b = a ++ b
  | [], b, _ => by rw [uni_nil_left]; rfl
  | x :: a, [], _ => by rw [uni_nil_right]; simp
  | x :: a, y :: b, h => by
    rw [uni_lt _ _ (h x (by simp) y (by simp)), uni_app a (y :: b) fun u hu v hv => h u (by simp [hu]) v hv]
    rfl
theorem cut_lt {l : List Int} (h : ris l = true) (k : Nat) : ∀ x ∈ l.take k, ∀ y ∈ l.drop k, x < y := by
  intro x hx y hy
  obtain ⟨i, hi, e⟩ := mem_getD 0 hx
  obtain ⟨j, hj, e2⟩ := mem_getD 0 hy
  simp only [List.length_take] at hi
  simp only [List.length_drop] at hj
  rw [getD_take _ _ (by omega)] at e
  rw [getD_drop] at e2
  rw [← e, ← e2]
  exact ris_lt h (k + j) (by omega) i (by omega)
theorem uni_cut {l : List Int} (h : ris l = true) (k : Nat) : uni (l.take k) (l.drop k) = l := by
  rw [uni_app _ _ (cut_lt h k), List.take_append_drop]
section
variable {ps is : List Int} {cs : List (List Int)}
theorem div_E1 (h : fitB ps is cs = true) (k : Nat) : selE ps is cs (ps.take k) is = 0 := by
  obtain ⟨b, c, a⟩ := fitB_iff.1 h
  rw [selE_3 a (idxE_0 (ris_take b k) (inAll_of_mem fun n hn => List.mem_of_mem_take hn))]
  exact idxE_0 c (inAll_refl _)
theorem div_E2 (h : fitB ps is cs = true) (k : Nat) : selE ps is cs (ps.drop k) is = 0 := by
  obtain ⟨b, c, a⟩ := fitB_iff.1 h
  rw [selE_3 a (idxE_0 (ris_drop b k) (inAll_of_mem fun n hn => List.mem_of_mem_drop hn))]
  exact idxE_0 c (inAll_refl _)
theorem div_C1 (h : fitB ps is cs = true) {k : Nat} (hk : k ≤ ps.length) : selC ps is cs (ps.take k) is = cs.take k := by
  obtain ⟨b, c, a⟩ := fitB_iff.1 h
  obtain ⟨a1, a2⟩ := shp_at a
  have hl : (ps.take k).length = k := by simp; omega
  refine ext2 (by rw [selC_len, hl]; simp; omega) (fun i hi => ?_) fun i hi j hj => ?_
  · rw [selC_len, hl] at hi
    rw [selC_get (by rw [hl]; exact hi), List.length_map, getD_take _ _ hi, a2 i (by omega)]
  · rw [selC_len, hl] at hi
    rw [selC_get (by rw [hl]; exact hi), List.length_map] at hj
    rw [selC_get2 (by rw [hl]; exact hi) hj, getD_take _ _ hi, getD_take _ _ hi, at_ris b (by omega), at_ris c hj]
theorem div_C2 (h : fitB ps is cs = true) {k : Nat} (hk : k ≤ ps.length) : selC ps is cs (ps.drop k) is = cs.drop k := by
  obtain ⟨b, c, a⟩ := fitB_iff.1 h
  obtain ⟨a1, a2⟩ := shp_at a
  have hl : (ps.drop k).length = ps.length - k := by simp
  refine ext2 (by rw [selC_len, hl]; simp; omega) (fun i hi => ?_) fun i hi j hj => ?_
  · rw [selC_len, hl] at hi
    rw [selC_get (by rw [hl]; exact hi), List.length_map, getD_drop, a2 (k + i) (by omega)]
  · rw [selC_len, hl] at hi
    rw [selC_get (by rw [hl]; exact hi), List.length_map] at hj
    rw [selC_get2 (by rw [hl]; exact hi) hj, getD_drop, getD_drop, at_ris b (by omega), at_ris c hj]
theorem fit_take (h : fitB ps is cs = true) {k : Nat} (hk : k ≤ ps.length) : fitB (ps.take k) is (cs.take k) = true := by
  have := sel_fit (div_E1 h k); rwa [div_C1 h hk] at this
theorem fit_drop (h : fitB ps is cs = true) {k : Nat} (hk : k ≤ ps.length) : fitB (ps.drop k) is (cs.drop k) = true := by
  have := sel_fit (div_E2 h k); rwa [div_C2 h hk] at this
theorem div_mE (h : fitB ps is cs = true) {k : Nat} (hk : k ≤ ps.length) (h1 : ps.length ≤ 200) (h2 : is.length ≤ 60) : merE (ps.take k) is (cs.take k) (ps.drop k) is (cs.drop k) = 0 := by
  obtain ⟨b1, c1, a1⟩ := fitB_iff.1 (fit_take h hk)
  obtain ⟨b2, c2, a2⟩ := fitB_iff.1 (fit_drop h hk)
  obtain ⟨b, c, a⟩ := fitB_iff.1 h
  have hc : conf (ps.take k) is (cs.take k) (ps.drop k) is (cs.drop k) = false := by
    refine conf_no fun p hp i hi y hy => ?_
    have hn : fidx (ps.drop k) ((ps.take k).getD p 0) = none := by
      rw [fidx_none]
      intro hm
      exact absurd (cut_lt b k _ (getD_mem _ 0 hp) _ hm) (by omega)
    rw [show mcell (ps.drop k) is (cs.drop k) ((ps.take k).getD p 0) (is.getD i 0) = none by unfold mcell; rw [hn]] at hy
    cases hy
  rw [merE_3 a1 a2 (by rw [b1, c1]; rfl) (by rw [b2, c2]; rfl), if_neg (by rw [hc]; simp), uni_cut b, uni_self, if_neg (by omega)]
theorem div_mC (h : fitB ps is cs = true) {k : Nat} (hk : k ≤ ps.length) : merC (ps.take k) is (cs.take k) (ps.drop k) is (cs.drop k) = cs := by
  obtain ⟨b1, c1, a1⟩ := fitB_iff.1 (fit_take h hk)
  obtain ⟨b2, c2, a2⟩ := fitB_iff.1 (fit_drop h hk)
  obtain ⟨b, c, a⟩ := fitB_iff.1 h
  obtain ⟨s1, s2⟩ := shp_at a
  have hu := uni_cut b k
  have hl : (merC (ps.take k) is (cs.take k) (ps.drop k) is (cs.drop k)).length = ps.length := by rw [merC_len, hu]
  refine ext2 (by rw [hl, s1]) (fun i hi => ?_) fun i hi j hj => ?_
  · rw [hl] at hi
    rw [merC_row (by rw [hu]; exact hi), uni_self, s2 i (by omega)]
  · rw [hl] at hi
    rw [merC_row (by rw [hu]; exact hi), uni_self] at hj
    rw [merC_get2 (by rw [hu]; exact hi) (by rw [uni_self]; exact hj), hu, uni_self]
    by_cases hik : i < k
    · have e : ps.getD i 0 = (ps.take k).getD i 0 := (getD_take _ _ hik).symm
      rw [e, mer1_left (mcell_ris b1 c1 (by simp; omega) hj), getD_take _ _ hik]
    · have hn : fidx (ps.take k) (ps.getD i 0) = none := by
        rw [fidx_none]
        intro hm
        have hd : ps.getD i 0 ∈ ps.drop k := by
          have := getD_mem (ps.drop k) 0 (i := i - k) (by simp; omega)
          rwa [getD_drop, show k + (i - k) = i by omega] at this
        exact absurd (cut_lt b k _ hm _ hd) (by omega)
      have hm : mcell (ps.take k) is (cs.take k) (ps.getD i 0) (is.getD j 0) = none := by unfold mcell; rw [hn]
      have e : ps.getD i 0 = (ps.drop k).getD (i - k) 0 := by rw [getD_drop, show k + (i - k) = i by omega]
      rw [mer1_none hm, e, mcell_ris b2 c2 (by simp; omega) hj, getD_drop, show k + (i - k) = i by omega]
      rfl
theorem div_V {cats : List Int} (h : matE ps is cs cats = 0) {k : Nat} (hk : k ≤ ps.length) : fitB ps is cs = true ∧ ps.length ≤ 200 ∧ is.length ≤ 60 ∧ matE (ps.take k) is (cs.take k) cats = 0 := by
  have h0 := h
  unfold matE at h
  split at h
  · omega
  split at h
  · omega
  split at h
  · omega
  split at h
  · omega
  split at h
  · omega
  rename_i h1 h2 h3 h4 h5
  simp only [not_or, Bool.not_eq_false] at h1 h2 h3 h4 h5
  have hf : fitB ps is cs = true := fitB_iff.2 ⟨h2.1, h2.2, h3.1⟩
  obtain ⟨b1, c1, a1⟩ := fitB_iff.1 (fit_take hf hk)
  refine ⟨hf, by omega, by omega, ?_⟩
  have hcell : cellsB cats (cs.take k) = true := by
    unfold cellsB at h5
    have H := of_decide_eq_true h5
    refine cellsB_yes fun i hi => ?_
    simp only [List.length_take] at hi
    rw [getD_take _ _ (by omega)]
    exact H i (by omega)
  have hlen : cats.length = is.length := by have := h3.2; omega
  rw [matE_rest (by simp; omega) (by omega) (by omega) b1 c1 a1 hlen, if_neg (by rw [h4]; simp), if_neg (by rw [hcell]; simp)]
end
end Go.Proofs.Ytgdngopemlajjaa
