/- Plain facts on selecting twice. -/
import Derived.Test.YtgdngopemlajjaaMtR
namespace Go.Proofs.Ytgdngopemlajjaa
open Go.RowKit
set_option linter.unusedVariables false

theorem at_ris {l : List Int} (h : ris l = true) {i : Nat} (hi : i < l.length) : at_ l (l.getD i 0) = i := by unfold at_; rw [fidx_ris h hi]; rfl
section
variable {ps is : List Int} {cs : List (List Int)} {P I : List Int}
theorem inAll_refl (l : List Int) : inAll l l = true := inAll_of_mem fun _ h => h
theorem selE_self_iff : selE ps is cs ps is = 0 ↔ fitB ps is cs = true := by
  constructor
  · intro h
    obtain ⟨a, b, _, c, _⟩ := selE_zero h
    exact fitB_iff.2 ⟨b, c, a⟩
  · intro h
    obtain ⟨b, c, a⟩ := fitB_iff.1 h
    rw [selE_3 a (idxE_0 b (inAll_refl _))]
    exact idxE_0 c (inAll_refl _)
theorem selC_self (h : fitB ps is cs = true) : selC ps is cs ps is = cs := by
  obtain ⟨b, c, a⟩ := fitB_iff.1 h
  obtain ⟨a1, a2⟩ := shp_at a
  refine ext2 (by rw [selC_len, a1]) (fun i hi => ?_) fun i hi j hj => ?_
  · rw [selC_len] at hi
    rw [selC_get hi, List.length_map, a2 i (by omega)]
  · rw [selC_len] at hi
    rw [selC_get hi, List.length_map] at hj
    rw [selC_get2 hi hj, at_ris b hi, at_ris c hj]
theorem sel_fit (h : selE ps is cs P I = 0) : fitB P I (selC ps is cs P I) = true := by
  obtain ⟨a, b, _, c, _⟩ := selE_zero h
  refine fitB_iff.2 ⟨b, c, shp_yes selC_len fun i hi => ?_⟩
  rw [selC_len] at hi
  rw [selC_get hi, List.length_map]
theorem fit_col (h : fitB ps is cs = true) {i : Nat} (hi : i < is.length) : colOK is cs (i : Int) = true := by
  obtain ⟨b, c, a⟩ := fitB_iff.1 h
  obtain ⟨a1, a2⟩ := shp_at a
  exact colOK_yes (by omega) (by omega) fun k hk => by rw [a2 k hk]; omega
theorem one_E (h : fitB ps is cs = true) {i : Nat} (hi : i < is.length) : selE ps is cs ps [is.getD i 0] = 0 := by
  obtain ⟨b, c, a⟩ := fitB_iff.1 h
  rw [selE_3 a (idxE_0 b (inAll_refl _))]
  refine idxE_0 (ris_of (fun j hj => ?_) fun j hj q hq => ?_) (inAll_of_mem fun n hn => ?_)
  · simp only [List.length_cons, List.length_nil] at hj
    obtain rfl : j = 0 := by omega
    exact ris_pos c i hi
  · simp only [List.length_cons, List.length_nil] at hj; omega
  · simp only [List.mem_cons, List.not_mem_nil, or_false] at hn
    rw [hn]; exact getD_mem _ _ hi
theorem one_C (h : fitB ps is cs = true) {i : Nat} (hi : i < is.length) : colL (selC ps is cs ps [is.getD i 0]) 0 = colL cs (i : Int) := by
  obtain ⟨b, c, a⟩ := fitB_iff.1 h
  obtain ⟨a1, a2⟩ := shp_at a
  refine ext_getD 0 (by rw [colL_len, colL_len, selC_len, a1]) fun k hk => ?_
  rw [colL_len, selC_len] at hk
  rw [colL_get _ _ (by rw [selC_len]; exact hk), colL_get _ _ (by omega)]
  have := selC_get2 (ps := ps) (is := is) (cs := cs) (I := [is.getD i 0]) (P := ps) (k := k) (j := 0) hk (by simp)
  rw [show (0 : Int).toNat = 0 from rfl, this, at_ris b hk, Int.toNat_natCast]
  show (cs.getD k []).getD (at_ is ([is.getD i 0].getD 0 0)) 0 = _
  rw [show [is.getD i 0].getD 0 0 = is.getD i 0 from rfl, at_ris c hi]
theorem one_ok {n : Int} : colOK [n] (selC ps is cs P [n]) 0 = true :=
  colOK_yes (by omega) (by simp) fun k hk => by rw [selC_len] at hk; rw [selC_get hk]; simp
end
end Go.Proofs.Ytgdngopemlajjaa
