/- Plain facts on merged and selected matrices. -/
import Derived.Test.YtgdngopemlajjaaMtG
import Derived.Test.YtgdngopemlajjaaMtI
namespace Go.Proofs.Ytgdngopemlajjaa
open Go.RowKit
set_option linter.unusedVariables false

def fitB (ps is : List Int) (cs : List (List Int)) : Bool := ris ps && ris is && shp ps is cs
theorem fitB_iff {ps is : List Int} {cs : List (List Int)} : fitB ps is cs = true ↔ ris ps = true ∧ ris is = true ∧ shp ps is cs = true := by
  unfold fitB; simp only [Bool.and_eq_true, and_assoc]
theorem ext2 {l m : List (List Int)} (hl : l.length = m.length) (hr : ∀ i, i < l.length → (l.getD i []).length = (m.getD i []).length) (h : ∀ i, i < l.length → ∀ j, j < (l.getD i []).length → (l.getD i []).getD j 0 = (m.getD i []).getD j 0) : l = m :=
  ext_getD [] hl fun i hi => ext_getD 0 (hr i hi) fun j hj => h i hi j hj
section
variable {pa ia : List Int} {ca : List (List Int)} {pb ib : List Int} {cb : List (List Int)}
theorem conf_self (h1 : ris pa = true) (h2 : ris ia = true) : conf pa ia ca pa ia ca = false :=
  conf_no fun p hp i hi y hy => by rw [mcell_ris h1 h2 hp hi] at hy; injection hy with hy; exact hy.symm
theorem merE_self_iff : merE pa ia ca pa ia ca = 0 ↔ (fitB pa ia ca = true ∧ pa.length ≤ 200 ∧ ia.length ≤ 60) := by
  constructor
  · intro h
    obtain ⟨a, _, b, c, _, _, _, d, e⟩ := merE_zero h
    rw [uni_self] at d e
    exact ⟨fitB_iff.2 ⟨b, c, a⟩, d, e⟩
  · rintro ⟨h, d, e⟩
    obtain ⟨b, c, a⟩ := fitB_iff.1 h
    rw [merE_3 a a (by rw [b, c]; rfl) (by rw [b, c]; rfl), if_neg (by rw [conf_self b c]; simp), if_neg (by rw [uni_self, uni_self]; omega)]
theorem mer1_left {p i x : Int} (h : mcell pa ia ca p i = some x) : mer1 pa ia ca pb ib cb p i = x := by unfold mer1; rw [h]
theorem mer1_none {p i : Int} (h : mcell pa ia ca p i = none) : mer1 pa ia ca pb ib cb p i = (mcell pb ib cb p i).getD (-1) := by unfold mer1; rw [h]
theorem merC_get2 {k j : Nat} (h : k < (uni pa pb).length) (hj : j < (uni ia ib).length) : ((merC pa ia ca pb ib cb).getD k []).getD j 0 = mer1 pa ia ca pb ib cb ((uni pa pb).getD k 0) ((uni ia ib).getD j 0) := by
  rw [merC_get h, getD_map _ _ 0 0 hj]
theorem merC_row {k : Nat} (h : k < (uni pa pb).length) : ((merC pa ia ca pb ib cb).getD k []).length = (uni ia ib).length := by rw [merC_get h, List.length_map]
theorem merC_self (h : fitB pa ia ca = true) : merC pa ia ca pa ia ca = ca := by
  obtain ⟨b, c, a⟩ := fitB_iff.1 h
  obtain ⟨a1, a2⟩ := shp_at a
  have hl : (merC pa ia ca pa ia ca).length = pa.length := by rw [merC_len, uni_self]
  refine ext2 (by rw [hl, a1]) (fun i hi => ?_) fun i hi j hj => ?_
  · rw [hl] at hi
    rw [merC_row (by rw [uni_self]; exact hi), uni_self, a2 i (by omega)]
  · rw [hl] at hi
    rw [merC_row (by rw [uni_self]; exact hi), uni_self] at hj
    rw [merC_get2 (by rw [uni_self]; exact hi) (by rw [uni_self]; exact hj), uni_self, uni_self, mer1_left (mcell_ris b c hi hj)]
theorem merE_comm : merE pa ia ca pb ib cb = merE pb ib cb pa ia ca := by
  unfold merE
  by_cases h1 : shp pa ia ca = false ∨ shp pb ib cb = false
  · rw [if_pos h1, if_pos h1.symm]
  have h1' : ¬ (shp pb ib cb = false ∨ shp pa ia ca = false) := fun h => h1 h.symm
  rw [if_neg h1, if_neg h1']
  by_cases h2 : ris pa = false ∨ ris ia = false ∨ ris pb = false ∨ ris ib = false
  · have h2' : ris pb = false ∨ ris ib = false ∨ ris pa = false ∨ ris ia = false := by rcases h2 with h | h | h | h <;> simp [h]
    rw [if_pos h2, if_pos h2']
  have h2' : ¬ (ris pb = false ∨ ris ib = false ∨ ris pa = false ∨ ris ia = false) := fun h => h2 (by rcases h with h | h | h | h <;> simp [h])
  rw [if_neg h2, if_neg h2']
  simp only [not_or, Bool.not_eq_false] at h2
  rw [conf_comm h2.1 h2.2.1 h2.2.2.1 h2.2.2.2, uni_comm pa pb, uni_comm ia ib]
theorem mer1_comm (h : conf pa ia ca pb ib cb = false) (p i : Int) : mer1 pa ia ca pb ib cb p i = mer1 pb ib cb pa ia ca p i := by
  unfold mer1
  cases ha : mcell pa ia ca p i with
  | some x =>
    cases hb : mcell pb ib cb p i with
    | some y => exact conf_same h ha hb
    | none => rfl
  | none =>
    cases hb : mcell pb ib cb p i with
    | some y => rfl
    | none => rfl
theorem merC_comm (h : conf pa ia ca pb ib cb = false) : merC pa ia ca pb ib cb = merC pb ib cb pa ia ca := by
  unfold merC
  rw [uni_comm pa pb, uni_comm ia ib]
  apply List.map_congr_left
  intro p _
  apply List.map_congr_left
  intro i _
  exact mer1_comm h p i
theorem shp_merC : shp (uni pa pb) (uni ia ib) (merC pa ia ca pb ib cb) = true :=
  shp_yes merC_len fun i hi => by rw [merC_len] at hi; exact merC_row hi
theorem sel_left (h : merE pa ia ca pb ib cb = 0) : selE (uni pa pb) (uni ia ib) (merC pa ia ca pb ib cb) pa ia = 0 ∧ selC (uni pa pb) (uni ia ib) (merC pa ia ca pb ib cb) pa ia = ca := by
  obtain ⟨s1, s2, r1, r2, r3, r4, hc, hl1, hl2⟩ := merE_zero h
  have i1 : inAll pa (uni pa pb) = true := inAll_of_mem fun n hn => (mem_uni n pa pb).2 (.inl hn)
  have i2 : inAll ia (uni ia ib) = true := inAll_of_mem fun n hn => (mem_uni n ia ib).2 (.inl hn)
  refine ⟨by rw [selE_3 shp_merC (idxE_0 r1 i1)]; exact idxE_0 r2 i2, ?_⟩
  obtain ⟨a1, a2⟩ := shp_at s1
  refine ext2 (by rw [selC_len, a1]) (fun i hi => ?_) fun i hi j hj => ?_
  · rw [selC_len] at hi
    rw [selC_get hi, List.length_map, a2 i (by omega)]
  · rw [selC_len] at hi
    rw [selC_get hi, List.length_map] at hj
    obtain ⟨t1, t2⟩ := at_lt i1 hi
    obtain ⟨t3, t4⟩ := at_lt i2 hj
    rw [selC_get2 hi hj, merC_get2 t1 t3, t2, t4, mer1_left (mcell_ris r1 r2 hi hj)]
end
end Go.Proofs.Ytgdngopemlajjaa
