/- Plain facts of sweeps. No condition. -/
import Derived.Test.YtneoglmfabilnaaChoP
namespace Go.Proofs.Ytneoglmfabilnaa
open Go.RowKit
set_option linter.unusedVariables false

abbrev Mod := List (List Int)
/-- The error of the first family that violates a rule. -/
def famsE (pn : Int) : List (List Mod) → Int
  | [] => 0
  | f :: l => if famE pn f = 0 then famsE pn l else famE pn f
theorem famsE_ok {pn : Int} {l : List (List Mod)} {k : Nat} (hk : k < l.length) (h : famE pn (l.getD k []) = 0) : famsE pn (l.drop k) = famsE pn (l.drop (k + 1)) := by
  rw [drop_cons l [] hk, famsE, if_pos h]
theorem famsE_bad {pn : Int} {l : List (List Mod)} {k : Nat} (hk : k < l.length) (h : famE pn (l.getD k []) ≠ 0) : famsE pn (l.drop k) = famE pn (l.getD k []) := by
  rw [drop_cons l [] hk, famsE, if_neg h]
theorem famsE_end {pn : Int} {l : List (List Mod)} {k : Nat} (hk : l.length ≤ k) : famsE pn (l.drop k) = 0 := by rw [List.drop_eq_nil_of_le hk, famsE]
theorem famsE_zero {pn : Int} : ∀ {l : List (List Mod)}, famsE pn l = 0 → ∀ k, k < l.length → famE pn (l.getD k []) = 0
  | [], _, k, hk => by simp at hk
  | f :: l, h, k, hk => by
    rw [famsE] at h
    split at h
    · rename_i h0
      cases k with
      | zero => exact h0
      | succ k => exact famsE_zero h k (by simpa using hk)
    · rename_i h0; exact absurd h h0
/-- The numbers of categories of the families. -/
def catsF (fs : List (List Mod)) : List Int := fs.map fun f => ((catsOf (f.getD 0 []) : Nat) : Int)
theorem catsF_len (fs : List (List Mod)) : (catsF fs).length = fs.length := by simp [catsF]
theorem catsF_get (fs : List (List Mod)) {k : Nat} (h : k < fs.length) : (catsF fs).getD k 0 = ((catsOf ((fs.getD k []).getD 0 []) : Nat) : Int) := by
  unfold catsF
  rw [List.getD_eq_getElem?_getD, List.getElem?_map, List.getD_eq_getElem?_getD (l := fs), List.getElem?_eq_getElem h]
  rfl
def longF (fs : List (List Mod)) : Bool := decide (∀ i, i < fs.length → (fs.getD i []).length ≤ 24)
/-- Each number of the choice is an index of its family. -/
def chOK (fs : List (List Mod)) (ch : List Int) : Bool := decide (∀ i, i < ch.length → 0 ≤ ch.getD i 0 ∧ ch.getD i 0 < ((fs.getD i []).length : Int))
/-- The first rule that the arguments of Sweep violate. -/
def swE (ps rs qs is : List Int) (cs : List (List Int)) (fs : List (List Mod)) (ch : List Int) : Int :=
  if gridE ps rs ≠ 0 then gridE ps rs else if 60 < fs.length then 5 else if longF fs = false then 5 else if fs.length ≠ is.length ∨ ch.length ≠ is.length then 1 else
    if famsE (ps.length : Int) fs ≠ 0 then famsE (ps.length : Int) fs else if matE qs is cs (catsF fs) ≠ 0 then matE qs is cs (catsF fs) else if chOK fs ch = false then 3 else 0
section
variable {ps rs qs is : List Int} {cs : List (List Int)} {fs : List (List Mod)} {ch : List Int}
theorem swE_1 (h : gridE ps rs ≠ 0) : swE ps rs qs is cs fs ch = gridE ps rs := if_pos h
theorem swE_2 (h : gridE ps rs = 0) (h2 : 60 < fs.length) : swE ps rs qs is cs fs ch = 5 := by unfold swE; rw [if_neg (by simpa using h), if_pos h2]
theorem swE_3 (h : gridE ps rs = 0) (h2 : fs.length ≤ 60) {k : Nat} (hk : k < fs.length) (h3 : 24 < (fs.getD k []).length) : swE ps rs qs is cs fs ch = 5 := by
  unfold swE; rw [if_neg (by simpa using h), if_neg (by omega), if_pos (show longF fs = false from dec_no hk (by omega))]
theorem longF_yes (h : ∀ i, i < fs.length → (fs.getD i []).length ≤ 24) : longF fs = true := decide_eq_true h
theorem swE_4 (h : gridE ps rs = 0) (h2 : fs.length ≤ 60) (h3 : longF fs = true) (h4 : fs.length ≠ is.length ∨ ch.length ≠ is.length) : swE ps rs qs is cs fs ch = 1 := by
  unfold swE; rw [if_neg (by simpa using h), if_neg (by omega), if_neg (by simp [h3]), if_pos h4]
theorem swE_5 (h : gridE ps rs = 0) (h2 : fs.length ≤ 60) (h3 : longF fs = true) (h4 : fs.length = is.length) (h4' : ch.length = is.length) (h5 : famsE (ps.length : Int) fs ≠ 0) : swE ps rs qs is cs fs ch = famsE (ps.length : Int) fs := by
  unfold swE; rw [if_neg (by simpa using h), if_neg (by omega), if_neg (by simp [h3]), if_neg (by omega), if_pos h5]
theorem swE_6 (h : gridE ps rs = 0) (h2 : fs.length ≤ 60) (h3 : longF fs = true) (h4 : fs.length = is.length) (h4' : ch.length = is.length) (h5 : famsE (ps.length : Int) fs = 0) (h6 : matE qs is cs (catsF fs) ≠ 0) : swE ps rs qs is cs fs ch = matE qs is cs (catsF fs) := by
  unfold swE; rw [if_neg (by simpa using h), if_neg (by omega), if_neg (by simp [h3]), if_neg (by omega), if_neg (by simpa using h5), if_pos h6]
theorem swE_7 (h : gridE ps rs = 0) (h2 : fs.length ≤ 60) (h3 : longF fs = true) (h4 : fs.length = is.length) (h4' : ch.length = is.length) (h5 : famsE (ps.length : Int) fs = 0) (h6 : matE qs is cs (catsF fs) = 0) : swE ps rs qs is cs fs ch = if chOK fs ch = false then 3 else 0 := by
  unfold swE; rw [if_neg (by simpa using h), if_neg (by omega), if_neg (by simp [h3]), if_neg (by omega), if_neg (by simpa using h5), if_neg (by simpa using h6)]
theorem swE_zero (h : swE ps rs qs is cs fs ch = 0) : gridE ps rs = 0 ∧ fs.length ≤ 60 ∧ (∀ i, i < fs.length → (fs.getD i []).length ≤ 24) ∧ fs.length = is.length ∧ ch.length = is.length ∧ famsE (ps.length : Int) fs = 0 ∧ matE qs is cs (catsF fs) = 0 ∧ ∀ i, i < ch.length → 0 ≤ ch.getD i 0 ∧ ch.getD i 0 < ((fs.getD i []).length : Int) := by
  unfold swE at h
  split at h
  · rename_i h1; exact absurd h h1
  split at h
  · omega
  split at h
  · omega
  split at h
  · omega
  split at h
  · rename_i h1; exact absurd h h1
  split at h
  · rename_i h1; exact absurd h h1
  split at h
  · omega
  rename_i h1 h2 h3 h4 h5 h6 h7
  refine ⟨by omega, by omega, ?_, by omega, by omega, by omega, by omega, ?_⟩
  · unfold longF at h3; simpa using h3
  · unfold chOK at h7; simpa using h7
/-- Another choice of the same families. -/
theorem swE_other {ch' : List Int} (h : swE ps rs qs is cs fs ch = 0) (hl : ch'.length = ch.length) (h' : ∀ i, i < ch'.length → 0 ≤ ch'.getD i 0 ∧ ch'.getD i 0 < ((fs.getD i []).length : Int)) : swE ps rs qs is cs fs ch' = 0 := by
  obtain ⟨h1, h2, h3, h4, h5, h6, h7, _⟩ := swE_zero h
  rw [swE_7 h1 h2 (longF_yes h3) h4 (by omega) h6 h7, if_neg]
  unfold chOK
  rw [decide_eq_true h']
  simp
end

/-- The models of a choice. -/
def msOf (fs : List (List Mod)) (ch : List Int) : List Mod := (List.range fs.length).map fun i => (fs.getD i []).getD (ch.getD i 0).toNat []
theorem msOf_len (fs : List (List Mod)) (ch : List Int) : (msOf fs ch).length = fs.length := by simp [msOf]
theorem msOf_get (fs : List (List Mod)) (ch : List Int) {k : Nat} (h : k < fs.length) : (msOf fs ch).getD k [] = (fs.getD k []).getD (ch.getD k 0).toNat [] := by
  unfold msOf
  rw [List.getD_eq_getElem?_getD, List.getElem?_map, List.getElem?_range h]
  rfl
theorem getD_ext {α : Type} {l m : List α} (d : α) (hl : l.length = m.length) (h : ∀ i, i < l.length → l.getD i d = m.getD i d) : l = m := by
  apply List.ext_getElem hl
  intro i h1 h2
  have := h i h1
  rw [List.getD_eq_getElem?_getD, List.getD_eq_getElem?_getD, List.getElem?_eq_getElem h1, List.getElem?_eq_getElem h2] at this
  simpa using this
theorem msOf_set (fs : List (List Mod)) (ch : List Int) {k b : Nat} (hk : k < fs.length) (hc : ch.length = fs.length) : msOf fs (ch.set k (b : Int)) = (msOf fs ch).set k ((fs.getD k []).getD b []) := by
  refine getD_ext [] (by rw [List.length_set, msOf_len, msOf_len]) fun i hi => ?_
  rw [msOf_len] at hi
  rw [msOf_get _ _ hi]
  by_cases he : i = k
  · subst he
    rw [set_get _ _ _ (by omega), set_get _ _ _ (by rw [msOf_len]; exact hi), Int.toNat_natCast]
  · rw [set_other _ _ _ he, set_other _ _ _ he, msOf_get _ _ hi]
theorem msOf_self (fs : List (List Mod)) (ch : List Int) {k : Nat} (hk : k < fs.length) : (msOf fs ch).set k ((fs.getD k []).getD (ch.getD k 0).toNat []) = msOf fs ch := by
  refine getD_ext [] (by rw [List.length_set]) fun i hi => ?_
  rw [List.length_set, msOf_len] at hi
  by_cases he : i = k
  · subst he
    rw [set_get _ _ _ (by rw [msOf_len]; exact hi), msOf_get _ _ hi]
  · rw [set_other _ _ _ he]

/-- The likelihoods at item k. -/
def swL (rs : List Int) (cs : List (List Int)) (fs : List (List Mod)) (nx : List Int) (k : Nat) : List Nat := likeL rs (msOf fs nx) cs k (fs.getD k [])
/-- The choice after the first k items. -/
def swTo (rs : List Int) (cs : List (List Int)) (fs : List (List Mod)) (ch : List Int) : Nat → List Int
  | 0 => ch
  | k + 1 =>
    if (swL rs cs fs (swTo rs cs fs ch k) k).getD ((swTo rs cs fs ch k).getD k 0).toNat 0 < (swL rs cs fs (swTo rs cs fs ch k) k).getD (grTo (swL rs cs fs (swTo rs cs fs ch k) k) (fs.getD k []).length) 0
    then (swTo rs cs fs ch k).set k ((grTo (swL rs cs fs (swTo rs cs fs ch k) k) (fs.getD k []).length : Nat) : Int) else swTo rs cs fs ch k
/-- The choice after a sweep. -/
def swp (rs : List Int) (cs : List (List Int)) (fs : List (List Mod)) (ch : List Int) : List Int := swTo rs cs fs ch fs.length
section
variable {ps rs qs is : List Int} {cs : List (List Int)} {fs : List (List Mod)} {ch : List Int}
theorem swTo_len : ∀ k, (swTo rs cs fs ch k).length = ch.length
  | 0 => rfl
  | k + 1 => by
    rw [swTo]
    split
    · rw [List.length_set]; exact swTo_len k
    · exact swTo_len k
theorem swTo_ok (hf : ∀ i, i < fs.length → 0 < (fs.getD i []).length) (hl : ch.length = fs.length) (h : ∀ i, i < ch.length → 0 ≤ ch.getD i 0 ∧ ch.getD i 0 < ((fs.getD i []).length : Int)) : ∀ k, k ≤ fs.length → ∀ i, i < ch.length → 0 ≤ (swTo rs cs fs ch k).getD i 0 ∧ (swTo rs cs fs ch k).getD i 0 < ((fs.getD i []).length : Int)
  | 0, _, i, hi => h i hi
  | k + 1, hk, i, hi => by
    have ih := swTo_ok hf hl h k (by omega) i hi
    rw [swTo]
    split
    · by_cases he : i = k
      · subst he
        rw [set_get _ _ _ (by rw [swTo_len]; exact hi)]
        have := grTo_lt (swL rs cs fs (swTo rs cs fs ch i) i) (fs.getD i []).length
        have := hf i (by omega)
        omega
      · rw [set_other _ _ _ he]; exact ih
    · exact ih
theorem swE_fams (h : swE ps rs qs is cs fs ch = 0) {k : Nat} (hk : k < fs.length) : famE (ps.length : Int) (fs.getD k []) = 0 ∧ 0 < (fs.getD k []).length := by
  obtain ⟨_, _, _, _, _, h6, _, _⟩ := swE_zero h
  have := famsE_zero h6 k hk
  exact ⟨this, (famE_zero this).1⟩
theorem swTo_E (h : swE ps rs qs is cs fs ch = 0) {k : Nat} (hk : k ≤ fs.length) : swE ps rs qs is cs fs (swTo rs cs fs ch k) = 0 := by
  obtain ⟨h1, h2, h3, h4, h5, h6, h7, h8⟩ := swE_zero h
  exact swE_other h (swTo_len k) (by rw [swTo_len]; exact swTo_ok (fun i hi => (swE_fams h hi).2) (by omega) h8 k hk)
theorem swp_E (h : swE ps rs qs is cs fs ch = 0) : swE ps rs qs is cs fs (swp rs cs fs ch) = 0 := swTo_E h (Nat.le_refl _)
/-- The models of a choice are valid, and have the families' categories. -/
theorem ms_mod (h : swE ps rs qs is cs fs ch = 0) {k : Nat} (hk : k < fs.length) : modE ((msOf fs ch).getD k []) (ps.length : Int) = 0 ∧ catsOf ((msOf fs ch).getD k []) = catsOf ((fs.getD k []).getD 0 []) := by
  obtain ⟨h1, h2, h3, h4, h5, h6, h7, h8⟩ := swE_zero h
  obtain ⟨f1, f2, f3⟩ := famE_zero (swE_fams h hk).1
  have := h8 k (by omega)
  rw [msOf_get _ _ hk]
  exact ⟨chk_zero f2 _ _ (getD_some (by omega)) (by omega), f3 _ (by omega)⟩
theorem ms_chk (h : swE ps rs qs is cs fs ch = 0) (skip : Int) : chkFrom (ps.length : Int) skip 0 (msOf fs ch) = 0 := by
  refine chk_mk fun j m hm _ => ?_
  have hj : j < fs.length := by
    rcases Nat.lt_or_ge j (msOf fs ch).length with h1 | h1
    · rwa [msOf_len] at h1
    · rw [List.getElem?_eq_none h1] at hm; cases hm
  have := (ms_mod h hj).1
  rw [List.getD_eq_getElem?_getD, hm] at this
  exact this
theorem ms_cats (h : swE ps rs qs is cs fs ch = 0) : catsL (msOf fs ch) = catsF fs := by
  refine getD_ext 0 (by rw [catsL_len, msOf_len, catsF_len]) fun i hi => ?_
  rw [catsL_len, msOf_len] at hi
  rw [catsL_get _ (by rw [msOf_len]; exact hi), catsF_get _ hi, (ms_mod h hi).2]
theorem ms_tot (h : swE ps rs qs is cs fs ch = 0) : totE ps rs (msOf fs ch) qs is cs = 0 := by
  obtain ⟨h1, h2, h3, h4, h5, h6, h7, h8⟩ := swE_zero h
  exact totE_mk h1 (by rw [msOf_len]; exact h2) (by rw [msOf_len]; exact h4) (ms_chk h _) (by rw [ms_cats h]; exact h7)
theorem ms_catsAt (h : swE ps rs qs is cs fs ch = 0) {k : Nat} (hk : k < fs.length) : catsAt (msOf fs ch) (k : Int) (fs.getD k []) = catsF fs := by
  unfold catsAt
  rw [if_pos ⟨by omega, by rw [msOf_len]; omega⟩, Int.toNat_natCast, ms_cats h]
  refine getD_ext 0 (by rw [List.length_set]) fun i hi => ?_
  rw [List.length_set, catsF_len] at hi
  by_cases he : i = k
  · subst he
    rw [set_get _ _ _ (by rw [catsF_len]; exact hi), catsF_get _ hi]
  · rw [set_other _ _ _ he]
theorem ms_like (h : swE ps rs qs is cs fs ch = 0) {k : Nat} (hk : k < fs.length) {j : Nat} (hj : j < cs.length) : (cs.getD j []).length = (msOf fs ch).length ∧ WOK rs.length (msOf fs ch) (cs.getD j []) (k : Int) ∧ FOK rs.length k (fs.getD k []) (cs.getD j []) := by
  obtain ⟨h1, h2, h3, h4, h5, h6, h7, h8⟩ := swE_zero h
  exact like_ok h1 (by rw [msOf_len]; exact h2) (by rw [msOf_len]; exact h4) (ms_chk h _) (swE_fams h hk).1 (by rw [msOf_len]; exact hk) (by rw [ms_catsAt h hk]; exact h7) hj
/-- No step of a sweep lowers the likelihood. -/
theorem swTo_up (h : swE ps rs qs is cs fs ch = 0) : ∀ k, k ≤ fs.length → totTo rs (msOf fs ch) cs cs.length ≤ totTo rs (msOf fs (swTo rs cs fs ch k)) cs cs.length
  | 0, _ => Nat.le_refl _
  | k + 1, hk => by
    have ih := swTo_up h k (by omega)
    have hE := swTo_E h (show k ≤ fs.length by omega)
    obtain ⟨h1, h2, h3, h4, h5, h6, h7, h8⟩ := swE_zero hE
    have hk' : k < fs.length := by omega
    have hb := h8 k (by omega)
    rw [swTo]
    split
    · rename_i hc
      have hg := grTo_lt (swL rs cs fs (swTo rs cs fs ch k) k) (fs.getD k []).length
      have hp := (swE_fams h hk').2
      rw [msOf_set _ _ hk' (by rw [h5, ← h4])]
      unfold swL at hc hg ⊢
      rw [likeL_get _ _ _ _ _ (by omega), likeL_get _ _ _ _ _ (by omega), msOf_self _ _ hk'] at hc
      omega
    · exact ih
theorem swp_up (h : swE ps rs qs is cs fs ch = 0) : totTo rs (msOf fs ch) cs cs.length ≤ totTo rs (msOf fs (swp rs cs fs ch)) cs cs.length := swTo_up h _ (Nat.le_refl _)
end
end Go.Proofs.Ytneoglmfabilnaa
