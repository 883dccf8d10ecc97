/- Plain facts of calibrate.Choose. No condition. -/
import Derived.Test.YtneoglmfabilnaaLikB
namespace Go.Proofs.Ytneoglmfabilnaa
open Go.RowKit
set_option linter.unusedVariables false

theorem chk_mk {pn skip : Int} : ∀ {ms : List (List (List Int))} {i : Nat}, (∀ j m, ms[j]? = some m → ((i + j : Nat) : Int) ≠ skip → modE m pn = 0) → chkFrom pn skip i ms = 0
  | [], i, _ => rfl
  | a :: ms, i, h => by
    have key : chkFrom pn skip (i + 1) ms = 0 := chk_mk fun j m hm hne => h (j + 1) m (by simpa using hm) (by rw [show i + (j + 1) = i + 1 + j by omega]; exact hne)
    rw [chkFrom]
    split
    · exact key
    · rename_i hne
      rw [if_pos (h 0 a (by simp) (by simpa using hne))]
      exact key
theorem getD_some {α : Type} {l : List α} {d : α} {k : Nat} (h : k < l.length) : l[k]? = some (l.getD k d) := by
  rw [List.getD_eq_getElem?_getD, List.getElem?_eq_getElem h]; rfl
theorem chk_put {pn : Int} {ms : List (List (List Int))} {i : Nat} {x : List (List Int)} (h : chkFrom pn (i : Int) 0 ms = 0) (hx : modE x pn = 0) : chkFrom pn (-1) 0 (ms.set i x) = 0 := by
  refine chk_mk fun j m hm _ => ?_
  by_cases he : j = i
  · subst he
    have hl : j < ms.length := by
      rcases Nat.lt_or_ge j ms.length with h1 | h1
      · exact h1
      · rw [List.getElem?_eq_none (by rw [List.length_set]; exact h1)] at hm; cases hm
    rw [List.getElem?_set_self hl] at hm
    injection hm with hm
    rw [← hm]; exact hx
  · rw [List.getElem?_set_ne (by omega)] at hm
    exact chk_zero h j m hm (by simp; omega)
theorem catsL_put (ms : List (List (List Int))) (i : Nat) (x : List (List Int)) : catsL (ms.set i x) = (catsL ms).set i ((catsOf x : Nat) : Int) := by
  unfold catsL
  rw [List.map_set]
/-- The numbers of categories, that of the item i out of its family. -/
def catsAt (ms : List (List (List Int))) (i : Int) (fam : List (List (List Int))) : List Int :=
  if 0 ≤ i ∧ i < (ms.length : Int) then (catsL ms).set i.toNat ((catsOf (fam.getD 0 []) : Nat) : Int) else catsL ms
/-- The first rule that the arguments of Choose violate. -/
def chE (ps rs : List Int) (ms : List (List (List Int))) (qs is : List Int) (cs : List (List Int)) (i : Int) (fam : List (List (List Int))) : Int :=
  if gridE ps rs ≠ 0 then gridE ps rs else if 60 < ms.length ∨ 24 < fam.length then 5 else if ms.length ≠ is.length then 1 else
    if chkFrom (ps.length : Int) i 0 ms ≠ 0 then chkFrom (ps.length : Int) i 0 ms else if famE (ps.length : Int) fam ≠ 0 then famE (ps.length : Int) fam else
    if matE qs is cs (catsAt ms i fam) ≠ 0 then matE qs is cs (catsAt ms i fam) else if 0 ≤ i ∧ i < (ms.length : Int) then 0 else 3
def chV (ps rs : List Int) (ms : List (List (List Int))) (qs is : List Int) (cs : List (List Int)) (i : Int) (fam : List (List (List Int))) : Nat :=
  if chE ps rs ms qs is cs i fam = 0 then grTo (likeL rs ms cs i.toNat fam) fam.length else 0
section
variable {ps rs : List Int} {ms : List (List (List Int))} {qs is : List Int} {cs : List (List Int)} {i : Int} {fam : List (List (List Int))}
theorem chV_bad {e : Int} (h : chE ps rs ms qs is cs i fam = e) (he : e ≠ 0) : chV ps rs ms qs is cs i fam = 0 := by unfold chV; rw [h, if_neg he]
theorem chV_ok (h : chE ps rs ms qs is cs i fam = 0) : chV ps rs ms qs is cs i fam = grTo (likeL rs ms cs i.toNat fam) fam.length := by unfold chV; rw [if_pos h]
theorem chE_1 (h : gridE ps rs ≠ 0) : chE ps rs ms qs is cs i fam = gridE ps rs := if_pos h
theorem chE_2 (h : gridE ps rs = 0) (h2 : 60 < ms.length ∨ 24 < fam.length) : chE ps rs ms qs is cs i fam = 5 := by unfold chE; rw [if_neg (by simpa using h), if_pos h2]
theorem chE_3 (h : gridE ps rs = 0) (h2 : ms.length ≤ 60) (h2' : fam.length ≤ 24) (h3 : ms.length ≠ is.length) : chE ps rs ms qs is cs i fam = 1 := by unfold chE; rw [if_neg (by simpa using h), if_neg (by omega), if_pos h3]
theorem chE_4 (h : gridE ps rs = 0) (h2 : ms.length ≤ 60) (h2' : fam.length ≤ 24) (h3 : ms.length = is.length) (h4 : chkFrom (ps.length : Int) i 0 ms ≠ 0) : chE ps rs ms qs is cs i fam = chkFrom (ps.length : Int) i 0 ms := by
  unfold chE; rw [if_neg (by simpa using h), if_neg (by omega), if_neg (by simpa using h3), if_pos h4]
theorem chE_5 (h : gridE ps rs = 0) (h2 : ms.length ≤ 60) (h2' : fam.length ≤ 24) (h3 : ms.length = is.length) (h4 : chkFrom (ps.length : Int) i 0 ms = 0) (h5 : famE (ps.length : Int) fam ≠ 0) : chE ps rs ms qs is cs i fam = famE (ps.length : Int) fam := by
  unfold chE; rw [if_neg (by simpa using h), if_neg (by omega), if_neg (by simpa using h3), if_neg (by simpa using h4), if_pos h5]
theorem chE_6 (h : gridE ps rs = 0) (h2 : ms.length ≤ 60) (h2' : fam.length ≤ 24) (h3 : ms.length = is.length) (h4 : chkFrom (ps.length : Int) i 0 ms = 0) (h5 : famE (ps.length : Int) fam = 0) (h6 : matE qs is cs (catsAt ms i fam) ≠ 0) : chE ps rs ms qs is cs i fam = matE qs is cs (catsAt ms i fam) := by
  unfold chE; rw [if_neg (by simpa using h), if_neg (by omega), if_neg (by simpa using h3), if_neg (by simpa using h4), if_neg (by simpa using h5), if_pos h6]
theorem chE_7 (h : gridE ps rs = 0) (h2 : ms.length ≤ 60) (h2' : fam.length ≤ 24) (h3 : ms.length = is.length) (h4 : chkFrom (ps.length : Int) i 0 ms = 0) (h5 : famE (ps.length : Int) fam = 0) (h6 : matE qs is cs (catsAt ms i fam) = 0) : chE ps rs ms qs is cs i fam = if 0 ≤ i ∧ i < (ms.length : Int) then 0 else 3 := by
  unfold chE; rw [if_neg (by simpa using h), if_neg (by omega), if_neg (by simpa using h3), if_neg (by simpa using h4), if_neg (by simpa using h5), if_neg (by simpa using h6)]
theorem chE_zero (h : chE ps rs ms qs is cs i fam = 0) : gridE ps rs = 0 ∧ ms.length ≤ 60 ∧ fam.length ≤ 24 ∧ ms.length = is.length ∧ chkFrom (ps.length : Int) i 0 ms = 0 ∧ famE (ps.length : Int) fam = 0 ∧ matE qs is cs (catsAt ms i fam) = 0 ∧ 0 ≤ i ∧ i < (ms.length : Int) := by
  unfold chE at h
  split at h
  · rename_i h1; exact absurd h h1
  split at h
  · omega
  split at h
  · omega
  split at h
  · rename_i h1; exact absurd h h1
  split at h
  · rename_i h1; exact absurd h h1
  split at h
  · rename_i h1; exact absurd h h1
  split at h
  · rename_i h1 h2 h3 h4 h5 h6 h7
    exact ⟨by omega, by omega, by omega, by omega, by omega, by omega, by omega, h7.1, h7.2⟩
  · omega
end
section
variable {ps rs : List Int} {ms : List (List (List Int))} {qs is : List Int} {cs : List (List Int)} {i : Nat} {fam : List (List (List Int))}
/-- With a model of the family in its place the matrix is valid. -/
theorem tot_put (h1 : gridE ps rs = 0) (h2 : ms.length ≤ 60) (h3 : ms.length = is.length) (h4 : chkFrom (ps.length : Int) (i : Int) 0 ms = 0) (h5 : famE (ps.length : Int) fam = 0) (hi : i < ms.length) (h6 : matE qs is cs (catsAt ms (i : Int) fam) = 0) {f : Nat} (hf : f < fam.length) :
    totE ps rs (ms.set i (fam.getD f [])) qs is cs = 0 := by
  obtain ⟨f1, f2, f3⟩ := famE_zero h5
  have hm : modE (fam.getD f []) (ps.length : Int) = 0 := chk_zero f2 f _ (getD_some hf) (by omega)
  refine totE_mk h1 (by rw [List.length_set]; exact h2) (by rw [List.length_set]; exact h3) (chk_put h4 hm) ?_
  rw [catsL_put, f3 f hf]
  unfold catsAt at h6
  rw [if_pos (by omega), Int.toNat_natCast] at h6
  exact h6
theorem wok_put {x : List (List Int)} {row : List Int} {n : Nat} (h : WOK n (ms.set i x) row (i : Int)) : WOK n ms row (i : Int) := by
  intro j hj hne h0
  obtain ⟨a, b⟩ := h j hj hne h0
  rw [List.length_set] at a
  rw [set_other ms [] x (show j ≠ i by omega)] at b
  exact ⟨a, b⟩
/-- What likelihoods asks of its arguments. -/
theorem like_ok (h1 : gridE ps rs = 0) (h2 : ms.length ≤ 60) (h3 : ms.length = is.length) (h4 : chkFrom (ps.length : Int) (i : Int) 0 ms = 0) (h5 : famE (ps.length : Int) fam = 0) (hi : i < ms.length) (h6 : matE qs is cs (catsAt ms (i : Int) fam) = 0) {k : Nat} (hk : k < cs.length) :
    (cs.getD k []).length = ms.length ∧ WOK rs.length ms (cs.getD k []) (i : Int) ∧ FOK rs.length i fam (cs.getD k []) := by
  obtain ⟨f1, f2, f3⟩ := famE_zero h5
  obtain ⟨t1, t2, t3, t4, t5⟩ := totE_zero (tot_put h1 h2 h3 h4 h5 hi h6 f1)
  obtain ⟨r1, r2⟩ := rows_ok t3 t5 hk
  obtain ⟨g1, g2, g3, g4, _⟩ := gridE_zero h1
  have hw := wok_of (rs := rs) (skip := -1) r1 t4 r2 (i : Int)
  rw [List.length_set] at r1
  rw [← g3] at hw
  refine ⟨r1, wok_put hw, fun h0 f hf q hq => ?_⟩
  have hm : modE (fam.getD f []) (ps.length : Int) = 0 := chk_zero f2 f _ (getD_some hf) (by omega)
  obtain ⟨_, _, m3, _, _, m6⟩ := modE_zero hm
  obtain ⟨_, hlt⟩ := rowOK_at r2 (show i < (cs.getD k []).length by omega)
  rw [set_get _ _ _ hi] at hlt
  have hql : q < (fam.getD f []).length := by omega
  obtain ⟨m7, m8, _⟩ := m6 _ (getD_mem (d := []) hql)
  have hkk : ((cs.getD k []).getD i 0).toNat < ((fam.getD f []).getD q []).length := by rw [m7, f3 f hf]; omega
  have := m8 _ (getD_mem (d := 0) hkk)
  exact ⟨hql, hkk, by omega, by omega⟩
end
end Go.Proofs.Ytneoglmfabilnaa
