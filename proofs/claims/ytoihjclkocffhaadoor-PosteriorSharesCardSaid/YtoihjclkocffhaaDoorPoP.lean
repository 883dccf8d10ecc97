/- Plain: the weights behind responses, and the first rule that a response violates. No condition. -/
import Derived.Test.YtoihjclkocffhaaDoorModV
import Derived.Test.YtoihjclkocffhaaDoorGridP
namespace Go.Proofs.YtoihjclkocffhaaDoor
open Go.RowKit
set_option linter.unusedVariables false

theorem getD_mem {α : Type} (l : List α) (d : α) {i : Nat} (h : i < l.length) : l.getD i d ∈ l := by
  rw [List.getD_eq_getElem?_getD, List.getElem?_eq_getElem h]
  exact List.getElem_mem h
abbrev Mdl := List (List Int)
/-- The response is missing, or not reached. -/
def missK (k : Int) : Bool := k == -1 || k == -2
theorem missK_yes {k : Int} : missK k = true ↔ k = -1 ∨ k = -2 := by unfold missK; simp
theorem missK_no {k : Int} : missK k = false ↔ k ≠ -1 ∧ k ≠ -2 := by unfold missK; simp
/-- The first rule that an update violates, for n weights. -/
def updE (n : Nat) (m : Mdl) (k : Int) : Int :=
  if 21 < n then 5 else if modE m n ≠ 0 then modE m n else if missK k = true then 0 else if k < 0 ∨ (catsOf m : Int) ≤ k then 3 else 0
/-- What the weight at grid index q is multiplied by. -/
def facU (m : Mdl) (k : Int) (q : Nat) : Nat := if missK k = true then 1 else ((m.getD q []).getD k.toNat 0).toNat
/-- The weights behind a response. -/
def updF (m : Mdl) (k : Int) (ns : List Nat) : List Nat := (List.range ns.length).map fun q => ns.getD q 0 * facU m k q
theorem updF_len (m : Mdl) (k : Int) (ns : List Nat) : (updF m k ns).length = ns.length := by simp [updF]
theorem updF_get (m : Mdl) (k : Int) (ns : List Nat) {q : Nat} (h : q < ns.length) : (updF m k ns).getD q 0 = ns.getD q 0 * facU m k q := by
  unfold updF
  rw [List.getD_eq_getElem?_getD, List.getElem?_map, List.getElem?_range h]
  rfl
theorem ext_getD {a b : List Nat} (hl : a.length = b.length) (h : ∀ q, q < a.length → a.getD q 0 = b.getD q 0) : a = b := by
  refine List.ext_getElem hl fun i h1 h2 => ?_
  have := h i h1
  rwa [List.getD_eq_getElem?_getD, List.getD_eq_getElem?_getD, List.getElem?_eq_getElem h1, List.getElem?_eq_getElem h2] at this
theorem updF_miss {m : Mdl} {k : Int} {ns : List Nat} (h : missK k = true) : updF m k ns = ns :=
  ext_getD (updF_len m k ns) fun q hq => by
    rw [updF_len] at hq
    rw [updF_get m k ns hq]
    unfold facU
    rw [if_pos h, Nat.mul_one]
theorem updE_long {n : Nat} {m : Mdl} {k : Int} (h : 21 < n) : updE n m k = 5 := if_pos h
theorem updE_mod {n : Nat} {m : Mdl} {k : Int} (h1 : n ≤ 21) (h : modE m n ≠ 0) : updE n m k = modE m n := by unfold updE; rw [if_neg (by omega), if_pos h]
theorem updE_miss {n : Nat} {m : Mdl} {k : Int} (h1 : n ≤ 21) (h2 : modE m n = 0) (h : missK k = true) : updE n m k = 0 := by unfold updE; rw [if_neg (by omega), if_neg (by simpa using h2), if_pos h]
theorem updE_range {n : Nat} {m : Mdl} {k : Int} (h1 : n ≤ 21) (h2 : modE m n = 0) (h : missK k = false) (h3 : k < 0 ∨ (catsOf m : Int) ≤ k) : updE n m k = 3 := by unfold updE; rw [if_neg (by omega), if_neg (by simpa using h2), if_neg (by simp [h]), if_pos h3]
theorem updE_ok {n : Nat} {m : Mdl} {k : Int} (h1 : n ≤ 21) (h2 : modE m n = 0) (h : missK k = false) (h3 : 0 ≤ k) (h4 : k < (catsOf m : Int)) : updE n m k = 0 := by unfold updE; rw [if_neg (by omega), if_neg (by simpa using h2), if_neg (by simp [h]), if_neg (by omega)]
/-- What an update without error knows. -/
theorem updE_zero {n : Nat} {m : Mdl} {k : Int} (h : updE n m k = 0) : n ≤ 21 ∧ modE m n = 0 ∧ (missK k = false → 0 ≤ k ∧ k < (catsOf m : Int)) := by
  unfold updE at h
  split at h
  · omega
  · split at h
    · omega
    · rename_i h1 h2
      refine ⟨by omega, by simpa using h2, fun hm => ?_⟩
      rw [if_neg (by simp [hm])] at h
      split at h
      · omega
      · rename_i h3
        omega
/-- The first rule that responses violate, one after the other. -/
def allE (ns : List Nat) : List (Mdl × Int) → Int
  | [] => 0
  | z :: zs => if updE ns.length z.1 z.2 = 0 then allE (updF z.1 z.2 ns) zs else updE ns.length z.1 z.2
/-- The weights behind all responses. -/
def allF (ns : List Nat) : List (Mdl × Int) → List Nat
  | [] => ns
  | z :: zs => allF (updF z.1 z.2 ns) zs
theorem allF_len : ∀ (zs : List (Mdl × Int)) (ns : List Nat), (allF ns zs).length = ns.length
  | [], ns => rfl
  | z :: zs, ns => by show (allF (updF z.1 z.2 ns) zs).length = _; rw [allF_len zs, updF_len]
theorem allF_append : ∀ (a b : List (Mdl × Int)) (ns : List Nat), allF ns (a ++ b) = allF (allF ns a) b
  | [], b, ns => rfl
  | z :: a, b, ns => allF_append a b (updF z.1 z.2 ns)
/-- Whether no rule is violated depends only on the number of weights. -/
theorem allE_iff : ∀ (zs : List (Mdl × Int)) (ns : List Nat), allE ns zs = 0 ↔ ∀ z ∈ zs, updE ns.length z.1 z.2 = 0
  | [], ns => by simp [allE]
  | z :: zs, ns => by
    show (if updE ns.length z.1 z.2 = 0 then allE (updF z.1 z.2 ns) zs else updE ns.length z.1 z.2) = 0 ↔ _
    split
    · rename_i h
      rw [allE_iff zs, updF_len]
      simp [h]
    · rename_i h
      simp only [h, false_iff]
      intro hh
      exact h (hh z (by simp))
/-- The product of all factors at a grid index. -/
def facs (zs : List (Mdl × Int)) (q : Nat) : Nat := match zs with
  | [] => 1
  | z :: zs => facU z.1 z.2 q * facs zs q
theorem facs_append (q : Nat) : ∀ (a b : List (Mdl × Int)), facs (a ++ b) q = facs a q * facs b q
  | [], b => by show facs b q = 1 * facs b q; rw [Nat.one_mul]
  | z :: a, b => by show facU z.1 z.2 q * facs (a ++ b) q = facU z.1 z.2 q * facs a q * facs b q; rw [facs_append q a b, Nat.mul_assoc]
theorem allF_get : ∀ (zs : List (Mdl × Int)) (ns : List Nat) {q : Nat}, q < ns.length → (allF ns zs).getD q 0 = ns.getD q 0 * facs zs q
  | [], ns, q, h => by show ns.getD q 0 = ns.getD q 0 * 1; rw [Nat.mul_one]
  | z :: zs, ns, q, h => by
    show (allF (updF z.1 z.2 ns) zs).getD q 0 = ns.getD q 0 * (facU z.1 z.2 q * facs zs q)
    rw [allF_get zs _ (by rw [updF_len]; exact h), updF_get _ _ _ h, Nat.mul_assoc]
/-- The order does not matter. -/
theorem allF_turn (a b : List (Mdl × Int)) (ns : List Nat) : allF ns (a ++ b) = allF ns (b ++ a) :=
  ext_getD (by rw [allF_len, allF_len]) fun q hq => by
    rw [allF_len] at hq
    rw [allF_get _ _ hq, allF_get _ _ hq, facs_append, facs_append, Nat.mul_comm (facs a q)]
theorem allE_turn (a b : List (Mdl × Int)) (ns : List Nat) : allE ns (a ++ b) = 0 ↔ allE ns (b ++ a) = 0 := by
  rw [allE_iff, allE_iff]
  simp only [List.mem_append]
  exact ⟨fun h z hz => h z hz.symm, fun h z hz => h z hz.symm⟩
/-- The responses that are given. -/
def givenL (zs : List (Mdl × Int)) : List (Mdl × Int) := zs.filter fun z => decide (0 ≤ z.2)
theorem allF_given : ∀ (zs : List (Mdl × Int)) (ns : List Nat), allE ns zs = 0 → allE ns (givenL zs) = 0 ∧ allF ns (givenL zs) = allF ns zs
  | [], ns, h => ⟨rfl, rfl⟩
  | z :: zs, ns, h => by
    have h0 : updE ns.length z.1 z.2 = 0 := (allE_iff (z :: zs) ns).1 h z (by simp)
    have h1 : allE (updF z.1 z.2 ns) zs = 0 := by
      have : (if updE ns.length z.1 z.2 = 0 then allE (updF z.1 z.2 ns) zs else updE ns.length z.1 z.2) = 0 := h
      rwa [if_pos h0] at this
    obtain ⟨i1, i2⟩ := allF_given zs _ h1
    unfold givenL at *
    by_cases hz : 0 ≤ z.2
    · rw [List.filter_cons_of_pos (by simpa using hz)]
      refine ⟨?_, i2⟩
      show (if updE ns.length z.1 z.2 = 0 then allE (updF z.1 z.2 ns) (zs.filter _) else updE ns.length z.1 z.2) = 0
      rw [if_pos h0]
      exact i1
    · rw [List.filter_cons_of_neg (by simpa using hz)]
      have hm : missK z.2 = true := by
        rcases hb : missK z.2 with _ | _
        · have := (updE_zero h0).2.2 hb; omega
        · rfl
      rw [updF_miss hm] at i1 i2
      refine ⟨i1, ?_⟩
      rw [i2]
      show _ = allF (updF z.1 z.2 ns) zs
      rw [updF_miss hm]
/-- The first rule that a grid with responses violates. -/
def postE (ps rs : List Int) (ms : List Mdl) (ks : List Int) : Int :=
  if gridE ps rs ≠ 0 then gridE ps rs else if ks.length ≠ ms.length then 1 else if 60 < ms.length then 5 else allE (natsOf rs) (ms.zip ks)
theorem postE_zero {ps rs : List Int} {ms : List Mdl} {ks : List Int} (h : postE ps rs ms ks = 0) : gridE ps rs = 0 ∧ ks.length = ms.length ∧ ms.length ≤ 60 ∧ allE (natsOf rs) (ms.zip ks) = 0 := by
  unfold postE at h
  split at h
  · omega
  · split at h
    · omega
    · split at h
      · omega
      · rename_i h1 h2 h3
        exact ⟨by simpa using h1, by simpa using h2, by omega, h⟩
end Go.Proofs.YtoihjclkocffhaaDoor
