/- The plain functions of the matrix chapter: first indexes, parts, columns, marks, totals, counts; no program in sight. -/
import Derived.Test.YtgdngopemlajjaaMatV
namespace Go.Proofs.Ytgdngopemlajjaa
open Go.RowKit
set_option linter.unusedVariables false

theorem getD_get {α : Type} (l : List α) (d : α) {i : Nat} (h : i < l.length) : l.getD i d = l[i] := by
  rw [List.getD_eq_getElem?_getD, List.getElem?_eq_getElem h]; rfl
theorem getD_mem {α : Type} (l : List α) (d : α) {i : Nat} (h : i < l.length) : l.getD i d ∈ l := by
  rw [getD_get l d h]; exact List.getElem_mem h
theorem getD_map {α β : Type} (l : List α) (f : α → β) (d : α) (e : β) {i : Nat} (h : i < l.length) : (l.map f).getD i e = f (l.getD i d) := by
  rw [getD_get _ _ (by simpa using h), getD_get _ _ h, List.getElem_map]
theorem take_succ_getD {α : Type} (l : List α) (d : α) {k : Nat} (h : k < l.length) : l.take (k + 1) = l.take k ++ [l.getD k d] := by
  rw [List.take_add_one, List.getElem?_eq_getElem h, getD_get l d h]; rfl
theorem ext_getD {α : Type} {l m : List α} (d : α) (hl : l.length = m.length) (h : ∀ i, i < l.length → l.getD i d = m.getD i d) : l = m := by
  apply List.ext_getElem hl
  intro i h1 h2
  have := h i h1
  rwa [getD_get _ _ h1, getD_get _ _ h2] at this
theorem mem_getD {α : Type} {l : List α} {x : α} (d : α) (h : x ∈ l) : ∃ i, i < l.length ∧ l.getD i d = x := by
  obtain ⟨i, hi, e⟩ := List.getElem_of_mem h
  exact ⟨i, hi, by rw [getD_get _ _ hi]; exact e⟩

/-- The first index of n in l. -/
def fidx (l : List Int) (n : Int) : Option Nat := l.findIdx? (fun x => x == n)
theorem fidx_lt {l : List Int} {n : Int} {i : Nat} (h : fidx l n = some i) : i < l.length ∧ l.getD i 0 = n ∧ ∀ j, j < i → l.getD j 0 ≠ n := by
  unfold fidx at h
  rw [List.findIdx?_eq_some_iff_getElem] at h
  obtain ⟨hi, h1, h2⟩ := h
  refine ⟨hi, ?_, fun j hj e => ?_⟩
  · rw [getD_get _ _ hi]; simpa using h1
  · have := h2 j hj
    rw [getD_get _ _ (by omega)] at e
    simp [e] at this
theorem fidx_of {l : List Int} {n : Int} {i : Nat} (h : i < l.length) (h1 : l.getD i 0 = n) (h2 : ∀ j, j < i → l.getD j 0 ≠ n) : fidx l n = some i := by
  unfold fidx
  rw [List.findIdx?_eq_some_iff_getElem]
  refine ⟨h, by rw [getD_get _ _ h] at h1; simpa using h1, fun j hj => ?_⟩
  have := h2 j hj
  rw [getD_get _ _ (by omega)] at this
  simpa using this
theorem fidx_none {l : List Int} {n : Int} : fidx l n = none ↔ n ∉ l := by
  unfold fidx
  rw [List.findIdx?_eq_none_iff]
  constructor
  · intro h hm; have := h n hm; simp at this
  · intro h x hx; simp only [beq_eq_false_iff_ne]; rintro rfl; exact h hx
theorem fidx_no {l : List Int} {n : Int} (h : ∀ j, j < l.length → l.getD j 0 ≠ n) : fidx l n = none := by
  rw [fidx_none]; intro hm
  obtain ⟨i, hi, e⟩ := mem_getD 0 hm
  exact h i hi e
theorem fidx_mem {l : List Int} {n : Int} (h : n ∈ l) : ∃ i, fidx l n = some i := by
  cases e : fidx l n with
  | none => exact absurd h (fidx_none.1 e)
  | some i => exact ⟨i, rfl⟩
theorem fidx_snoc (l : List Int) (x n : Int) : fidx (l ++ [x]) n = match fidx l n with | some i => some i | none => if x = n then some l.length else none := by
  unfold fidx
  rw [List.findIdx?_append]
  cases h : l.findIdx? (fun x => x == n) with
  | some i => simp
  | none =>
    by_cases hx : x = n
    · subst hx; simp [List.findIdx?_cons]
    · simp [List.findIdx?_cons, hx]

theorem ris_lt {l : List Int} (h : ris l = true) : ∀ j, j < l.length → ∀ i, i < j → l.getD i 0 < l.getD j 0 := by
  unfold ris at h
  have H := of_decide_eq_true h
  intro j
  induction j with
  | zero => intro _ i hi; omega
  | succ j ih =>
    intro hj i hi
    have h1 := (H (j + 1) hj).2 (by omega)
    rw [Nat.add_sub_cancel] at h1
    rcases Nat.lt_succ_iff_lt_or_eq.1 hi with h2 | rfl
    · have := ih (by omega) i h2; omega
    · exact h1
theorem ris_pos {l : List Int} (h : ris l = true) : ∀ j, j < l.length → 1 ≤ l.getD j 0 := by
  unfold ris at h
  have H := of_decide_eq_true h
  exact fun j hj => (H j hj).1
theorem ris_of {l : List Int} (h0 : ∀ j, j < l.length → 1 ≤ l.getD j 0) (h : ∀ j, j < l.length → ∀ i, i < j → l.getD i 0 < l.getD j 0) : ris l = true :=
  ris_yes fun i hi => ⟨h0 i hi, fun hp => h i hi (i - 1) (by omega)⟩
theorem ris_inj {l : List Int} (h : ris l = true) {i j : Nat} (hi : i < l.length) (hj : j < l.length) (e : l.getD i 0 = l.getD j 0) : i = j := by
  rcases Nat.lt_trichotomy i j with h1 | h1 | h1
  · have := ris_lt h j hj i h1; omega
  · exact h1
  · have := ris_lt h i hi j h1; omega
theorem fidx_ris {l : List Int} (h : ris l = true) {i : Nat} (hi : i < l.length) : fidx l (l.getD i 0) = some i :=
  fidx_of hi rfl fun j hj e => by have := ris_lt h i hi j hj; omega
theorem ris_nodup {l : List Int} (h : ris l = true) : l.Nodup := by
  rw [List.nodup_iff_pairwise_ne, List.pairwise_iff_getElem]
  intro i j hi hj hij e
  have := ris_lt h j hj i hij
  rw [getD_get _ _ hi, getD_get _ _ hj] at this
  omega
theorem nodup_len : ∀ (W L : List Int), W.Nodup → (∀ n ∈ W, n ∈ L) → W.length ≤ L.length
  | [], _, _, _ => by simp
  | x :: W, L, hn, hs => by
    rw [List.nodup_cons] at hn
    have hx := hs x (by simp)
    have := nodup_len W (L.erase x) hn.2 (fun n hm => by
      have hne : n ≠ x := by rintro rfl; exact hn.1 hm
      exact (List.mem_erase_of_ne hne).2 (hs n (by simp [hm])))
    rw [List.length_erase_of_mem hx] at this
    have hp : 0 < L.length := List.length_pos_of_mem hx
    simp only [List.length_cons]; omega
/-- Rising numbers that all lie in a list are no more than it has. -/
theorem ris_len {W L : List Int} (h : ris W = true) (hs : ∀ n ∈ W, n ∈ L) : W.length ≤ L.length := nodup_len W L (ris_nodup h) hs

def at_ (L : List Int) (n : Int) : Nat := (fidx L n).getD 0
def inAll (W L : List Int) : Bool := decide (∀ i, i < W.length → (fidx L (W.getD i 0)).isSome = true)
theorem inAll_no {W L : List Int} {k : Nat} (hk : k < W.length) (h : fidx L (W.getD k 0) = none) : inAll W L = false := by
  unfold inAll; simp only [decide_eq_false_iff_not]; intro H; have := H k hk; rw [h] at this; cases this
theorem inAll_yes {W L : List Int} (h : ∀ i, i < W.length → (fidx L (W.getD i 0)).isSome = true) : inAll W L = true := by unfold inAll; exact decide_eq_true h
theorem inAll_at {W L : List Int} (h : inAll W L = true) {k : Nat} (hk : k < W.length) : ∃ i, fidx L (W.getD k 0) = some i := by
  unfold inAll at h; exact Option.isSome_iff_exists.1 (of_decide_eq_true h k hk)
theorem inAll_mem {W L : List Int} (h : inAll W L = true) : ∀ n ∈ W, n ∈ L := by
  intro n hn
  obtain ⟨k, hk, rfl⟩ := mem_getD 0 hn
  obtain ⟨i, hi⟩ := inAll_at h hk
  obtain ⟨h1, h2, _⟩ := fidx_lt hi
  rw [← h2]; exact getD_mem _ _ h1
theorem inAll_of_mem {W L : List Int} (h : ∀ n ∈ W, n ∈ L) : inAll W L = true := by
  refine inAll_yes fun i hi => ?_
  obtain ⟨j, hj⟩ := fidx_mem (h _ (getD_mem W 0 hi))
  rw [hj]; rfl
theorem at_lt {W L : List Int} (h : inAll W L = true) {k : Nat} (hk : k < W.length) : at_ L (W.getD k 0) < L.length ∧ L.getD (at_ L (W.getD k 0)) 0 = W.getD k 0 := by
  obtain ⟨i, hi⟩ := inAll_at h hk
  obtain ⟨h1, h2, _⟩ := fidx_lt hi
  unfold at_; rw [hi]; exact ⟨h1, h2⟩
/-- The error of a list of wanted numbers, and their first indexes. -/
def idxE (W L : List Int) : Int := if ris W = false then 23 else if inAll W L = false then 6 else 0
def idxL (W L : List Int) : List Int := W.map fun n => ((at_ L n : Nat) : Int)
theorem idxL_len (W L : List Int) : (idxL W L).length = W.length := by simp [idxL]
theorem idxL_get (W L : List Int) {k : Nat} (h : k < W.length) : (idxL W L).getD k 0 = ((at_ L (W.getD k 0) : Nat) : Int) := by
  unfold idxL; rw [getD_map W _ 0 0 h]
theorem idxE_1 {W L : List Int} (h : ris W = false) : idxE W L = 23 := if_pos h
theorem idxE_2 {W L : List Int} (h : ris W = true) (h2 : inAll W L = false) : idxE W L = 6 := by unfold idxE; rw [if_neg (by simp [h]), if_pos h2]
theorem idxE_0 {W L : List Int} (h : ris W = true) (h2 : inAll W L = true) : idxE W L = 0 := by unfold idxE; rw [if_neg (by simp [h]), if_neg (by simp [h2])]
theorem idxE_zero {W L : List Int} (h : idxE W L = 0) : ris W = true ∧ inAll W L = true := by
  unfold idxE at h
  split at h
  · omega
  split at h
  · omega
  rename_i h1 h2
  exact ⟨by simpa using h1, by simpa using h2⟩

/-- The error of Select, and the part. -/
def selE (ps is : List Int) (cs : List (List Int)) (P I : List Int) : Int := if shp ps is cs = false then 1 else if idxE P ps ≠ 0 then idxE P ps else idxE I is
def selC (ps is : List Int) (cs : List (List Int)) (P I : List Int) : List (List Int) := P.map fun p => I.map fun i => (cs.getD (at_ ps p) []).getD (at_ is i) 0
def onZ {α : Type} (E : Int) (l : List α) : List α := if E = 0 then l else []
theorem onZ_zero {α : Type} {E : Int} (h : E = 0) (l : List α) : onZ E l = l := if_pos h
theorem onZ_bad {α : Type} {E : Int} (h : E ≠ 0) (l : List α) : onZ E l = [] := if_neg h
section
variable {ps is : List Int} {cs : List (List Int)} {P I : List Int}
theorem selE_1 (h : shp ps is cs = false) : selE ps is cs P I = 1 := if_pos h
theorem selE_2 (h : shp ps is cs = true) (h2 : idxE P ps ≠ 0) : selE ps is cs P I = idxE P ps := by unfold selE; rw [if_neg (by simp [h]), if_pos h2]
theorem selE_3 (h : shp ps is cs = true) (h2 : idxE P ps = 0) : selE ps is cs P I = idxE I is := by unfold selE; rw [if_neg (by simp [h]), if_neg (by simp [h2])]
theorem selE_zero (h : selE ps is cs P I = 0) : shp ps is cs = true ∧ ris P = true ∧ inAll P ps = true ∧ ris I = true ∧ inAll I is = true := by
  unfold selE at h
  split at h
  · omega
  split at h
  · omega
  rename_i h1 h2
  have h2 : idxE P ps = 0 := by omega
  obtain ⟨a, b⟩ := idxE_zero h2
  obtain ⟨c, d⟩ := idxE_zero h
  exact ⟨by simpa using h1, a, b, c, d⟩
theorem shp_at (h : shp ps is cs = true) : cs.length = ps.length ∧ ∀ i, i < cs.length → (cs.getD i []).length = is.length := by
  unfold shp at h; exact of_decide_eq_true h
theorem selC_len : (selC ps is cs P I).length = P.length := by simp [selC]
theorem selC_get {k : Nat} (h : k < P.length) : (selC ps is cs P I).getD k [] = I.map fun i => (cs.getD (at_ ps (P.getD k 0)) []).getD (at_ is i) 0 := by
  unfold selC; rw [getD_map P _ 0 [] h]
theorem selC_get2 {k j : Nat} (h : k < P.length) (hj : j < I.length) : ((selC ps is cs P I).getD k []).getD j 0 = (cs.getD (at_ ps (P.getD k 0)) []).getD (at_ is (I.getD j 0)) 0 := by
  rw [selC_get h, getD_map I _ 0 0 hj]
end

/-- The column at i, if there is one. -/
def colOK (is : List Int) (cs : List (List Int)) (i : Int) : Bool := decide (0 ≤ i ∧ i < (is.length : Int) ∧ ∀ k, k < cs.length → i < ((cs.getD k []).length : Int))
def colL (cs : List (List Int)) (i : Int) : List Int := cs.map fun row => row.getD i.toNat 0

/-- Marking: every Missing behind the last response becomes NotReached. -/
def tneg (l : List Int) (j : Nat) : Bool := (l.drop j).all (fun x => decide (x < 0))
def mk1 (l : List Int) (j : Nat) : Int := if l.getD j 0 = -1 ∧ tneg l j = true then -2 else l.getD j 0
def markL (l : List Int) : List Int := (List.range l.length).map (mk1 l)
theorem markL_len (l : List Int) : (markL l).length = l.length := by simp [markL]
theorem markL_get (l : List Int) {j : Nat} (h : j < l.length) : (markL l).getD j 0 = mk1 l j := by
  unfold markL; rw [getD_map _ _ 0 0 (by simpa using h), getD_get _ _ (by simpa using h)]; simp
theorem tneg_step (l : List Int) {j : Nat} (h : j < l.length) : tneg l j = (decide (l.getD j 0 < 0) && tneg l (j + 1)) := by
  unfold tneg; rw [List.drop_eq_getElem_cons h, getD_get _ _ h]; rfl
theorem tneg_end (l : List Int) {j : Nat} (h : l.length ≤ j) : tneg l j = true := by
  unfold tneg; rw [List.drop_eq_nil_of_le h]; rfl
theorem tneg_at {l : List Int} {j : Nat} (h : tneg l j = true) : ∀ i, j ≤ i → i < l.length → l.getD i 0 < 0 := by
  intro i h1 h2
  unfold tneg at h
  rw [List.all_eq_true] at h
  have hm : l.getD i 0 ∈ l.drop j := by
    rw [getD_get _ _ h2, List.mem_iff_getElem]
    exact ⟨i - j, by rw [List.length_drop]; omega, by rw [List.getElem_drop]; congr 1; omega⟩
  simpa using h _ hm
theorem tneg_of {l : List Int} {j : Nat} (h : ∀ i, j ≤ i → i < l.length → l.getD i 0 < 0) : tneg l j = true := by
  unfold tneg
  rw [List.all_eq_true]
  intro x hx
  obtain ⟨i, hi, e⟩ := List.getElem_of_mem hx
  rw [List.length_drop] at hi
  rw [List.getElem_drop] at e
  have := h (j + i) (by omega) (by omega)
  rw [getD_get _ _ (by omega), e] at this
  simpa using this
theorem mk1_neg (l : List Int) {j : Nat} : mk1 l j < 0 ↔ l.getD j 0 < 0 := by
  unfold mk1; split <;> omega
theorem tneg_mark (l : List Int) (j : Nat) : tneg (markL l) j = tneg l j := by
  rw [Bool.eq_iff_iff]
  constructor
  · intro h; exact tneg_of fun i h1 h2 => by
      have := tneg_at h i h1 (by rw [markL_len]; exact h2)
      rw [markL_get _ h2, mk1_neg] at this; exact this
  · intro h; exact tneg_of fun i h1 h2 => by
      rw [markL_len] at h2
      rw [markL_get _ h2, mk1_neg]; exact tneg_at h i h1 h2
theorem mark_mark (l : List Int) : markL (markL l) = markL l := by
  refine ext_getD 0 (by simp only [markL_len]) fun i hi => ?_
  simp only [markL_len] at hi
  rw [markL_get _ (by rw [markL_len]; exact hi), markL_get _ hi]
  unfold mk1
  rw [tneg_mark, markL_get _ hi]
  unfold mk1
  split
  · rw [if_neg (by omega)]
  · rfl

/-- The total of a row (with the machine's wrap) and the number of its responses. -/
def totF : List Int → Int → Int → Int × Int
  | [], s, n => (s, n)
  | x :: l, s, n => if 0 ≤ x then totF l (wrap64 (s + if 1000000 < x then 1000000 else x)) (n + 1) else totF l s n
theorem totF_same : ∀ (l m : List Int) (s n : Int), l.length = m.length → (∀ i, i < l.length → l.getD i 0 = m.getD i 0 ∨ (l.getD i 0 < 0 ∧ m.getD i 0 < 0)) → totF l s n = totF m s n
  | [], [], _, _, _, _ => rfl
  | [], _ :: _, _, _, h, _ => by simp at h
  | _ :: _, [], _, _, h, _ => by simp at h
  | x :: l, y :: m, s, n, hl, h => by
    have h0 := h 0 (by simp)
    have ih := fun s n => totF_same l m s n (by simpa using hl) (fun i hi => by have := h (i + 1) (by simpa using hi); simpa using this)
    simp only [List.getD_cons_zero] at h0
    unfold totF
    rcases h0 with rfl | ⟨h1, h2⟩
    · split <;> exact ih _ _
    · rw [if_neg (by omega), if_neg (by omega)]; exact ih _ _
theorem totF_mark (l : List Int) (s n : Int) : totF (markL l) s n = totF l s n := by
  refine totF_same _ _ s n (markL_len l) fun i hi => ?_
  rw [markL_len] at hi
  rw [markL_get _ hi]
  unfold mk1
  split
  · right; omega
  · left; rfl
theorem totF_snoc (l : List Int) (x s n : Int) : totF (l ++ [x]) s n = if 0 ≤ x then (wrap64 ((totF l s n).1 + if 1000000 < x then 1000000 else x), (totF l s n).2 + 1) else totF l s n := by
  induction l generalizing s n with
  | nil => simp only [List.nil_append, totF]
  | cons y l ih =>
    simp only [List.cons_append, totF]
    split <;> exact ih _ _
end Go.Proofs.Ytgdngopemlajjaa
