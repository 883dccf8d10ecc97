/- Counting by rows and by columns: bounds, and totals without wrap for small cells. -/
import Derived.Test.YtgdngopemlajjaaMtW
namespace Go.Proofs.Ytgdngopemlajjaa
open Go.RowKit
set_option linter.unusedVariables false

theorem sumL_bd {h : Int → Int} {B : Int} (hB : 0 ≤ B) : ∀ l : List Int, (∀ x ∈ l, 0 ≤ h x ∧ h x ≤ B) → 0 ≤ sumL h l ∧ sumL h l ≤ B * l.length
  | [], _ => by simp [sumL]
  | x :: l, H => by
    have ih := sumL_bd hB l fun y hy => H y (by simp [hy])
    have h0 := H x (by simp)
    simp only [sumL, List.length_cons, Int.natCast_add, Int.mul_add]
    constructor
    · omega
    · simp; omega
theorem pz_bd {x : Int} (h : x ≤ 5) : 0 ≤ pz x ∧ pz x ≤ 5 := by unfold pz; split <;> omega
theorem p1_bd (x : Int) : 0 ≤ p1 x ∧ p1 x ≤ 1 := by unfold p1; split <;> omega
theorem totF_small : ∀ (l : List Int) (s n : Int), (∀ x ∈ l, x ≤ 5) → 0 ≤ s → s + 5 * l.length ≤ 1000000 → totF l s n = (s + sumL pz l, n + sumL p1 l)
  | [], s, n, _, _, _ => by simp [totF, sumL]
  | x :: l, s, n, H, h0, h1 => by
    have hx := H x (by simp)
    simp only [List.length_cons, Int.natCast_add] at h1
    have hw : ∀ z : Int, 0 ≤ z → z ≤ 5 → wrap64 (s + z) = s + z := by intro z h2 h3; unfold wrap64; omega
    unfold totF
    simp only [sumL]
    by_cases hz : 0 ≤ x
    · rw [if_pos hz, if_neg (by omega), hw x hz hx, totF_small l _ _ (fun y hy => H y (by simp [hy])) (by omega) (by omega)]
      have e1 : pz x = x := if_pos hz
      have e2 : p1 x = 1 := if_pos hz
      rw [e1, e2]; simp only [Prod.mk.injEq]; omega
    · rw [if_neg hz, totF_small l _ _ (fun y hy => H y (by simp [hy])) h0 (by omega)]
      have e1 : pz x = 0 := if_neg hz
      have e2 : p1 x = 0 := if_neg hz
      rw [e1, e2]; simp only [Prod.mk.injEq]; omega
theorem sumR_snoc (h : Int → Int) (cs : List (List Int)) (r : List Int) : sumR h (cs ++ [r]) = sumR h cs + sumL h r := by
  induction cs with
  | nil => simp [sumR]
  | cons y l ih => simp only [List.cons_append, sumR, ih]; omega
theorem sumR_bd {h : Int → Int} {B : Int} : ∀ cs : List (List Int), (∀ r ∈ cs, 0 ≤ sumL h r ∧ sumL h r ≤ B) → 0 ≤ sumR h cs ∧ sumR h cs ≤ B * cs.length
  | [], _ => by simp [sumR]
  | r :: l, H => by
    have ih := sumR_bd l fun y hy => H y (by simp [hy])
    have h0 := H r (by simp)
    simp only [sumR, List.length_cons, Int.natCast_add, Int.mul_add]
    constructor
    · omega
    · simp; omega
theorem sig_bd {f : Nat → Int} {B : Int} : ∀ n : Nat, (∀ i, i < n → 0 ≤ f i ∧ f i ≤ B) → 0 ≤ sig f n ∧ sig f n ≤ B * n
  | 0, _ => by simp [sig]
  | n + 1, H => by
    have ih := sig_bd n fun i hi => H i (by omega)
    have h0 := H n (by omega)
    simp only [sig, Int.natCast_add, Int.mul_add]
    constructor
    · omega
    · simp; omega
theorem sumL_congr {f g : Int → Int} : ∀ l : List Int, (∀ x ∈ l, f x = g x) → sumL f l = sumL g l
  | [], _ => rfl
  | x :: l, h => by simp only [sumL]; rw [h x (by simp), sumL_congr l fun y hy => h y (by simp [hy])]
/-- What a valid matrix tells, for the counting. -/
structure Okm (ps is : List Int) (cs : List (List Int)) (cats : List Int) : Prop where
  nps : ps.length ≤ 200
  nis : is.length ≤ 60
  ncs : cs.length = ps.length
  ncats : cats.length = is.length
  row : ∀ r ∈ cs, r.length = is.length
  cat : ∀ i, i < is.length → 2 ≤ cats.getD i 0 ∧ cats.getD i 0 ≤ 6
  cell : ∀ r ∈ cs, ∀ x ∈ r, x ≤ 5
  col : ∀ i, i < is.length → ∀ x ∈ colL cs (i : Int), x < cats.getD i 0
theorem mem_at {α : Type} {l : List α} {x : α} (d : α) (h : x ∈ l) : ∃ i, i < l.length ∧ l.getD i d = x := by
  obtain ⟨i, hi, e⟩ := List.getElem_of_mem h
  exact ⟨i, hi, by rw [List.getD_eq_getElem?_getD, List.getElem?_eq_getElem hi]; simpa using e⟩
theorem cellB_lt {x c : Int} (h : cellB x c = true) (hc : 2 ≤ c) : x < c := by
  unfold cellB at h
  simp at h
  omega
theorem okm {ps is : List Int} {cs : List (List Int)} {cats : List Int} (h : matE ps is cs cats = 0) : Okm ps is cs cats := by
  obtain ⟨h1, h2, _, _, h5, h6, h7, h8, h9⟩ := matE_zero h
  have hrow : ∀ r ∈ cs, r.length = is.length := by
    intro r hr
    obtain ⟨i, hi, rfl⟩ := mem_at [] hr
    exact h7 i hi
  refine ⟨h1, h2, h5, h6, hrow, fun i hi => h8 i (by omega), ?_, ?_⟩
  · intro r hr x hx
    obtain ⟨i, hi, rfl⟩ := mem_at [] hr
    obtain ⟨j, hj, rfl⟩ := mem_at 0 hx
    have e := h7 i hi
    have c := h8 j (by omega)
    have := cellB_lt (h9 i hi j hj) c.1
    omega
  · intro i hi x hx
    obtain ⟨k, hk, rfl⟩ := mem_at 0 hx
    rw [colL_len] at hk
    rw [colL_get _ _ hk, Int.toNat_natCast]
    have e := h7 k hk
    exact cellB_lt (h9 k hk i (by omega)) (h8 i (by omega)).1
section
variable {ps is : List Int} {cs : List (List Int)} {cats : List Int} (H : Okm ps is cs cats)
include H
theorem Okm.ok {k : Nat} (hk : k < is.length) : colOK is cs (k : Int) = true := by
  refine colOK_yes (by omega) (by omega) fun j hj => ?_
  have : (cs.getD j []) ∈ cs := by rw [getD_get _ _ hj]; exact List.getElem_mem hj
  rw [H.row _ this]; omega
theorem Okm.tot {k : Nat} (hk : k < cs.length) : totF (cs.getD k []) 0 0 = (sumL pz (cs.getD k []), sumL p1 (cs.getD k [])) := by
  have hm : (cs.getD k []) ∈ cs := by rw [getD_get _ _ hk]; exact List.getElem_mem hk
  have := H.row _ hm
  have h2 := H.nis
  rw [totF_small _ 0 0 (H.cell _ hm) (by omega) (by omega)]; simp
theorem Okm.rz {r : List Int} (hm : r ∈ cs) : 0 ≤ sumL pz r ∧ sumL pz r ≤ 300 := by
  have := sumL_bd (h := pz) (B := 5) (by omega) r fun x hx => pz_bd (H.cell r hm x hx)
  have h1 := H.row r hm
  have h2 := H.nis
  omega
theorem Okm.r1 {r : List Int} (hm : r ∈ cs) : 0 ≤ sumL p1 r ∧ sumL p1 r ≤ 300 := by
  have := sumL_bd (h := p1) (B := 1) (by omega) r fun x hx => p1_bd x
  have h1 := H.row r hm
  have h2 := H.nis
  omega
theorem Okm.sz (k : Nat) : 0 ≤ sumR pz (cs.take k) ∧ sumR pz (cs.take k) ≤ 60000 := by
  have := sumR_bd (B := 300) (cs.take k) fun r hr => H.rz (List.mem_of_mem_take hr)
  have h1 := List.length_take_le' k cs
  have h2 := H.ncs
  have h3 := H.nps
  omega
theorem Okm.s1 (k : Nat) : 0 ≤ sumR p1 (cs.take k) ∧ sumR p1 (cs.take k) ≤ 60000 := by
  have := sumR_bd (B := 300) (cs.take k) fun r hr => H.r1 (List.mem_of_mem_take hr)
  have h1 := List.length_take_le' k cs
  have h2 := H.ncs
  have h3 := H.nps
  omega
theorem Okm.cz {k : Nat} (hk : k < is.length) : 0 ≤ sumL pz (colL cs (k : Int)) ∧ sumL pz (colL cs (k : Int)) ≤ 1000 := by
  have := sumL_bd (h := pz) (B := 5) (by omega) (colL cs (k : Int)) fun x hx => pz_bd (by have := H.col k hk x hx; have := (H.cat k hk).2; omega)
  rw [colL_len] at this
  have h2 := H.ncs
  have h3 := H.nps
  omega
theorem Okm.c1 {k : Nat} (hk : k < is.length) : 0 ≤ sumL p1 (colL cs (k : Int)) ∧ sumL p1 (colL cs (k : Int)) ≤ 1000 := by
  have := sumL_bd (h := p1) (B := 1) (by omega) (colL cs (k : Int)) fun x hx => p1_bd x
  rw [colL_len] at this
  have h2 := H.ncs
  have h3 := H.nps
  omega
theorem Okm.gz {k : Nat} (hk : k ≤ is.length) : 0 ≤ sig (fun i => sumL pz (colL cs (i : Int))) k ∧ sig (fun i => sumL pz (colL cs (i : Int))) k ≤ 60000 := by
  have := sig_bd (B := 1000) k fun i hi => H.cz (k := i) (by omega)
  have := H.nis
  omega
theorem Okm.g1 {k : Nat} (hk : k ≤ is.length) : 0 ≤ sig (fun i => sumL p1 (colL cs (i : Int))) k ∧ sig (fun i => sumL p1 (colL cs (i : Int))) k ≤ 60000 := by
  have := sig_bd (B := 1000) k fun i hi => H.c1 (k := i) (by omega)
  have := H.nis
  omega
theorem Okm.dz : sumR pz cs = sig (fun i => sumL pz (colL cs (i : Int))) is.length := double pz is.length cs H.row
theorem Okm.d1 : sumR p1 cs = sig (fun i => sumL p1 (colL cs (i : Int))) is.length := double p1 is.length cs H.row
theorem Okm.nz {k n : Nat} (hk : k < is.length) (hn : cats.getD k 0 = (n : Int)) : sig (fun q => (q : Int) * ((cnt (colL cs (k : Int)) q : Nat) : Int)) n = sumL pz (colL cs (k : Int)) := by
  rw [cnt_sum (fun q => (q : Int)) n]
  refine sumL_congr _ fun x hx => ?_
  have := H.col k hk x hx
  rw [hn] at this
  unfold pz
  by_cases h : 0 ≤ x
  · rw [if_pos ⟨h, this⟩, if_pos h]; omega
  · rw [if_neg (by omega), if_neg h]
theorem Okm.n1 {k n : Nat} (hk : k < is.length) (hn : cats.getD k 0 = (n : Int)) : sig (fun q => ((cnt (colL cs (k : Int)) q : Nat) : Int)) n = sumL p1 (colL cs (k : Int)) := by
  have := cnt_sum (fun _ => 1) n (colL cs (k : Int))
  simp only [Int.one_mul] at this
  rw [this]
  refine sumL_congr _ fun x hx => ?_
  have := H.col k hk x hx
  rw [hn] at this
  unfold p1
  by_cases h : 0 ≤ x
  · rw [if_pos ⟨h, this⟩, if_pos h]
  · rw [if_neg (by omega), if_neg h]
end
theorem sz_succ (h : Int → Int) (cs : List (List Int)) {k : Nat} (hk : k < cs.length) : sumR h (cs.take (k + 1)) = sumR h (cs.take k) + sumL h (cs.getD k []) := by
  rw [take_succ_getD cs [] hk, sumR_snoc]
theorem prod_bd {j c : Nat} (hj : j < 6) (hc : c ≤ 200) : (0 : Int) ≤ (j : Int) * (c : Int) ∧ (j : Int) * (c : Int) ≤ 1000 := by
  have h : j * c ≤ 5 * 200 := Nat.mul_le_mul (by omega) hc
  have e : ((j * c : Nat) : Int) = (j : Int) * (c : Int) := Int.natCast_mul _ _
  omega
end Go.Proofs.Ytgdngopemlajjaa
