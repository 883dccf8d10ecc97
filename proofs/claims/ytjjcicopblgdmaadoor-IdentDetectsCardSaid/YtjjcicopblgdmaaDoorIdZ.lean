/- Plain facts on wrong and exchanged digits. No condition. -/
import Derived.Test.YtjjcicopblgdmaaDoorIdX
namespace Go.Proofs.YtjjcicopblgdmaaDoor
open Go.RowKit
set_option linter.unusedVariables false

theorem numV_app (a : List UInt8) : ∀ b : List UInt8, numV (a ++ b) = numV a * 10 ^ b.length + numV b := by
  intro b
  generalize hn : b.length = n
  induction n generalizing b with
  | zero => obtain rfl := List.length_eq_zero_iff.1 hn; simp [numV]
  | succ n ih =>
    have hne : b ≠ [] := by intro h; rw [h] at hn; simp at hn
    obtain ⟨m, c, rfl⟩ : ∃ m c, b = m ++ [c] := ⟨b.dropLast, b.getLast hne, (List.dropLast_concat_getLast hne).symm⟩
    have hm : m.length = n := by simpa using hn
    rw [← List.append_assoc, numV_snoc, numV_snoc, ih m hm, pow_succ_int]
    generalize (10 : Int) ^ n = P
    generalize numV a = A
    generalize numV m = M
    rw [Int.add_mul, Int.mul_assoc]
    omega
theorem numV_one (c : UInt8) : numV [c] = (c.toNat : Int) - 48 := by simp [numV]
theorem numV_set (l : List UInt8) (i : Nat) (x : UInt8) (hi : i < l.length) : numV (l.set i x) = numV l + ((x.toNat : Int) - ((l.getD i 0).toNat : Int)) * 10 ^ (l.length - 1 - i) := by
  have e1 : l = l.take i ++ ([l.getD i 0] ++ l.drop (i + 1)) := by
    have h0 : l.getD i 0 = l[i] := by simp [List.getD, List.getElem?_eq_getElem hi]
    rw [h0, List.singleton_append, List.getElem_cons_drop, List.take_append_drop]
  have e2 : l.set i x = l.take i ++ ([x] ++ l.drop (i + 1)) := by
    rw [List.singleton_append, List.set_eq_take_append_cons_drop, if_pos hi]
  have hd : (l.drop (i + 1)).length = l.length - 1 - i := by rw [List.length_drop]; omega
  have h1 : numV (l.set i x) = numV (l.take i) * 10 ^ ([x] ++ l.drop (i + 1)).length + (((x.toNat : Int) - 48) * 10 ^ (l.length - 1 - i) + numV (l.drop (i + 1))) := by
    rw [e2, numV_app, numV_app, numV_one, hd]
  have h2 : numV l = numV (l.take i) * 10 ^ ([l.getD i 0] ++ l.drop (i + 1)).length + ((((l.getD i 0).toNat : Int) - 48) * 10 ^ (l.length - 1 - i) + numV (l.drop (i + 1))) := by
    conv => lhs; rw [e1]
    rw [numV_app, numV_app, numV_one, hd]
  have h3 : ([x] ++ l.drop (i + 1)).length = ([l.getD i 0] ++ l.drop (i + 1)).length := by simp
  rw [h1, h2, h3]
  generalize numV (l.take i) * 10 ^ ([l.getD i 0] ++ l.drop (i + 1)).length = A
  generalize (10 : Int) ^ (l.length - 1 - i) = P
  generalize numV (l.drop (i + 1)) = B
  rw [Int.sub_mul, Int.sub_mul, Int.sub_mul]
  omega
theorem allD_app (a b : List UInt8) : allD (a ++ b) = (allD a && allD b) := by unfold allD; simp
/-- What is accepted is 1 modulo 97. -/
theorem parse_mod {s : ByteArray} {k : Nat} {l : List UInt8} (hk : 1 ≤ k ∧ k ≤ 6) (hl : l.length = 9) (hs : s.data.toList = join k l) (ha : allD l = true) (h : (pX s).2.2 = 0) : ((k : Int) * 1000000000 + numV l) % 97 = 1 := by
  have e : l = l.take 7 ++ l.drop 7 := (List.take_append_drop 7 l).symm
  have ha' : allD (l.take 7) = true ∧ allD (l.drop 7) = true := by
    rw [e, allD_app, Bool.and_eq_true] at ha
    exact ha
  have h2 : (l.drop 7).length = 2 := by rw [List.length_drop]; omega
  rw [parse_join hk hl hs] at h
  have hv : numV l = numV (l.take 7) * 100 + numV (l.drop 7) := by
    conv => lhs; rw [e]
    rw [numV_app, h2]; rfl
  have n1 : numI (l.take 7) = numV (l.take 7) := if_pos ha'.1
  have n2 : numI (l.drop 7) = numV (l.drop 7) := if_pos ha'.2
  rw [n1, n2, ha'.1, ha'.2] at h
  unfold parseX at h
  rw [if_neg (by simp; omega)] at h
  split at h
  · simp at h
  split at h
  · simp at h
  rename_i _ h3
  have h3' := Classical.not_not.1 h3
  unfold chk at h3'
  omega
theorem pow_diff {j : Nat} {d : Int} (hj : j ≤ 8) (h1 : -9 ≤ d) (h2 : d ≤ 9) (h0 : d ≠ 0) (x : Int) (hx : x % 97 = 1) : (x + d * 10 ^ j) % 97 ≠ 1 := by
  have : j = 0 ∨ j = 1 ∨ j = 2 ∨ j = 3 ∨ j = 4 ∨ j = 5 ∨ j = 6 ∨ j = 7 ∨ j = 8 := by omega
  rcases this with h | h | h | h | h | h | h | h | h <;> subst h
  · rw [show (10 : Int) ^ 0 = 1 by decide]; omega
  · rw [show (10 : Int) ^ 1 = 10 by decide]; omega
  · rw [show (10 : Int) ^ 2 = 100 by decide]; omega
  · rw [show (10 : Int) ^ 3 = 1000 by decide]; omega
  · rw [show (10 : Int) ^ 4 = 10000 by decide]; omega
  · rw [show (10 : Int) ^ 5 = 100000 by decide]; omega
  · rw [show (10 : Int) ^ 6 = 1000000 by decide]; omega
  · rw [show (10 : Int) ^ 7 = 10000000 by decide]; omega
  · rw [show (10 : Int) ^ 8 = 100000000 by decide]; omega
theorem pow_diff2 {j : Nat} {d : Int} (hj : j ≤ 7) (h1 : -9 ≤ d) (h2 : d ≤ 9) (h0 : d ≠ 0) (x : Int) (hx : x % 97 = 1) : (x + d * 10 ^ (j + 1) + (-d) * 10 ^ j) % 97 ≠ 1 := by
  have : j = 0 ∨ j = 1 ∨ j = 2 ∨ j = 3 ∨ j = 4 ∨ j = 5 ∨ j = 6 ∨ j = 7 := by omega
  rcases this with h | h | h | h | h | h | h | h <;> subst h
  · rw [show (10 : Int) ^ (0 + 1) = 10 by decide, show (10 : Int) ^ 0 = 1 by decide]; omega
  · rw [show (10 : Int) ^ (1 + 1) = 100 by decide, show (10 : Int) ^ 1 = 10 by decide]; omega
  · rw [show (10 : Int) ^ (2 + 1) = 1000 by decide, show (10 : Int) ^ 2 = 100 by decide]; omega
  · rw [show (10 : Int) ^ (3 + 1) = 10000 by decide, show (10 : Int) ^ 3 = 1000 by decide]; omega
  · rw [show (10 : Int) ^ (4 + 1) = 100000 by decide, show (10 : Int) ^ 4 = 10000 by decide]; omega
  · rw [show (10 : Int) ^ (5 + 1) = 1000000 by decide, show (10 : Int) ^ 5 = 100000 by decide]; omega
  · rw [show (10 : Int) ^ (6 + 1) = 10000000 by decide, show (10 : Int) ^ 6 = 1000000 by decide]; omega
  · rw [show (10 : Int) ^ (7 + 1) = 100000000 by decide, show (10 : Int) ^ 7 = 10000000 by decide]; omega

/-- The place of the digit number i. -/
def dAt (i : Nat) : Nat := if i < 7 then 4 + i else 5 + i
theorem join_set {k : Nat} {l : List UInt8} (hk : 1 ≤ k ∧ k ≤ 6) (hl : l.length = 9) {i : Nat} (hi : i < 9) (x : UInt8) : (join k l).set (dAt i) x = join k (l.set i x) ∧ (join k l).getD (dAt i) 0 = l.getD i 0 ∧ (join k l).length = 14 := by
  have hp := preB_len hk
  unfold join
  generalize (preB k).data.toList = p at *
  match p, hp, l, hl with
  | [p0, p1, p2], _, [a0, a1, a2, a3, a4, a5, a6, a7, a8], _ =>
    have : i = 0 ∨ i = 1 ∨ i = 2 ∨ i = 3 ∨ i = 4 ∨ i = 5 ∨ i = 6 ∨ i = 7 ∨ i = 8 := by omega
    rcases this with h | h | h | h | h | h | h | h | h <;> subst h <;> exact ⟨rfl, rfl, rfl⟩
theorem allD_get {l : List UInt8} (h : allD l = true) {i : Nat} (hi : i < l.length) : 48 ≤ (l.getD i 0).toNat ∧ (l.getD i 0).toNat ≤ 57 := by
  unfold allD at h
  rw [List.all_eq_true] at h
  have h0 : l.getD i 0 = l[i] := by simp [List.getD, List.getElem?_eq_getElem hi]
  have := (digB_iff _).1 (h l[i] (List.getElem_mem hi))
  rw [h0]; omega
theorem allD_set {l : List UInt8} (h : allD l = true) {x : UInt8} (hx : digB x = true) (i : Nat) : allD (l.set i x) = true := by
  unfold allD at *
  rw [List.all_eq_true] at *
  intro y hy
  rcases List.mem_or_eq_of_mem_set hy with h1 | h1
  · exact h y h1
  · rw [h1]; exact hx
/-- The nine digits. -/
def nine (k n : Nat) : List UInt8 := dgs n 7 ++ dgs (chN k n) 2
theorem nine_len (k n : Nat) : (nine k n).length = 9 := by unfold nine; rw [List.length_append, dgs_len, dgs_len]
theorem nine_all (k n : Nat) : allD (nine k n) = true := by unfold nine; rw [allD_app, dgs_all, dgs_all]; rfl
theorem nine_join (k n : Nat) : (idB k n).data.toList = join k (nine k n) := (join_idL k n).symm
theorem nine_mod {k n : Nat} (hk : 1 ≤ k ∧ k ≤ 6) (hn : 1 ≤ n ∧ n ≤ 9999999) : ((k : Int) * 1000000000 + numV (nine k n)) % 97 = 1 :=
  parse_mod hk (nine_len k n) (nine_join k n) (nine_all k n) (by rw [parse_id hk hn])
theorem toNat_ne {a b : UInt8} (h : a ≠ b) : (a.toNat : Int) ≠ (b.toNat : Int) := fun e => h (UInt8.toNat.inj (by omega))
/-- A wrong digit is noticed. -/
theorem wrong_digit {k n i : Nat} {x : UInt8} (hk : 1 ≤ k ∧ k ≤ 6) (hn : 1 ≤ n ∧ n ≤ 9999999) (hi : i < 9) (hx : digB x = true) (hne : x ≠ (idB k n).data.toList.getD (dAt i) 0) :
    (pX ⟨((idB k n).data.toList.set (dAt i) x).toArray⟩).2.2 ≠ 0 := by
  have hl := nine_len k n
  rw [nine_join] at hne ⊢
  obtain ⟨h1, h2, _⟩ := join_set hk hl hi x
  rw [h2] at hne
  rw [h1]
  intro h
  have hm := parse_mod (s := ⟨(join k ((nine k n).set i x)).toArray⟩) hk (by rw [List.length_set]; exact hl) rfl (allD_set (nine_all k n) hx i) h
  rw [numV_set _ _ _ (by omega), hl] at hm
  have hd := allD_get (nine_all k n) (show i < (nine k n).length by omega)
  have hx' := (digB_iff x).1 hx
  refine pow_diff (j := 9 - 1 - i) (d := (x.toNat : Int) - (((nine k n).getD i 0).toNat : Int)) (by omega) (by omega) (by omega) (by have := toNat_ne hne; omega) _ (nine_mod hk hn) ?_
  rw [← hm]
  congr 1
  omega
/-- An exchange of neighboring digits is noticed. -/
theorem wrong_order {k n i : Nat} (hk : 1 ≤ k ∧ k ≤ 6) (hn : 1 ≤ n ∧ n ≤ 9999999) (hi : i < 8) (hne : (idB k n).data.toList.getD (dAt i) 0 ≠ (idB k n).data.toList.getD (dAt (i + 1)) 0) :
    (pX ⟨(((idB k n).data.toList.set (dAt i) ((idB k n).data.toList.getD (dAt (i + 1)) 0)).set (dAt (i + 1)) ((idB k n).data.toList.getD (dAt i) 0)).toArray⟩).2.2 ≠ 0 := by
  have hl := nine_len k n
  rw [nine_join] at hne ⊢
  have e1 := (join_set hk hl (show i < 9 by omega) 0).2.1
  have e2 := (join_set hk hl (show i + 1 < 9 by omega) 0).2.1
  rw [e1, e2] at hne ⊢
  have hd1 := allD_get (nine_all k n) (show i < (nine k n).length by omega)
  have hd2 := allD_get (nine_all k n) (show i + 1 < (nine k n).length by omega)
  obtain ⟨x, hx⟩ : ∃ x, (nine k n).getD i 0 = x := ⟨_, rfl⟩
  obtain ⟨y, hy⟩ : ∃ y, (nine k n).getD (i + 1) 0 = y := ⟨_, rfl⟩
  rw [hx, hy] at hne ⊢
  rw [hx] at hd1
  rw [hy] at hd2
  have gx : digB x = true := (digB_iff x).2 (by omega)
  have gy : digB y = true := (digB_iff y).2 (by omega)
  rw [(join_set hk hl (show i < 9 by omega) y).1, (join_set hk (by rw [List.length_set]; exact hl) (show i + 1 < 9 by omega) x).1]
  intro h
  have hm := parse_mod (s := ⟨(join k (((nine k n).set i y).set (i + 1) x)).toArray⟩) hk (by rw [List.length_set, List.length_set]; exact hl) rfl (allD_set (allD_set (nine_all k n) gy i) gx (i + 1)) h
  have hg : ((nine k n).set i y).getD (i + 1) 0 = y := by
    rw [← hy, List.getD_eq_getElem?_getD, List.getElem?_set_ne (by omega), ← List.getD_eq_getElem?_getD]
  rw [numV_set _ _ _ (by rw [List.length_set]; omega), List.length_set, hl, numV_set _ _ _ (by omega), hl, hg, hx] at hm
  have := toNat_ne hne
  refine pow_diff2 (j := 9 - 1 - (i + 1)) (d := (y.toNat : Int) - (x.toNat : Int)) (by omega) (by omega) (by omega) (by omega) _ (nine_mod hk hn) ?_
  rw [← hm]
  congr 1
  rw [show 9 - 1 - i = 9 - 1 - (i + 1) + 1 by omega, show (x.toNat : Int) - (y.toNat : Int) = -((y.toNat : Int) - (x.toNat : Int)) by omega]
  omega
end Go.Proofs.YtjjcicopblgdmaaDoor
