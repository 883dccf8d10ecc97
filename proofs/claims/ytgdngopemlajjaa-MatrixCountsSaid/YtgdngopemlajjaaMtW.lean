/- Counting by rows and by columns: the plain double count. -/
import Derived.Test.YtgdngopemlajjaaMtT
namespace Go.Proofs.Ytgdngopemlajjaa
open Go.RowKit
set_option linter.unusedVariables false

def sig (f : Nat → Int) : Nat → Int
  | 0 => 0
  | n + 1 => sig f n + f n
theorem sig_add (f g : Nat → Int) (n : Nat) : sig (fun i => f i + g i) n = sig f n + sig g n := by
  induction n with
  | zero => rfl
  | succ n ih => simp only [sig, ih]; omega
theorem sig_congr {f g : Nat → Int} {n : Nat} (h : ∀ i, i < n → f i = g i) : sig f n = sig g n := by
  induction n with
  | zero => rfl
  | succ n ih => simp only [sig]; rw [ih fun i hi => h i (by omega), h n (by omega)]
theorem sig_zero (n : Nat) : sig (fun _ => 0) n = 0 := by
  induction n with
  | zero => rfl
  | succ n ih => simp only [sig, ih]; rfl
/-- The sum of h over a list. -/
def sumL (h : Int → Int) : List Int → Int
  | [] => 0
  | x :: l => h x + sumL h l
theorem sumL_snoc (h : Int → Int) (l : List Int) (x : Int) : sumL h (l ++ [x]) = sumL h l + h x := by
  induction l with
  | nil => simp [sumL]
  | cons y l ih => simp only [List.cons_append, sumL, ih]; omega
theorem sig_list (h : Int → Int) (l : List Int) : sig (fun i => h (l.getD i 0)) l.length = sumL h l := by
  have key : ∀ k, k ≤ l.length → sig (fun i => h (l.getD i 0)) k = sumL h (l.take k) := by
    intro k
    induction k with
    | zero => intro _; rfl
    | succ k ih =>
      intro hk
      rw [take_succ_getD l 0 (by omega), sumL_snoc, ← ih (by omega)]; rfl
  have := key l.length (Nat.le_refl _)
  rwa [List.take_length] at this
/-- The sum over all rows. -/
def sumR (h : Int → Int) : List (List Int) → Int
  | [] => 0
  | r :: cs => sumL h r + sumR h cs
theorem double (h : Int → Int) (m : Nat) : ∀ cs : List (List Int), (∀ r ∈ cs, r.length = m) → sumR h cs = sig (fun i => sumL h (colL cs (i : Int))) m
  | [], _ => by
    have : sig (fun i => sumL h (colL [] (i : Int))) m = sig (fun _ => 0) m := sig_congr fun i _ => rfl
    rw [this, sig_zero]; rfl
  | r :: cs, hr => by
    have ih := double h m cs fun q hq => hr q (by simp [hq])
    have e : sig (fun i => sumL h (colL (r :: cs) (i : Int))) m = sig (fun i => h (r.getD i 0) + sumL h (colL cs (i : Int))) m := sig_congr fun i _ => by
      simp only [colL, List.map_cons, sumL, Int.toNat_natCast]
    rw [e, sig_add, ← ih]
    have := sig_list h r
    rw [hr r (by simp)] at this
    rw [this]; rfl
def pz (x : Int) : Int := if 0 ≤ x then x else 0
def p1 (x : Int) : Int := if 0 ≤ x then 1 else 0
theorem sig_pick (f : Nat → Int) (x : Int) (n : Nat) : sig (fun k => if x = (k : Int) then f k else 0) n = if 0 ≤ x ∧ x < (n : Int) then f x.toNat else 0 := by
  induction n with
  | zero => rw [if_neg (by omega)]; rfl
  | succ n ih =>
    simp only [sig, ih]
    by_cases e : x = (n : Int)
    · subst e
      rw [if_neg (by omega), if_pos rfl, if_pos (by omega), Int.toNat_natCast]; omega
    · rw [if_neg e]
      by_cases h : 0 ≤ x ∧ x < (n : Int)
      · rw [if_pos h, if_pos (by omega)]; omega
      · rw [if_neg h, if_neg (by omega)]; rfl
theorem cnt_cons (x : Int) (l : List Int) (k : Nat) : cnt (x :: l) k = cnt l k + if x = (k : Int) then 1 else 0 := by
  unfold cnt; rw [List.countP_cons]
  by_cases h : x = (k : Int) <;> simp [h]
theorem cnt_sum (f : Nat → Int) (n : Nat) : ∀ l : List Int, sig (fun k => f k * ((cnt l k : Nat) : Int)) n = sumL (fun x => if 0 ≤ x ∧ x < (n : Int) then f x.toNat else 0) l
  | [] => by
    have : sig (fun k => f k * ((cnt [] k : Nat) : Int)) n = sig (fun _ => 0) n := sig_congr fun i _ => by simp [cnt]
    rw [this, sig_zero]; rfl
  | x :: l => by
    have e : sig (fun k => f k * ((cnt (x :: l) k : Nat) : Int)) n = sig (fun k => f k * ((cnt l k : Nat) : Int) + (if x = (k : Int) then f k else 0)) n := sig_congr fun k _ => by
      rw [cnt_cons]
      split
      · simp only [Int.natCast_add, Int.mul_add]; simp
      · simp
    rw [e, sig_add, cnt_sum f n l, sig_pick]
    simp only [sumL]; omega
end Go.Proofs.Ytgdngopemlajjaa
