/- Plain facts on what Parse returns for identifiers. No condition. -/
import Derived.Test.YtjjcicopblgdmaaDoorParses
import Derived.Test.YtjjcicopblgdmaaDoorIdW
namespace Go.Proofs.YtjjcicopblgdmaaDoor
open Go.RowKit
set_option linter.unusedVariables false

theorem preB_len {k : Nat} (h : 1 ≤ k ∧ k ≤ 6) : (preB k).data.toList.length = 3 := by
  have : k = 1 ∨ k = 2 ∨ k = 3 ∨ k = 4 ∨ k = 5 ∨ k = 6 := by omega
  rcases this with h | h | h | h | h | h <;> subst h <;> rfl
theorem kindAt_pre {k : Nat} (h : 1 ≤ k ∧ k ≤ 6) : kindAt (preB k) 6 = k := by
  have : k = 1 ∨ k = 2 ∨ k = 3 ∨ k = 4 ∨ k = 5 ∨ k = 6 := by omega
  rcases this with h | h | h | h | h | h <;> subst h <;> decide +kernel
theorem kindAt_of {p : ByteArray} : ∀ k, kindAt p k ≠ 0 → p = preB (kindAt p k)
  | 0, h => absurd rfl h
  | k + 1, h => by
    rcases hh : (p.toList == (preB (k + 1)).toList) with _ | _
    · rw [kindAt_miss p k hh] at h ⊢
      exact kindAt_of k h
    · rw [kindAt_hit p k hh]
      have := beq_iff_eq.1 hh
      rw [ByteArray.toList_eq, ByteArray.toList_eq] at this
      exact ba_ext this
theorem ext3 (s : ByteArray) : (s.extract 0 3).data.toList = s.data.toList.take 3 := by simp
theorem size_list (s : ByteArray) : s.size = s.data.toList.length := by rw [Array.length_toList]; rfl
/-- The letters of an identifier with these nine digits. -/
def join (k : Nat) (l : List UInt8) : List UInt8 := (preB k).data.toList ++ [45] ++ l.take 7 ++ [45] ++ l.drop 7
theorem join_idL (k n : Nat) : join k (dgs n 7 ++ dgs (chN k n) 2) = idL k n := by
  unfold join idL
  rw [List.take_left' (dgs_len 7 n), List.drop_left' (dgs_len 7 n)]
theorem at_list {s : ByteArray} {i : Nat} : s.data[i]? = s.data.toList[i]? := by rw [Array.getElem?_toList]
theorem parse_join {s : ByteArray} {k : Nat} {l : List UInt8} (hk : 1 ≤ k ∧ k ≤ 6) (hl : l.length = 9) (hs : s.data.toList = join k l) :
    pX s = parseX k (numI (l.take 7)) (numI (l.drop 7)) (allD (l.take 7)) (allD (l.drop 7)) := by
  have hp := preB_len hk
  have h7 : (l.take 7).length = 7 := by rw [List.length_take]; omega
  have h2 : (l.drop 7).length = 2 := by rw [List.length_drop]; omega
  have hK : parseK s = k := by
    unfold parseK
    have : s.extract 0 3 = preB k := by
      refine ba_ext ?_
      rw [ext3, hs, join, List.append_assoc, List.append_assoc, List.append_assoc, List.take_left' hp]
    rw [this, kindAt_pre hk]
  unfold join at hs
  generalize (preB k).data.toList = p at *
  obtain ⟨p0, p1, p2, rfl⟩ : ∃ a b c, p = [a, b, c] := by
    match p, hp with
    | [a, b, c], _ => exact ⟨a, b, c, rfl⟩
  have e1 : d1 s = l.take 7 := by
    unfold d1
    rw [hs]
    simp only [List.cons_append, List.nil_append, List.drop_succ_cons, List.drop_zero, List.append_assoc]
    exact List.take_left' h7
  have hsz : s.size = 14 := by
    rw [size_list, hs]; simp; omega
  have e2 : d2 s = l.drop 7 := by
    unfold d2
    rw [hs, hsz]
    have : (([p0, p1, p2] ++ [45] ++ l.take 7 ++ [45] ++ l.drop 7 : List UInt8).drop 12) = l.drop 7 := List.drop_left' (by simp; omega)
    rw [this]
    exact List.take_of_length_le (by rw [h2]; omega)
  have e3 : s.data[3]? = some 45 := by rw [at_list, hs]; rfl
  have e4 : s.data[11]? = some 45 := by
    rw [at_list, hs]
    rw [List.getElem?_append_left (by simp; omega), List.getElem?_append_right (by simp; omega)]
    simp [h7]
  unfold pX
  rw [if_pos ⟨hsz, e3, e4⟩, hK, e1, e2]
theorem chk_nat (k n : Nat) : chk k (n : Int) = (chN k n : Int) := by unfold chk chN; omega
theorem numI_dgs {k n : Nat} (h : n < 10 ^ k) : numI (dgs n k) = (n : Int) := by unfold numI; rw [if_pos (dgs_all k n), dgs_num k n h]
theorem parse_id {k n : Nat} (hk : 1 ≤ k ∧ k ≤ 6) (hn : 1 ≤ n ∧ n ≤ 9999999) : pX (idB k n) = ((k : Int), (n : Int), 0) := by
  have hb := chN_bd k n
  have e : (idB k n).data.toList = join k (dgs n 7 ++ dgs (chN k n) 2) := (join_idL k n).symm
  rw [parse_join hk (by rw [List.length_append, dgs_len, dgs_len]) e, List.take_left' (dgs_len 7 n), List.drop_left' (dgs_len 7 n), numI_dgs (by omega), numI_dgs (by omega), dgs_all, dgs_all]
  unfold parseX
  rw [if_neg (by simp; omega), if_neg (by omega), if_neg (by rw [chk_nat]; simp)]
/-- What is accepted. -/
theorem parse_back {s : ByteArray} (h : (pX s).2.2 = 0) : ∃ k n : Nat, (1 ≤ k ∧ k ≤ 6) ∧ (1 ≤ n ∧ n ≤ 9999999) ∧ s = idB k n ∧ pX s = ((k : Int), (n : Int), 0) := by
  by_cases hc : s.size = 14 ∧ s.data[3]? = some 45 ∧ s.data[11]? = some 45
  case neg => rw [pX_bad s hc] at h; simp at h
  have hX : pX s = parseX (parseK s) (numI (d1 s)) (numI (d2 s)) (allD (d1 s)) (allD (d2 s)) := if_pos hc
  obtain ⟨hsz, e3, e4⟩ := hc
  rw [hX] at h
  unfold parseX at h
  split at h
  · simp at h
  rename_i h1
  split at h
  · simp at h
  rename_i h2
  split at h
  · simp at h
  rename_i h3
  have hk0 : parseK s ≠ 0 := fun e => h1 (.inl e)
  have ha : allD (d1 s) = true := by cases hh : allD (d1 s) with | true => rfl | false => exact absurd (.inr (.inl hh)) h1
  have hb : allD (d2 s) = true := by cases hh : allD (d2 s) with | true => rfl | false => exact absurd (.inr (.inr hh)) h1
  have hk6 := kindAt_le (s.extract 0 3) 6
  have hk : 1 ≤ parseK s ∧ parseK s ≤ 6 := ⟨by omega, hk6⟩
  have hpre : s.extract 0 3 = preB (parseK s) := kindAt_of 6 hk0
  have hlen : s.data.toList.length = 14 := by rw [← size_list]; exact hsz
  have l1 : (d1 s).length = 7 := by unfold d1; rw [List.length_take, List.length_drop]; omega
  have l2 : (d2 s).length = 2 := by unfold d2; rw [List.length_take, List.length_drop]; omega
  have n1 : numI (d1 s) = numV (d1 s) := if_pos ha
  have n2 : numI (d2 s) = numV (d2 s) := if_pos hb
  have b1 := numV_bd 7 _ l1 ha
  have b2 := numV_bd 2 _ l2 hb
  rw [n1] at h2 h3
  rw [n2] at h3
  have hn : 1 ≤ (numV (d1 s)).toNat ∧ (numV (d1 s)).toNat ≤ 9999999 := by
    have : (10 : Int) ^ 7 = 10000000 := by decide
    omega
  have hV : numV (d1 s) = ((numV (d1 s)).toNat : Int) := by omega
  have h3' : numV (d2 s) = (chN (parseK s) (numV (d1 s)).toNat : Int) := by
    rw [← chk_nat, ← hV]
    exact Classical.not_not.1 h3
  have q1 : dgs (numV (d1 s)).toNat 7 = d1 s := dgs_of 7 _ l1 ha
  have q2 : dgs (chN (parseK s) (numV (d1 s)).toNat) 2 = d2 s := by
    have := dgs_of 2 _ l2 hb
    rw [h3', Int.toNat_natCast] at this
    exact this
  have hs : s = idB (parseK s) (numV (d1 s)).toNat := by
    refine ba_ext ?_
    show _ = idL _ _
    rw [idL, q1, q2, ← hpre, ext3]
    unfold d1 d2
    rw [hsz]
    rw [at_list] at e3 e4
    generalize s.data.toList = L at *
    match L, hlen with
    | [x0, x1, x2, x3, x4, x5, x6, x7, x8, x9, x10, x11, x12, x13], _ =>
      simp at e3 e4
      subst e3 e4
      rfl
  refine ⟨parseK s, (numV (d1 s)).toNat, hk, hn, hs, ?_⟩
  have := parse_id hk hn
  rw [← hs] at this
  exact this
theorem parse_err {s : ByteArray} (h : (pX s).2.2 ≠ 0) : (pX s).1 = 0 ∧ (pX s).2.1 = 0 := by
  unfold pX at h ⊢
  split
  · rename_i hc
    rw [if_pos hc] at h
    unfold parseX at h ⊢
    split
    · exact ⟨rfl, rfl⟩
    · rename_i h1
      rw [if_neg h1] at h
      split
      · exact ⟨rfl, rfl⟩
      · rename_i h2
        rw [if_neg h2] at h
        split
        · exact ⟨rfl, rfl⟩
        · rename_i h3
          rw [if_neg h3] at h
          exact absurd rfl h
  · exact ⟨rfl, rfl⟩
end Go.Proofs.YtjjcicopblgdmaaDoor
