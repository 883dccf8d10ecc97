/- How a law's arguments read: slices of slices of numbers, of models, of lists of limbs. -/
import Derived.Test.YtdmjgildgjpmcaaLst
import Derived.Test.YtdmjgildgjpmcaaOpen
import Derived.Deep.Fields
namespace Go.Proofs.Ytdmjgildgjpmcaa
open Go.RowKit Go.ChangeShapes Go.WideShapes Go.Deep
set_option linter.unusedVariables false

theorem exists_list {α : Type} (d : α) (Q : Nat → α → Prop) : ∀ n : Nat, (∀ i, i < n → ∃ x, Q i x) → ∃ xs : List α, xs.length = n ∧ ∀ i, i < n → Q i (xs.getD i d)
  | 0, _ => ⟨[], rfl, fun i h => by omega⟩
  | n + 1, h => by
    obtain ⟨xs, hl, hq⟩ := exists_list d Q n (fun i hi => h i (by omega))
    obtain ⟨x, hx⟩ := h n (by omega)
    refine ⟨xs ++ [x], by simp [hl], fun i hi => ?_⟩
    rcases Nat.lt_succ_iff_lt_or_eq.1 hi with h1 | h1
    · rw [List.getD_eq_getElem?_getD, List.getElem?_append_left (by omega), ← List.getD_eq_getElem?_getD]
      exact hq i h1
    · subst h1
      rw [List.getD_eq_getElem?_getD, List.getElem?_append_right (by omega), hl, Nat.sub_self]
      exact hx
section
variable {H : Type} {enc : TypeId × Value → H} {P : Program} {w : World} {base : Nat} {spare : Nat → Bool} {held : Bool}
theorem open_lst {α : Type} {R : World → Value → α → Prop} (d : α) {t e : TypeId} {fuel : Nat} {v : Value} {x : DataW H × List MemPlace} (ht : P.underlying t = some (.slice e)) (hce : P.cellsOf e = 1)
    (hel : ∀ (n : Nat) (u : Value) (y : DataW H × List MemPlace), DataW.trod enc P w base spare held n e [u] = some y → ∃ z, R w u z)
    (h : DataW.trod enc P w base spare held fuel t [v] = some x) : ∃ xs, LstOf R d w v xs := by
  rcases open_slice ht h with ⟨hcs, _⟩ | ⟨a, len, cap, m, n, D, Pl, hcs, _, hl, hm, hmm, _, hi⟩
  · simp only [List.cons.injEq, and_true] at hcs
    subst hcs
    exact ⟨[], LstOf.nil⟩
  · simp only [List.cons.injEq, and_true] at hcs
    subst hcs
    have hlm : len ≤ m := by rw [hmm]; split <;> omega
    have hq : ∀ i, i < len → ∃ p : Value × α, w.cell? (a.add i) = some p.1 ∧ R w p.1 p.2 := by
      intro i hil
      obtain ⟨cs', hc, hy⟩ := hi i (by omega)
      rw [hce, Nat.mul_one] at hc
      obtain ⟨_, hcl, hat⟩ := World.cells?_some hc
      match cs', hcl with
      | [u], _ =>
        obtain ⟨z, hz⟩ := hel n u _ hy
        have := hat 0 (by omega)
        rw [show (a.add i).add 0 = a.add i by simp [Addr.add]] at this
        exact ⟨(u, z), by simpa using this, hz⟩
    cases len with
    | zero => exact ⟨[], some a, cap, [], rfl, by simp, hm, Sl.nil, fun i u h => by simp at h⟩
    | succ len =>
      obtain ⟨p0, _, _⟩ := hq 0 (by omega)
      obtain ⟨ps, hpl, hps⟩ := exists_list p0 (fun i p => w.cell? (a.add i) = some p.1 ∧ R w p.1 p.2) (len + 1) hq
      have hget : ∀ i u, (ps.map (·.1))[i]? = some u → i < len + 1 ∧ u = (ps.getD i p0).1 := by
        intro i u hu
        rw [List.getElem?_map] at hu
        rcases Nat.lt_or_ge i ps.length with hip | hip
        · rw [List.getElem?_eq_getElem hip] at hu
          simp only [Option.map_some, Option.some.injEq] at hu
          exact ⟨by omega, by rw [List.getD_eq_getElem?_getD, List.getElem?_eq_getElem hip]; exact hu.symm⟩
        · rw [List.getElem?_eq_none hip] at hu; simp at hu
      refine ⟨ps.map (·.2), some a, cap, ps.map (·.1), by simp [hpl], by simp [hpl]; omega, hm, ?_, fun i u hu => ?_⟩
      · rw [List.length_map]
        refine sl_of_cells (by simp) (fun i u hu => ?_)
        obtain ⟨h1, rfl⟩ := hget i u hu
        exact (hps i h1).1
      · obtain ⟨h1, rfl⟩ := hget i u hu
        have := (hps i h1).2
        have e : (ps.map (·.2)).getD i d = (ps.getD i p0).2 := by
          rw [List.getD_eq_getElem?_getD, List.getElem?_map, List.getD_eq_getElem?_getD, List.getElem?_eq_getElem (by omega)]
          rfl
        rw [e]; exact this
theorem open_intsL {t e i : TypeId} {fuel : Nat} {v : Value} {x : DataW H × List MemPlace} (ht : P.underlying t = some (.slice e)) (hce : P.cellsOf e = 1) (he : P.underlying e = some (.slice i)) (hi : P.underlying i = some (.int .i64)) (hci : P.cellsOf i = 1)
    (h : DataW.trod enc P w base spare held fuel t [v] = some x) : ∃ xs, IntsL w v xs :=
  open_lst [] ht hce (fun n u y hy => by obtain ⟨zs, hz, _⟩ := open_nums he hi hci hy; exact ⟨zs, hz⟩) h
theorem open_one {s : TypeId} {f0 : Field} {n : Nat} {u : Value} {y : DataW H × List MemPlace} (hs : P.underlying s = some (.struct #[f0])) (hone : oneCellFields P #[f0] = true) (h : DataW.trod enc P w base spare held n s [u] = some y) :
    ∃ n' y', DataW.trod enc P w base spare held n' f0.type [u] = some y' := by
  obtain ⟨ys, n', _, _, _, hlen, hf⟩ := DataW.trod_struct hs h
  obtain ⟨ho, hk⟩ := hone_of hone 0 f0 rfl
  have h1 := hf 0 f0 rfl
  rw [ho, hk] at h1
  have hys : ys[0]? = some (ys[0]'(by rw [hlen]; simp)) := List.getElem?_eq_getElem _
  rw [hys] at h1
  exact ⟨n', _, by simpa using h1⟩
theorem open_modL {t s r e i : TypeId} {f0 : Field} {fuel : Nat} {v : Value} {x : DataW H × List MemPlace} (ht : P.underlying t = some (.slice s)) (hcs : P.cellsOf s = 1) (hs : P.underlying s = some (.struct #[f0])) (hone : oneCellFields P #[f0] = true) (hf : f0.type = r)
    (hr : P.underlying r = some (.slice e)) (hce : P.cellsOf e = 1) (he : P.underlying e = some (.slice i)) (hi : P.underlying i = some (.int .i64)) (hci : P.cellsOf i = 1)
    (h : DataW.trod enc P w base spare held fuel t [v] = some x) : ∃ xs, ModL w v xs :=
  open_lst [] ht hcs (fun n u y hy => by
    obtain ⟨n', y', hy'⟩ := open_one hs hone hy
    rw [hf] at hy'
    exact open_intsL hr hce he hi hci hy') h
end
end Go.Proofs.Ytdmjgildgjpmcaa
