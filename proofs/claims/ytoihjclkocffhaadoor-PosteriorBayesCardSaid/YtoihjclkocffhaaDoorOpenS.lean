/- How a list of lists of limbs reads, with the form's bound on their sizes. -/
import Derived.Test.YtoihjclkocffhaaDoorOpenF
namespace Go.Proofs.YtoihjclkocffhaaDoor
open Go.RowKit Go.ChangeShapes Go.WideShapes Go.Deep
set_option linter.unusedVariables false
theorem bytesU32 : Tryd.prog.bytesOf 69 = 4 := by kernel_rfl
section
variable {H : Type} {enc : TypeId × Value → H} {P : Program} {w : World} {base : Nat} {spare : Nat → Bool} {held : Bool}
theorem weightsAll_mem {e : TypeId} {d : DataW H} {m : Nat} (hm : m ∈ d.weights P e) : ∀ {l : List (DataW H)}, d ∈ l → m ∈ DataW.weightsAll P e l
  | [], h => by simp at h
  | x :: l, h => by
    rw [DataW.weightsAll, List.mem_append]
    rcases List.mem_cons.1 h with rfl | h
    · exact .inl hm
    · exact .inr (weightsAll_mem hm h)
theorem open_lstS {α : Type} {R : World → Value → α → Prop} (d : α) {t e : TypeId} {fuel : Nat} {v : Value} {x : DataW H × List MemPlace} (ht : P.underlying t = some (.slice e)) (hce : P.cellsOf e = 1)
    (hel : ∀ (n : Nat) (u : Value) (y : DataW H × List MemPlace), DataW.trod enc P w base spare held n e [u] = some y → (∀ m ∈ y.1.weights P e, m ≤ 140737488351232) → ∃ z, R w u z)
    (h : DataW.trod enc P w base spare held fuel t [v] = some x) (hsz : ∀ m ∈ x.1.weights P t, m ≤ 140737488351232) : ∃ xs, LstOf R d w v xs := by
  rcases open_slice ht h with ⟨hcs, _⟩ | ⟨a, len, cap, m, n, D, Pl, hcs, _, hl, hm, hmm, hxx, hi⟩
  · simp only [List.cons.injEq, and_true] at hcs
    subst hcs
    exact ⟨[], LstOf.nil⟩
  · simp only [List.cons.injEq, and_true] at hcs
    subst hcs
    have hlm : len ≤ m := by rw [hmm]; split <;> omega
    have hq : ∀ i, i < len → ∃ p : Value × α, w.cell? (a.add i) = some p.1 ∧ R w p.1 p.2 := by
      intro i hil
      obtain ⟨cs', hc, hy⟩ := hi i (by omega)
      rw [hce, Nat.mul_one] at hc
      obtain ⟨_, hcl, hat⟩ := World.cells?_some hc
      match cs', hcl with
      | [u], _ =>
        obtain ⟨z, hz⟩ := hel n u _ hy (fun mm hmm2 => hsz mm (by
          subst hxx
          simp only [DataW.weights, ht, List.mem_cons, List.mem_append]
          exact .inr (.inl (weightsAll_mem hmm2 (List.mem_map.2 ⟨i, List.mem_range.2 hil, rfl⟩)))))
        have := hat 0 (by omega)
        rw [show (a.add i).add 0 = a.add i by simp [Addr.add]] at this
        exact ⟨(u, z), by simpa using this, hz⟩
    cases len with
    | zero => exact ⟨[], some a, cap, [], rfl, by simp, hm, Sl.nil, fun i u h => by simp at h⟩
    | succ len =>
      obtain ⟨p0, _, _⟩ := hq 0 (by omega)
      obtain ⟨ps, hpl, hps⟩ := exists_list p0 (fun i p => w.cell? (a.add i) = some p.1 ∧ R w p.1 p.2) (len + 1) hq
      have hget : ∀ i u, (ps.map (·.1))[i]? = some u → i < len + 1 ∧ u = (ps.getD i p0).1 := by
        intro i u hu
        rw [List.getElem?_map] at hu
        rcases Nat.lt_or_ge i ps.length with hip | hip
        · rw [List.getElem?_eq_getElem hip] at hu
          simp only [Option.map_some, Option.some.injEq] at hu
          exact ⟨by omega, by rw [List.getD_eq_getElem?_getD, List.getElem?_eq_getElem hip]; exact hu.symm⟩
        · rw [List.getElem?_eq_none hip] at hu; simp at hu
      refine ⟨ps.map (·.2), some a, cap, ps.map (·.1), by simp [hpl], by simp [hpl]; omega, hm, ?_, fun i u hu => ?_⟩
      · rw [List.length_map]
        refine sl_of_cells (by simp) (fun i u hu => ?_)
        obtain ⟨h1, rfl⟩ := hget i u hu
        exact (hps i h1).1
      · obtain ⟨h1, rfl⟩ := hget i u hu
        have := (hps i h1).2
        have e : (ps.map (·.2)).getD i d = (ps.getD i p0).2 := by
          rw [List.getD_eq_getElem?_getD, List.getElem?_map, List.getD_eq_getElem?_getD, List.getElem?_eq_getElem (by omega)]
          rfl
        rw [e]; exact this
theorem open_limLS {t e i : TypeId} {fuel : Nat} {v : Value} {x : DataW H × List MemPlace} (ht : P.underlying t = some (.slice e)) (hce : P.cellsOf e = 1) (he : P.underlying e = some (.slice i)) (hi : P.underlying i = some (.int .u32)) (hci : P.cellsOf i = 1) (hby : P.bytesOf i = 4)
    (h : DataW.trod enc P w base spare held fuel t [v] = some x) (hsz : ∀ m ∈ x.1.weights P t, m ≤ 140737488351232) : ∃ lss, LimL w v lss ∧ ∀ l ∈ lss, l.length ≤ 35184372087808 := by
  obtain ⟨lss, A, c, us, hv, h1, h2, hs, hu⟩ := open_lstS (R := fun w u l => Lim w u l ∧ l.length ≤ 35184372087808) [] ht hce (fun n u y hy hs => by
    obtain ⟨ls, hl⟩ := open_lim he hi hci hy
    obtain ⟨⟨A, c, rfl, _⟩, _⟩ := id hl
    have := len_size he hy hs
    rw [hby] at this
    exact ⟨ls, hl, by omega⟩) h hsz
  refine ⟨lss, ⟨A, c, us, hv, h1, h2, hs, fun i u hi => (hu i u hi).1⟩, fun l hl => ?_⟩
  obtain ⟨j, hj, rfl⟩ := List.getElem_of_mem hl
  have := (hu j _ (List.getElem?_eq_getElem (by rw [hs.1]; exact hj))).2
  rwa [List.getD_eq_getElem?_getD, List.getElem?_eq_getElem hj] at this
end
end Go.Proofs.YtoihjclkocffhaaDoor
