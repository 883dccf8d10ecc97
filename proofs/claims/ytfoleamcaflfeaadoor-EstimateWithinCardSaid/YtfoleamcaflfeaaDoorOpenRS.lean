/- How a ratio by value reads, with the form's bound on its sizes. -/
import Derived.Test.YtfoleamcaflfeaaDoorOpenR
import Derived.Test.YtfoleamcaflfeaaDoorOpenS
namespace Go.Proofs.YtfoleamcaflfeaaDoor
open Go.RowKit Go.ChangeShapes Go.WideShapes Go.Deep Go.Joins
set_option linter.unusedVariables false
section
variable {H : Type} {enc : TypeId × Value → H} {P : Program} {w : World} {base : Nat} {spare : Nat → Bool} {held : Bool}
theorem open_ratioS {r : Reach} {b0 : Nat} {t i nt b e : TypeId} {f0 f1 g0 g1 : Field} {v : Value} {d : DataW H} {p : List MemPlace} (ht : P.underlying t = some (.struct #[f0, f1])) (hf0 : f0.type = i ∧ f0.offset = 0) (hf1 : f1.type = nt ∧ f1.offset = 2)
    (hct : P.cellsOf t = 3) (hci : P.cellsOf i = 2) (hcn : P.cellsOf nt = 1) (hi : P.underlying i = some (.struct #[g0, g1])) (hg0 : g0.type = b ∧ g0.offset = 0) (hg1 : g1.type = nt ∧ g1.offset = 1) (hb : P.underlying b = some .bool) (hcb : P.cellsOf b = 1)
    (hn : P.underlying nt = some (.slice e)) (he : P.underlying e = some (.int .u32)) (hce : P.cellsOf e = 1) (hby : P.bytesOf e = 4)
    (hv : Value.okWide P w r b0 t v) (h : DataW.Trod enc P w base spare held t v d p) (hs : ∀ m ∈ d.weights P t, m ≤ 140737488351232) : ∃ ng mv dv la lb, v = .agg #[.bool ng, mv, dv] ∧ Lim w mv la ∧ Lim w dv lb ∧ la.length ≤ 35184372087808 ∧ lb.length ≤ 35184372087808 := by
  obtain ⟨cs, rfl, hsz⟩ := okWide_struct ht hv
  obtain ⟨c0, c1, c2, rfl⟩ : ∃ c0 c1 c2, cs = #[c0, c1, c2] := by
    obtain ⟨l⟩ := cs
    match l, (hsz.trans hct) with
    | [c0, c1, c2], _ => exact ⟨c0, c1, c2, rfl⟩
  obtain ⟨fuel, hf⟩ := h
  obtain ⟨y0, y1, n, hx, _, h0, h1⟩ := trod_struct2 ht hf
  rw [hf0.1, hf0.2, hci] at h0
  rw [hf1.1, hf1.2, hcn] at h1
  obtain ⟨z0, z1, m, hx2, _, k0, k1⟩ := trod_struct2 hi h0
  rw [hg0.1, hg0.2, hcb] at k0
  rw [hg1.1, hg1.2, hcn] at k1
  obtain ⟨rfl, _⟩ : d = .agg [y0.1, y1.1] ∧ p = y0.2 ++ y1.2 := by injection hx with a b; exact ⟨a, b⟩
  have s1 : ∀ m ∈ y1.1.weights P nt, m ≤ 140737488351232 := fun m hm => hs m (by
    simp only [DataW.weights, ht, List.map_cons, List.map_nil, DataW.weightsEach, hf0.1, hf1.1, List.append_nil, List.mem_append]
    exact .inr hm)
  have s0 : ∀ m ∈ z1.1.weights P nt, m ≤ 140737488351232 := fun m hm => hs m (by
    simp only [DataW.weights, ht, List.map_cons, List.map_nil, DataW.weightsEach, hf0.1, hf1.1, List.append_nil, List.mem_append]
    refine .inl ?_
    rw [hx2]
    simp only [DataW.weights, hi, List.map_cons, List.map_nil, DataW.weightsEach, hg0.1, hg1.1, List.append_nil, List.mem_append]
    exact .inr hm)
  obtain ⟨ng, e0, _⟩ := DataW.trod_bool hb k0
  have e0' : c0 = .bool ng := by simpa [Value.cells] using e0
  subst e0'
  have k1' : DataW.trod enc P w base spare held m nt [c1] = some z1 := by simpa [Value.cells] using k1
  have h1' : DataW.trod enc P w base spare held n nt [c2] = some y1 := by simpa [Value.cells] using h1
  obtain ⟨la, hla⟩ := open_lim (v := c1) hn he hce k1'
  obtain ⟨lb, hlb⟩ := open_lim (v := c2) hn he hce h1'
  obtain ⟨⟨A1, x1, rfl, _⟩, _⟩ := id hla
  obtain ⟨⟨A2, x2, rfl, _⟩, _⟩ := id hlb
  have l1 := len_size hn k1' s0
  have l2 := len_size hn h1' s1
  rw [hby] at l1 l2
  exact ⟨ng, _, _, la, lb, rfl, hla, hlb, by omega, by omega⟩
end
end Go.Proofs.YtfoleamcaflfeaaDoor
