/- How a ratio by value reads. -/
import Derived.Test.YtdmjgildgjpmcaaOpenL
namespace Go.Proofs.Ytdmjgildgjpmcaa
open Go.RowKit Go.ChangeShapes Go.WideShapes Go.Deep Go.Joins
set_option linter.unusedVariables false
section
variable {H : Type} {enc : TypeId × Value → H} {P : Program} {w : World} {base : Nat} {spare : Nat → Bool} {held : Bool}
theorem open_ratio {r : Reach} {b0 : Nat} {t i nt b e : TypeId} {f0 f1 g0 g1 : Field} {v : Value} {d : DataW H} {p : List MemPlace} (ht : P.underlying t = some (.struct #[f0, f1])) (hf0 : f0.type = i ∧ f0.offset = 0) (hf1 : f1.type = nt ∧ f1.offset = 2)
    (hct : P.cellsOf t = 3) (hci : P.cellsOf i = 2) (hcn : P.cellsOf nt = 1) (hi : P.underlying i = some (.struct #[g0, g1])) (hg0 : g0.type = b ∧ g0.offset = 0) (hg1 : g1.type = nt ∧ g1.offset = 1) (hb : P.underlying b = some .bool) (hcb : P.cellsOf b = 1)
    (hn : P.underlying nt = some (.slice e)) (he : P.underlying e = some (.int .u32)) (hce : P.cellsOf e = 1)
    (hv : Value.okWide P w r b0 t v) (h : DataW.Trod enc P w base spare held t v d p) : ∃ ng mv dv la lb, v = .agg #[.bool ng, mv, dv] ∧ Lim w mv la ∧ Lim w dv lb := by
  obtain ⟨cs, rfl, hsz⟩ := okWide_struct ht hv
  obtain ⟨c0, c1, c2, rfl⟩ : ∃ c0 c1 c2, cs = #[c0, c1, c2] := by
    obtain ⟨l⟩ := cs
    match l, (hsz.trans hct) with
    | [c0, c1, c2], _ => exact ⟨c0, c1, c2, rfl⟩
  obtain ⟨fuel, hf⟩ := h
  obtain ⟨y0, y1, n, _, _, h0, h1⟩ := trod_struct2 ht hf
  rw [hf0.1, hf0.2, hci] at h0
  rw [hf1.1, hf1.2, hcn] at h1
  obtain ⟨z0, z1, m, _, _, k0, k1⟩ := trod_struct2 hi h0
  rw [hg0.1, hg0.2, hcb] at k0
  rw [hg1.1, hg1.2, hcn] at k1
  obtain ⟨ng, e0, _⟩ := DataW.trod_bool hb k0
  have e0' : c0 = .bool ng := by simpa [Value.cells] using e0
  subst e0'
  obtain ⟨la, hla⟩ := open_lim (v := c1) hn he hce (by simpa [Value.cells] using k1)
  obtain ⟨lb, hlb⟩ := open_lim (v := c2) hn he hce (by simpa [Value.cells] using h1)
  exact ⟨ng, c1, c2, la, lb, rfl, hla, hlb⟩
theorem open_limL {t e i : TypeId} {fuel : Nat} {v : Value} {x : DataW H × List MemPlace} (ht : P.underlying t = some (.slice e)) (hce : P.cellsOf e = 1) (he : P.underlying e = some (.slice i)) (hi : P.underlying i = some (.int .u32)) (hci : P.cellsOf i = 1)
    (h : DataW.trod enc P w base spare held fuel t [v] = some x) : ∃ lss, LimL w v lss :=
  open_lst [] ht hce (fun n u y hy => open_lim he hi hci hy) h
end
end Go.Proofs.Ytdmjgildgjpmcaa
