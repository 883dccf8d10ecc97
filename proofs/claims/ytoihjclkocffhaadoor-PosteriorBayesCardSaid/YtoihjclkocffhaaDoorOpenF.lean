/- How a law's arguments read: lists of families of models. -/
import Derived.Test.YtoihjclkocffhaaDoorOpenL
import Derived.SizedLaws
namespace Go.Proofs.YtoihjclkocffhaaDoor
open Go.RowKit Go.ChangeShapes Go.WideShapes Go.Deep
set_option linter.unusedVariables false

theorem bytesMods : Tryd.prog.bytesOf 35 = 24 := by kernel_rfl
theorem famL_len {w : World} {A : Option Addr} {n c : Nat} {xs : List (List (List (List Int)))} (h : FamL w (.slice A n c) xs) : n = xs.length := by
  obtain ⟨_, _, _, h, _⟩ := h
  injection h
section
variable {H : Type} {enc : TypeId × Value → H} {P : Program} {w : World} {base : Nat} {spare : Nat → Bool} {held : Bool}
theorem sizeAtF {ts : List TypeId} {ds : List (DataW H)} (h : (DataW.weightsEach P ts ds).all (· ≤ reachBytes) = true) {j : Nat} {t : TypeId} {d : DataW H} (ht : ts[j]? = some t) (hd : ds[j]? = some d) : ∀ m ∈ d.weights P t, m ≤ 140737488351232 := by
  intro m hm
  have := List.all_eq_true.1 h _ (DataW.weights_mem_each ht hd m hm)
  exact of_decide_eq_true this
theorem len_size {t e : TypeId} {fuel : Nat} {A : Option Addr} {n c : Nat} {x : DataW H × List MemPlace} (ht : P.underlying t = some (.slice e))
    (h : DataW.trod enc P w base spare held fuel t [.slice A n c] = some x) (hsz : ∀ m ∈ x.1.weights P t, m ≤ 140737488351232) : n * P.bytesOf e ≤ 140737488351232 := by
  rcases open_slice ht h with ⟨hcs, _⟩ | ⟨a, len, cap, m, n', D, Pl, hcs, _, hl, hm, hmm, hx, _⟩
  · simp only [List.cons.injEq, and_true, Value.slice.injEq] at hcs
    rw [hcs.2.1]; simp
  · simp only [List.cons.injEq, and_true, Value.slice.injEq] at hcs
    subst hx
    have hw := hsz _ (by simp only [DataW.weights, ht]; exact List.mem_cons_self ..)
    simp only [List.length_map, List.length_range] at hw
    rw [hcs.2.1]
    exact Nat.le_trans (Nat.mul_le_mul_right _ (Nat.le_add_right _ _)) hw
theorem open_famL {t m s r e i : TypeId} {f0 : Field} {fuel : Nat} {v : Value} {x : DataW H × List MemPlace} (ht : P.underlying t = some (.slice m)) (hcm : P.cellsOf m = 1) (hm : P.underlying m = some (.slice s)) (hcs : P.cellsOf s = 1) (hs : P.underlying s = some (.struct #[f0])) (hone : oneCellFields P #[f0] = true) (hf : f0.type = r)
    (hr : P.underlying r = some (.slice e)) (hce : P.cellsOf e = 1) (he : P.underlying e = some (.slice i)) (hi : P.underlying i = some (.int .i64)) (hci : P.cellsOf i = 1)
    (h : DataW.trod enc P w base spare held fuel t [v] = some x) : ∃ xs, FamL w v xs :=
  open_lst [] ht hcm (fun n u y hy => open_modL hm hcs hs hone hf hr hce he hi hci hy) h
end
end Go.Proofs.YtoihjclkocffhaaDoor
