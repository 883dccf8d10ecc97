/- How a law's arguments read: slices of numbers, of limbs, of such slices. How a law's arguments read: slices of slices of numbers, of models, of lists of limbs. How a law's arguments read: lists of families of models. How a list of lists of limbs reads, with the form's bound on their sizes. How a struct of one field by value reads. A world in which the listed tables read as the program's text lays them. No condition. -/
import Derived.Test.YtoihjclkocffhaaDoorNatL
import Derived.ProofKit
import Derived.OpenShut
import Derived.Deep.Slices
import Derived.Lib.SmallJoins
import Derived.Test.YtoihjclkocffhaaDoorLst
import Derived.Deep.Fields
import Derived.SizedLaws
import Derived.Test.YtoihjclkocffhaaDoorRows
import Derived.Test.YtoihjclkocffhaaDoorMem
import Derived.Lib.LaidTab
import Derived.Deep.DeepHandedRow
namespace Go.Proofs.YtoihjclkocffhaaDoor
open Go.RowKit Go.ChangeShapes Go.WideShapes Go.Deep
set_option linter.unusedVariables false

section
variable {H : Type} {enc : TypeId × Value → H} {P : Program} {w : World} {base : Nat} {spare : Nat → Bool} {held : Bool}
theorem spot_none {a : Addr} {v : Value} (h : w.cell? a = some v) : a.spot = none := by
  unfold World.cell? at h
  split at h
  · split at h
    · cases h
    · rename_i hs
      cases hsp : a.spot with
      | none => rfl
      | some x => rw [hsp] at hs; simp at hs
  · cases h
theorem sl_of_cells {a : Addr} {n : Nat} {xs : List Value} (hl : xs.length = n) (hc : ∀ i u, xs[i]? = some u → w.cell? (a.add i) = some u) : Sl w (some a) n xs := by
  refine ⟨hl, fun hn => ?_⟩
  have h0 : xs[0]? = some (xs[0]'(by omega)) := List.getElem?_eq_getElem _
  have h1 := hc 0 _ h0
  have hsp : a.spot = none := spot_none h1
  obtain ⟨b, o, sp⟩ := a
  simp only at hsp
  subst hsp
  refine ⟨b, o, rfl, fun j u hu => ?_⟩
  have := hc j u hu
  unfold Addr.add at this
  split at this
  · rename_i h; subst h; exact this
  · exact this
theorem open_nums {t e : TypeId} {k : IntKind} {fuel : Nat} {v : Value} {x : DataW H × List MemPlace} (ht : P.underlying t = some (.slice e)) (he : P.underlying e = some (.int k)) (hce : P.cellsOf e = 1)
    (h : DataW.trod enc P w base spare held fuel t [v] = some x) : ∃ zs, Nums k w v zs ∧ ∀ z ∈ zs, (Lit.int k z).wf = true := by
  rcases open_ints ht he hce h with ⟨hcs, _⟩ | ⟨a, len, cap, zs, hcs, _, hl, hm, hz, _, hcell, hwf⟩
  · simp only [List.cons.injEq, and_true] at hcs
    subst hcs
    exact ⟨[], Nums.nil _ _, fun z hz => by simp at hz⟩
  · simp only [List.cons.injEq, and_true] at hcs
    subst hcs
    have hlz : len ≤ zs.length := by rw [hz]; split <;> omega
    refine ⟨zs.take len, ⟨some a, cap, ?_, ?_, hm, ?_⟩, fun z hz => hwf z (List.mem_of_mem_take hz)⟩
    · rw [List.length_take, Nat.min_eq_left hlz]
    · rw [List.length_take, Nat.min_eq_left hlz]; exact hl
    · refine sl_of_cells (by simp) (fun i u hu => ?_)
      rw [List.getElem?_map, List.getElem?_take] at hu
      split at hu
      · rename_i hi
        rw [List.getElem?_eq_getElem (by omega)] at hu
        simp only [Option.map_some, Option.some.injEq] at hu
        subst hu
        rw [hcell i (by omega)]
        simp [List.getD, List.getElem?_eq_getElem (show i < zs.length by omega)]
      · simp at hu
theorem open_lim {t e : TypeId} {fuel : Nat} {v : Value} {x : DataW H × List MemPlace} (ht : P.underlying t = some (.slice e)) (he : P.underlying e = some (.int .u32)) (hce : P.cellsOf e = 1)
    (h : DataW.trod enc P w base spare held fuel t [v] = some x) : ∃ ls, Lim w v ls := by
  obtain ⟨zs, ⟨A, c, hv, h1, h2, hs⟩, hwf⟩ := open_nums ht he hce h
  have hb : ∀ z ∈ zs, 0 ≤ z ∧ z < 4294967296 := by
    intro z hz
    have := hwf z hz
    simp [Lit.wf, IntKind.min, IntKind.max, IntKind.signed, IntKind.bits] at this
    omega
  have e : zs.map (Value.int .u32) = lims (zs.map Int.toNat) := by
    unfold lims
    rw [List.map_map]
    apply List.map_congr_left
    intro z hz
    simp only [Function.comp]
    rw [Int.toNat_of_nonneg (hb z hz).1]
  refine ⟨zs.map Int.toNat, ⟨A, c, by rw [List.length_map]; exact hv, by rw [List.length_map]; exact h1, h2, ?_⟩, ?_⟩
  · rw [List.length_map, ← e]; exact hs
  · intro y hy
    obtain ⟨z, hz, rfl⟩ := List.mem_map.1 hy
    have := hb z hz
    omega
end
end Go.Proofs.YtoihjclkocffhaaDoor
namespace Go.Proofs.YtoihjclkocffhaaDoor
open Go.RowKit Go.ChangeShapes Go.WideShapes Go.Deep
set_option linter.unusedVariables false

theorem exists_list {α : Type} (d : α) (Q : Nat → α → Prop) : ∀ n : Nat, (∀ i, i < n → ∃ x, Q i x) → ∃ xs : List α, xs.length = n ∧ ∀ i, i < n → Q i (xs.getD i d)
  | 0, _ => ⟨[], rfl, fun i h => by omega⟩
  | n + 1, h => by
    obtain ⟨xs, hl, hq⟩ := exists_list d Q n (fun i hi => h i (by omega))
    obtain ⟨x, hx⟩ := h n (by omega)
    refine ⟨xs ++ [x], by simp [hl], fun i hi => ?_⟩
    rcases Nat.lt_succ_iff_lt_or_eq.1 hi with h1 | h1
    · rw [List.getD_eq_getElem?_getD, List.getElem?_append_left (by omega), ← List.getD_eq_getElem?_getD]
      exact hq i h1
    · subst h1
      rw [List.getD_eq_getElem?_getD, List.getElem?_append_right (by omega), hl, Nat.sub_self]
      exact hx
section
variable {H : Type} {enc : TypeId × Value → H} {P : Program} {w : World} {base : Nat} {spare : Nat → Bool} {held : Bool}
theorem open_lst {α : Type} {R : World → Value → α → Prop} (d : α) {t e : TypeId} {fuel : Nat} {v : Value} {x : DataW H × List MemPlace} (ht : P.underlying t = some (.slice e)) (hce : P.cellsOf e = 1)
    (hel : ∀ (n : Nat) (u : Value) (y : DataW H × List MemPlace), DataW.trod enc P w base spare held n e [u] = some y → ∃ z, R w u z)
    (h : DataW.trod enc P w base spare held fuel t [v] = some x) : ∃ xs, LstOf R d w v xs := by
  rcases open_slice ht h with ⟨hcs, _⟩ | ⟨a, len, cap, m, n, D, Pl, hcs, _, hl, hm, hmm, _, hi⟩
  · simp only [List.cons.injEq, and_true] at hcs
    subst hcs
    exact ⟨[], LstOf.nil⟩
  · simp only [List.cons.injEq, and_true] at hcs
    subst hcs
    have hlm : len ≤ m := by rw [hmm]; split <;> omega
    have hq : ∀ i, i < len → ∃ p : Value × α, w.cell? (a.add i) = some p.1 ∧ R w p.1 p.2 := by
      intro i hil
      obtain ⟨cs', hc, hy⟩ := hi i (by omega)
      rw [hce, Nat.mul_one] at hc
      obtain ⟨_, hcl, hat⟩ := World.cells?_some hc
      match cs', hcl with
      | [u], _ =>
        obtain ⟨z, hz⟩ := hel n u _ hy
        have := hat 0 (by omega)
        rw [show (a.add i).add 0 = a.add i by simp [Addr.add]] at this
        exact ⟨(u, z), by simpa using this, hz⟩
    cases len with
    | zero => exact ⟨[], some a, cap, [], rfl, by simp, hm, Sl.nil, fun i u h => by simp at h⟩
    | succ len =>
      obtain ⟨p0, _, _⟩ := hq 0 (by omega)
      obtain ⟨ps, hpl, hps⟩ := exists_list p0 (fun i p => w.cell? (a.add i) = some p.1 ∧ R w p.1 p.2) (len + 1) hq
      have hget : ∀ i u, (ps.map (·.1))[i]? = some u → i < len + 1 ∧ u = (ps.getD i p0).1 := by
        intro i u hu
        rw [List.getElem?_map] at hu
        rcases Nat.lt_or_ge i ps.length with hip | hip
        · rw [List.getElem?_eq_getElem hip] at hu
          simp only [Option.map_some, Option.some.injEq] at hu
          exact ⟨by omega, by rw [List.getD_eq_getElem?_getD, List.getElem?_eq_getElem hip]; exact hu.symm⟩
        · rw [List.getElem?_eq_none hip] at hu; simp at hu
      refine ⟨ps.map (·.2), some a, cap, ps.map (·.1), by simp [hpl], by simp [hpl]; omega, hm, ?_, fun i u hu => ?_⟩
      · rw [List.length_map]
        refine sl_of_cells (by simp) (fun i u hu => ?_)
        obtain ⟨h1, rfl⟩ := hget i u hu
        exact (hps i h1).1
      · obtain ⟨h1, rfl⟩ := hget i u hu
        have := (hps i h1).2
        have e : (ps.map (·.2)).getD i d = (ps.getD i p0).2 := by
          rw [List.getD_eq_getElem?_getD, List.getElem?_map, List.getD_eq_getElem?_getD, List.getElem?_eq_getElem (by omega)]
          rfl
        rw [e]; exact this
theorem open_intsL {t e i : TypeId} {fuel : Nat} {v : Value} {x : DataW H × List MemPlace} (ht : P.underlying t = some (.slice e)) (hce : P.cellsOf e = 1) (he : P.underlying e = some (.slice i)) (hi : P.underlying i = some (.int .i64)) (hci : P.cellsOf i = 1)
    (h : DataW.trod enc P w base spare held fuel t [v] = some x) : ∃ xs, IntsL w v xs :=
  open_lst [] ht hce (fun n u y hy => by obtain ⟨zs, hz, _⟩ := open_nums he hi hci hy; exact ⟨zs, hz⟩) h
theorem open_one {s : TypeId} {f0 : Field} {n : Nat} {u : Value} {y : DataW H × List MemPlace} (hs : P.underlying s = some (.struct #[f0])) (hone : oneCellFields P #[f0] = true) (h : DataW.trod enc P w base spare held n s [u] = some y) :
    ∃ n' y', DataW.trod enc P w base spare held n' f0.type [u] = some y' := by
  obtain ⟨ys, n', _, _, _, hlen, hf⟩ := DataW.trod_struct hs h
  obtain ⟨ho, hk⟩ := hone_of hone 0 f0 rfl
  have h1 := hf 0 f0 rfl
  rw [ho, hk] at h1
  have hys : ys[0]? = some (ys[0]'(by rw [hlen]; simp)) := List.getElem?_eq_getElem _
  rw [hys] at h1
  exact ⟨n', _, by simpa using h1⟩
theorem open_modL {t s r e i : TypeId} {f0 : Field} {fuel : Nat} {v : Value} {x : DataW H × List MemPlace} (ht : P.underlying t = some (.slice s)) (hcs : P.cellsOf s = 1) (hs : P.underlying s = some (.struct #[f0])) (hone : oneCellFields P #[f0] = true) (hf : f0.type = r)
    (hr : P.underlying r = some (.slice e)) (hce : P.cellsOf e = 1) (he : P.underlying e = some (.slice i)) (hi : P.underlying i = some (.int .i64)) (hci : P.cellsOf i = 1)
    (h : DataW.trod enc P w base spare held fuel t [v] = some x) : ∃ xs, ModL w v xs :=
  open_lst [] ht hcs (fun n u y hy => by
    obtain ⟨n', y', hy'⟩ := open_one hs hone hy
    rw [hf] at hy'
    exact open_intsL hr hce he hi hci hy') h
end
end Go.Proofs.YtoihjclkocffhaaDoor
namespace Go.Proofs.YtoihjclkocffhaaDoor
open Go.RowKit Go.ChangeShapes Go.WideShapes Go.Deep
set_option linter.unusedVariables false

theorem bytesMods : Tryd.prog.bytesOf 35 = 24 := by kernel_rfl
theorem famL_len {w : World} {A : Option Addr} {n c : Nat} {xs : List (List (List (List Int)))} (h : FamL w (.slice A n c) xs) : n = xs.length := by
  obtain ⟨_, _, _, h, _⟩ := h
  injection h
section
variable {H : Type} {enc : TypeId × Value → H} {P : Program} {w : World} {base : Nat} {spare : Nat → Bool} {held : Bool}
theorem sizeAtF {ts : List TypeId} {ds : List (DataW H)} (h : (DataW.weightsEach P ts ds).all (· ≤ reachBytes) = true) {j : Nat} {t : TypeId} {d : DataW H} (ht : ts[j]? = some t) (hd : ds[j]? = some d) : ∀ m ∈ d.weights P t, m ≤ 140737488351232 := by
  intro m hm
  have := List.all_eq_true.1 h _ (DataW.weights_mem_each ht hd m hm)
  exact of_decide_eq_true this
theorem len_size {t e : TypeId} {fuel : Nat} {A : Option Addr} {n c : Nat} {x : DataW H × List MemPlace} (ht : P.underlying t = some (.slice e))
    (h : DataW.trod enc P w base spare held fuel t [.slice A n c] = some x) (hsz : ∀ m ∈ x.1.weights P t, m ≤ 140737488351232) : n * P.bytesOf e ≤ 140737488351232 := by
  rcases open_slice ht h with ⟨hcs, _⟩ | ⟨a, len, cap, m, n', D, Pl, hcs, _, hl, hm, hmm, hx, _⟩
  · simp only [List.cons.injEq, and_true, Value.slice.injEq] at hcs
    rw [hcs.2.1]; simp
  · simp only [List.cons.injEq, and_true, Value.slice.injEq] at hcs
    subst hx
    have hw := hsz _ (by simp only [DataW.weights, ht]; exact List.mem_cons_self ..)
    simp only [List.length_map, List.length_range] at hw
    rw [hcs.2.1]
    exact Nat.le_trans (Nat.mul_le_mul_right _ (Nat.le_add_right _ _)) hw
theorem open_famL {t m s r e i : TypeId} {f0 : Field} {fuel : Nat} {v : Value} {x : DataW H × List MemPlace} (ht : P.underlying t = some (.slice m)) (hcm : P.cellsOf m = 1) (hm : P.underlying m = some (.slice s)) (hcs : P.cellsOf s = 1) (hs : P.underlying s = some (.struct #[f0])) (hone : oneCellFields P #[f0] = true) (hf : f0.type = r)
    (hr : P.underlying r = some (.slice e)) (hce : P.cellsOf e = 1) (he : P.underlying e = some (.slice i)) (hi : P.underlying i = some (.int .i64)) (hci : P.cellsOf i = 1)
    (h : DataW.trod enc P w base spare held fuel t [v] = some x) : ∃ xs, FamL w v xs :=
  open_lst [] ht hcm (fun n u y hy => open_modL hm hcs hs hone hf hr hce he hi hci hy) h
end
end Go.Proofs.YtoihjclkocffhaaDoor
namespace Go.Proofs.YtoihjclkocffhaaDoor
open Go.RowKit Go.ChangeShapes Go.WideShapes Go.Deep
set_option linter.unusedVariables false
theorem bytesU32 : Tryd.prog.bytesOf 69 = 4 := by kernel_rfl
section
variable {H : Type} {enc : TypeId × Value → H} {P : Program} {w : World} {base : Nat} {spare : Nat → Bool} {held : Bool}
theorem weightsAll_mem {e : TypeId} {d : DataW H} {m : Nat} (hm : m ∈ d.weights P e) : ∀ {l : List (DataW H)}, d ∈ l → m ∈ DataW.weightsAll P e l
  | [], h => by simp at h
  | x :: l, h => by
    rw [DataW.weightsAll, List.mem_append]
    rcases List.mem_cons.1 h with rfl | h
    · exact .inl hm
    · exact .inr (weightsAll_mem hm h)
theorem open_lstS {α : Type} {R : World → Value → α → Prop} (d : α) {t e : TypeId} {fuel : Nat} {v : Value} {x : DataW H × List MemPlace} (ht : P.underlying t = some (.slice e)) (hce : P.cellsOf e = 1)
    (hel : ∀ (n : Nat) (u : Value) (y : DataW H × List MemPlace), DataW.trod enc P w base spare held n e [u] = some y → (∀ m ∈ y.1.weights P e, m ≤ 140737488351232) → ∃ z, R w u z)
    (h : DataW.trod enc P w base spare held fuel t [v] = some x) (hsz : ∀ m ∈ x.1.weights P t, m ≤ 140737488351232) : ∃ xs, LstOf R d w v xs := by
  rcases open_slice ht h with ⟨hcs, _⟩ | ⟨a, len, cap, m, n, D, Pl, hcs, _, hl, hm, hmm, hxx, hi⟩
  · simp only [List.cons.injEq, and_true] at hcs
    subst hcs
    exact ⟨[], LstOf.nil⟩
  · simp only [List.cons.injEq, and_true] at hcs
    subst hcs
    have hlm : len ≤ m := by rw [hmm]; split <;> omega
    have hq : ∀ i, i < len → ∃ p : Value × α, w.cell? (a.add i) = some p.1 ∧ R w p.1 p.2 := by
      intro i hil
      obtain ⟨cs', hc, hy⟩ := hi i (by omega)
      rw [hce, Nat.mul_one] at hc
      obtain ⟨_, hcl, hat⟩ := World.cells?_some hc
      match cs', hcl with
      | [u], _ =>
        obtain ⟨z, hz⟩ := hel n u _ hy (fun mm hmm2 => hsz mm (by
          subst hxx
          simp only [DataW.weights, ht, List.mem_cons, List.mem_append]
          exact .inr (.inl (weightsAll_mem hmm2 (List.mem_map.2 ⟨i, List.mem_range.2 hil, rfl⟩)))))
        have := hat 0 (by omega)
        rw [show (a.add i).add 0 = a.add i by simp [Addr.add]] at this
        exact ⟨(u, z), by simpa using this, hz⟩
    cases len with
    | zero => exact ⟨[], some a, cap, [], rfl, by simp, hm, Sl.nil, fun i u h => by simp at h⟩
    | succ len =>
      obtain ⟨p0, _, _⟩ := hq 0 (by omega)
      obtain ⟨ps, hpl, hps⟩ := exists_list p0 (fun i p => w.cell? (a.add i) = some p.1 ∧ R w p.1 p.2) (len + 1) hq
      have hget : ∀ i u, (ps.map (·.1))[i]? = some u → i < len + 1 ∧ u = (ps.getD i p0).1 := by
        intro i u hu
        rw [List.getElem?_map] at hu
        rcases Nat.lt_or_ge i ps.length with hip | hip
        · rw [List.getElem?_eq_getElem hip] at hu
          simp only [Option.map_some, Option.some.injEq] at hu
          exact ⟨by omega, by rw [List.getD_eq_getElem?_getD, List.getElem?_eq_getElem hip]; exact hu.symm⟩
        · rw [List.getElem?_eq_none hip] at hu; simp at hu
      refine ⟨ps.map (·.2), some a, cap, ps.map (·.1), by simp [hpl], by simp [hpl]; omega, hm, ?_, fun i u hu => ?_⟩
      · rw [List.length_map]
        refine sl_of_cells (by simp) (fun i u hu => ?_)
        obtain ⟨h1, rfl⟩ := hget i u hu
        exact (hps i h1).1
      · obtain ⟨h1, rfl⟩ := hget i u hu
        have := (hps i h1).2
        have e : (ps.map (·.2)).getD i d = (ps.getD i p0).2 := by
          rw [List.getD_eq_getElem?_getD, List.getElem?_map, List.getD_eq_getElem?_getD, List.getElem?_eq_getElem (by omega)]
          rfl
        rw [e]; exact this
theorem open_limLS {t e i : TypeId} {fuel : Nat} {v : Value} {x : DataW H × List MemPlace} (ht : P.underlying t = some (.slice e)) (hce : P.cellsOf e = 1) (he : P.underlying e = some (.slice i)) (hi : P.underlying i = some (.int .u32)) (hci : P.cellsOf i = 1) (hby : P.bytesOf i = 4)
    (h : DataW.trod enc P w base spare held fuel t [v] = some x) (hsz : ∀ m ∈ x.1.weights P t, m ≤ 140737488351232) : ∃ lss, LimL w v lss ∧ ∀ l ∈ lss, l.length ≤ 35184372087808 := by
  obtain ⟨lss, A, c, us, hv, h1, h2, hs, hu⟩ := open_lstS (R := fun w u l => Lim w u l ∧ l.length ≤ 35184372087808) [] ht hce (fun n u y hy hs => by
    obtain ⟨ls, hl⟩ := open_lim he hi hci hy
    obtain ⟨⟨A, c, rfl, _⟩, _⟩ := id hl
    have := len_size he hy hs
    rw [hby] at this
    exact ⟨ls, hl, by omega⟩) h hsz
  refine ⟨lss, ⟨A, c, us, hv, h1, h2, hs, fun i u hi => (hu i u hi).1⟩, fun l hl => ?_⟩
  obtain ⟨j, hj, rfl⟩ := List.getElem_of_mem hl
  have := (hu j _ (List.getElem?_eq_getElem (by rw [hs.1]; exact hj))).2
  rwa [List.getD_eq_getElem?_getD, List.getElem?_eq_getElem hj] at this
end
end Go.Proofs.YtoihjclkocffhaaDoor
namespace Go.Proofs.YtoihjclkocffhaaDoor
open Go.RowKit Go.ChangeShapes Go.WideShapes Go.Deep Go.Joins
set_option linter.unusedVariables false
section
variable {H : Type} {enc : TypeId × Value → H} {P : Program} {w : World} {base : Nat} {spare : Nat → Bool} {held : Bool}
theorem open_agg1 {r : Reach} {b0 : Nat} {t : TypeId} {f0 : Field} {v : Value} {d : DataW H} {p : List MemPlace} (hs : P.underlying t = some (.struct #[f0])) (hone : oneCellFields P #[f0] = true) (hC : P.cellsOf t = 1)
    (hv : Value.okWide P w r b0 t v) (h : DataW.Trod enc P w base spare held t v d p) :
    ∃ (v0 : Value) (y0 : DataW H × List MemPlace) (n : Nat), v = .agg #[v0] ∧ DataW.trod enc P w base spare held n f0.type [v0] = some y0 := by
  obtain ⟨cs, rfl, hsz⟩ := okWide_struct hs hv
  have h1 : cs.size = 1 := hsz.trans hC
  obtain ⟨c0, rfl⟩ : ∃ c0, cs = #[c0] := by
    obtain ⟨l⟩ := cs
    match l, h1 with
    | [c0], _ => exact ⟨c0, rfl⟩
  obtain ⟨fuel, hf⟩ := h
  obtain ⟨n', y', hy⟩ := open_one hs hone (by simpa [Value.cells] using hf)
  exact ⟨c0, y', n', rfl, hy⟩
end
end Go.Proofs.YtoihjclkocffhaaDoor
namespace Go.Proofs.YtoihjclkocffhaaDoor
open Go.ChangeShapes Go.WideShapes Go.ChangeAt Go.RowKit
set_option linter.unusedVariables false
namespace Laid
/-- The cells that a table of whole numbers lays. -/
def cellsOf : DataW Unit → Array Value
  | .agg l => (l.map fun | .lit (.int k z) => Value.int k z | _ => Value.int .i64 0).toArray
  | _ => #[]
def put (cs : Array Value) : Obj → Obj
  | .cells _ t frozen => .cells cs t frozen
  | o => o
noncomputable def laidWorld (os : Os) : World :=
  { World.holding Tryd.prog os ⟨#[], #[], []⟩ with heap := ((((World.holding Tryd.prog os ⟨#[], #[], []⟩).heap.modify 0 (put (cellsOf Rows.laid_internal_strconv_uint64pow10))).modify 1 (put (cellsOf Rows.laid_math_bits_deBruijn32tab))).modify 2 (put (cellsOf Rows.laid_math_bits_deBruijn64tab))) }
end Laid
end Go.Proofs.YtoihjclkocffhaaDoor
