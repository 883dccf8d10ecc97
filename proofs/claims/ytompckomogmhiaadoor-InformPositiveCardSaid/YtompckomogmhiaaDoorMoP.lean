/- Plain functions: what Ramp, Steps and Collapse return. -/
import Derived.Test.YtompckomogmhiaaDoorModV
import Derived.Test.YtompckomogmhiaaDoorGridV
import Derived.Test.YtompckomogmhiaaDoorMoA
import Derived.Test.YtompckomogmhiaaDoorColl
namespace Go.Proofs.YtompckomogmhiaaDoor
open Go.RowKit
set_option linter.unusedVariables false

def onE (E : Int) (r : List (List Int)) : List (List Int) := if E = 0 then r else []
theorem onE_bad {E : Int} {r : List (List Int)} (h : E ≠ 0) : onE E r = [] := if_neg h
theorem onE_ok {r : List (List Int)} : onE 0 r = r := if_pos rfl
theorem all_up {p : Nat → Prop} {k : Nat} (h : ∀ j, j < k → p j) (hk : p k) : ∀ j, j < k + 1 → p j := fun j hj => by
  rcases Nat.lt_succ_iff_lt_or_eq.1 hj with h1 | h1
  · exact h j h1
  · rw [h1]; exact hk
/-- A model and an error number are returned. -/
def MdPost (E : Int) (R : List (List Int)) (w : World) (e : Ending) (w' : World) : Prop :=
  ∃ v, e = .returned (.tuple #[.agg #[v], .int .i64 E]) ∧ IntsL w' v (onE E R) ∧ Below w.heap.size w w'
theorem MdPost.bad {E E' : Int} {R : List (List Int)} {w w' : World} (hE : E = E') (h0 : E' ≠ 0) (hb : Below w.heap.size w w') :
    MdPost E R w (.returned (.tuple #[.agg #[.slice none 0 0], .int .i64 E'])) w' := by
  subst hE
  exact ⟨_, rfl, by rw [onE_bad h0]; exact intsL_nil w', hb⟩
theorem MdPost.ok {E : Int} {v : Value} {R : List (List Int)} {w w' : World} (hE : E = 0) (hv : IntsL w' v R) (hb : Below w.heap.size w w') :
    MdPost E R w (.returned (.tuple #[.agg #[v], .int .i64 0])) w' := by
  subst hE
  exact ⟨_, rfl, by rw [onE_ok]; exact hv, hb⟩

/-- A row is put into a row of rows that the call fills. -/
theorem coll_put {w1 wr W : World} {us : List Value} {L : List (List Int)} {k n g t : Nat} {v : Value} (hco : CollI wr us L k (g + 1) none) (hrow : Row wr g t (us ++ List.replicate (n - k) (.slice none 0 0))) (hb : Below g w1 wr) (hk : k < n)
    (hW : Below wr.heap.size wr W) (hv : Nums .i64 W v (L.getD k [])) (hf : Fresh (g + 1) v) :
    CollI (W.setCell ⟨g, k, none⟩ v) (us ++ [v]) L (k + 1) (g + 1) none ∧ Row (W.setCell ⟨g, k, none⟩ v) g t ((us ++ [v]) ++ List.replicate (n - (k + 1)) (.slice none 0 0)) ∧ Below g w1 (W.setCell ⟨g, k, none⟩ v) := by
  have hg := hrow.lt
  refine ⟨((hco.below hW).snoc hv (Off.none_ _) hf).set_ (p := ⟨g, k, none⟩) (by simp) _, ?_, (hb.trans (hW.mono (by omega))).setCell (Nat.le_refl _) _⟩
  rw [← padv_set _ _ _ _ _ hco.1 hk]
  exact (hrow.keep hW).set_ k _
theorem CollI.row {w : World} {us : List Value} {xs : List (List Int)} {n base g t : Nat} {r : Option Nat} (h : CollI w us xs n base r) (hl : xs.length = n) (hr : Row w g t us) (hm : n ≤ maxLen) : IntsL w (.slice (some ⟨g, 0, none⟩) n n) xs := by
  subst hl
  refine ⟨_, _, us, rfl, Nat.le_refl _, hm, ?_, fun i u hu => (h.2 i u hu).1⟩
  have := hr.sl
  rwa [h.1] at this
/-- The finished row of rows, behind a store into an older box. -/
theorem coll_done {wr : World} {us : List Value} {L : List (List Int)} {n g t b : Nat} {x : Value} (hco : CollI wr us L n (g + 1) none) (hrow : Row wr g t (us ++ List.replicate (n - n) (.slice none 0 0))) (hl : L.length = n) (hn : n ≤ maxLen) (hb : b < g) :
    IntsL (wr.setCell ⟨b, 0, none⟩ x) (.slice (some ⟨g, 0, none⟩) n n) L := by
  have hr : Row wr g t us := by simpa using hrow
  exact CollI.row (hco.set_ (p := ⟨b, 0, none⟩) (by simp; omega) x) hl (hr.far (p := ⟨b, 0, none⟩) (by simp; omega) x) hn

/-- A slice of slices whose memory lies from block base on. -/
def IntsF (base : Nat) (w : World) (v : Value) (xs : List (List Int)) : Prop :=
  ∃ A c us, v = .slice A xs.length c ∧ xs.length ≤ c ∧ c ≤ maxLen ∧ Sl w A xs.length us ∧ Fresh base v ∧ ∀ i u, us[i]? = some u → Nums .i64 w u (xs.getD i []) ∧ Fresh base u
theorem IntsF.ints {base : Nat} {w : World} {v : Value} {xs : List (List Int)} (h : IntsF base w v xs) : IntsL w v xs := by
  obtain ⟨A, c, us, hv, h1, h2, hs, _, hu⟩ := h
  exact ⟨A, c, us, hv, h1, h2, hs, fun i u hi => (hu i u hi).1⟩
theorem IntsF.set_ {base : Nat} {w : World} {v : Value} {xs : List (List Int)} (h : IntsF base w v xs) {p : Addr} (hp : p.block < base) (x : Value) : IntsF base (w.setCell p x) v xs := by
  obtain ⟨A, c, us, rfl, h1, h2, hs, hf, hu⟩ := h
  exact ⟨A, c, us, rfl, h1, h2, hs.set_ hf hp x, hf, fun i u hi => ⟨(hu i u hi).1.set_ (hu i u hi).2 hp x, (hu i u hi).2⟩⟩
theorem IntsF.mono {base b : Nat} {w : World} {v : Value} {xs : List (List Int)} (h : IntsF base w v xs) (hb : b ≤ base) : IntsF b w v xs := by
  obtain ⟨A, c, us, hv, h1, h2, hs, hf, hu⟩ := h
  exact ⟨A, c, us, hv, h1, h2, hs, hf.mono hb, fun i u hi => ⟨(hu i u hi).1, (hu i u hi).2.mono hb⟩⟩
theorem intsF_nil (base : Nat) (w : World) : IntsF base w (.slice none 0 0) [] := ⟨none, 0, [], rfl, by simp, by simp, Sl.nil, trivial, fun i u h => by simp at h⟩
def MdPostF (E : Int) (R : List (List Int)) (w : World) (e : Ending) (w' : World) : Prop :=
  ∃ v, e = .returned (.tuple #[.agg #[v], .int .i64 E]) ∧ IntsF w.heap.size w' v (onE E R) ∧ Below w.heap.size w w'
theorem MdPostF.weak {E : Int} {R : List (List Int)} {w w' : World} {e : Ending} (h : MdPostF E R w e w') : MdPost E R w e w' := by
  obtain ⟨v, he, hv, hb⟩ := h
  exact ⟨v, he, hv.ints, hb⟩
theorem MdPostF.bad {E E' : Int} {R : List (List Int)} {w w' : World} (hE : E = E') (h0 : E' ≠ 0) (hb : Below w.heap.size w w') :
    MdPostF E R w (.returned (.tuple #[.agg #[.slice none 0 0], .int .i64 E'])) w' := by
  subst hE
  exact ⟨_, rfl, by rw [onE_bad h0]; exact intsF_nil _ w', hb⟩
theorem MdPostF.ok {E : Int} {v : Value} {R : List (List Int)} {w w' : World} (hE : E = 0) (hv : IntsF w.heap.size w' v R) (hb : Below w.heap.size w w') :
    MdPostF E R w (.returned (.tuple #[.agg #[v], .int .i64 0])) w' := by
  subst hE
  exact ⟨_, rfl, by rw [onE_ok]; exact hv, hb⟩
theorem coll_doneF {wr : World} {us : List Value} {L : List (List Int)} {n g t b B : Nat} {x : Value} (hco : CollI wr us L n (g + 1) none) (hrow : Row wr g t (us ++ List.replicate (n - n) (.slice none 0 0))) (hl : L.length = n) (hn : n ≤ maxLen) (hb : b < g) (hB : B ≤ g) :
    IntsF B (wr.setCell ⟨b, 0, none⟩ x) (.slice (some ⟨g, 0, none⟩) n n) L := by
  have hr : Row wr g t us := by simpa using hrow
  subst hl
  have hc := hco.set_ (p := ⟨b, 0, none⟩) (by simp; omega) x
  have hr' := hr.far (p := ⟨b, 0, none⟩) (by simp; omega) x
  refine ⟨_, _, us, rfl, Nat.le_refl _, hn, ?_, hB, fun i u hu => ⟨(hc.2 i u hu).1, (hc.2 i u hu).2.2.mono (by omega)⟩⟩
  have := hr'.sl
  rwa [hc.1] at this

/-! ### Ramp -/
def rampE (g d s lo hi : Int) : Int := if g ≠ 0 then g else if d < -1000 ∨ 1000 < d ∨ s < 0 ∨ 2000 < s ∨ lo < 1 ∨ hi < lo ∨ 999 < hi then 3 else 0
def rampW (d s lo hi p : Int) : Int := max lo (min hi (500 + s * (p - d) / 100))
def rampL (ps : List Int) (d s lo hi : Int) : List (List Int) := ps.map fun p => [1000 - rampW d s lo hi p, rampW d s lo hi p]
theorem rampE_g {g d s lo hi : Int} (h : g ≠ 0) : rampE g d s lo hi = g := if_pos h
theorem rampE_3 {g d s lo hi : Int} (h0 : g = 0) (h : d < -1000 ∨ 1000 < d ∨ s < 0 ∨ 2000 < s ∨ lo < 1 ∨ hi < lo ∨ 999 < hi) : rampE g d s lo hi = 3 := by
  unfold rampE; rw [if_neg (by omega), if_pos h]
theorem rampE_ok {g d s lo hi : Int} (h0 : g = 0) (h : ¬ (d < -1000 ∨ 1000 < d ∨ s < 0 ∨ 2000 < s ∨ lo < 1 ∨ hi < lo ∨ 999 < hi)) : rampE g d s lo hi = 0 := by
  unfold rampE; rw [if_neg (by omega), if_neg h]
theorem rampE_zero {g d s lo hi : Int} (h : rampE g d s lo hi = 0) : g = 0 ∧ -1000 ≤ d ∧ d ≤ 1000 ∧ 0 ≤ s ∧ s ≤ 2000 ∧ 1 ≤ lo ∧ lo ≤ hi ∧ hi ≤ 999 := by
  unfold rampE at h
  split at h
  · omega
  · split at h <;> omega
theorem rampW_in {d s lo hi p : Int} (h : lo ≤ hi) : lo ≤ rampW d s lo hi p ∧ rampW d s lo hi p ≤ hi := by unfold rampW; omega
theorem rampW_lo {d s lo hi p : Int} (h : lo ≤ hi) (h1 : 500 + s * (p - d) / 100 < lo) : rampW d s lo hi p = lo := by unfold rampW; omega
theorem rampW_hi {d s lo hi p : Int} (h : lo ≤ hi) (h1 : hi < 500 + s * (p - d) / 100) : rampW d s lo hi p = hi := by unfold rampW; omega
theorem rampW_mid {d s lo hi p : Int} (h1 : lo ≤ 500 + s * (p - d) / 100) (h2 : 500 + s * (p - d) / 100 ≤ hi) : rampW d s lo hi p = 500 + s * (p - d) / 100 := by unfold rampW; omega
theorem mul_bd {s t : Int} (h1 : 0 ≤ s) (h2 : s ≤ 2000) (h3 : -2000 ≤ t) (h4 : t ≤ 2000) : -4000000 ≤ s * t ∧ s * t ≤ 4000000 := by
  have a : s * t ≤ s * 2000 := Int.mul_le_mul_of_nonneg_left h4 h1
  have b : s * (-2000) ≤ s * t := Int.mul_le_mul_of_nonneg_left h3 h1
  omega
theorem rampL_len (ps : List Int) (d s lo hi : Int) : (rampL ps d s lo hi).length = ps.length := by simp [rampL]
theorem getD_map {α β : Type} (f : α → β) (l : List α) (d : α) (d' : β) {k : Nat} (h : k < l.length) : (l.map f).getD k d' = f (l.getD k d) := by
  simp [List.getD_eq_getElem?_getD, List.getElem?_eq_getElem h]
theorem rampL_get {ps : List Int} {d s lo hi : Int} {k : Nat} (h : k < ps.length) : (rampL ps d s lo hi).getD k [] = [1000 - rampW d s lo hi (ps.getD k 0), rampW d s lo hi (ps.getD k 0)] := getD_map _ ps 0 [] h

end Go.Proofs.YtompckomogmhiaaDoor
