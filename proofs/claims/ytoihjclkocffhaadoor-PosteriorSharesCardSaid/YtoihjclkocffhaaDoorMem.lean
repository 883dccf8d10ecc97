/- Words for memory: a slice that reads as a list, a block that is known whole, rows of the call's own; and the last step of a law. No condition. -/
import Derived.Below
import Derived.ChangeSame
import Derived.Deep.Draws
import Derived.ProofKit
import Derived.OpenShut
import Derived.Laws.OwnMore
import Derived.Laws.Rows
import Derived.Laws.NewBlocks
import Derived.Laws.MakeOwn
import Derived.OwnWalk
import Derived.Lib.Hide
import Derived.Laws.CopyOwn
import Derived.Maps.AppendAt
namespace Go.Proofs.YtoihjclkocffhaaDoor
open Go.RowKit Go.WideShapes Go.ChangeShapes

theorem below_drewN {B : Nat} {a w : World} (h : Below B a w) (n : Nat) : Below B a (w.drewN n) := ⟨h.os, h.tape, h.output, h.size, h.block⟩

theorem undrew {B : Nat} {w w' : World} {n : Nat} (h : Below B (w.drewN n) w') : Below B w w' := ⟨h.os, h.tape, h.output, h.size, h.block⟩
theorem undrew1 {B : Nat} {w w' : World} (h : Below B w.drew w') : Below B w w' := ⟨h.os, h.tape, h.output, h.size, h.block⟩

/-! ### The last step of a law -/
section
variable {H : Type} {enc : TypeId × Value → H} {P : Program}
theorem post_of_below {f : Func} {s : ChangeSpec} {apart fresh handsOn again : Bool} {W W' : World} {args : Array Value} {v : Value} {ds gs : List (DataW H)} {before pa pv : List MemPlace}
    (hW : DataW.Whole enc P f.params.toList s.vars apart W args.toList ds gs before)
    (hres : ∀ (b : Nat) (sp : Nat → Bool) (hd : Bool), DataW.TrodAll enc P W' b sp hd f.resultTypes.toList (v.resultList f.resultTypes.size) (s.fn H (ds ++ gs)).results [])
    (hargs : ∀ sp : Nat → Bool, (∀ p ∈ before, sp p.block = true) → DataW.TrodAll enc P W' 0 sp true f.params.toList args.toList (s.fn H (ds ++ gs)).args pa)
    (hvars : ∀ sp : Nat → Bool, (∀ p ∈ before, sp p.block = true) → DataW.TrodVars enc P W' sp s.vars (s.fn H (ds ++ gs)).vars pv)
    (hps : before = pa ++ pv) (hb : Below W.heap.size W W')
    (hok : ∀ (j : Nat) (t : TypeId) (r : Value), f.resultTypes[j]? = some t → (v.resultList f.resultTypes.size)[j]? = some r → Value.okWide P W' .any 0 t r) :
    s.post enc P f apart fresh handsOn again W args v W' := by
  have hlt : ∀ p ∈ before, p.block < W.heap.size := fun p hp => hW.lt p hp
  have hold : ∀ p ∈ before, (fun b => decide (b < W.heap.size)) p.block = true := fun p hp => by simpa using hlt p hp
  refine ⟨ds, gs, before, [], pa, pv, hW, hres _ _ _, hargs _ hold, hvars _ hold, World.keptBut_mono (fun p hp => ⟨hp, ?_⟩) (hb.frame (· ∈ before)), fun _ => ?_⟩
  · rw [hps, List.mem_append] at hp
    exact Or.inr hp
  · obtain ⟨_, _, _, _, _, hz, hn⟩ := hW
    refine ⟨hok, _, _, ([] ++ pa) ++ pv, ⟨[] ++ pa, pv, trodAll_append (hargs _ (fun _ _ => rfl)) (hres _ _ _), hvars _ (fun _ _ => rfl), rfl, ?_, ?_⟩, ?_⟩
    · intro b off hp
      have hin : MemPlace.cell b off ∈ before := by rw [hps]; simpa using hp
      rw [hb.frozen (hlt _ hin)]
      exact hz b off hin
    · intro ha
      have := hn ha
      rw [hps] at this
      simpa using this
    · intro p hp _
      rw [hps]
      simpa using hp

theorem trodAll_stays (hl : laidOutB P = true) {W W' : World} {sp' : Nat → Bool} : ∀ {ts : List TypeId} {vs : List Value} {ds : List (DataW H)} {ps : List MemPlace},
    (∀ t ∈ ts, P.readableRec t = true ∧ t < P.types.size) → DataW.TrodAll enc P W 0 (fun _ => true) true ts vs ds ps → (∀ p ∈ ps, W.sameAt W' p) → (∀ p ∈ ps, sp' p.block = true) →
    DataW.TrodAll enc P W' 0 sp' true ts vs ds ps
  | [], [], [], _, _, h, _, _ => h
  | t :: ts, v :: vs, d :: ds, ps, hr, h, h1, h2 => by
    obtain ⟨p, q, ha, hb, rfl⟩ := h
    refine ⟨p, q, WideElems.Trod_stays hl (hr t (by simp)).1 (hr t (by simp)).2 ha (fun x hx => h1 x (by simp [hx])) (fun x hx => h2 x (by simp [hx])),
      trodAll_stays hl (fun t ht => hr t (by simp [ht])) hb (fun x hx => h1 x (by simp [hx])) (fun x hx => h2 x (by simp [hx])), rfl⟩
  | [], _ :: _, _, _, _, h, _, _ => h.elim
  | [], [], _ :: _, _, _, h, _, _ => h.elim
  | _ :: _, [], _, _, _, h, _, _ => h.elim
  | _ :: _, _ :: _, [], _, _, h, _, _ => h.elim

/-- A law's last step: it has returned true, and what lay below the heap's old size lies as it lay. -/
theorem law_post {f : Func} {s : ChangeSpec} {tb : TypeId} {W W' : World} {args : Array Value} {ds gs : List (DataW H)} {before : List MemPlace}
    (hl : laidOutB P = true) (hr : ∀ t ∈ f.params.toList, P.readableRec t = true ∧ t < P.types.size) (hv : s.vars = []) (hres : f.resultTypes = #[tb]) (hbool : P.underlying tb = some .bool)
    (hok : ∀ (j : Nat) (t : TypeId) (r : Value), f.resultTypes[j]? = some t → ((Value.bool true).resultList f.resultTypes.size)[j]? = some r → Value.okWide P W' .any 0 t r)
    (hfn : (s.fn H (ds ++ gs)).results = [.lit (.bool true)] ∧ (s.fn H (ds ++ gs)).args = ds ∧ (s.fn H (ds ++ gs)).vars = [])
    (hW : DataW.Whole enc P f.params.toList s.vars false W args.toList ds gs before) (hb : Below W.heap.size W W') :
    s.post enc P f false true false false W args (.bool true) W' := by
  have hlt : ∀ p ∈ before, p.block < W.heap.size := fun p hp => hW.lt p hp
  have hW' := hW
  obtain ⟨p, q, hA, hV, rfl, hfz, hnd⟩ := hW
  rw [hv] at hV
  obtain ⟨rfl, rfl⟩ := trodVars_none hV
  simp only [List.append_nil] at hlt hW'
  refine post_of_below (pa := p) (pv := []) hW' (fun _ _ _ => ?_) (fun sp hsp => ?_) (fun _ _ => ?_) (by simp) hb hok
  · rw [hfn.1, hres]
    exact trodAll_cons_mk (shut_bool hbool _) trodAll_mk0
  · rw [hfn.2.1]
    exact trodAll_stays hl hr hA (fun x hx => hb.same (hlt x hx)) hsp
  · rw [hfn.2.2, hv]
    rfl
end

/-! ### A slice that reads as a list -/
/-- The slice value '.slice A n c' holds the cells xs. -/
def Sl (w : World) (A : Option Addr) (n : Nat) (xs : List Value) : Prop :=
  xs.length = n ∧ (0 < n → ∃ b o, A = some ⟨b, o, none⟩ ∧ ∀ j u, xs[j]? = some u → w.cell? ⟨b, o + j, none⟩ = some u)

/-- The block g is just these cells, none frozen. -/
def Row (w : World) (g t : Nat) (xs : List Value) : Prop := w.heap[g]? = some (.cells xs.toArray t (0, 0))

def zrow (z : Value) (n : Nat) : Array Value := (List.replicate n z).toArray

section
variable {w w' : World} {A : Option Addr} {n g t : Nat} {xs ys : List Value}
theorem Sl.nil : Sl w A 0 [] := ⟨rfl, fun h => absurd h (by omega)⟩
theorem Sl.len (h : Sl w A n xs) : xs.length = n := h.1
theorem Sl.at_ (h : Sl w A n xs) {k : Nat} (hk : k < n) : ∃ b o, A = some ⟨b, o, none⟩ ∧ ∀ j u, xs[j]? = some u → w.cell? ⟨b, o + j, none⟩ = some u := h.2 (by omega)
theorem Sl.lt (h : Sl w A n xs) {b o : Nat} (hn : 0 < n) (hA : A = some ⟨b, o, none⟩) : b < w.heap.size := by
  obtain ⟨b', o', e, hc⟩ := h.2 hn
  subst hA
  simp only [Option.some.injEq, Addr.mk.injEq] at e
  obtain ⟨rfl, rfl, _⟩ := e
  have hx : 0 < xs.length := by rw [h.1]; exact hn
  exact block_lt_of_cell (hc 0 _ (List.getElem?_eq_getElem hx))
theorem Sl.below (h : Sl w A n xs) (hb : Below w.heap.size w w') : Sl w' A n xs := by
  refine ⟨h.1, fun hn => ?_⟩
  obtain ⟨b, o, e, hc⟩ := h.2 hn
  have hlt := h.lt hn e
  exact ⟨b, o, e, fun j u hu => (hb.cell (p := ⟨b, o + j, none⟩) hlt).trans (hc j u hu)⟩
theorem Sl.belowN (h : Sl w A n xs) {B : Nat} (hB : w.heap.size ≤ B) (hb : Below B w w') : Sl w' A n xs := h.below (hb.mono hB)
theorem Sl.cut (h : Sl w A n xs) {k m c : Nat} (hk : k + m ≤ n) (hc : n ≤ c) : Sl w (if c = k then A else A.map (·.add k)) m ((xs.drop k).take m) := by
  refine ⟨by rw [List.length_take, List.length_drop, h.1]; omega, fun hm => ?_⟩
  obtain ⟨b, o, rfl, hcell⟩ := h.2 (by omega)
  rw [if_neg (by omega)]
  refine ⟨b, o + k, ?_, fun j u hu => ?_⟩
  · simp only [Option.map_some, Addr.add]; split <;> simp_all
  · rw [Nat.add_assoc]
    refine hcell _ u ?_
    rw [List.getElem?_take] at hu
    split at hu
    · rw [← hu, List.getElem?_drop]
    · cases hu
theorem Sl.head (h : Sl w A n xs) {m : Nat} (hm : m ≤ n) : Sl w A m (xs.take m) := by
  refine ⟨by rw [List.length_take, h.1]; omega, fun hp => ?_⟩
  obtain ⟨b, o, e, hcell⟩ := h.2 (by omega)
  refine ⟨b, o, e, fun j u hu => hcell j u ?_⟩
  rw [List.getElem?_take] at hu
  split at hu
  · exact hu
  · cases hu

theorem Row.lt (h : Row w g t xs) : g < w.heap.size := by
  rcases Nat.lt_or_ge g w.heap.size with hlt | hge
  · exact hlt
  · unfold Row at h; rw [Array.getElem?_eq_none hge] at h; cases h
theorem Row.cell (h : Row w g t xs) (i : Nat) : w.cell? ⟨g, i, none⟩ = xs[i]? := by
  rw [cell_of_row w g i _ t (0, 0) h]; simp
theorem Row.frozen (h : Row w g t xs) (i : Nat) : w.frozen? ⟨g, i, none⟩ = false := by
  unfold Row at h
  simp [World.frozen?, h]
theorem Row.new (w : World) (t : Nat) (xs : List Value) : Row (w.alloc (.cells xs.toArray t)) w.heap.size t xs := heap_alloc_new w _
theorem Row.newz (w : World) (t : Nat) (z : Value) (n : Nat) : Row (w.alloc (.cells (zrow z n) t)) w.heap.size t (List.replicate n z) := heap_alloc_new w _
theorem Row.alloc (h : Row w g t xs) (o : Obj) : Row (w.alloc o) g t xs := (Below.heap_alloc w o g h.lt).trans h
theorem Row.set_ (h : Row w g t xs) (i : Nat) (u : Value) : Row (w.setCell ⟨g, i, none⟩ u) g t (xs.set i u) := by
  unfold Row at h ⊢
  simp [World.setCell, Array.getElem?_modify, h]
theorem Row.far (h : Row w g t xs) {p : Addr} (hp : g ≠ p.block) (u : Value) : Row (w.setCell p u) g t xs := (Below.heap_setCell w p u g hp).trans h
theorem Row.below {B : Nat} (h : Row w g t xs) (hb : Below B w w') (hg : g < B) : Row w' g t xs := (hb.block g hg).trans h
theorem Row.keep (h : Row w g t xs) (hb : Below w.heap.size w w') : Row w' g t xs := h.below hb h.lt
theorem Row.drew (h : Row w g t xs) : Row w.drew g t xs := h
theorem Row.drewN (h : Row w g t xs) (k : Nat) : Row (w.drewN k) g t xs := h
theorem Row.sl (h : Row w g t xs) : Sl w (some ⟨g, 0, none⟩) xs.length xs := by
  refine ⟨rfl, fun _ => ⟨g, 0, rfl, fun j u hu => ?_⟩⟩
  rw [Nat.zero_add, h.cell, hu]
theorem Sl.of_own {base : Nat} {e : TypeId} {v : Value} (h : w.ownsRow base e 1 v n xs) : ∃ A c, v = .slice A n c ∧ n ≤ c ∧ c ≤ maxLen ∧ Sl w A n xs := by
  obtain ⟨hl, h⟩ := h
  rcases h with ⟨rfl, rfl⟩ | ⟨g, cap, cur, rfl, _, hh, hnc, hm, hs, hx⟩
  · exact ⟨none, 0, rfl, by omega, by omega, by simpa using hl, fun h => absurd h (by omega)⟩
  · refine ⟨_, cap, rfl, hnc, hm, by simpa using hl, fun _ => ⟨g, 0, rfl, fun j u hu => ?_⟩⟩
    rw [Nat.zero_add, cell_of_row w g j cur e (0, 0) hh]
    rw [← hx, List.getElem?_take] at hu
    split at hu
    · simpa using hu
    · cases hu
end

/-- The slice value v holds these numbers of the kind k. -/
def Nums (k : IntKind) (w : World) (v : Value) (zs : List Int) : Prop :=
  ∃ A c, v = .slice A zs.length c ∧ zs.length ≤ c ∧ c ≤ maxLen ∧ Sl w A zs.length (zs.map (Value.int k))
theorem Nums.below {k : IntKind} {w w' : World} {v : Value} {zs : List Int} (h : Nums k w v zs) (hb : Below w.heap.size w w') : Nums k w' v zs := by
  obtain ⟨A, c, hv, h1, h2, hs⟩ := h
  exact ⟨A, c, hv, h1, h2, hs.below hb⟩
theorem Nums.belowN {k : IntKind} {w w' : World} {v : Value} {zs : List Int} (h : Nums k w v zs) {B : Nat} (hB : w.heap.size ≤ B) (hb : Below B w w') : Nums k w' v zs := h.below (hb.mono hB)
theorem Nums.of_row {k : IntKind} {w : World} {g t : Nat} {zs : List Int} (h : Row w g t (zs.map (Value.int k))) (hm : zs.length ≤ maxLen) : Nums k w (.slice (some ⟨g, 0, none⟩) zs.length zs.length) zs := by
  refine ⟨_, _, rfl, Nat.le_refl _, hm, ?_⟩
  have := h.sl
  simpa using this
theorem Nums.of_rowc {k : IntKind} {w : World} {g t n c : Nat} {zs : List Int} {rest : List Value} (h : Row w g t (zs.map (Value.int k) ++ rest)) (hn : zs.length = n) (hc : n ≤ c) (hm : c ≤ maxLen) : Nums k w (.slice (some ⟨g, 0, none⟩) n c) zs := by
  subst hn
  refine ⟨_, _, rfl, hc, hm, ?_⟩
  have := h.sl.head (m := zs.length) (by simp)
  simpa using this
theorem Nums.of_own {k : IntKind} {w : World} {base e n : Nat} {v : Value} {zs : List Int} (h : w.ownsRow base e 1 v n (zs.map (Value.int k))) : Nums k w v zs := by
  have hl : n = zs.length := by have := h.1; simp at this; omega
  subst hl
  obtain ⟨A, c, hv, h1, h2, hs⟩ := Sl.of_own h
  exact ⟨A, c, hv, h1, h2, hs⟩
theorem Nums.nil (k : IntKind) (w : World) : Nums k w (.slice none 0 0) [] := ⟨none, 0, rfl, by simp, by simp, Sl.nil⟩
theorem Sl.num {k : IntKind} {w : World} {A : Option Addr} {n : Nat} {zs : List Int} (h : Sl w A n (zs.map (Value.int k))) {i : Nat} (hi : i < n) :
    ∃ b o, A = some ⟨b, o, none⟩ ∧ b < w.heap.size ∧ ∀ j, j < n → w.cell? ⟨b, o + j, none⟩ = some (.int k (zs.getD j 0)) := by
  obtain ⟨b, o, e, hc⟩ := h.2 (by omega)
  refine ⟨b, o, e, h.lt (by omega) e, fun j hj => hc j _ ?_⟩
  have hl : zs.length = n := by simpa using h.1
  rw [List.getElem?_map, List.getElem?_eq_getElem (by omega)]
  simp [List.getD, List.getElem?_eq_getElem (show j < zs.length by omega)]

theorem nums_drewN {k : IntKind} {w : World} {v : Value} {zs : List Int} (h : Nums k w v zs) (d : Nat) : Nums k (w.drewN d) v zs := h

/-- The slice's array, if it has one, lies from block base on. -/
def Fresh (base : Nat) : Value → Prop
  | .slice (some a) _ _ => base ≤ a.block
  | _ => True
theorem Fresh.mono {b b' : Nat} {v : Value} (h : Fresh b v) (hb : b' ≤ b) : Fresh b' v := by
  unfold Fresh at *
  split
  · simp only at h; omega
  · trivial
theorem Sl.set_ {w : World} {A : Option Addr} {n : Nat} {xs : List Value} (h : Sl w A n xs) {base c : Nat} (hf : Fresh base (.slice A n c)) {p : Addr} (hp : p.block < base) (u : Value) : Sl (w.setCell p u) A n xs := by
  refine ⟨h.1, fun hn => ?_⟩
  obtain ⟨b, o, e, hc⟩ := h.2 hn
  subst e
  have hb : base ≤ b := hf
  refine ⟨b, o, rfl, fun j u' hu => ?_⟩
  rw [World.cell?_setCell_other w p _ u (fun e => by subst e; simp at hp; omega)]
  exact hc j u' hu
theorem Nums.set_ {k : IntKind} {w : World} {v : Value} {zs : List Int} (h : Nums k w v zs) {base : Nat} (hf : Fresh base v) {p : Addr} (hp : p.block < base) (u : Value) : Nums k (w.setCell p u) v zs := by
  obtain ⟨A, c, rfl, h1, h2, hs⟩ := h
  exact ⟨A, c, rfl, h1, h2, hs.set_ hf hp u⟩
theorem fresh_own {w : World} {base e n : Nat} {v : Value} {xs : List Value} (h : w.ownsRow base e 1 v n xs) : Fresh base v := by
  rcases h.2 with ⟨rfl, _⟩ | ⟨g, cap, cur, rfl, hg, _⟩
  · trivial
  · exact hg

/-- The slice's array does not lie in that block. -/
def Off (row : Option Nat) : Value → Prop
  | .slice (some a) n _ => 0 < n → row ≠ some a.block
  | _ => True
theorem Sl.grown {w w' : World} {A : Option Addr} {n c : Nat} {xs : List Value} {row : Option Nat} (h : Sl w A n xs) (hg : w.grownBy w' row) (ho : Off row (.slice A n c)) : Sl w' A n xs := by
  refine ⟨h.1, fun hn => ?_⟩
  obtain ⟨b, o, e, hc⟩ := h.2 hn
  have hlt := h.lt hn e
  subst e
  refine ⟨b, o, rfl, fun j u hu => ?_⟩
  rw [World.cell?_of_block (w := w) (hg.block b hlt (fun e => ho hn e.symm))]
  exact hc j u hu
theorem Off.of_fresh {b k : Nat} {v : Value} (h : Fresh b v) (hk : k < b) : Off (some k) v := by
  unfold Off Fresh at *
  split
  · simp only at h
    intro _ e
    injection e with e
    omega
  · trivial
theorem Off.none_ (v : Value) : Off none v := by
  unfold Off
  split
  · simp
  · trivial
theorem Sl.off {w : World} {A : Option Addr} {n c : Nat} {xs : List Value} (h : Sl w A n xs) {k : Nat} (hk : w.heap.size ≤ k) : Off (some k) (.slice A n c) := by
  unfold Off
  split
  · rename_i a n' c' e
    injection e with e1 e2 e3
    subst e2
    intro hn he
    obtain ⟨b, o, hA, _⟩ := h.2 hn
    have hlt := h.lt hn hA
    rw [e1] at hA
    injection hA with hA
    subst hA
    injection he with he
    subst he
    omega
  · trivial

/-! ### make and append -/
section
variable {P : Program}
theorem run_mk {t e : TypeId} {z : Value} {bytes : Nat} (ht : P.underlying t = some (.slice e)) (hinfo : (P.info? e).map (fun i => (i.zero, i.size, i.bytes)) = some (some z, 1, bytes)) (hz : z.cells = #[z])
    (n : Nat) (hb : bytes * n ≤ 281474976710656) (hm : n ≤ 9223372036854775807) (w : World) :
    (Instr.makeSlice t (.int .i64 (n : Int)) (.int .i64 (n : Int))).run P w = .ok (.slice (some ⟨w.heap.size, 0, none⟩) n n) (w.alloc (.cells (zrow z n) e)) := by
  obtain ⟨i, hi, hz0, hz1, hz2⟩ := info_parts hinfo
  have hb' : (i.bytes : Int) * (n : Int) ≤ 281474976710656 := by
    have h : ((i.bytes * n : Nat) : Int) ≤ 281474976710656 := by rw [hz2]; omega
    rwa [Int.natCast_mul] at h
  have hr := run_make (P := P) w t e i z ht hi hz0 .i64 .i64 n n (by omega) (Int.le_refl _) hb' (by omega)
  simp only [Int.toNat_natCast, hz1, Nat.mul_one, hz] at hr
  rw [hr]
  congr 3
  unfold zrow
  rw [← toList_madeCells_one]
theorem run_mkI {t e : TypeId} {z : Value} {bytes : Nat} (ht : P.underlying t = some (.slice e)) (hinfo : (P.info? e).map (fun i => (i.zero, i.size, i.bytes)) = some (some z, 1, bytes)) (hz : z.cells = #[z])
    (I : Int) (n : Nat) (hI : I = (n : Int)) (hb : bytes * n ≤ 281474976710656) (hm : n ≤ 9223372036854775807) (w : World) :
    (Instr.makeSlice t (.int .i64 I) (.int .i64 I)).run P w = .ok (.slice (some ⟨w.heap.size, 0, none⟩) n n) (w.alloc (.cells (zrow z n) e)) := by
  subst hI; exact run_mk ht hinfo hz n hb hm w
theorem run_mk0 {t e : TypeId} {z : Value} {bytes : Nat} (ht : P.underlying t = some (.slice e)) (hinfo : (P.info? e).map (fun i => (i.zero, i.size, i.bytes)) = some (some z, 1, bytes)) (hz : z.cells = #[z])
    (n : Nat) (hb : bytes * n ≤ 281474976710656) (hm : n ≤ 9223372036854775807) (w : World) :
    (Instr.makeSlice t (.int .i64 0) (.int .i64 (n : Int))).run P w = .ok (.slice (some ⟨w.heap.size, 0, none⟩) 0 n) (w.alloc (.cells (zrow z n) e)) := by
  obtain ⟨i, hi, hz0, hz1, hz2⟩ := info_parts hinfo
  have hb' : (i.bytes : Int) * (n : Int) ≤ 281474976710656 := by
    have h : ((i.bytes * n : Nat) : Int) ≤ 281474976710656 := by rw [hz2]; omega
    rwa [Int.natCast_mul] at h
  have hr := run_make (P := P) w t e i z ht hi hz0 .i64 .i64 0 n (by omega) (by omega) hb' (by omega)
  simp only [Int.toNat_natCast, hz1, Nat.mul_one, hz] at hr
  rw [show (0 : Int).toNat = 0 from rfl] at hr
  rw [hr]
  congr 3
  unfold zrow
  rw [← toList_madeCells_one]

theorem own_zero (w : World) (z : Value) (e n : Nat) (hm : n ≤ maxLen) : (w.alloc (.cells (zrow z n) e)).ownsRow w.heap.size e 1 (.slice (some ⟨w.heap.size, 0, none⟩) 0 n) 0 [] :=
  World.ownsRow_made w (zrow z n) n (Nat.le_refl _) hm (by simp [zrow])

theorem own_keep {w w' : World} {base e size n : Nat} {v : Value} {xs : List Value} (h : w.ownsRow base e size v n xs) (hb : Below w.heap.size w w') : w'.ownsRow base e size v n xs := by
  refine ⟨h.1, ?_⟩
  rcases h.2 with h0 | ⟨g, cap, cur, hv, hg, hh, r⟩
  · exact .inl h0
  · refine .inr ⟨g, cap, cur, hv, hg, ?_, r⟩
    have hlt : g < w.heap.size := by
      rcases Nat.lt_or_ge g w.heap.size with hlt | hge
      · exact hlt
      · rw [Array.getElem?_eq_none hge] at hh; cases hh
    exact (hb.block g hlt).trans hh
theorem own_far {w : World} {base e size n : Nat} {v : Value} {xs : List Value} (h : w.ownsRow base e size v n xs) {p : Addr} (hp : p.block < base) (u : Value) : (w.setCell p u).ownsRow base e size v n xs := ownsRow_setCell_below h hp u

/-- 'append(s, x)' onto a row of the call's own. -/
theorem wpList_append_one (w : World) {ops : Array Oper} {rest : List Oper} {o : Oper} {a : Act} {Q : Exit → Act → World → Prop} (hgd : o.guard = none) (s x : Operand) (t : TypeId)
    (ho : o.op = .call { callee := .builtin .append, args := #[s, x], argTypes := #[t, t] })
    (base : Nat) (e : TypeId) (z : Value) (bytes : Nat) (ht : P.underlying t = some (.slice e)) (hinfo : (P.info? e).map (fun i => (i.zero, i.size, i.bytes)) = some (some z, 1, bytes)) (hz : z.cells.size = 1)
    (v : Value) (n : Nat) (xs : List Value) (u : Value) (hs : a.eval s = v) (hx : a.eval x = .slice (some ⟨w.heap.size, 0, none⟩) 1 1) (hown : w.ownsRow base e 1 v n xs) (hu : u.oneCell' = true)
    (h63 : n + 1 ≤ maxLen) (hbytes : (n + 1) * bytes ≤ 140737488355328) (hbase : base ≤ w.heap.size)
    (h : ∀ A' c' w', w'.ownsRow base e 1 (.slice A' (n + 1) c') (n + 1) (xs ++ [u]) → Below base w w' → wpList P ops Q rest (a.put o.dst (.slice A' (n + 1) c')) w') : wpList P ops Q (o :: rest) a (w.alloc (.cells #[u] e)) := by
  obtain ⟨i, hi, hz0, hz1, hz2⟩ := info_parts hinfo
  refine wpList_append_own _ hgd s x t ho base e i z 1 bytes ht hi hz0 hz1 hz2 hz (by omega) v n xs hs (hown.alloc _) ⟨w.heap.size, 0, none⟩ 1 1 [u] hx rfl ?_ (by simpa using hu) h63 hbytes (by simp; omega) ?_
  · intro j u' hu'
    cases j with
    | zero =>
      simp only [List.getElem?_cons_zero, Option.some.injEq] at hu'
      subst hu'
      exact World.cell?_alloc_at (w := w) #[u] e w.heap.size 0 rfl
    | succ j => simp at hu'
  · intro v' w' ho' hg _
    obtain ⟨A', c', rfl, _, _, _⟩ := Sl.of_own ho'
    refine h A' c' w' ho' ?_
    have hb1 : Below base w (w.alloc (.cells #[u] e)) := (Below.refl _ _).alloc hbase _
    exact hb1.grown hg (by simp; omega) (fun k hk => (hown.lt k hk).1)

theorem run_append_of_nil (w : World) (base : Nat) (t ty e : TypeId) (i : TypeInfo) (size : Nat) (ht : P.underlying t = some (.slice e)) (hi : P.info? e = some i)
    (v : Value) (n : Nat) (xs : List Value) (hown : w.ownsRow base e size v n xs) (c : Nat) : (Builtin.append_ #[t, t] ty #[v, .slice none 0 c]).run P w = .ok v w := by
  rcases hown.2 with ⟨rfl, rfl⟩ | ⟨g, cap, cur, rfl, _, _, hnc, _⟩
  · simp [Builtin.append_, run_underlying ht, sizeOf, typeInfo, hi, Builtin.lenOf, Builtin.firstCells]
  · simp [Builtin.append_, run_underlying ht, sizeOf, typeInfo, hi, Builtin.lenOf, Builtin.firstCells, hnc, storeCells]

theorem run_append_sl (w : World) (base : Nat) (t ty e : TypeId) (z : Value) (bytes : Nat) (ht : P.underlying t = some (.slice e)) (hinfo : (P.info? e).map (fun i => (i.zero, i.size, i.bytes)) = some (some z, 1, bytes)) (hz : z.cells.size = 1)
    (v : Value) (n : Nat) (xs : List Value) (hown : w.ownsRow base e 1 v n xs) (A : Option Addr) (m c : Nat) (ys : List Value) (hr : Sl w A m ys) (h1 : ∀ u ∈ ys, u.oneCell' = true)
    (h63 : n + m ≤ maxLen) (hbytes : (n + m) * bytes ≤ 140737488355328) (hbase : base ≤ w.heap.size) :
    ∃ A' c' w', (Builtin.append_ #[t, t] ty #[v, .slice A m c]).run P w = .ok (.slice A' (n + m) c') w' ∧ w'.ownsRow base e 1 (.slice A' (n + m) c') (n + m) (xs ++ ys) ∧ Below base w w' := by
  obtain ⟨i, hi, hz0, hz1, hz2⟩ := info_parts hinfo
  rcases A with _ | ad
  · have hm : m = 0 := by
      rcases Nat.eq_zero_or_pos m with h0 | h0
      · exact h0
      · obtain ⟨b, o, h, _⟩ := hr.2 h0
        cases h
    subst hm
    have hn : ys = [] := List.eq_nil_of_length_eq_zero hr.1
    subst hn
    obtain ⟨A', c', rfl, _, _, _⟩ := Sl.of_own hown
    exact ⟨A', c', w, run_append_of_nil w base t ty e i 1 ht hi _ n xs hown c, by simpa using hown, Below.refl _ _⟩
  · have hcells : ∀ j u, ys[j]? = some u → w.cell? (ad.add j) = some u := by
      intro j u hu
      rcases Nat.eq_zero_or_pos m with h0 | h0
      · subst h0
        have hn : ys = [] := List.eq_nil_of_length_eq_zero hr.1
        subst hn
        simp at hu
      · obtain ⟨b, o, h, hc⟩ := hr.2 h0
        injection h with h
        subst h
        have := hc j u hu
        unfold Addr.add
        split
        · rename_i h; subst h; exact this
        · exact this
    obtain ⟨v', w', hrun, h2, h3, _⟩ := run_append_own (P := P) w base t ty e i z 1 bytes ht hi hz0 hz1 hz2 hz (by omega) v n xs hown ad m c ys (by simpa using hr.1) hcells h1 h63 hbytes hbase
    obtain ⟨A', c', rfl, _, _, _⟩ := Sl.of_own h2
    exact ⟨A', c', w', hrun, h2, (Below.refl _ _).grown h3 hbase (fun k hk => (hown.lt k hk).1)⟩

/-- 'append(s, ys...)' onto a row of the call's own, the source nil or not. -/
theorem wpList_append_sl (w : World) {ops : Array Oper} {rest : List Oper} {o : Oper} {a : Act} {Q : Exit → Act → World → Prop} (hgd : o.guard = none) (s x : Operand) (t : TypeId)
    (ho : o.op = .call { callee := .builtin .append, args := #[s, x], argTypes := #[t, t] })
    (base : Nat) (e : TypeId) (z : Value) (bytes : Nat) (ht : P.underlying t = some (.slice e)) (hinfo : (P.info? e).map (fun i => (i.zero, i.size, i.bytes)) = some (some z, 1, bytes)) (hz : z.cells.size = 1)
    (v : Value) (n : Nat) (xs : List Value) (A : Option Addr) (m c : Nat) (ys : List Value) (hs : a.eval s = v) (hx : a.eval x = .slice A m c) (hown : w.ownsRow base e 1 v n xs) (hr : Sl w A m ys) (h1 : ∀ u ∈ ys, u.oneCell' = true)
    (h63 : n + m ≤ maxLen) (hbytes : (n + m) * bytes ≤ 140737488355328) (hbase : base ≤ w.heap.size)
    (h : ∀ A' c' w', w'.ownsRow base e 1 (.slice A' (n + m) c') (n + m) (xs ++ ys) → Below base w w' → wpList P ops Q rest (a.put o.dst (.slice A' (n + m) c')) w') : wpList P ops Q (o :: rest) a w := by
  obtain ⟨A', c', w', hrun, h2, h3⟩ := run_append_sl (P := P) w base t o.type e z bytes ht hinfo hz v n xs hown A m c ys hr h1 h63 hbytes hbase
  refine wpList_plain hgd fun K hK => ?_
  unfold Oper.wp execOp
  simp only [ho, resolve, invoke, builtin, Sem.run_bind, Sem.run_pure, Result.andThen_ok, List.map_toArray, List.map_cons, List.map_nil, hs, hx, hrun]
  exact hK _ _ (h A' c' w' h2 h3)

/-- 'append(nil, ys...)': any length that a slice of such elements may have. -/
theorem run_append_nil48 (w : World) (t ty e : TypeId) (z : Value) (bytes : Nat) (ht : P.underlying t = some (.slice e)) (hinfo : (P.info? e).map (fun i => (i.zero, i.size, i.bytes)) = some (some z, 1, bytes)) (hz : z.cells.size = 1)
    (A : Option Addr) (m c : Nat) (ys : List Value) (hr : Sl w A m ys) (h1 : ∀ u ∈ ys, u.oneCell' = true) (h63 : m ≤ maxLen) (hbytes : m * bytes ≤ 281474976710656) :
    ∃ A' c' w', (Builtin.append_ #[t, t] ty #[.slice none 0 0, .slice A m c]).run P w = .ok (.slice A' m c') w' ∧ w'.ownsRow w.heap.size e 1 (.slice A' m c') m ys ∧ Below w.heap.size w w' := by
  by_cases hs : m * bytes ≤ 140737488355328
  · have := run_append_sl (P := P) w w.heap.size t ty e z bytes ht hinfo hz (.slice none 0 0) 0 [] (World.ownsRow_nil _ _ _ _) A m c ys hr h1 (by omega) (by simpa using hs) (Nat.le_refl _)
    simpa using this
  · have hm : 0 < m := by
      rcases m with _ | m
      · simp at hs
      · omega
    obtain ⟨i, hi, hz0, hz1, hz2⟩ := info_parts hinfo
    obtain ⟨b, o, hA, hc⟩ := hr.2 hm
    subst hA
    have hl : ys.length = m * i.size := by rw [hz1, hr.1]; omega
    have hg := grownCap_ge w m 0 e
    have hcm : grownCap w m 0 e ≤ maxLen := grownCap_le_maxLen w m 0 e h63
    have hrun := run_append_nil (P := P) w t ty e i z ht hi hz0 ⟨b, o, none⟩ m c ys hl (fun j v hv => by have := hc j v hv; rw [Addr.add_lit]; exact this) hm (by have h := h63; unfold maxLen at h; omega) (by rw [hz2]; exact hbytes)
    refine ⟨_, _, _, hrun, ⟨by rw [hr.1]; omega, .inr ⟨w.heap.size, _, _, rfl, Nat.le_refl _, heap_alloc_new w.drew _, hg, hcm, ?_, ?_⟩⟩, ?_⟩
    · simp only [Array.size_append, List.size_toArray, size_zeroCells, hz, hr.1]
      omega
    · rw [← hr.1]
      simp
    · exact (Below.refl _ _).grown (row := none) ⟨rfl, rfl, rfl, by simp, fun k hk _ => heap_alloc_old w.drew _ k hk⟩ (Nat.le_refl _) (fun k hk => by cases hk)
theorem wpList_append_nil48 (w : World) {ops : Array Oper} {rest : List Oper} {o : Oper} {a : Act} {Q : Exit → Act → World → Prop} (hgd : o.guard = none) (s x : Operand) (t : TypeId)
    (ho : o.op = .call { callee := .builtin .append, args := #[s, x], argTypes := #[t, t] })
    (e : TypeId) (z : Value) (bytes : Nat) (ht : P.underlying t = some (.slice e)) (hinfo : (P.info? e).map (fun i => (i.zero, i.size, i.bytes)) = some (some z, 1, bytes)) (hz : z.cells.size = 1)
    (A : Option Addr) (m c : Nat) (ys : List Value) (hs : a.eval s = .slice none 0 0) (hx : a.eval x = .slice A m c) (hr : Sl w A m ys) (h1 : ∀ u ∈ ys, u.oneCell' = true)
    (h63 : m ≤ maxLen) (hbytes : m * bytes ≤ 281474976710656)
    (h : ∀ A' c' w', w'.ownsRow w.heap.size e 1 (.slice A' m c') m ys → Below w.heap.size w w' → wpList P ops Q rest (a.put o.dst (.slice A' m c')) w') : wpList P ops Q (o :: rest) a w := by
  obtain ⟨A', c', w', hrun, h2, h3⟩ := run_append_nil48 (P := P) w t o.type e z bytes ht hinfo hz A m c ys hr h1 h63 hbytes
  refine wpList_plain hgd fun K hK => ?_
  unfold Oper.wp execOp
  simp only [ho, resolve, invoke, builtin, Sem.run_bind, Sem.run_pure, Result.andThen_ok, List.map_toArray, List.map_cons, List.map_nil, hs, hx, hrun]
  exact hK _ _ (h A' c' w' h2 h3)

theorem splice_whole (cur cs : List Value) (h : cs.length = cur.length) : splice cur 0 cs = cs := by
  simp [splice, h]
/-- 'copy(d, s)' where d is a whole row of the call's own and s is at least as long. -/
theorem wpList_copy_new (w : World) {ops : Array Oper} {rest : List Oper} {o : Oper} {a : Act} {Q : Exit → Act → World → Prop} (hgd : o.guard = none) (d s : Operand) (t : TypeId)
    (ho : o.op = .call { callee := .builtin .copy, args := #[d, s], argTypes := #[t, t] }) (e : TypeId) (z : Value) (bytes : Nat) (ht : P.underlying t = some (.slice e)) (hinfo : (P.info? e).map (fun i => (i.zero, i.size, i.bytes)) = some (some z, 1, bytes))
    (g n : Nat) (zs : List Value) (A : Option Addr) (m c : Nat) (ys : List Value) (hd : a.eval d = .slice (some ⟨g, 0, none⟩) n n) (hs : a.eval s = .slice A m c) (hrow : Row w g e zs) (hzl : zs.length = n) (hsl : Sl w A m ys) (h1 : ∀ u ∈ ys, u.oneCell' = true) (hnm : n ≤ m)
    (h : ∀ w', Row w' g e (ys.take n) → Below g w w' → wpList P ops Q rest (a.put o.dst (.int .i64 (n : Int))) w') : wpList P ops Q (o :: rest) a w := by
  have hsz : (P.info? e).map (·.size) = some 1 := by
    obtain ⟨i, hi, _, h2, _⟩ := info_parts hinfo
    rw [hi]; simp [h2]
  have hcl : (ys.take n).length = n := by rw [List.length_take, hsl.1]; omega
  refine wpList_copy_splice hgd d s t t ho e ht hsz (some ⟨g, 0, none⟩) A n n m c hd hs g 0 zs e hrow (ys.take n) (by rw [hcl]; exact (Nat.min_eq_right hnm).symm) (fun hp => ?_) (by rw [hcl]; omega) (fun u hu => h1 u (List.mem_of_mem_take hu)) g w (Below.refl _ _) (Nat.le_refl _) ?_
  · rw [hcl] at hp
    obtain ⟨b, off, hA, hc⟩ := hsl.2 (by omega)
    refine ⟨rfl, _, hA, fun j v hv => ?_⟩
    have := hc j v (by
      rw [List.getElem?_take] at hv
      split at hv
      · exact hv
      · cases hv)
    unfold Addr.add
    split
    · rename_i h; subst h; exact this
    · exact this
  · intro w' hr hb
    have := hr.out
    rw [splice_whole _ _ (by rw [hcl, hzl])] at this
    rw [hcl]
    exact h w' this hb

/-- 'append(s, x)' onto a row of the call's own; what else the call owns is told to stay. -/
theorem wpList_append_oneG (w : World) {ops : Array Oper} {rest : List Oper} {o : Oper} {a : Act} {Q : Exit → Act → World → Prop} (hgd : o.guard = none) (s x : Operand) (t : TypeId)
    (ho : o.op = .call { callee := .builtin .append, args := #[s, x], argTypes := #[t, t] })
    (base : Nat) (e : TypeId) (z : Value) (bytes : Nat) (ht : P.underlying t = some (.slice e)) (hinfo : (P.info? e).map (fun i => (i.zero, i.size, i.bytes)) = some (some z, 1, bytes)) (hz : z.cells.size = 1)
    (v : Value) (n : Nat) (xs : List Value) (u : Value) (hs : a.eval s = v) (hx : a.eval x = .slice (some ⟨w.heap.size, 0, none⟩) 1 1) (hown : w.ownsRow base e 1 v n xs) (hu : u.oneCell' = true)
    (h63 : n + 1 ≤ maxLen) (hbytes : (n + 1) * bytes ≤ 140737488355328) (hbase : base ≤ w.heap.size)
    (h : ∀ A' c' w', w'.ownsRow base e 1 (.slice A' (n + 1) c') (n + 1) (xs ++ [u]) → Below base w w' → w.grownBy w' v.ownBlock → ((Value.slice A' (n + 1) c').ownBlock = v.ownBlock ∨ ∃ k, (Value.slice A' (n + 1) c').ownBlock = some k ∧ w.heap.size ≤ k) → wpList P ops Q rest (a.put o.dst (.slice A' (n + 1) c')) w') : wpList P ops Q (o :: rest) a (w.alloc (.cells #[u] e)) := by
  obtain ⟨i, hi, hz0, hz1, hz2⟩ := info_parts hinfo
  have hcell : ∀ j u', [u][j]? = some u' → (w.alloc (.cells #[u] e)).cell? ((⟨w.heap.size, 0, none⟩ : Addr).add j) = some u' := by
    intro j u' hu'
    cases j with
    | zero =>
      simp only [List.getElem?_cons_zero, Option.some.injEq] at hu'
      subst hu'
      exact World.cell?_alloc_at (w := w) #[u] e w.heap.size 0 rfl
    | succ j => simp at hu'
  obtain ⟨v', w', hrun, h2, h3, _, h5⟩ := run_append_own_at (P := P) (w.alloc (.cells #[u] e)) base t o.type e i z 1 bytes ht hi hz0 hz1 hz2 hz (by omega) v n xs (hown.alloc _) ⟨w.heap.size, 0, none⟩ 1 1 [u] rfl hcell (by simpa using hu) h63 hbytes (by simp; omega)
  obtain ⟨A', c', rfl, _, _, _⟩ := Sl.of_own h2
  refine wpList_plain hgd fun K hK => ?_
  unfold Oper.wp execOp
  simp only [ho, resolve, invoke, builtin, Sem.run_bind, Sem.run_pure, Result.andThen_ok, List.map_toArray, List.map_cons, List.map_nil, hs, hx, hrun]
  have hb1 : Below base w (w.alloc (.cells #[u] e)) := (Below.refl _ _).alloc hbase _
  have hg1 : w.grownBy w' v.ownBlock := by
    refine ⟨h3.os, h3.tape, h3.output, Nat.le_trans (by simp) h3.size, fun k hk hne => ?_⟩
    exact (h3.block k (by simp; omega) hne).trans (Below.heap_alloc w _ k hk)
  refine hK _ _ (h A' c' w' h2 (hb1.grown h3 (by simp; omega) (fun k hk => (hown.lt k hk).1)) hg1 ?_)
  rcases h5 with h5 | h5
  · exact .inl h5
  · exact .inr ⟨_, h5, by simp⟩
end
end Go.Proofs.YtoihjclkocffhaaDoor
