/- Lists of ratios in memory; posterior.quotient and Share. -/
import Derived.Test.YtoihjclkocffhaaDoorPcQ
import Derived.Test.YtoihjclkocffhaaDoorRatQ
namespace Go.Proofs.YtoihjclkocffhaaDoor
open Go.RowKit
set_option linter.unusedVariables false

abbrev T3 := Value × Value × Value
/-- Three cells each. -/
def flat : List T3 → List Value
  | [] => []
  | u :: us => u.1 :: u.2.1 :: u.2.2 :: flat us
def z3 : T3 := (.bool false, .slice none 0 0, .slice none 0 0)
theorem flat_append : ∀ (a b : List T3), flat (a ++ b) = flat a ++ flat b
  | [], b => rfl
  | u :: a, b => by show _ :: _ :: _ :: flat (a ++ b) = _; rw [flat_append a b]; rfl
theorem flat_len : ∀ (us : List T3), (flat us).length = 3 * us.length
  | [] => rfl
  | u :: us => by show (flat us).length + 1 + 1 + 1 = 3 * (us.length + 1); rw [flat_len us]; omega
theorem flat_get : ∀ {us : List T3} {i : Nat} {u : T3}, us[i]? = some u → (flat us)[3 * i]? = some u.1 ∧ (flat us)[3 * i + 1]? = some u.2.1 ∧ (flat us)[3 * i + 2]? = some u.2.2
  | [], i, u, h => by simp at h
  | v :: us, 0, u, h => by
    simp at h
    subst h
    exact ⟨rfl, rfl, rfl⟩
  | v :: us, i + 1, u, h => by
    have h' : us[i]? = some u := by simpa using h
    obtain ⟨a, b, c⟩ := flat_get h'
    rw [show 3 * (i + 1) = 3 * i + 1 + 1 + 1 by omega]
    exact ⟨a, b, c⟩
theorem flat_set : ∀ (us : List T3) (i : Nat) (a b c : Value), i < us.length → (((flat us).set (3 * i) a).set (3 * i + 1) b).set (3 * i + 2) c = flat (us.set i (a, b, c))
  | [], i, a, b, c, h => by simp at h
  | v :: us, 0, a, b, c, h => rfl
  | v :: us, i + 1, a, b, c, h => by
    rw [show 3 * (i + 1) = 3 * i + 1 + 1 + 1 by omega]
    show v.1 :: v.2.1 :: v.2.2 :: (((flat us).set (3 * i) a).set (3 * i + 1) b).set (3 * i + 2) c = v.1 :: v.2.1 :: v.2.2 :: flat (us.set i (a, b, c))
    rw [flat_set us i a b c (by simpa using h)]
theorem made3 (n : Nat) : madeCells #[.bool false, .slice none 0 0, .slice none 0 0] (n * 3) = (flat (List.replicate n z3)).toArray := by
  apply Array.toList_inj.1
  apply List.ext_getElem?
  intro j
  by_cases hj : j < n * 3
  · have hi : (List.replicate n z3)[j / 3]? = some z3 := by rw [List.getElem?_replicate, if_pos (by omega)]
    obtain ⟨a, b, c⟩ := flat_get hi
    have hm : j % 3 = 0 ∨ j % 3 = 1 ∨ j % 3 = 2 := by omega
    rcases hm with h | h | h
    · have e : j = 3 * (j / 3) := by omega
      have hl : (madeCells #[.bool false, .slice none 0 0, .slice none 0 0] (n * 3)).toList[j]? = some (.bool false) := by simp [madeCells, hj, h]
      rw [hl]
      show _ = (flat (List.replicate n z3))[j]?
      rw [e, a]; rfl
    · have e : j = 3 * (j / 3) + 1 := by omega
      have hl : (madeCells #[.bool false, .slice none 0 0, .slice none 0 0] (n * 3)).toList[j]? = some (.slice none 0 0) := by simp [madeCells, hj, h]
      rw [hl]
      show _ = (flat (List.replicate n z3))[j]?
      rw [e, b]; rfl
    · have e : j = 3 * (j / 3) + 2 := by omega
      have hl : (madeCells #[.bool false, .slice none 0 0, .slice none 0 0] (n * 3)).toList[j]? = some (.slice none 0 0) := by simp [madeCells, hj, h]
      rw [hl]
      show _ = (flat (List.replicate n z3))[j]?
      rw [e, c]; rfl
  · have hl : (madeCells #[.bool false, .slice none 0 0, .slice none 0 0] (n * 3)).toList[j]? = none := by simp [madeCells]; omega
    rw [hl]
    show none = (flat (List.replicate n z3))[j]?
    rw [List.getElem?_eq_none (by rw [flat_len, List.length_replicate]; omega)]
def zrow3 (n : Nat) : Array Value := (flat (List.replicate n z3)).toArray
theorem infoRatio : (Tryd.prog.info? 54).map (fun i => (i.zero.map (·.cells), i.size, i.bytes)) = some (some #[.bool false, .slice none 0 0, .slice none 0 0], 3, 56) := by kernel_rfl
theorem run_mk3 {P : Program} {t e : TypeId} (ht : P.underlying t = some (.slice e)) (hinfo : (P.info? e).map (fun i => (i.zero.map (·.cells), i.size, i.bytes)) = some (some #[.bool false, .slice none 0 0, .slice none 0 0], 3, 56)) (_ : True = True)
    (n : Nat) (hb : 56 * n ≤ 281474976710656) (hm : n ≤ 9223372036854775807) (w : World) :
    (Instr.makeSlice t (.int .i64 (n : Int)) (.int .i64 (n : Int))).run P w = .ok (.slice (some ⟨w.heap.size, 0, none⟩) n n) (w.alloc (.cells (zrow3 n) e)) := by
  rcases hi : P.info? e with _ | i
  · rw [hi] at hinfo; simp at hinfo
  · rw [hi] at hinfo
    simp only [Option.map_some, Option.some.injEq, Prod.mk.injEq] at hinfo
    obtain ⟨h1, h2, h3⟩ := hinfo
    rcases hz : i.zero with _ | z
    · rw [hz] at h1; simp at h1
    · rw [hz] at h1
      simp only [Option.map_some, Option.some.injEq] at h1
      have hr := run_make (P := P) w t e i z ht hi hz .i64 .i64 n n (by omega) (Int.le_refl _) (by rw [h3]; omega) (by omega)
      simp only [Int.toNat_natCast, h2, h1] at hr
      rw [made3] at hr
      exact hr
theorem Row.newz3 (w : World) (t n : Nat) : Row (w.alloc (.cells (zrow3 n) t)) w.heap.size t (flat (List.replicate n z3)) := heap_alloc_new w _
theorem padt_set (l : List T3) (z : T3) (n k : Nat) (x : T3) (hl : l.length = k) (hk : k < n) : (l ++ List.replicate (n - k) z).set k x = (l ++ [x]) ++ List.replicate (n - (k + 1)) z := by
  subst hl
  rw [List.set_append_right _ _ (by omega), Nat.sub_self]
  obtain ⟨m, hm⟩ : ∃ m, n - l.length = m + 1 := ⟨n - l.length - 1, by omega⟩
  rw [hm, List.replicate_succ, List.set_cons_zero, show n - (l.length + 1) = m by omega]
  simp
theorem padt_get (l : List T3) (z : T3) (n k : Nat) (hl : l.length = k) (hk : k < n) : (l ++ List.replicate (n - k) z)[k]? = some z := by
  subst hl
  rw [List.getElem?_append_right (by omega), Nat.sub_self, List.getElem?_replicate, if_pos (by omega)]
/-- The first k of the ratios, each in three cells, in memory from base on. -/
def RatC (w : World) (us : List T3) (zs : List (Int × Nat)) (k L base : Nat) : Prop := us.length = k ∧ ∀ i u, us[i]? = some u → RatF base w (.agg #[u.1, u.2.1, u.2.2]) (zs.getD i (0, 1)).1 (zs.getD i (0, 1)).2 L
theorem RatC.zero (w : World) (zs : List (Int × Nat)) (L base : Nat) : RatC w [] zs 0 L base := ⟨rfl, fun i u h => by simp at h⟩
theorem RatC.below {w w' : World} {us : List T3} {zs : List (Int × Nat)} {k L base : Nat} (h : RatC w us zs k L base) (hb : Below w.heap.size w w') : RatC w' us zs k L base := ⟨h.1, fun i u hi => (h.2 i u hi).below hb⟩
theorem RatC.set3 {w : World} {us : List T3} {zs : List (Int × Nat)} {k L g : Nat} (h : RatC w us zs k L (g + 1)) (i : Nat) (a b c : Value) : RatC (((w.setCell ⟨g, i, none⟩ a).setCell ⟨g, i + 1, none⟩ b).setCell ⟨g, i + 2, none⟩ c) us zs k L (g + 1) :=
  ⟨h.1, fun j u hj => (((h.2 j u hj).set_ (a := ⟨g, i, none⟩) (Nat.lt_succ_self _) a).set_ (a := ⟨g, i + 1, none⟩) (Nat.lt_succ_self _) b).set_ (a := ⟨g, i + 2, none⟩) (Nat.lt_succ_self _) c⟩
theorem RatC.snoc {w : World} {us : List T3} {zs : List (Int × Nat)} {k L base b : Nat} {x y z : Value} (h : RatC w us zs k L base) (hx : RatF b w (.agg #[x, y, z]) (zs.getD k (0, 1)).1 (zs.getD k (0, 1)).2 L) (hb : base ≤ b) : RatC w (us ++ [(x, y, z)]) zs (k + 1) L base := by
  refine ⟨by rw [List.length_append, h.1]; rfl, fun i u hi => ?_⟩
  rcases Nat.lt_or_ge i us.length with hl | hl
  · rw [List.getElem?_append_left hl] at hi
    exact h.2 i u hi
  · rw [List.getElem?_append_right hl] at hi
    have : i - us.length = 0 := by
      rcases Nat.eq_zero_or_pos (i - us.length) with h0 | h0
      · exact h0
      · rw [List.getElem?_eq_none (by simp; omega)] at hi; cases hi
    rw [this] at hi
    simp at hi
    subst hi
    have : i = k := by have := h.1; omega
    subst this
    exact hx.base hb
theorem NatAny.mono {w : World} {v : Value} {n L M : Nat} (h : NatAny w v n L) (hL : L ≤ M) : NatAny w v n M := by
  obtain ⟨ls, h1, h2, h3⟩ := h
  exact ⟨ls, h1, h2, by omega⟩
theorem flipZ_posI {p s : Int} (h : 0 < s) : flipZ p s = p := if_neg (by omega)
theorem List.le_sum_of_memN {x : Nat} : ∀ {l : List Nat}, x ∈ l → x ≤ l.sum
  | [], h => by simp at h
  | y :: l, h => by
    rw [List.sum_cons]
    rcases List.mem_cons.1 h with h | h
    · omega
    · have := List.le_sum_of_memN h; omega
set_option maxRecDepth 100000 in
set_option maxHeartbeats 8000000 in
theorem quot_any (nv dv : Value) (a b L : Nat) (w : World) (ha : NatAny w nv a L) (hb : NatAny w dv b L) (hL : L ≤ 35184372088800) (hpos : 0 < b) :
    Calls Tryd.prog 58 #[nv, dv] w fun e w' => ∃ x, e = .returned x ∧ RatF w.heap.size w' x (redP (a : Int) b) (redQ (a : Int) b) L ∧ Below w.heap.size w w' := by
  obtain ⟨la, hla, hva, hka⟩ := ha
  obtain ⟨lb, hlb, hvb, hkb⟩ := hb
  have hsb : sg false (val lb) = (b : Int) := by rw [hvb]; rfl
  have hsne : sg false (val lb) ≠ 0 := by rw [hsb]; omega
  have hfl1 : flipZ (sg false (val la)) (sg false (val lb)) = (a : Int) := by rw [flipZ_posI (by rw [hsb]; omega), hva]; rfl
  have hfl2 : (sg false (val lb)).natAbs = b := by rw [hsb]; rfl
  clear hva hvb hsb
  obtain ⟨⟨NA, nc, rfl, _, _, _⟩, _⟩ := id hla
  obtain ⟨⟨DA, dc, rfl, _, _, _⟩, _⟩ := id hlb
  obtain ⟨W0, hW0⟩ : ∃ W0 : World, W0 = w.alloc (.cells #[.bool false, .slice none 0 0, .slice none 0 0] 54) := ⟨_, rfl⟩
  have r0 : Row W0 w.heap.size 54 [.bool false, .slice none 0 0, .slice none 0 0] := by
    rw [hW0]
    have := Row.new w 54 [.bool false, .slice none 0 0, .slice none 0 0]
    simpa using this
  have B0 : Below w.heap.size w W0 := by rw [hW0]; exact ((Below.refl _ _).alloc (Nat.le_refl _) _)
  go_enter Tryd.func58, Tryd.ntmps58
  go_wp2_with fail
  rw [← hW0]
  clear hW0
  have BB := B0
  have hr4 := r0
  clear B0 r0
  have c40 : W0.cell? ⟨w.heap.size, 0, none⟩ = some (.bool false) := hr4.cell 0
  have c41 : W0.cell? ⟨w.heap.size, 1, none⟩ = some (.slice none 0 0) := hr4.cell 1
  have c42 : W0.cell? ⟨w.heap.size, 2, none⟩ = some (.slice none 0 0) := hr4.cell 2
  have f40 : W0.frozen? ⟨w.heap.size, 0, none⟩ = false := hr4.frozen 0
  have f41 : W0.frozen? ⟨w.heap.size, 1, none⟩ = false := hr4.frozen 1
  have f42 : W0.frozen? ⟨w.heap.size, 2, none⟩ = false := hr4.frozen 2
  have z4 := hr4.lt
  go_wp2_with fail
  clear c40 c41 c42 f40 f41 f42 z4
  refine (imake_any false _ la _ (hla.below BB) (by omega)).mono ?_
  rintro e x1 ⟨v8, rfl, hv8, hb⟩
  replace hr4 := hr4.keep hb
  replace BB : Below w.heap.size w x1 := BB.trans (hb.mono BB.size)
  clear hb
  have c40 : x1.cell? ⟨w.heap.size, 0, none⟩ = some (.bool false) := hr4.cell 0
  have c41 : x1.cell? ⟨w.heap.size, 1, none⟩ = some (.slice none 0 0) := hr4.cell 1
  have c42 : x1.cell? ⟨w.heap.size, 2, none⟩ = some (.slice none 0 0) := hr4.cell 2
  have f40 : x1.frozen? ⟨w.heap.size, 0, none⟩ = false := hr4.frozen 0
  have f41 : x1.frozen? ⟨w.heap.size, 1, none⟩ = false := hr4.frozen 1
  have f42 : x1.frozen? ⟨w.heap.size, 2, none⟩ = false := hr4.frozen 2
  have z4 := hr4.lt
  go_wp2_with fail
  clear c40 c41 c42 f40 f41 f42 z4
  refine (imake_any false _ lb _ (hlb.below BB) (by omega)).mono ?_
  rintro e x2 ⟨v9, rfl, hv9, hb⟩
  replace hr4 := hr4.keep hb
  replace hv8 := hv8.below hb
  replace BB : Below w.heap.size w x2 := BB.trans (hb.mono BB.size)
  clear hb
  have c40 : x2.cell? ⟨w.heap.size, 0, none⟩ = some (.bool false) := hr4.cell 0
  have c41 : x2.cell? ⟨w.heap.size, 1, none⟩ = some (.slice none 0 0) := hr4.cell 1
  have c42 : x2.cell? ⟨w.heap.size, 2, none⟩ = some (.slice none 0 0) := hr4.cell 2
  have f40 : x2.frozen? ⟨w.heap.size, 0, none⟩ = false := hr4.frozen 0
  have f41 : x2.frozen? ⟨w.heap.size, 1, none⟩ = false := hr4.frozen 1
  have f42 : x2.frozen? ⟨w.heap.size, 2, none⟩ = false := hr4.frozen 2
  have z4 := hr4.lt
  go_wp2_with fail
  clear c40 c41 c42 f40 f41 f42 z4
  refine (qmake_any _ _ (sg false (val la)) (sg false (val lb)) L L _ (hv8.intA.mono hka) (hv9.intA.mono hkb) (by omega) (by omega) hsne).mono ?_
  have hz6 := hr4.lt
  rintro e x3 ⟨vq, rfl, hvq, hb⟩
  replace hr4 := hr4.keep hb
  replace hv8 := hv8.below hb
  replace hv9 := hv9.below hb
  replace BB : Below w.heap.size w x3 := BB.trans (hb.mono BB.size)
  clear hb
  rw [hfl1, hfl2] at hvq
  have hq' := hvq
  obtain ⟨mq, dq, eq, hmq, hdq, _, _⟩ := hq'
  subst eq
  obtain ⟨Aq, kq, cq, rfl⟩ := hmq.lim1.choose_spec.1.show_
  obtain ⟨Dq, lq, bq, rfl⟩ := hdq.lim1.choose_spec.1.show_
  clear hmq hdq
  clear hv8 hv9
  have hl := lit_below x3 (.cells #[.bool (decide (redP (a : Int) b < 0)), .slice Aq kq cq, .slice Dq lq bq] 54)
  have q4 := hr4.keep hl
  have c40 : (x3.alloc (.cells #[.bool (decide (redP (a : Int) b < 0)), .slice Aq kq cq, .slice Dq lq bq] 54)).cell? ⟨w.heap.size, 0, none⟩ = some (.bool false) := q4.cell 0
  have f40 : (x3.alloc (.cells #[.bool (decide (redP (a : Int) b < 0)), .slice Aq kq cq, .slice Dq lq bq] 54)).frozen? ⟨w.heap.size, 0, none⟩ = false := q4.frozen 0
  have c41 : (x3.alloc (.cells #[.bool (decide (redP (a : Int) b < 0)), .slice Aq kq cq, .slice Dq lq bq] 54)).cell? ⟨w.heap.size, 1, none⟩ = some (.slice none 0 0) := q4.cell 1
  have f41 : (x3.alloc (.cells #[.bool (decide (redP (a : Int) b < 0)), .slice Aq kq cq, .slice Dq lq bq] 54)).frozen? ⟨w.heap.size, 1, none⟩ = false := q4.frozen 1
  have c42 : (x3.alloc (.cells #[.bool (decide (redP (a : Int) b < 0)), .slice Aq kq cq, .slice Dq lq bq] 54)).cell? ⟨w.heap.size, 2, none⟩ = some (.slice none 0 0) := q4.cell 2
  have f42 : (x3.alloc (.cells #[.bool (decide (redP (a : Int) b < 0)), .slice Aq kq cq, .slice Dq lq bq] 54)).frozen? ⟨w.heap.size, 2, none⟩ = false := q4.frozen 2
  have z4 := q4.lt
  clear q4
  replace BB := BB.trans (hl.mono BB.size)
  replace hvq := hvq.below hl
  clear hl
  go_wp2_with fail
  refine bodyPost_ret (v := .agg #[.bool (decide (redP (a : Int) b < 0)), .slice Aq kq cq, .slice Dq lq bq]) (by simp [results, Tryd.results58, go_sem, c40, c41, c42]) rfl ⟨_, rfl, ?_, ((BB.setCell (by simp) _).setCell (by simp) _).setCell (by simp) _⟩
  exact ((((hvq.set_ (a := ⟨w.heap.size, 0, none⟩) hz6 _).set_ (a := ⟨w.heap.size, 1, none⟩) hz6 _).set_ (a := ⟨w.heap.size, 2, none⟩) hz6 _).base (by omega)).mono (by omega)

/-- The shares of weights. -/
def shareL (ns : List Nat) : List (Int × Nat) := ns.map fun (x : Nat) => (redP ((x : Nat) : Int) ns.sum, redQ ((x : Nat) : Int) ns.sum)
theorem shareL_get (ns : List Nat) {i : Nat} (h : i < ns.length) : (shareL ns).getD i (0, 1) = (redP ((ns.getD i 0 : Nat) : Int) ns.sum, redQ ((ns.getD i 0 : Nat) : Int) ns.sum) := by
  unfold shareL
  rw [List.getD_eq_getElem?_getD, List.getElem?_map, List.getD_eq_getElem?_getD, List.getElem?_eq_getElem h]
  rfl
theorem sum_pos {ns : List Nat} (h : all0 ns = false) : 0 < ns.sum := by
  rcases Nat.eq_zero_or_pos ns.sum with h0 | h0
  · exfalso
    have : all0 ns = true := by
      unfold all0
      rw [List.all_eq_true]
      intro x hx
      have := List.le_sum_of_memN hx
      simp only [beq_iff_eq]; omega
    rw [h] at this; cases this
  · exact h0
theorem share_no (wv : Value) (ns : List Nat) (L : Nat) (w : World) (hw : Wts w wv ns L) (hL : L ≤ 35184372088000) (hE : chkE ns ≠ 0) :
    Calls Tryd.prog 21 #[wv] w fun e w' => e = .returned (.tuple #[.slice none 0 0, .int .i64 (chkE ns)]) ∧ Below w.heap.size w w' := by
  have HC := Lib.hid (pcheck_any wv ns L w hw (by omega))
  obtain ⟨WA, wc, us, rfl, hwc, hwm, hws, hwu⟩ := hw
  have hne : (chkE ns != 0) = true := by rw [bne_iff_ne]; exact hE
  clear hwu hws hE
  generalize chkE ns = E at *
  go_enter Tryd.func21, Tryd.ntmps21
  go_wp2_with fail
  refine HC.out.mono ?_
  rintro e w1 ⟨rfl, rfl⟩
  go_wp2_with fail
  go_ret2
  exact ⟨rfl, Below.refl _ _⟩
set_option maxRecDepth 100000 in
set_option maxHeartbeats 8000000 in
theorem share_yes (wv : Value) (ns : List Nat) (L : Nat) (w : World) (hw : Wts w wv ns L) (hL : L ≤ 35184372088000) (hE : chkE ns = 0) :
    Calls Tryd.prog 21 #[wv] w fun e w' => ∃ g us, e = .returned (.tuple #[.slice (some ⟨g, 0, none⟩) ns.length ns.length, .int .i64 0]) ∧ Row w' g 54 (flat us) ∧ RatC w' us (shareL ns) ns.length (L + 21) (g + 1) ∧ Below w.heap.size w w' := by
  obtain ⟨h21, hz0⟩ := chkE_zero hE
  have HC := Lib.hid (pcheck_any wv ns L w hw (by omega))
  rw [hE] at HC
  have HT := Lib.hid (ptotal_any wv ns L w hw (by omega) h21)
  have HSP := Lib.hid (sum_pos hz0)
  obtain ⟨WA, wc, us, rfl, hwc, hwm, hws, hwu⟩ := hw
  have HWU := Lib.hid hwu
  unfold maxLen at hwm
  clear hwu hE hz0
  have hmk := run_mk3 (P := Tryd.prog) Tryd.underlying40 infoRatio rfl ns.length (by omega) (by omega)
  obtain ⟨n, hn⟩ : ∃ n, ns.length = n := ⟨_, rfl⟩
  have HN := Lib.hid hn
  rw [hn] at hws hwc hmk h21 HC HT ⊢
  clear hn
  go_enter Tryd.func21, Tryd.ntmps21
  go_wp2_with fail
  refine HC.out.mono ?_
  rintro e w1 ⟨rfl, rfl⟩
  go_wp2_with fail
  refine HT.out.mono ?_
  rintro e wg ⟨vt, rfl, hvt, BG⟩
  obtain ⟨lt, hlt1, hlt2, hlt3, hlt4⟩ := id hvt
  obtain ⟨⟨TA, tc, rfl, _, _, _⟩, _⟩ := id hlt1
  clear HC HT hlt1 hlt2 hlt3 hlt4
  go_wp2_with fail
  clear hmk
  go_loopw [21] (fun iv wr => ∃ (i : Nat) (vs : List T3), i ≤ n ∧ iv = .int .i64 (i : Int) ∧ RatC wr vs (shareL ns) i (L + 21) (wg.heap.size + 1) ∧ Row wr wg.heap.size 54 (flat (vs ++ List.replicate (n - i) z3)) ∧ Below wg.heap.size wg wr) (fun iv _ => n - (intOf iv).toNat)
  case atStart => exact ⟨0, [], by omega, rfl, RatC.zero _ _ _ _, by rw [List.nil_append]; exact Row.newz3 _ _ _, (Below.refl _ _).alloc (Nat.le_refl _) _⟩
  case round =>
    obtain ⟨i, vs, hi, rfl, hco, hrow, B2⟩ := hrel
    have BQ := BG.trans (B2.mono BG.size)
    by_cases hlt : i < n
    · obtain ⟨b, o, u, rfl, hbl, hcell, hu⟩ := lst_at (R := fun w u x => NatAny w u x L) (d := 0) (xs := ns) hws HWU.out hlt
      replace hu := hu.below BQ
      have HSG := Lib.hid (shareL_get ns (i := i) (by rw [HN.out]; exact hlt))
      generalize ns.getD i 0 = a at *
      have g2 := (BQ.cell (p := ⟨b, o + i, none⟩) hbl).trans hcell
      clear hcell
      obtain ⟨lk, hlim, _, _⟩ := id hu
      obtain ⟨⟨UA, uc, rfl, _, _, _⟩, _⟩ := id hlim
      clear hlim
      have zr := hrow.lt
      go_wp2_with fail
      refine (quot_any _ _ a ns.sum (L + 21) _ (hu.mono (by omega)) ((hvt.below B2).any.mono (by omega)) (by omega) HSP.out).mono ?_
      rintro e w6 ⟨v6, rfl, hv6, h6⟩
      have h6' := hv6
      obtain ⟨m6, d6, e6, hm6, hd6, _, _⟩ := h6'
      subst e6
      obtain ⟨A6, k6, c6, rfl⟩ := hm6.lim1.choose_spec.1.show_
      obtain ⟨D6, l6, b6, rfl⟩ := hd6.lim1.choose_spec.1.show_
      clear hm6 hd6
      have hrow2 := hrow.keep h6
      obtain ⟨k0, k1, k2⟩ := flat_get (padt_get vs z3 n i hco.1 hlt)
      have hc0 : w6.cell? ⟨wg.heap.size, 3 * i, none⟩ = some (.bool false) := (hrow2.cell _).trans k0
      have hc1 : w6.cell? ⟨wg.heap.size, 3 * i + 1, none⟩ = some (.slice none 0 0) := (hrow2.cell _).trans k1
      have hc2 : w6.cell? ⟨wg.heap.size, 3 * i + 2, none⟩ = some (.slice none 0 0) := (hrow2.cell _).trans k2
      have hd0 : w6.cell? ⟨wg.heap.size, i * 3, none⟩ = some (.bool false) := by rw [Nat.mul_comm]; exact hc0
      have hd1 : w6.cell? ⟨wg.heap.size, i * 3 + 1, none⟩ = some (.slice none 0 0) := by rw [Nat.mul_comm]; exact hc1
      have hd2 : w6.cell? ⟨wg.heap.size, i * 3 + 2, none⟩ = some (.slice none 0 0) := by rw [Nat.mul_comm]; exact hc2
      have hf : ∀ q, w6.frozen? ⟨wg.heap.size, q, none⟩ = false := fun q => hrow2.frozen q
      have f0 := hf (i * 3)
      have f1 := hf (i * 3 + 1)
      have f2 := hf (i * 3 + 2)
      have f3 := hf (3 * i)
      have f4 := hf (3 * i + 1)
      have f5 := hf (3 * i + 2)
      clear hf k0 k1 k2
      go_wp2_with fail
      go_roundw
      case rel =>
        refine ⟨i + 1, vs ++ [(.bool (decide (redP (a : Int) ns.sum < 0)), .slice A6 k6 c6, .slice D6 l6 b6)], by omega, by go_num, ?_, ?_, (((B2.trans (h6.mono B2.size)).setCell (Nat.le_refl _) _).setCell (Nat.le_refl _) _).setCell (Nat.le_refl _) _⟩
        · refine RatC.set3 ((hco.below h6).snoc (by rw [HSG.out]; exact hv6) (by omega)) _ _ _ _
        · rw [← padt_set vs z3 n i _ hco.1 hlt, ← flat_set _ _ _ _ _ (by rw [List.length_append, List.length_replicate, hco.1]; omega)]
          have := ((hrow2.set_ (3 * i) (.bool (decide (redP (a : Int) ns.sum < 0)))).set_ (3 * i + 1) (.slice A6 k6 c6)).set_ (3 * i + 2) (.slice D6 l6 b6)
          first | exact this | simpa [Nat.mul_comm] using this
      case measure => simp [intOf]; omega
    · obtain rfl : i = n := by omega
      go_wp2_with fail
      go_ret2
      refine ⟨wg.heap.size, vs, rfl, ?_, hco, BQ⟩
      simpa using hrow

end Go.Proofs.YtoihjclkocffhaaDoor
