/- The walks of places, table.cell, indexes: maps from numbers to their first indexes. -/
import Derived.Test.YtgdngopemlajjaaMtB
import Derived.Maps.OwnSet
namespace Go.Proofs.Ytgdngopemlajjaa
open Go.RowKit Go.Maps
set_option linter.unusedVariables false

/-- Each number is one of the machine's. -/
def I64 (l : List Int) : Prop := ∀ z ∈ l, (Lit.int .i64 z).wf = true
theorem I64.get {l : List Int} (h : I64 l) {k : Nat} (hk : k < l.length) : (Lit.int .i64 (l.getD k 0)).wf = true := h _ (getD_mem l 0 hk)
/-- The map's datum holds the first index of each number. -/
def PlD (D : DataW Unit) (l : List Int) : Prop :=
  (∀ n : Int, Maps.has D (.int .i64 n) = (fidx l n).isSome) ∧ ∀ (n : Int) (i : Nat), fidx l n = some i → D.atKey (.int .i64 n) (.lit (.int .i64 0)) = .lit (.int .i64 (i : Int))
theorem PlD.nil : PlD (.map []) [] := ⟨fun n => rfl, fun n i h => by simp [fidx] at h⟩
theorem PlD.put {D : DataW Unit} {l : List Int} (h : PlD D l) (hD : Maps.IsMap D) {x : Int} (hx : fidx l x = none) : PlD (D.put (.int .i64 x) (.lit (.int .i64 (l.length : Int)))) (l ++ [x]) := by
  refine ⟨fun n => ?_, fun n i hi => ?_⟩
  · by_cases e : n = x
    · subst e
      rw [Maps.has_put_same hD (show WideAt.IsKeyLit (.int .i64 n) from trivial), fidx_snoc, hx]; simp
    · rw [Maps.has_put_other (by intro h; injection h with _ h; exact e h), h.1, fidx_snoc]
      cases hf : fidx l n with
      | some i => rfl
      | none => simp [Ne.symm e]
  · rw [fidx_snoc] at hi
    by_cases e : n = x
    · subst e
      rw [hx] at hi
      simp only [if_true, Option.some.injEq] at hi
      subst hi
      exact Maps.atKey_put_same hD (show WideAt.IsKeyLit (.int .i64 n) from trivial) _ _
    · rw [Maps.atKey_put_other (by intro h; injection h with _ h; exact e h)]
      cases hf : fidx l n with
      | some j => rw [hf] at hi; simp only [Option.some.injEq] at hi; subst hi; exact h.2 n _ hf
      | none => rw [hf] at hi; simp [Ne.symm e] at hi
theorem PlD.skip {D : DataW Unit} {l : List Int} (h : PlD D l) {x : Int} (hx : (fidx l x).isSome = true) : PlD D (l ++ [x]) := by
  have e : ∀ n, fidx (l ++ [x]) n = fidx l n := by
    intro n
    rw [fidx_snoc]
    cases hf : fidx l n with
    | some i => rfl
    | none =>
      have hne : x ≠ n := by rintro rfl; rw [hf] at hx; cases hx
      simp [hne]
  exact ⟨fun n => by rw [e]; exact h.1 n, fun n i hi => by rw [e] at hi; exact h.2 n i hi⟩

theorem lit_inj {a b : Int} (h : (DataW.lit (.int .i64 a) : DataW Unit) = .lit (.int .i64 b)) : a = b := by simpa using h
theorem mlaw : Keyed Try.prog 3 := int_keyed Try.underlying3
theorem mzero (w : World) : (zeroValue 3).run Try.prog w = .ok (.int .i64 0) w := by kernel_rfl
/-- The map that places makes. -/
def PlMap (w : World) (v : Value) (l : List Int) : Prop := ∃ (b : Nat) (D : DataW Unit), v = .map (some b) ∧ w.ownsMap Try.prog 3 (plainElem Try.prog 3) b l.length D ∧ PlD D l
theorem ownsMap_below {w w' : World} {P : Program} {k b n : Nat} {R : Value → Option (DataW Unit × List MemPlace)} {D : DataW Unit} (h : w.ownsMap P k R b n D) (hb : Below w.heap.size w w') : w'.ownsMap P k R b n D := by
  have hlt := h.lt
  obtain ⟨es, clock, hh, r⟩ := h
  exact ⟨es, clock, (hb.block b hlt).trans hh, r⟩
theorem PlMap.below {w w' : World} {v : Value} {l : List Int} (h : PlMap w v l) (hb : Below w.heap.size w w') : PlMap w' v l := by
  obtain ⟨b, D, hv, ho, hd⟩ := h
  exact ⟨b, D, hv, ownsMap_below ho hb, hd⟩

set_option maxHeartbeats 1000000 in
theorem places_any (v : Value) (l : List Int) (w : World) (h : Nums .i64 w v l) (hw : I64 l) (h8 : l.length * 8 ≤ 140737488351232) :
    Calls Try.prog 42 #[v] w fun e w' => ∃ u, e = .returned u ∧ PlMap w' u l ∧ Below w.heap.size w w' := by
  obtain ⟨A, c, rfl, hc, hm, hs⟩ := h
  unfold maxLen at hm
  obtain ⟨n, hn⟩ : ∃ n, l.length = n := ⟨_, rfl⟩
  have HN := Lib.hid hn
  have HWF := Lib.hid hw
  rw [hn] at hs hc h8 ⊢
  clear hn hw
  have hmm := @run_makeMap Try.prog
  go_enter Try.func42, Try.ntmps42
  go_wp2
  clear hmm
  go_loopw [11] (fun i wr => ∃ (k : Nat) (D : DataW Unit), k ≤ n ∧ i = .int .i64 (k : Int) ∧ wr.ownsMap Try.prog 3 (plainElem Try.prog 3) w.heap.size k D ∧ Hid (PlD D (l.take k)) ∧ Below w.heap.size w wr) (fun i _ => n - (intOf i).toNat)
  case atStart => exact ⟨0, _, by omega, rfl, World.ownsMap_made _ _ _ _, PlD.nil, (Below.refl _ _).alloc (Nat.le_refl _) _⟩
  case round =>
    obtain ⟨k, D, hk, rfl, hown, hpl, hb⟩ := hrel
    by_cases hlt : k < n
    · obtain ⟨b1, o1, rfl, hb1, hcell⟩ := hs.num hlt
      have g2 : wr.cell? ⟨b1, o1 + k, none⟩ = some (.int .i64 (l.getD k 0)) := (hb.cell (p := ⟨b1, o1 + k, none⟩) hb1).trans (hcell k hlt)
      have hkl : Hid (k < l.length) := by unfold Hid; rw [HN.out]; exact hlt
      have HT := Lib.hid (take_succ_getD l 0 hkl.out)
      have hkey : keyOf Try.prog 3 (.int .i64 (l.getD k 0)) = some (.int .i64 (l.getD k 0)) := keyOf_int_mk Try.underlying3 (HWF.out.get hkl.out)
      have HH := Lib.hid (hpl.out.1 (l.getD k 0))
      clear hcell
      generalize l.getD k 0 = z at *
      have HL : Hid ((l.take k).length = k) := by unfold Hid; rw [List.length_take, HN.out]; omega
      cases hf : fidx (l.take k) z with
      | some i =>
        have hh : Maps.has D (.int .i64 z) = true := by rw [HH.out, hf]; rfl
        have HP : Hid (PlD D (l.take (k + 1))) := by unfold Hid; rw [HT.out]; exact hpl.out.skip (by rw [hf]; rfl)
        clear hf hpl HH
        go_wp2_with (at_lookup; refine wpList_lookup_own_ok_int _ rfl _ _ 51 rfl 3 3 .i64 mlaw Try.underlying51 Try.underlying3 (mzero _) w.heap.size k _ rfl hown _ _ rfl hkey ?_; intro c hat hwc; clear hat)
        go_roundw
        case rel => exact ⟨k + 1, D, by omega, by go_num, hown.mono (by omega), HP.out, hb⟩
        case measure => simp [intOf]; omega
      | none =>
        have hh : Maps.has D (.int .i64 z) = false := by rw [HH.out, hf]; rfl
        have HP : Hid (PlD (D.put (.int .i64 z) (.lit (.int .i64 (k : Int)))) (l.take (k + 1))) := by
          unfold Hid; rw [HT.out]
          have := hpl.out.put hown.isMap hf
          rwa [HL.out] at this
        clear hf hpl HH
        go_wp2_with (first
          | (at_lookup; refine wpList_lookup_own_ok_int _ rfl _ _ 51 rfl 3 3 .i64 mlaw Try.underlying51 Try.underlying3 (mzero _) w.heap.size k _ rfl hown _ _ rfl hkey ?_; intro c hat hwc; clear hat)
          | (at_mapUpdate; refine wpList_mapUpdate_own _ rfl _ _ _ 51 rfl 3 3 mlaw Try.underlying51 _ w.heap.size k _ rfl hown (by unfold maxLen; omega) _ _ _ rfl rfl hkey _ [] (plainElem_int Try.underlying3 (WalkArith.wf_i64 (n := (k : Int)) (by omega))) ?_; intro w1 hown1 hgrow1))
        go_roundw
        case rel => exact ⟨k + 1, _, by omega, by go_num, hown1, HP.out, hb.grown hgrow1 hb.size (fun j hj => by cases hj; exact Nat.le_refl _)⟩
        case measure => simp [intOf]; omega
    · obtain rfl : k = n := by omega
      have HW : Hid (l.take k = l) := by unfold Hid; apply List.take_of_length_le; rw [HN.out]; exact Nat.le_refl _
      rw [HW.out] at hpl
      go_wp2_with fail
      go_ret
      exact ⟨_, rfl, ⟨w.heap.size, D, rfl, by rw [HN.out]; exact hown, hpl.out⟩, hb⟩

set_option maxHeartbeats 1000000 in
theorem indexes_any (v u : Value) (W L : List Int) (w : World) (h : Nums .i64 w v W) (h' : Nums .i64 w u L) (hw : I64 W) (hw' : I64 L) (h8 : W.length * 8 ≤ 140737488351232) (h8' : L.length * 8 ≤ 140737488351232) :
    Calls Try.prog 30 #[v, u] w fun e w' => ∃ x, e = .returned (.tuple #[x, .int .i64 (idxE W L)]) ∧ Nums .i64 w' x (onZ (idxE W L) (idxL W L)) ∧ Below w.heap.size w w' := by
  have h0 := h
  have h0' := h'
  obtain ⟨A, c, rfl, hc, hm, hs⟩ := h
  obtain ⟨B, cB, rfl, hcB, hmB, hsB⟩ := h'
  unfold maxLen at hm hmB
  obtain ⟨n, hn⟩ : ∃ n, W.length = n := ⟨_, rfl⟩
  have HN := Lib.hid hn
  have HWF := Lib.hid hw
  rw [hn] at hs hc h8 h0 ⊢
  clear hn hw hsB
  cases hr : ris W with
  | false =>
    have HE := Lib.hid (idxE_1 (L := L) hr)
    have HZ := Lib.hid (onZ_bad (l := idxL W L) (show idxE W L ≠ 0 by rw [HE.out]; omega))
    have HR := Lib.hid hr
    clear hr
    go_enter Try.func30, Try.ntmps30
    go_wp2_with fail
    refine (mris_any _ W _ h0).mono ?_
    rw [HR.out]
    rintro e w' ⟨rfl, rfl⟩
    go_wp2_with fail
    go_ret2
    exact ⟨_, by rw [HE.out]; rfl, by rw [HZ.out]; exact Nums.nil _ _, Below.refl _ _⟩
  | true =>
    have HR := Lib.hid hr
    clear hr
    have hmk := run_mk0 (P := Try.prog) Try.underlying22 mInfoInt rfl n (by omega) (by omega)
    go_enter Try.func30, Try.ntmps30
    go_wp2_with fail
    refine (mris_any _ W _ h0).mono ?_
    rw [HR.out]
    rintro e w' ⟨rfl, rfl⟩
    go_wp2_with fail
    refine (places_any _ L _ h0' hw' h8').mono ?_
    rintro e w1 ⟨x, rfl, ⟨pb, D, rfl, hown, hpl⟩, hb1⟩
    have HPL := Lib.hid hpl
    clear hpl
    have hlp := hown.lt
    go_wp2_with fail
    clear hmk
    go_loopw [7, 22] (fun v i wr => ∃ (k : Nat) (V : Option Addr) (cv : Nat), k ≤ n ∧ i = .int .i64 (k : Int) ∧ v = .slice V k cv ∧ wr.ownsRow w1.heap.size 3 1 (.slice V k cv) k (((idxL W L).take k).map (Value.int .i64)) ∧ Hid (∀ q, q < k → (fidx L (W.getD q 0)).isSome = true) ∧ wr.ownsMap Try.prog 3 (plainElem Try.prog 3) pb L.length D ∧ Below w1.heap.size w1 wr) (fun _ i _ => n - (intOf i).toNat)
    case atStart => exact ⟨0, _, n, by omega, rfl, rfl, own_zero w1 (.int .i64 0) 3 n (by unfold maxLen; omega), fun q hq => by omega, hown.alloc _, (Below.refl _ _).alloc (Nat.le_refl _) _⟩
    case round =>
      obtain ⟨k, V, cv, hk, rfl, rfl, hrow, hinv, hmap, hb⟩ := hrel
      have hB : Below w.heap.size w wr := hb1.trans (hb.mono hb1.size)
      by_cases hlt : k < n
      · obtain ⟨b1, o1, rfl, hbb1, hcell⟩ := hs.num hlt
        have g2 : wr.cell? ⟨b1, o1 + k, none⟩ = some (.int .i64 (W.getD k 0)) := (hB.cell (p := ⟨b1, o1 + k, none⟩) hbb1).trans (hcell k hlt)
        have hkl : Hid (k < W.length) := by unfold Hid; rw [HN.out]; exact hlt
        have HT := Lib.hid (take_succ_getD (idxL W L) 0 (show k < (idxL W L).length by rw [idxL_len]; exact hkl.out))
        have HG := Lib.hid (idxL_get W L hkl.out)
        have hkey : keyOf Try.prog 3 (.int .i64 (W.getD k 0)) = some (.int .i64 (W.getD k 0)) := keyOf_int_mk Try.underlying3 (HWF.out.get hkl.out)
        have HH := Lib.hid (HPL.out.1 (W.getD k 0))
        have HNo := Lib.hid (fun h => inAll_no (L := L) hkl.out h)
        have HYes := Lib.hid (fun h => all_snoc (p := fun q => (fidx L (W.getD q 0)).isSome = true) hinv.out h)
        clear hcell hinv
        generalize W.getD k 0 = z at *
        cases hf : fidx L z with
        | none =>
          have hh : Maps.has D (.int .i64 z) = false := by rw [HH.out, hf]; rfl
          have HE := Lib.hid (idxE_2 HR.out (HNo.out hf))
          have HZ := Lib.hid (onZ_bad (l := idxL W L) (show idxE W L ≠ 0 by rw [HE.out]; omega))
          clear hf HH HNo HYes
          go_wp2_with (at_lookup; refine wpList_lookup_own_ok_int _ rfl _ _ 51 rfl 3 3 .i64 mlaw Try.underlying51 Try.underlying3 (mzero _) pb _ _ rfl hmap _ _ rfl hkey ?_; intro c hat hwc; clear hat)
          go_ret2
          exact ⟨_, by rw [HE.out]; rfl, by rw [HZ.out]; exact Nums.nil _ _, hB⟩
        | some i =>
          have hh : Maps.has D (.int .i64 z) = true := by rw [HH.out, hf]; rfl
          have HI := Lib.hid (HYes.out (by rw [hf]; rfl))
          have HA := Lib.hid (HPL.out.2 z i hf)
          have HAT : Hid (at_ L z = i) := by unfold Hid at_; rw [hf]; rfl
          clear hf HH HNo HYes
          have zb : w1.heap.size ≤ wr.heap.size := hb.size
          go_wp2_with (first
            | (at_lookup; refine wpList_lookup_own_ok_int _ rfl _ _ 51 rfl 3 3 .i64 mlaw Try.underlying51 Try.underlying3 (mzero _) pb _ _ rfl hmap _ _ rfl hkey ?_; intro c hat hwc; obtain rfl : c = (i : Int) := lit_inj (hat.symm.trans HA.out); clear hat)
            | (at_builtin; refine wpList_append_oneG wr rfl (.tmp 34) (.tmp 36) 22 rfl w1.heap.size 3 (.int .i64 0) 8 Try.underlying22 mInfoInt rfl (.slice V k cv) k _ (.int .i64 (i : Int)) rfl rfl hrow rfl (by unfold maxLen; omega) (by omega) zb ?_; intro A' c4 w3 hown3 hb4 hgr hloc))
          go_roundw
          case rel =>
            refine ⟨k + 1, A', c4, by omega, by go_num, rfl, ?_, HI.out, ?_, hb.trans hb4⟩
            · rw [HT.out, HG.out, HAT.out, List.map_append, List.map_cons, List.map_nil]
              exact hown3
            · exact hmap.kept hgr (fun e => by have := (hrow.lt pb e.symm).1; omega)
          case measure => simp [intOf]; omega
      · obtain rfl : k = n := by omega
        have HE := Lib.hid (idxE_0 HR.out (inAll_yes (L := L) (by rw [HN.out]; exact hinv.out)))
        have HZ := Lib.hid (onZ_zero HE.out (idxL W L))
        have HW : Hid ((idxL W L).take k = idxL W L) := by unfold Hid; apply List.take_of_length_le; rw [idxL_len, HN.out]; exact Nat.le_refl _
        rw [HW.out] at hrow
        clear hinv
        go_wp2_with fail
        go_ret2
        exact ⟨_, by rw [HE.out]; rfl, by rw [HZ.out]; exact Nums.of_own hrow, hB⟩
end Go.Proofs.Ytgdngopemlajjaa
