/- For every grid the law GridValids returns true; no condition. -/
import Derived.Test.YtdmjgildgjpmcaaGridP
import Derived.Test.YtdmjgildgjpmcaaRows
import Derived.Deep.RegionHeld3
import Derived.Test.YtdmjgildgjpmcaaOpen
namespace Go.Proofs.Ytdmjgildgjpmcaa
open Go.RowKit Go.ChangeShapes Go.WideShapes Go.ChangeAt Go.Joins
set_option linter.unusedVariables false

set_option maxHeartbeats 1000000 in
theorem limbs_same (v u : Value) (ls : List Nat) (w : World) (h1 : Lim w v ls) (h2 : Lim w u ls) :
    Calls Try.prog 17 #[v, u] w fun e w' => e = .returned (.bool true) ∧ ∃ d, w' = w.drewN d := by
  obtain ⟨⟨A, c, rfl, hc, hm, hs⟩, _⟩ := h1
  obtain ⟨⟨B, c', rfl, hc', hm', hs'⟩, _⟩ := h2
  obtain ⟨n, hn⟩ : ∃ n, n = ls.length := ⟨_, rfl⟩
  rw [← hn] at hs hs' hc hc' ⊢
  unfold maxLen at hm hm'
  have HN := Lib.hid hn
  clear hn
  have hnn : ((n : Int) != (n : Int)) = false := by simp
  go_enter Try.func17, Try.ntmps17
  go_wp2
  go_loopw [5] (fun i wr => ∃ k : Nat, k ≤ n ∧ i = .int .i64 (k : Int) ∧ ∃ d, wr = w.drewN d) (fun i _ => n - (intOf i).toNat)
  case atStart => exact ⟨0, by omega, rfl, 0, rfl⟩
  case round =>
    obtain ⟨k, hk, rfl, d, rfl⟩ := hrel
    by_cases hlt : k < n
    · obtain ⟨b, o, rfl, hb, hcell⟩ := hs.lim hlt
      obtain ⟨b', o', rfl, hb', hcell'⟩ := hs'.lim hlt
      have g1 := hcell k hlt
      have g2 := hcell' k hlt
      clear hcell hcell'
      generalize ls.getD k 0 = z at *
      have hne : ((z : Int) != (z : Int)) = false := by simp
      go_wp2
      go_quiet (fail)
      go_wp2
      go_roundw
      case rel => exact ⟨k + 1, by omega, by go_num, _, rfl⟩
      case measure => simp [intOf]; omega
    · go_wp2
      go_ret
      exact ⟨rfl, _, rfl⟩

theorem quiet_addE {P : Program} {f : FuncId} {args : Array Value} {w : World} {a n : Nat} {v : Value}
    (h : Calls P f args (w.drewN (a + n)) fun e w' => e = .returned v ∧ ∃ d, w' = (w.drewN (a + n)).drewN d) :
    Calls P f args (w.drewN (a + n)) fun e w'' => e = .returned v ∧ ∃ m, w'' = w.drewN (a + m) :=
  h.mono fun _ _ ⟨he, m, hm⟩ => ⟨he, n + m, by rw [hm, World.drewN_drewN, Nat.add_assoc]⟩
set_option maxHeartbeats 2000000 in
theorem valids_yes (pv rv : Value) (ps rs : List Int) (w : World) (hp : Nums .i64 w pv ps) (hr : Nums .i64 w rv rs) (hE : gridE ps rs = 0) :
    Calls Try.prog 4 #[.agg #[pv, rv]] w fun e w' => e = .returned (.bool true) ∧ Below w.heap.size w w' := by
  have hb0 : Below w.heap.size w (w.alloc (.cells #[pv, rv] 24)) := (Below.refl _ _).alloc (Nat.le_refl _) _
  have hp0 := hp
  have hr0 := hr
  obtain ⟨A, c, rfl, hc, hm, hsp⟩ := hp
  obtain ⟨B, c', rfl, hc', hm', hsr⟩ := hr
  have hrow := Row.new w 24 [.slice A ps.length c, .slice B rs.length c']
  have HE := Lib.hid hE
  clear hE hsp hsr
  go_enter Try.func4, Try.ntmps4
  go_wp2_with fail
  refine (prior_yes _ _ ps rs _ (hp0.below hb0) (hr0.below hb0) HE.out).mono ?_
  rintro e w1 ⟨v1, rfl, hv1, _, hb1⟩
  replace hrow := hrow.keep hb1
  have B1 : Below w.heap.size w w1 := hb0.trans (hb1.mono hb0.size)
  have q0 : w1.cell? ⟨w.heap.size, 0, none⟩ = some (.slice A ps.length c) := hrow.cell 0
  have q1 : w1.cell? ⟨w.heap.size, 1, none⟩ = some (.slice B rs.length c') := hrow.cell 1
  clear hb1 hb0
  go_wp2_with fail
  refine (rprior_yes _ _ ps rs _ (hp0.below B1) (hr0.below B1) HE.out).mono ?_
  rintro e w2 ⟨v2, rfl, hv2, _, hb2⟩
  clear q0 q1
  replace hrow := hrow.keep hb2
  have B2 : Below w.heap.size w w2 := B1.trans (hb2.mono B1.size)
  replace hv1 := hv1.below hb2
  have q0 : w2.cell? ⟨w.heap.size, 0, none⟩ = some (.slice A ps.length c) := hrow.cell 0
  have q1 : w2.cell? ⟨w.heap.size, 1, none⟩ = some (.slice B rs.length c') := hrow.cell 1
  have zz := hrow.lt
  have hp2 := hp0.below B2
  have hr2 := hr0.below B2
  clear hb2 B1
  obtain ⟨V, cv, us, rfl, k1, k2, hsl1, hel1⟩ := hv1
  obtain ⟨U, cu, vs, rfl, j1, j2, hsl2, hel2⟩ := hv2
  go_wp2_with fail
  go_region_held3 (fun w' => w'.cell? ⟨w.heap.size, 0, none⟩ = some (.slice A ps.length c) ∧ w'.cell? ⟨w.heap.size, 1, none⟩ = some (.slice B rs.length c') ∧ Below w2.heap.size w2 w')
    (first
      | exact ⟨q0, q1, Below.refl _ _⟩
      | exact ⟨q0, q1, (Below.refl _ _).drew⟩
      | exact ⟨(hb6.cell (p := ⟨w.heap.size, 0, none⟩) (Nat.lt_of_lt_of_le zz (‹_ ∧ _ ∧ Below w2.heap.size w2 _›).2.2.size)).trans (‹_ ∧ _ ∧ Below w2.heap.size w2 _›).1, (hb6.cell (p := ⟨w.heap.size, 1, none⟩) (Nat.lt_of_lt_of_le zz (‹_ ∧ _ ∧ Below w2.heap.size w2 _›).2.2.size)).trans (‹_ ∧ _ ∧ Below w2.heap.size w2 _›).2.1, (‹_ ∧ _ ∧ Below w2.heap.size w2 _›).2.2.trans (hb6.mono (‹_ ∧ _ ∧ Below w2.heap.size w2 _›).2.2.size)⟩
      | exact ⟨(hb5.cell (p := ⟨w.heap.size, 0, none⟩) zz).trans q0, (hb5.cell (p := ⟨w.heap.size, 1, none⟩) zz).trans q1, undrew1 hb5⟩)
    (first
      | (go_at_call 15; refine (gvalid_any _ _ ps rs _ ?_ ?_).mono ?_; exact hp2; exact hr2; rintro e w5 ⟨rfl, hb5⟩)
      | (go_at_call 16; refine (rgvalid_any _ _ ps rs _ ?_ ?_).mono ?_; exact hp2.below (‹_ ∧ _ ∧ Below w2.heap.size w2 _›).2.2; exact hr2.below (‹_ ∧ _ ∧ Below w2.heap.size w2 _›).2.2; rintro e w6 ⟨rfl, hb6⟩))
  have hfin := (‹_ ∧ _ ∧ Below w2.heap.size w2 _›).2.2
  clear hp2 hr2 hb5 hb6 q0 q1
  have B3 := B2.trans (hfin.mono B2.size)
  replace hsl1 := hsl1.below hfin
  replace hsl2 := hsl2.below hfin
  replace hel1 := fun i u hi => (hel1 i u hi).below hfin
  replace hel2 := fun i u hi => (hel2 i u hi).below hfin
  obtain ⟨n, hn⟩ : ∃ n, (natsOf rs).length = n := ⟨_, rfl⟩
  rw [hn] at hsl1 hsl2 k1 j1 ⊢
  have HN := Lib.hid hn
  have HE1 := Lib.hid hel1
  have HE2 := Lib.hid hel2
  clear hn hfin hel1 hel2
  unfold maxLen at k2 j2
  clear zz hrow
  generalize w6 = wx at *
  go_wp2
  go_loopw [7] (fun i wr => ∃ k : Nat, k ≤ n ∧ i = .int .i64 (k : Int) ∧ ∃ d, wr = wx.drewN d) (fun i _ => n - (intOf i).toNat)
  case atStart => exact ⟨0, by omega, rfl, 0, rfl⟩
  case round =>
    obtain ⟨k, hk, rfl, d, rfl⟩ := hrel
    by_cases hlt : k < n
    · obtain ⟨b1, o1, rfl, hcell1⟩ := hsl1.2 (by omega)
      obtain ⟨b2, o2, rfl, hcell2⟩ := hsl2.2 (by omega)
      have hu : us[k]? = some (us[k]'(by rw [hsl1.1]; exact hlt)) := List.getElem?_eq_getElem _
      have hv : vs[k]? = some (vs[k]'(by rw [hsl2.1]; exact hlt)) := List.getElem?_eq_getElem _
      have g1 := hcell1 k _ hu
      have g2 := hcell2 k _ hv
      obtain ⟨ls, hL1, hL2, hLn⟩ := (HE1.out k _ hu).same (HE2.out k _ hv)
      clear hu hv hcell1 hcell2
      generalize us[k]'(by rw [hsl1.1]; exact hlt) = x at *
      generalize vs[k]'(by rw [hsl2.1]; exact hlt) = y at *
      have hL1' := hL1
      have hL2' := hL2
      obtain ⟨⟨X, cx, rfl, _, _, _⟩, _⟩ := hL1'
      obtain ⟨⟨Y, cy, rfl, _, _, _⟩, _⟩ := hL2'
      go_wp2
      go_quiet ((go_at_call 17; exact quiet_addE (limbs_same _ _ ls _ hL1 hL2)))
      go_wp2
      go_roundw
      case rel => exact ⟨k + 1, by omega, by go_num, _, rfl⟩
      case measure => simp [intOf]; omega
    · go_wp2
      go_ret
      exact ⟨rfl, below_drewN B3 _⟩
set_option maxHeartbeats 2000000 in
theorem valids_no (pv rv : Value) (ps rs : List Int) (w : World) (hp : Nums .i64 w pv ps) (hr : Nums .i64 w rv rs) (hE : gridE ps rs ≠ 0) :
    Calls Try.prog 4 #[.agg #[pv, rv]] w fun e w' => e = .returned (.bool true) ∧ Below w.heap.size w w' := by
  have hb0 : Below w.heap.size w (w.alloc (.cells #[pv, rv] 24)) := (Below.refl _ _).alloc (Nat.le_refl _) _
  have hp0 := hp
  have hr0 := hr
  obtain ⟨A, c, rfl, hc, hm, hsp⟩ := hp
  obtain ⟨B, c', rfl, hc', hm', hsr⟩ := hr
  have hrow := Row.new w 24 [.slice A ps.length c, .slice B rs.length c']
  have HE := Lib.hid hE
  clear hE hsp hsr
  go_enter Try.func4, Try.ntmps4
  go_wp2_with fail
  refine (prior_no _ _ ps rs _ (hp0.below hb0) (hr0.below hb0) HE.out).mono ?_
  rintro e w1 ⟨rfl, hb1⟩
  replace hrow := hrow.keep hb1
  have B1 : Below w.heap.size w w1 := hb0.trans (hb1.mono hb0.size)
  have q0 : w1.cell? ⟨w.heap.size, 0, none⟩ = some (.slice A ps.length c) := hrow.cell 0
  have q1 : w1.cell? ⟨w.heap.size, 1, none⟩ = some (.slice B rs.length c') := hrow.cell 1
  clear hb1 hb0
  go_wp2_with fail
  refine (rprior_no _ _ ps rs _ (hp0.below B1) (hr0.below B1) HE.out).mono ?_
  rintro e w2 ⟨rfl, hb2⟩
  clear q0 q1
  replace hrow := hrow.keep hb2
  have B2 : Below w.heap.size w w2 := B1.trans (hb2.mono B1.size)
  have q0 : w2.cell? ⟨w.heap.size, 0, none⟩ = some (.slice A ps.length c) := hrow.cell 0
  have q1 : w2.cell? ⟨w.heap.size, 1, none⟩ = some (.slice B rs.length c') := hrow.cell 1
  have zz := hrow.lt
  have hp2 := hp0.below B2
  have hr2 := hr0.below B2
  clear hb2 B1
  have hee : (gridE ps rs != gridE ps rs) = false := by simp
  go_wp2_with fail
  go_region_held3 (fun w' => w'.cell? ⟨w.heap.size, 0, none⟩ = some (.slice A ps.length c) ∧ w'.cell? ⟨w.heap.size, 1, none⟩ = some (.slice B rs.length c') ∧ Below w2.heap.size w2 w')
    (first
      | exact ⟨q0, q1, Below.refl _ _⟩
      | exact ⟨q0, q1, (Below.refl _ _).drew⟩
      | exact ⟨(hb6.cell (p := ⟨w.heap.size, 0, none⟩) (Nat.lt_of_lt_of_le zz (‹_ ∧ _ ∧ Below w2.heap.size w2 _›).2.2.size)).trans (‹_ ∧ _ ∧ Below w2.heap.size w2 _›).1, (hb6.cell (p := ⟨w.heap.size, 1, none⟩) (Nat.lt_of_lt_of_le zz (‹_ ∧ _ ∧ Below w2.heap.size w2 _›).2.2.size)).trans (‹_ ∧ _ ∧ Below w2.heap.size w2 _›).2.1, (‹_ ∧ _ ∧ Below w2.heap.size w2 _›).2.2.trans (hb6.mono (‹_ ∧ _ ∧ Below w2.heap.size w2 _›).2.2.size)⟩
      | exact ⟨(hb5.cell (p := ⟨w.heap.size, 0, none⟩) zz).trans q0, (hb5.cell (p := ⟨w.heap.size, 1, none⟩) zz).trans q1, undrew1 hb5⟩)
    (first
      | (go_at_call 15; refine (gvalid_any _ _ ps rs _ ?_ ?_).mono ?_; exact hp2; exact hr2; rintro e w5 ⟨rfl, hb5⟩)
      | (go_at_call 16; refine (rgvalid_any _ _ ps rs _ ?_ ?_).mono ?_; exact hp2.below (‹_ ∧ _ ∧ Below w2.heap.size w2 _›).2.2; exact hr2.below (‹_ ∧ _ ∧ Below w2.heap.size w2 _›).2.2; rintro e w6 ⟨rfl, hb6⟩))
  have hfin := (‹_ ∧ _ ∧ Below w2.heap.size w2 _›).2.2
  clear hp2 hr2 hb5 hb6 q0 q1
  have B3 := B2.trans (hfin.mono B2.size)
  clear zz hrow hfin
  generalize w6 = wx at *
  generalize gridE ps rs = E at *
  go_wp2
  go_loopw [7] (fun i wr => i = .int .i64 0 ∧ wr = wx) (fun i _ => 0)
  case atStart => exact ⟨rfl, rfl⟩
  case round =>
    obtain ⟨rfl, rfl⟩ := hrel
    go_wp2
    go_ret
    exact ⟨rfl, B3⟩

theorem valids_all (pv rv : Value) (ps rs : List Int) (w : World) (hp : Nums .i64 w pv ps) (hr : Nums .i64 w rv rs) :
    Calls Try.prog 4 #[.agg #[pv, rv]] w fun e w' => e = .returned (.bool true) ∧ Below w.heap.size w w' := by
  by_cases h : gridE ps rs = 0
  · exact valids_yes pv rv ps rs w hp hr h
  · exact valids_no pv rv ps rs w hp hr h

namespace GridValids
theorem own : ownKnob Try.prog.godebug = none := by kernel_rfl
theorem laidOut : laidOutB Try.prog = true := by kernel_rfl
theorem readable : ∀ t ∈ Try.f4.params.toList, Try.prog.readableRec t = true ∧ t < Try.prog.types.size := by
  intro t ht
  rw [Try.params4] at ht
  have ht' : t = 24 := by simp at ht; omega
  subst ht'
  exact ⟨by kernel_rfl, of_decide_eq_true (by kernel_rfl)⟩
theorem contract (H : Type) (enc : TypeId × Value → H) (W : World) (base : Nat) (args : Array Value) (ds gs : List (DataW H)) (before : List MemPlace)
    (hval : ∀ (j : Nat) t v, Try.f4.params[j]? = some t → args[j]? = some v → Value.okWide Try.prog W .any base t v)
    (hW : DataW.Whole enc Try.prog Try.f4.params.toList Rows.gridValidsSpec.vars false W args.toList ds gs before) :
    Calls Try.prog 4 args W fun e W' => ∃ v, e = .returned v ∧ Rows.gridValidsSpec.post enc Try.prog Try.f4 false true false false W args v W' := by
  have hW' := hW
  obtain ⟨p, q, hA0, hV, rfl, hfz, hnd⟩ := hW
  have hA : DataW.TrodAll enc Try.prog W 0 (fun _ => true) true Try.f4.params.toList args.toList ds p := hA0
  rw [Try.params4] at hA hval
  obtain ⟨v0, vs0, d0, ds0, p0, q0, hargs, rfl, rfl, h0, r0⟩ := trodAll_cons hA
  obtain ⟨rfl, rfl, rfl⟩ := trodAll_nil r0
  obtain rfl : args = #[v0] := by cases args; simp_all
  obtain ⟨rfl, rfl⟩ := trodVars_none hV
  obtain ⟨f0, f1, y0, y1, nf, rfl, rfl, rfl, hy0, hy1⟩ := open_agg2 Try.underlying24 (by kernel_rfl) (show Try.prog.cellsOf 24 = 2 by kernel_rfl) (hval 0 24 v0 rfl rfl) h0
  obtain ⟨ps, hps, _⟩ := open_nums Try.underlying22 Try.underlying3 (by kernel_rfl) hy0
  obtain ⟨rs, hrs, _⟩ := open_nums Try.underlying22 Try.underlying3 (by kernel_rfl) hy1
  refine (valids_all _ _ ps rs W hps hrs).mono fun e W' ⟨he, hb⟩ => ⟨_, he, ?_⟩
  exact law_post laidOut readable rfl rfl Try.underlying4 (ok_one (by kernel_rfl) rfl (okWide_bool_mk Try.underlying4 _)) ⟨rfl, rfl, rfl⟩ hW' hb
set_option maxRecDepth 100000 in
theorem lifted (os : Os) (started : os.Started) (H : Type) (enc : TypeId × Value → H) :
    ReturnsInHanded {} Try.checked os 4 .any (Rows.gridValidsSpec.pre6 enc Try.prog Try.f4 Rows.gridValidsRow.domain false) (Rows.gridValidsSpec.post enc Try.prog Try.f4 false true false false) := by
  refine returnsInHanded_of_change (C := Try.checked) own started (by kernel_rfl) Try.func4
    (ChangeSpec.witness6 (enc := enc) (C := Try.checked) false ⟨#[], #[.agg #[.slice none 0 0, .slice none 0 0]], []⟩ 8 (by kernel_rfl) (by kernel_rfl) (by kernel_rfl) (by kernel_rfl)) ?_
  intro W base args ds gs before hval hW _ _
  exact contract H enc W base args ds gs before hval hW
theorem proved : Rows.GridValidsSaid :=
  OpenClaim.holds_of_wide 4 Try.f4 rfl rfl rfl rfl rfl rfl rfl ⟨rfl, rfl, rfl, rfl, rfl⟩ rfl rfl rfl rfl rfl (by kernel_rfl) Try.func4 (by kernel_rfl)
    (of_decide_eq_true (by kernel_rfl)) (by unfold Func.isWrapper; first | (rw [if_pos (by decide +kernel)]; kernel_rfl) | (rw [if_neg (by decide +kernel)]; exact ⟨rfl, rfl⟩))
    (fun os started H enc _ => lifted os started H enc)
#print axioms proved
end GridValids
end Go.Proofs.Ytdmjgildgjpmcaa
