/- For every grid, list of models, row and index the law CalibrateWeights returns true; no condition. -/
import Derived.Test.YtneoglmfabilnaaLaw28
import Derived.Test.YtneoglmfabilnaaRows
namespace Go.Proofs.Ytneoglmfabilnaa
open Go.RowKit Go.ChangeShapes Go.WideShapes Go.ChangeAt Go.Joins
set_option linter.unusedVariables false

set_option maxHeartbeats 4000000 in
theorem cw_yes (pv rv mv xv : Value) (ps rs row : List Int) (ms : List (List (List Int))) (skip : Int) (w : World) (hp : Nums .i64 w pv ps) (hr : Nums .i64 w rv rs) (hm : ModL w mv ms) (hx : Nums .i64 w xv row) (hE : wtE ps rs row ms skip = 0) (hlen : ms.length ≤ 8 ∨ 60 < ms.length) :
    Calls Try.prog 3 #[.agg #[pv, rv], mv, xv, .int .i64 skip] w fun e w' => e = .returned (.bool true) ∧ Below w.heap.size w w' := by
  have hbox : Below w.heap.size w (w.alloc (.cells #[pv, rv] 24)) := (Below.refl _ _).alloc (Nat.le_refl _) _
  have hp0 := hp
  have hr0 := hr
  have hm0 := hm
  have hx0 := hx
  obtain ⟨A, c, rfl, hc, hm1, hsp⟩ := hp
  obtain ⟨B, c', rfl, hc', hm2, hsr⟩ := hr
  obtain ⟨M, cM, us, rfl, k1, k2, hs, hu⟩ := hm
  obtain ⟨X, cX, rfl, x1, x2, hsx⟩ := hx
  have hrb := Row.new w 24 [.slice A ps.length c, .slice B rs.length c']
  have HE := Lib.hid hE
  unfold maxLen at k2 x2 hm1 hm2
  clear hu hsp hsr hE hs hsx
  by_cases h8 : 8 < ms.length
  case pos =>
    have d8 : decide (8 < (ms.length : Int)) = true := by simp; omega
    have d60 : decide ((ms.length : Int) ≤ 60) = false := by simp; omega
    clear hlen
    go_enter Try.func3, Try.ntmps3
    go_wp2_with fail
    refine (cweights_yes _ _ _ _ ps rs row ms skip _ (hp0.below hbox) (hr0.below hbox) (hm0.below hbox) (hx0.below hbox) HE.out).mono ?_
    rintro e w1 ⟨v1, rfl, hv1, hb1⟩
    replace hrb := hrb.keep hb1
    have B1 : Below w.heap.size w w1 := hbox.trans (hb1.mono hbox.size)
    have q0 : w1.cell? ⟨w.heap.size, 0, none⟩ = some (.slice A ps.length c) := hrb.cell 0
    have q1 : w1.cell? ⟨w.heap.size, 1, none⟩ = some (.slice B rs.length c') := hrb.cell 1
    clear hb1
    go_wp2_with fail
    refine (rcweights_yes _ _ _ _ ps rs row ms skip _ (hp0.below B1) (hr0.below B1) (hm0.below B1) (hx0.below B1) HE.out).mono ?_
    rintro e w2 ⟨v2, rfl, hv2, hb2⟩
    have B2 : Below w.heap.size w w2 := B1.trans (hb2.mono B1.size)
    replace hv1 := hv1.below hb2
    clear hb2 B1 q0 q1
    obtain ⟨V, cv, us1, rfl, k3, k4, hsl1, hel1⟩ := hv1
    obtain ⟨U, cu, vs1, rfl, j3, j4, hsl2, hel2⟩ := hv2
    have HE1 := Lib.hid hel1
    have HE2 := Lib.hid hel2
    obtain ⟨n, hn⟩ : ∃ n, (wL rs ms row skip rs.length).length = n := ⟨_, rfl⟩
    rw [hn] at hsl1 hsl2 k3 j3 ⊢
    clear hn hel1 hel2
    unfold maxLen at k4 j4
    have hnn : ((n : Int) != (n : Int)) = false := by simp
    go_wp2_with fail
    clear hnn
    go_loopw [13] (fun i wr => ∃ k : Nat, k ≤ n ∧ i = .int .i64 (k : Int) ∧ ∃ d, wr = w2.drewN d) (fun i _ => n - (intOf i).toNat)
    case atStart => exact ⟨0, by omega, rfl, 0, rfl⟩
    case round =>
      obtain ⟨k, hk, rfl, d, rfl⟩ := hrel
      by_cases hlt : k < n
      · obtain ⟨b1, o1, x, rfl, _, g1, hL1⟩ := lst_at (R := fun w u n => NatAt w u n 122) (d := 0) (xs := wL rs ms row skip rs.length) hsl1 HE1.out hlt
        obtain ⟨b2, o2, y, rfl, _, g2, hL2⟩ := lst_at (R := fun w u n => NatAt w u n 122) (d := 0) (xs := wL rs ms row skip rs.length) hsl2 HE2.out hlt
        obtain ⟨ls, hl1, hl2, _⟩ := hL1.same hL2
        have hl1' := hl1
        have hl2' := hl2
        obtain ⟨⟨X1, cx, rfl, _, _, _⟩, _⟩ := hl1'
        obtain ⟨⟨Y1, cy, rfl, _, _, _⟩, _⟩ := hl2'
        go_wp2
        go_quiet ((go_at_call 12; exact quiet_addE (limbs_same _ _ ls _ hl1 hl2)))
        go_wp2
        go_roundw
        case rel => exact ⟨k + 1, by omega, by go_num, _, rfl⟩
        case measure => simp [intOf]; omega
      · go_wp2
        go_ret
        exact ⟨rfl, below_drewN B2 _⟩
  case neg =>
    have d8 : decide (8 < (ms.length : Int)) = false := by simp; omega
    clear hlen
    go_enter Try.func3, Try.ntmps3
    go_wp2_with fail
    refine (cweights_yes _ _ _ _ ps rs row ms skip _ (hp0.below hbox) (hr0.below hbox) (hm0.below hbox) (hx0.below hbox) HE.out).mono ?_
    rintro e w1 ⟨v1, rfl, hv1, hb1⟩
    replace hrb := hrb.keep hb1
    have B1 : Below w.heap.size w w1 := hbox.trans (hb1.mono hbox.size)
    have q0 : w1.cell? ⟨w.heap.size, 0, none⟩ = some (.slice A ps.length c) := hrb.cell 0
    have q1 : w1.cell? ⟨w.heap.size, 1, none⟩ = some (.slice B rs.length c') := hrb.cell 1
    clear hb1
    go_wp2_with fail
    refine (rcweights_yes _ _ _ _ ps rs row ms skip _ (hp0.below B1) (hr0.below B1) (hm0.below B1) (hx0.below B1) HE.out).mono ?_
    rintro e w2 ⟨v2, rfl, hv2, hb2⟩
    have B2 : Below w.heap.size w w2 := B1.trans (hb2.mono B1.size)
    replace hv1 := hv1.below hb2
    clear hb2 B1 q0 q1
    obtain ⟨V, cv, us1, rfl, k3, k4, hsl1, hel1⟩ := hv1
    obtain ⟨U, cu, vs1, rfl, j3, j4, hsl2, hel2⟩ := hv2
    have HE1 := Lib.hid hel1
    have HE2 := Lib.hid hel2
    obtain ⟨n, hn⟩ : ∃ n, (wL rs ms row skip rs.length).length = n := ⟨_, rfl⟩
    rw [hn] at hsl1 hsl2 k3 j3 ⊢
    clear hn hel1 hel2
    unfold maxLen at k4 j4
    have hnn : ((n : Int) != (n : Int)) = false := by simp
    go_wp2_with fail
    clear hnn
    go_loopw [13] (fun i wr => ∃ k : Nat, k ≤ n ∧ i = .int .i64 (k : Int) ∧ ∃ d, wr = w2.drewN d) (fun i _ => n - (intOf i).toNat)
    case atStart => exact ⟨0, by omega, rfl, 0, rfl⟩
    case round =>
      obtain ⟨k, hk, rfl, d, rfl⟩ := hrel
      by_cases hlt : k < n
      · obtain ⟨b1, o1, x, rfl, _, g1, hL1⟩ := lst_at (R := fun w u n => NatAt w u n 122) (d := 0) (xs := wL rs ms row skip rs.length) hsl1 HE1.out hlt
        obtain ⟨b2, o2, y, rfl, _, g2, hL2⟩ := lst_at (R := fun w u n => NatAt w u n 122) (d := 0) (xs := wL rs ms row skip rs.length) hsl2 HE2.out hlt
        obtain ⟨ls, hl1, hl2, _⟩ := hL1.same hL2
        have hl1' := hl1
        have hl2' := hl2
        obtain ⟨⟨X1, cx, rfl, _, _, _⟩, _⟩ := hl1'
        obtain ⟨⟨Y1, cy, rfl, _, _, _⟩, _⟩ := hl2'
        go_wp2
        go_quiet ((go_at_call 12; exact quiet_addE (limbs_same _ _ ls _ hl1 hl2)))
        go_wp2
        go_roundw
        case rel => exact ⟨k + 1, by omega, by go_num, _, rfl⟩
        case measure => simp [intOf]; omega
      · go_wp2
        go_ret
        exact ⟨rfl, below_drewN B2 _⟩

set_option maxHeartbeats 4000000 in
theorem cw_no (pv rv mv xv : Value) (ps rs row : List Int) (ms : List (List (List Int))) (skip : Int) (w : World) (hp : Nums .i64 w pv ps) (hr : Nums .i64 w rv rs) (hm : ModL w mv ms) (hx : Nums .i64 w xv row) (hE : wtE ps rs row ms skip ≠ 0) (hlen : ms.length ≤ 8 ∨ 60 < ms.length) :
    Calls Try.prog 3 #[.agg #[pv, rv], mv, xv, .int .i64 skip] w fun e w' => e = .returned (.bool true) ∧ Below w.heap.size w w' := by
  have hbox : Below w.heap.size w (w.alloc (.cells #[pv, rv] 24)) := (Below.refl _ _).alloc (Nat.le_refl _) _
  have hp0 := hp
  have hr0 := hr
  have hm0 := hm
  have hx0 := hx
  obtain ⟨A, c, rfl, hc, hm1, hsp⟩ := hp
  obtain ⟨B, c', rfl, hc', hm2, hsr⟩ := hr
  obtain ⟨M, cM, us, rfl, k1, k2, hs, hu⟩ := hm
  obtain ⟨X, cX, rfl, x1, x2, hsx⟩ := hx
  have hrb := Row.new w 24 [.slice A ps.length c, .slice B rs.length c']
  have HE := Lib.hid hE
  unfold maxLen at k2 x2 hm1 hm2
  clear hu hsp hsr hE hs hsx
  by_cases h8 : 8 < ms.length
  case pos =>
    have d8 : decide (8 < (ms.length : Int)) = true := by simp; omega
    have d60 : decide ((ms.length : Int) ≤ 60) = false := by simp; omega
    clear hlen
    go_enter Try.func3, Try.ntmps3
    go_wp2_with fail
    refine (cweights_no _ _ _ _ ps rs row ms skip _ (hp0.below hbox) (hr0.below hbox) (hm0.below hbox) (hx0.below hbox) HE.out).mono ?_
    rintro e w1 ⟨rfl, hb1⟩
    replace hrb := hrb.keep hb1
    have B1 : Below w.heap.size w w1 := hbox.trans (hb1.mono hbox.size)
    have q0 : w1.cell? ⟨w.heap.size, 0, none⟩ = some (.slice A ps.length c) := hrb.cell 0
    have q1 : w1.cell? ⟨w.heap.size, 1, none⟩ = some (.slice B rs.length c') := hrb.cell 1
    clear hb1
    go_wp2_with fail
    refine (rcweights_no _ _ _ _ ps rs row ms skip _ (hp0.below B1) (hr0.below B1) (hm0.below B1) (hx0.below B1) HE.out).mono ?_
    rintro e w2 ⟨rfl, hb2⟩
    have B2 : Below w.heap.size w w2 := B1.trans (hb2.mono B1.size)
    clear hb2 B1 q0 q1
    have hee : (wtE ps rs row ms skip != wtE ps rs row ms skip) = false := by simp
    generalize wtE ps rs row ms skip = E at *
    go_wp2_with fail
    go_loopw [13] (fun i wr => i = .int .i64 0 ∧ wr = w2) (fun i _ => 0)
    case atStart => exact ⟨rfl, rfl⟩
    case round =>
      obtain ⟨rfl, rfl⟩ := hrel
      go_wp2
      go_ret
      exact ⟨rfl, B2⟩
  case neg =>
    have d8 : decide (8 < (ms.length : Int)) = false := by simp; omega
    clear hlen
    go_enter Try.func3, Try.ntmps3
    go_wp2_with fail
    refine (cweights_no _ _ _ _ ps rs row ms skip _ (hp0.below hbox) (hr0.below hbox) (hm0.below hbox) (hx0.below hbox) HE.out).mono ?_
    rintro e w1 ⟨rfl, hb1⟩
    replace hrb := hrb.keep hb1
    have B1 : Below w.heap.size w w1 := hbox.trans (hb1.mono hbox.size)
    have q0 : w1.cell? ⟨w.heap.size, 0, none⟩ = some (.slice A ps.length c) := hrb.cell 0
    have q1 : w1.cell? ⟨w.heap.size, 1, none⟩ = some (.slice B rs.length c') := hrb.cell 1
    clear hb1
    go_wp2_with fail
    refine (rcweights_no _ _ _ _ ps rs row ms skip _ (hp0.below B1) (hr0.below B1) (hm0.below B1) (hx0.below B1) HE.out).mono ?_
    rintro e w2 ⟨rfl, hb2⟩
    have B2 : Below w.heap.size w w2 := B1.trans (hb2.mono B1.size)
    clear hb2 B1 q0 q1
    have hee : (wtE ps rs row ms skip != wtE ps rs row ms skip) = false := by simp
    generalize wtE ps rs row ms skip = E at *
    go_wp2_with fail
    go_loopw [13] (fun i wr => i = .int .i64 0 ∧ wr = w2) (fun i _ => 0)
    case atStart => exact ⟨rfl, rfl⟩
    case round =>
      obtain ⟨rfl, rfl⟩ := hrel
      go_wp2
      go_ret
      exact ⟨rfl, B2⟩

set_option maxHeartbeats 1000000 in
theorem cw_mid (pv rv mv xv : Value) (ps rs row : List Int) (ms : List (List (List Int))) (skip : Int) (w : World) (hp : Nums .i64 w pv ps) (hr : Nums .i64 w rv rs) (hm : ModL w mv ms) (h8 : 8 < ms.length) (h60 : ms.length ≤ 60) :
    Calls Try.prog 3 #[.agg #[pv, rv], mv, xv, .int .i64 skip] w fun e w' => e = .returned (.bool true) ∧ Below w.heap.size w w' := by
  obtain ⟨A, c, rfl, hc, hm1, hsp⟩ := hp
  obtain ⟨B, c', rfl, hc', hm2, hsr⟩ := hr
  obtain ⟨M, cM, us, rfl, k1, k2, hs, hu⟩ := hm
  have d8 : decide (8 < (ms.length : Int)) = true := by simp; omega
  have d60 : decide ((ms.length : Int) ≤ 60) = true := by simp; omega
  clear hu hs hsp hsr
  go_enter Try.func3, Try.ntmps3
  go_wp2_with fail
  go_ret
  exact ⟨rfl, (Below.refl _ _).alloc (Nat.le_refl _) _⟩
theorem cw_all (pv rv mv xv : Value) (ps rs row : List Int) (ms : List (List (List Int))) (skip : Int) (w : World) (hp : Nums .i64 w pv ps) (hr : Nums .i64 w rv rs) (hm : ModL w mv ms) (hx : Nums .i64 w xv row) :
    Calls Try.prog 3 #[.agg #[pv, rv], mv, xv, .int .i64 skip] w fun e w' => e = .returned (.bool true) ∧ Below w.heap.size w w' := by
  by_cases h8 : 8 < ms.length ∧ ms.length ≤ 60
  · exact cw_mid pv rv mv xv ps rs row ms skip w hp hr hm h8.1 h8.2
  · by_cases hE : wtE ps rs row ms skip = 0
    · exact cw_yes pv rv mv xv ps rs row ms skip w hp hr hm hx hE (by omega)
    · exact cw_no pv rv mv xv ps rs row ms skip w hp hr hm hx hE (by omega)

namespace CalibrateWeights
theorem own : ownKnob Try.prog.godebug = none := by kernel_rfl
theorem laidOut : laidOutB Try.prog = true := by kernel_rfl
theorem readable : ∀ t ∈ Try.f3.params.toList, Try.prog.readableRec t = true ∧ t < Try.prog.types.size := by
  intro t ht
  rw [Try.params3] at ht
  have ht' : t = 3 ∨ t = 22 ∨ t = 24 ∨ t = 25 := by simp at ht; (try rcases ht with h | h | h | h); all_goals (subst_vars; simp)
  rcases ht' with rfl | rfl | rfl | rfl
  · exact ⟨by kernel_rfl, of_decide_eq_true (by kernel_rfl)⟩
  · exact ⟨by kernel_rfl, of_decide_eq_true (by kernel_rfl)⟩
  · exact ⟨by kernel_rfl, of_decide_eq_true (by kernel_rfl)⟩
  · exact ⟨by kernel_rfl, of_decide_eq_true (by kernel_rfl)⟩
theorem contract (H : Type) (enc : TypeId × Value → H) (W : World) (base : Nat) (args : Array Value) (ds gs : List (DataW H)) (before : List MemPlace)
    (hval : ∀ (j : Nat) t v, Try.f3.params[j]? = some t → args[j]? = some v → Value.okWide Try.prog W .any base t v)
    (hW : DataW.Whole enc Try.prog Try.f3.params.toList Rows.calibrateWeightsSpec.vars false W args.toList ds gs before) :
    Calls Try.prog 3 args W fun e W' => ∃ v, e = .returned v ∧ Rows.calibrateWeightsSpec.post enc Try.prog Try.f3 false true false false W args v W' := by
  have hW' := hW
  obtain ⟨p, q, hA0, hV, rfl, hfz, hnd⟩ := hW
  have hA : DataW.TrodAll enc Try.prog W 0 (fun _ => true) true Try.f3.params.toList args.toList ds p := hA0
  rw [Try.params3] at hA hval
  obtain ⟨v0, vs0, d0, ds0, p0, q0, hargs, rfl, rfl, h0, r0⟩ := trodAll_cons hA
  obtain ⟨v1, vs1, d1, ds1, p1, q1, rfl, rfl, rfl, h1, r1⟩ := trodAll_cons r0
  obtain ⟨v2, vs2, d2, ds2, p2, q2, rfl, rfl, rfl, h2, r2⟩ := trodAll_cons r1
  obtain ⟨v3, vs3, d3, ds3, p3, q3, rfl, rfl, rfl, h3, r3⟩ := trodAll_cons r2
  obtain ⟨rfl, rfl, rfl⟩ := trodAll_nil r3
  obtain rfl : args = #[v0, v1, v2, v3] := by cases args; simp_all
  obtain ⟨rfl, rfl⟩ := trodVars_none hV
  obtain ⟨f0, f1, y0, y1, nf, rfl, rfl, rfl, hy0, hy1⟩ := open_agg2 Try.underlying24 (by kernel_rfl) (show Try.prog.cellsOf 24 = 2 by kernel_rfl) (hval 0 24 v0 rfl rfl) h0
  obtain ⟨ps, hps, _⟩ := open_nums Try.underlying22 Try.underlying3 (by kernel_rfl) hy0
  obtain ⟨rs, hrs, _⟩ := open_nums Try.underlying22 Try.underlying3 (by kernel_rfl) hy1
  obtain ⟨Am, lm, cm, rfl⟩ := okWide_slice Try.underlying25 (hval 1 25 v1 rfl rfl)
  obtain ⟨fm, hfm⟩ := h1
  obtain ⟨ms, hms⟩ := open_modL Try.underlying25 (by kernel_rfl) Try.underlying48 (by kernel_rfl) rfl Try.underlying34 (by kernel_rfl) Try.underlying22 Try.underlying3 (by kernel_rfl) (by simpa [Value.cells] using hfm)
  obtain ⟨Ax, lx, cx, rfl⟩ := okWide_slice Try.underlying22 (hval 2 22 v2 rfl rfl)
  obtain ⟨fx, hfx⟩ := h2
  obtain ⟨row, hrow, _⟩ := open_nums Try.underlying22 Try.underlying3 (by kernel_rfl) (by simpa [Value.cells] using hfx)
  obtain ⟨skip, rfl, rfl, rfl, _⟩ := open_int Try.underlying3 (hval 3 3 v3 rfl rfl) h3
  refine (cw_all _ _ _ _ ps rs row ms skip W hps hrs hms hrow).mono fun e W' ⟨he, hb⟩ => ⟨_, he, ?_⟩
  exact law_post laidOut readable rfl rfl Try.underlying4 (ok_one (by kernel_rfl) rfl (okWide_bool_mk Try.underlying4 _)) ⟨rfl, rfl, rfl⟩ hW' hb
set_option maxRecDepth 100000 in
theorem lifted (os : Os) (started : os.Started) (H : Type) (enc : TypeId × Value → H) :
    ReturnsInHanded {} Try.checked os 3 .any (Rows.calibrateWeightsSpec.pre6 enc Try.prog Try.f3 Rows.calibrateWeightsRow.domain false) (Rows.calibrateWeightsSpec.post enc Try.prog Try.f3 false true false false) := by
  refine returnsInHanded_of_change (C := Try.checked) own started (by kernel_rfl) Try.func3
    (ChangeSpec.witness6 (enc := enc) (C := Try.checked) false ⟨#[], #[.agg #[.slice none 0 0, .slice none 0 0], .slice none 0 0, .slice none 0 0, .int .i64 0], []⟩ 8 (by kernel_rfl) (by kernel_rfl) (by kernel_rfl) (by kernel_rfl)) ?_
  intro W base args ds gs before hval hW _ _
  exact contract H enc W base args ds gs before hval hW
theorem proved : Rows.CalibrateWeightsSaid :=
  OpenClaim.holds_of_wide 3 Try.f3 rfl rfl rfl rfl rfl rfl rfl ⟨rfl, rfl, rfl, rfl, rfl⟩ rfl rfl rfl rfl rfl (by kernel_rfl) Try.func3 (by kernel_rfl)
    (of_decide_eq_true (by kernel_rfl)) (by unfold Func.isWrapper; first | (rw [if_pos (by decide +kernel)]; kernel_rfl) | (rw [if_neg (by decide +kernel)]; exact ⟨rfl, rfl⟩))
    (fun os started H enc _ => lifted os started H enc)
#print axioms proved
end CalibrateWeights
end Go.Proofs.Ytneoglmfabilnaa
