/- PosteriorUpdates. -/
import Derived.Test.YtoihjclkocffhaaDoorPoL
namespace Go.Proofs.YtoihjclkocffhaaDoor
open Go.RowKit
set_option linter.unusedVariables false

/-- The weights that Update returns. -/
def updW (ns : List Nat) (m : Mdl) (k : Int) : List Nat := if updE ns.length m k = 0 then updF m k ns else []
theorem update_u (wv mv : Value) (ns : List Nat) (L : Nat) (m : Mdl) (k : Int) (w : World) (hw : Wts w wv ns L) (hm : IntsL w mv m) (hL : L ≤ 35184372088000) :
    Calls Tryd.prog 9 #[wv, .agg #[mv], .int .i64 k] w fun e w' => ∃ A n c, e = .returned (.tuple #[.slice A n c, .int .i64 (updE ns.length m k)]) ∧ CanL w' (.slice A n c) (updW ns m k) (L + 2) ∧ Below w.heap.size w w' := by
  unfold updW
  by_cases h : updE ns.length m k = 0
  · rw [if_pos h]
    refine (update_yes wv mv ns L m k w hw hm hL h).mono fun e w' ⟨v, he, hv, _, hb⟩ => ?_
    obtain ⟨A, c, us, rfl, _⟩ := id hv
    exact ⟨_, _, _, by rw [he, h], hv, hb⟩
  · rw [if_neg h]
    exact (update_no wv mv ns L m k w hw hm h).mono fun e w' ⟨he, hb⟩ => ⟨_, _, _, he, CanL.nil _ _, hb⟩
theorem rupdate_u (wv mv : Value) (ns : List Nat) (L : Nat) (m : Mdl) (k : Int) (w : World) (hw : Wts w wv ns L) (hm : IntsL w mv m) (hL : L ≤ 35184372088000) :
    Calls Tryd.prog 10 #[wv, .agg #[mv], .int .i64 k] w fun e w' => ∃ A n c, e = .returned (.tuple #[.slice A n c, .int .i64 (updE ns.length m k)]) ∧ CanL w' (.slice A n c) (updW ns m k) (L + 2) ∧ Below w.heap.size w w' := by
  unfold updW
  by_cases h : updE ns.length m k = 0
  · rw [if_pos h]
    refine (rupdate_yes wv mv ns L m k w hw hm hL h).mono fun e w' ⟨v, he, hv, _, hb⟩ => ?_
    obtain ⟨A, c, us, rfl, _⟩ := id hv
    exact ⟨_, _, _, by rw [he, h], hv, hb⟩
  · rw [if_neg h]
    exact (rupdate_no wv mv ns L m k w hw hm h).mono fun e w' ⟨he, hb⟩ => ⟨_, _, _, he, CanL.nil _ _, hb⟩

set_option maxRecDepth 100000 in
set_option maxHeartbeats 4000000 in
theorem lupd_any (wv mv : Value) (lss : List (List Nat)) (m : Mdl) (k : Int) (w : World) (hw : LimL w wv lss) (hb : ∀ l ∈ lss, l.length ≤ 35184372087808) (hm : IntsL w mv m) :
    Calls Tryd.prog 3 #[wv, .agg #[mv], .int .i64 k] w fun e w' => e = .returned (.bool true) ∧ Below w.heap.size w w' := by
  have HW := Lib.hid (hw.wts hb)
  have HM := Lib.hid hm
  obtain ⟨MA, mc, mus, rfl, _, _, _, _⟩ := hm
  obtain ⟨WA, wc, us, rfl, _, _, _, _⟩ := hw
  obtain ⟨E, hE⟩ : ∃ E, updE (lss.map val).length m k = E := ⟨_, rfl⟩
  have HE := Lib.hid hE
  clear hE hb
  obtain ⟨W0, hW0⟩ : ∃ W0 : World, W0 = w.alloc (.cells #[.slice MA m.length mc] 25) := ⟨_, rfl⟩
  have r0 : Row W0 w.heap.size 25 [.slice MA m.length mc] := by
    rw [hW0]
    have := Row.new w 25 [.slice MA m.length mc]
    simpa using this
  have B0 : Below w.heap.size w W0 := by rw [hW0]; exact ((Below.refl _ _).alloc (Nat.le_refl _) _)
  go_enter Tryd.func3, Tryd.ntmps3
  go_wp2_with fail
  rw [← hW0]
  clear hW0
  have BB := B0
  have hr4 := r0
  clear B0 r0
  refine (update_u _ _ (lss.map val) 35184372087808 m k _ (HW.out.below BB) (HM.out.below BB) (by decide)).mono ?_
  rintro e x1 ⟨A1, n1, c1, rfl, hv1, hb⟩
  replace hr4 := hr4.keep hb
  replace BB : Below w.heap.size w x1 := BB.trans (hb.mono BB.size)
  clear hb
  rw [HE.out]
  have c40 : x1.cell? ⟨w.heap.size, 0, none⟩ = some (.slice MA m.length mc) := hr4.cell 0
  have z4 := hr4.lt
  go_wp2_with fail
  clear c40 z4
  refine (rupdate_u _ _ (lss.map val) 35184372087808 m k _ (HW.out.below BB) (HM.out.below BB) (by decide)).mono ?_
  rintro e x2 ⟨A2, n2, c2, rfl, hv2, hb⟩
  replace hr4 := hr4.keep hb
  replace hv1 := hv1.below hb
  replace BB : Below w.heap.size w x2 := BB.trans (hb.mono BB.size)
  clear hb
  rw [HE.out]
  have c40 : x2.cell? ⟨w.heap.size, 0, none⟩ = some (.slice MA m.length mc) := hr4.cell 0
  have z4 := hr4.lt
  go_wp2_with fail
  clear c40 z4
  refine (requal_yes _ _ _ _ _ _ hv1 hv2).mono ?_
  rintro e x3 ⟨rfl, hb⟩
  replace hr4 := hr4.keep hb
  replace hv1 := hv1.below hb
  replace hv2 := hv2.below hb
  replace BB : Below w.heap.size w x3 := BB.trans (hb.mono BB.size)
  clear hb
  have c40 : x3.cell? ⟨w.heap.size, 0, none⟩ = some (.slice MA m.length mc) := hr4.cell 0
  have z4 := hr4.lt
  go_wp2_with fail
  clear c40 z4
  refine (awake_any _).mono ?_
  rintro e x4 ⟨rfl, hb⟩
  replace hr4 := hr4.keep hb
  replace hv1 := hv1.below hb
  replace hv2 := hv2.below hb
  replace BB : Below w.heap.size w x4 := BB.trans (hb.mono BB.size)
  clear hb
  have c40 : x4.cell? ⟨w.heap.size, 0, none⟩ = some (.slice MA m.length mc) := hr4.cell 0
  have z4 := hr4.lt
  go_wp2_with fail
  clear c40 z4
  go_ret
  exact ⟨rfl, BB⟩
end Go.Proofs.YtoihjclkocffhaaDoor
