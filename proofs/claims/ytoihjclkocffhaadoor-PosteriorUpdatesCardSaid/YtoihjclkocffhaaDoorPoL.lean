/- Start and All, uniformly; PosteriorAll. -/
import Derived.Test.YtoihjclkocffhaaDoorPoS
import Derived.Test.YtoihjclkocffhaaDoorPoW
namespace Go.Proofs.YtoihjclkocffhaaDoor
open Go.RowKit
set_option linter.unusedVariables false

/-- The weights that Start returns. -/
def stF (ps rs : List Int) : List Nat := if gridE ps rs = 0 then natsOf rs else []
/-- The weights that All returns. -/
def allW (ps rs : List Int) (ms : List Mdl) (ks : List Int) : List Nat := if postE ps rs ms ks = 0 then allF (natsOf rs) (ms.zip ks) else []
theorem start_u (pv rv : Value) (ps rs : List Int) (w : World) (hp : Nums .i64 w pv ps) (hr : Nums .i64 w rv rs) :
    Calls Tryd.prog 13 #[.agg #[pv, rv]] w fun e w' => ∃ A n c, e = .returned (.tuple #[.slice A n c, .int .i64 (gridE ps rs)]) ∧ CanL w' (.slice A n c) (stF ps rs) 2 ∧ Below w.heap.size w w' := by
  unfold stF
  by_cases h : gridE ps rs = 0
  · rw [if_pos h]
    refine (start_yes pv rv ps rs w hp hr h).mono fun e w' ⟨v, he, hv, hb⟩ => ?_
    obtain ⟨A, c, us, rfl, _⟩ := id hv
    exact ⟨_, _, _, by rw [he, h], hv, hb⟩
  · rw [if_neg h]
    exact (start_no pv rv ps rs w hp hr h).mono fun e w' ⟨he, hb⟩ => ⟨_, _, _, he, CanL.nil _ _, hb⟩
theorem all_u (pv rv mv kv : Value) (ps rs : List Int) (ms : List Mdl) (ks : List Int) (w : World) (hp : Nums .i64 w pv ps) (hr : Nums .i64 w rv rs) (hm : ModL w mv ms) (hk : Nums .i64 w kv ks) :
    Calls Tryd.prog 15 #[.agg #[pv, rv], mv, kv] w fun e w' => ∃ A n c, e = .returned (.tuple #[.slice A n c, .int .i64 (postE ps rs ms ks)]) ∧ CanL w' (.slice A n c) (allW ps rs ms ks) (2 + 2 * ms.length) ∧ Below w.heap.size w w' := by
  unfold allW
  refine (all_any pv rv mv kv ps rs ms ks w hp hr hm hk).mono fun e w' h => ?_
  rcases h with ⟨h, v, he, hv, hb⟩ | ⟨h, he, hb⟩
  · rw [if_pos h]
    obtain ⟨A, c, us, rfl, _⟩ := id hv
    exact ⟨_, _, _, by rw [he, h], hv, hb⟩
  · rw [if_neg h]
    exact ⟨_, _, _, he, CanL.nil _ _, hb⟩
theorem rstart_u (pv rv : Value) (ps rs : List Int) (w : World) (hp : Nums .i64 w pv ps) (hr : Nums .i64 w rv rs) :
    Calls Tryd.prog 14 #[.agg #[pv, rv]] w fun e w' => ∃ A n c, e = .returned (.tuple #[.slice A n c, .int .i64 (gridE ps rs)]) ∧ CanL w' (.slice A n c) (stF ps rs) 2 ∧ Below w.heap.size w w' := by
  unfold stF
  by_cases h : gridE ps rs = 0
  · rw [if_pos h]
    refine (rstart_yes pv rv ps rs w hp hr h).mono fun e w' ⟨v, he, hv, hb⟩ => ?_
    obtain ⟨A, c, us, rfl, _⟩ := id hv
    exact ⟨_, _, _, by rw [he, h], hv, hb⟩
  · rw [if_neg h]
    exact (rstart_no pv rv ps rs w hp hr h).mono fun e w' ⟨he, hb⟩ => ⟨_, _, _, he, CanL.nil _ _, hb⟩
theorem rall_u (pv rv mv kv : Value) (ps rs : List Int) (ms : List Mdl) (ks : List Int) (w : World) (hp : Nums .i64 w pv ps) (hr : Nums .i64 w rv rs) (hm : ModL w mv ms) (hk : Nums .i64 w kv ks) :
    Calls Tryd.prog 16 #[.agg #[pv, rv], mv, kv] w fun e w' => ∃ A n c, e = .returned (.tuple #[.slice A n c, .int .i64 (postE ps rs ms ks)]) ∧ CanL w' (.slice A n c) (allW ps rs ms ks) (2 + 2 * ms.length) ∧ Below w.heap.size w w' := by
  unfold allW
  refine (rall_any pv rv mv kv ps rs ms ks w hp hr hm hk).mono fun e w' h => ?_
  rcases h with ⟨h, v, he, hv, hb⟩ | ⟨h, he, hb⟩
  · rw [if_pos h]
    obtain ⟨A, c, us, rfl, _⟩ := id hv
    exact ⟨_, _, _, by rw [he, h], hv, hb⟩
  · rw [if_neg h]
    exact ⟨_, _, _, he, CanL.nil _ _, hb⟩

set_option maxRecDepth 100000 in
set_option maxHeartbeats 4000000 in
theorem lall_any (pv rv mv kv : Value) (ps rs : List Int) (ms : List Mdl) (ks : List Int) (w : World) (hp : Nums .i64 w pv ps) (hr : Nums .i64 w rv rs) (hm : ModL w mv ms) (hk : Nums .i64 w kv ks) :
    Calls Tryd.prog 4 #[.agg #[pv, rv], mv, kv] w fun e w' => e = .returned (.bool true) ∧ Below w.heap.size w w' := by
  have HP := Lib.hid hp
  have HR := Lib.hid hr
  have HM := Lib.hid hm
  have HK := Lib.hid hk
  obtain ⟨PA, pc, rfl, hpc, hpm, hps⟩ := hp
  obtain ⟨RV, vc, rfl, hvc, hvm, hvs⟩ := hr
  obtain ⟨MA, mc, mus, rfl, _, _, _, _⟩ := hm
  obtain ⟨KA, kc, rfl, _, _, _⟩ := hk
  obtain ⟨E1, hE1⟩ : ∃ E, gridE ps rs = E := ⟨_, rfl⟩
  obtain ⟨E2, hE2⟩ : ∃ E, postE ps rs ms ks = E := ⟨_, rfl⟩
  have HE1 := Lib.hid hE1
  have HE2 := Lib.hid hE2
  clear hE1 hE2
  obtain ⟨W0, hW0⟩ : ∃ W0 : World, W0 = w.alloc (.cells #[.slice PA ps.length pc, .slice RV rs.length vc] 34) := ⟨_, rfl⟩
  have r0 : Row W0 w.heap.size 34 [.slice PA ps.length pc, .slice RV rs.length vc] := by
    rw [hW0]
    have := Row.new w 34 [.slice PA ps.length pc, .slice RV rs.length vc]
    simpa using this
  have B0 : Below w.heap.size w W0 := by rw [hW0]; exact ((Below.refl _ _).alloc (Nat.le_refl _) _)
  go_enter Tryd.func4, Tryd.ntmps4
  go_wp2_with fail
  rw [← hW0]
  clear hW0
  have BB := B0
  have hr3 := r0
  clear B0 r0
  refine (start_u _ _ ps rs _ (HP.out.below BB) (HR.out.below BB)).mono ?_
  rintro e x1 ⟨A1, n1, c1, rfl, hv1, hb⟩
  replace hr3 := hr3.keep hb
  replace BB : Below w.heap.size w x1 := BB.trans (hb.mono BB.size)
  clear hb
  rw [HE1.out]
  have c30 : x1.cell? ⟨w.heap.size, 0, none⟩ = some (.slice PA ps.length pc) := hr3.cell 0
  have c31 : x1.cell? ⟨w.heap.size, 1, none⟩ = some (.slice RV rs.length vc) := hr3.cell 1
  have z3 := hr3.lt
  go_wp2_with fail
  clear c30 c31 z3
  refine (rstart_u _ _ ps rs _ (HP.out.below BB) (HR.out.below BB)).mono ?_
  rintro e x2 ⟨A2, n2, c2, rfl, hv2, hb⟩
  replace hr3 := hr3.keep hb
  replace hv1 := hv1.below hb
  replace BB : Below w.heap.size w x2 := BB.trans (hb.mono BB.size)
  clear hb
  rw [HE1.out]
  have c30 : x2.cell? ⟨w.heap.size, 0, none⟩ = some (.slice PA ps.length pc) := hr3.cell 0
  have c31 : x2.cell? ⟨w.heap.size, 1, none⟩ = some (.slice RV rs.length vc) := hr3.cell 1
  have z3 := hr3.lt
  go_wp2_with fail
  clear c30 c31 z3
  refine (requal_yes _ _ _ _ _ _ hv1 hv2).mono ?_
  rintro e x3 ⟨rfl, hb⟩
  replace hr3 := hr3.keep hb
  replace hv1 := hv1.below hb
  replace hv2 := hv2.below hb
  replace BB : Below w.heap.size w x3 := BB.trans (hb.mono BB.size)
  clear hb
  clear hv1 hv2
  have c30 : x3.cell? ⟨w.heap.size, 0, none⟩ = some (.slice PA ps.length pc) := hr3.cell 0
  have c31 : x3.cell? ⟨w.heap.size, 1, none⟩ = some (.slice RV rs.length vc) := hr3.cell 1
  have z3 := hr3.lt
  go_wp2_with fail
  clear c30 c31 z3
  refine (all_u _ _ _ _ ps rs ms ks _ (HP.out.below BB) (HR.out.below BB) (HM.out.below BB) (HK.out.below BB)).mono ?_
  rintro e x4 ⟨A3, n3, c3, rfl, hv3, hb⟩
  replace hr3 := hr3.keep hb
  replace BB : Below w.heap.size w x4 := BB.trans (hb.mono BB.size)
  clear hb
  rw [HE2.out]
  have c30 : x4.cell? ⟨w.heap.size, 0, none⟩ = some (.slice PA ps.length pc) := hr3.cell 0
  have c31 : x4.cell? ⟨w.heap.size, 1, none⟩ = some (.slice RV rs.length vc) := hr3.cell 1
  have z3 := hr3.lt
  go_wp2_with fail
  clear c30 c31 z3
  refine (rall_u _ _ _ _ ps rs ms ks _ (HP.out.below BB) (HR.out.below BB) (HM.out.below BB) (HK.out.below BB)).mono ?_
  rintro e x5 ⟨A4, n4, c4, rfl, hv4, hb⟩
  replace hr3 := hr3.keep hb
  replace hv3 := hv3.below hb
  replace BB : Below w.heap.size w x5 := BB.trans (hb.mono BB.size)
  clear hb
  rw [HE2.out]
  have c30 : x5.cell? ⟨w.heap.size, 0, none⟩ = some (.slice PA ps.length pc) := hr3.cell 0
  have c31 : x5.cell? ⟨w.heap.size, 1, none⟩ = some (.slice RV rs.length vc) := hr3.cell 1
  have z3 := hr3.lt
  go_wp2_with fail
  clear c30 c31 z3
  refine (requal_yes _ _ _ _ _ _ hv3 hv4).mono ?_
  rintro e x6 ⟨rfl, hb⟩
  replace hr3 := hr3.keep hb
  replace hv3 := hv3.below hb
  replace hv4 := hv4.below hb
  replace BB : Below w.heap.size w x6 := BB.trans (hb.mono BB.size)
  clear hb
  have c30 : x6.cell? ⟨w.heap.size, 0, none⟩ = some (.slice PA ps.length pc) := hr3.cell 0
  have c31 : x6.cell? ⟨w.heap.size, 1, none⟩ = some (.slice RV rs.length vc) := hr3.cell 1
  have z3 := hr3.lt
  go_wp2_with fail
  clear c30 c31 z3
  refine (awake_any _).mono ?_
  rintro e x7 ⟨rfl, hb⟩
  replace hr3 := hr3.keep hb
  replace hv3 := hv3.below hb
  replace hv4 := hv4.below hb
  replace BB : Below w.heap.size w x7 := BB.trans (hb.mono BB.size)
  clear hb
  have c30 : x7.cell? ⟨w.heap.size, 0, none⟩ = some (.slice PA ps.length pc) := hr3.cell 0
  have c31 : x7.cell? ⟨w.heap.size, 1, none⟩ = some (.slice RV rs.length vc) := hr3.cell 1
  have z3 := hr3.lt
  go_wp2_with fail
  clear c30 c31 z3
  go_ret
  exact ⟨rfl, BB⟩

end Go.Proofs.YtoihjclkocffhaaDoor
