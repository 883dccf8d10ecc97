/- The walk of awake: the chapter's examples. -/
import Derived.Test.YtoihjclkocffhaaDoorPoI
import Derived.Test.YtoihjclkocffhaaDoorPoB
import Derived.Test.YtoihjclkocffhaaDoorPcQ
import Derived.Test.YtoihjclkocffhaaDoorPoG
import Derived.Test.YtoihjclkocffhaaDoorQPrn
namespace Go.Proofs.YtoihjclkocffhaaDoor
open Go.RowKit
set_option linter.unusedVariables false

theorem all_ok (pv rv mv kv : Value) (ps rs : List Int) (ms : List Mdl) (ks : List Int) (w : World) (hp : Nums .i64 w pv ps) (hr : Nums .i64 w rv rs) (hm : ModL w mv ms) (hk : Nums .i64 w kv ks) (hE : postE ps rs ms ks = 0) :
    Calls Tryd.prog 15 #[.agg #[pv, rv], mv, kv] w fun e w' => ∃ v, e = .returned (.tuple #[v, .int .i64 0]) ∧ CanL w' v (allF (natsOf rs) (ms.zip ks)) (2 + 2 * ms.length) ∧ Below w.heap.size w w' := by
  refine (all_any pv rv mv kv ps rs ms ks w hp hr hm hk).mono fun e w' h => ?_
  rcases h with ⟨_, h⟩ | ⟨h, _⟩
  · exact h
  · exact absurd hE h
set_option maxRecDepth 100000 in
set_option maxHeartbeats 16000000 in
theorem awake_any (w : World) :
    Calls Tryd.prog 12 #[] w fun e w' => e = .returned (.bool true) ∧ Below w.heap.size w w' := by
  go_enter Tryd.func12, Tryd.ntmps12
  have hE : postE [0, 100] [1, 1] [[[500, 500], [300, 700]], [[500, 500], [300, 700]]] [1, 0] = 0 := by decide +kernel
  have HE := Lib.hid hE
  clear hE
  go_wp2_with fail
  have hl : Below w.heap.size w (((((((((w.alloc (.cells #[.int .i64 0, .int .i64 100] 3)).alloc (.cells #[.int .i64 1, .int .i64 1] 3)).alloc (.cells #[.slice (some ⟨w.heap.size, 0, none⟩) 2 2, .slice (some ⟨w.heap.size + 1, 0, none⟩) 2 2] 34)).alloc (.cells #[.int .i64 500, .int .i64 500] 3)).alloc (.cells #[.int .i64 300, .int .i64 700] 3)).alloc (.cells #[.slice (some ⟨w.heap.size + 3, 0, none⟩) 2 2, .slice (some ⟨w.heap.size + 4, 0, none⟩) 2 2] 32)).alloc (.cells #[.slice (some ⟨w.heap.size + 5, 0, none⟩) 2 2] 25)).alloc (.cells #[.slice (some ⟨w.heap.size + 5, 0, none⟩) 2 2, .slice (some ⟨w.heap.size + 5, 0, none⟩) 2 2] 25)).alloc (.cells #[.int .i64 1, .int .i64 0] 3)) := lit_more (lit_more (lit_more (lit_more (lit_more (lit_more (lit_more (lit_more (lit_below _ _) _) _) _) _) _) _) _) _
  have hp : Nums .i64 (((((((((w.alloc (.cells #[.int .i64 0, .int .i64 100] 3)).alloc (.cells #[.int .i64 1, .int .i64 1] 3)).alloc (.cells #[.slice (some ⟨w.heap.size, 0, none⟩) 2 2, .slice (some ⟨w.heap.size + 1, 0, none⟩) 2 2] 34)).alloc (.cells #[.int .i64 500, .int .i64 500] 3)).alloc (.cells #[.int .i64 300, .int .i64 700] 3)).alloc (.cells #[.slice (some ⟨w.heap.size + 3, 0, none⟩) 2 2, .slice (some ⟨w.heap.size + 4, 0, none⟩) 2 2] 32)).alloc (.cells #[.slice (some ⟨w.heap.size + 5, 0, none⟩) 2 2] 25)).alloc (.cells #[.slice (some ⟨w.heap.size + 5, 0, none⟩) 2 2, .slice (some ⟨w.heap.size + 5, 0, none⟩) 2 2] 25)).alloc (.cells #[.int .i64 1, .int .i64 0] 3)) (.slice (some ⟨w.heap.size, 0, none⟩) 2 2) [0, 100] := (nums_alloc (nums_alloc (nums_alloc (nums_alloc (nums_alloc (nums_alloc (nums_alloc (nums_alloc (lit_at [0, 100] (by simp) rfl (by decide)) _) _) _) _) _) _) _) _)
  have hr : Nums .i64 (((((((((w.alloc (.cells #[.int .i64 0, .int .i64 100] 3)).alloc (.cells #[.int .i64 1, .int .i64 1] 3)).alloc (.cells #[.slice (some ⟨w.heap.size, 0, none⟩) 2 2, .slice (some ⟨w.heap.size + 1, 0, none⟩) 2 2] 34)).alloc (.cells #[.int .i64 500, .int .i64 500] 3)).alloc (.cells #[.int .i64 300, .int .i64 700] 3)).alloc (.cells #[.slice (some ⟨w.heap.size + 3, 0, none⟩) 2 2, .slice (some ⟨w.heap.size + 4, 0, none⟩) 2 2] 32)).alloc (.cells #[.slice (some ⟨w.heap.size + 5, 0, none⟩) 2 2] 25)).alloc (.cells #[.slice (some ⟨w.heap.size + 5, 0, none⟩) 2 2, .slice (some ⟨w.heap.size + 5, 0, none⟩) 2 2] 25)).alloc (.cells #[.int .i64 1, .int .i64 0] 3)) (.slice (some ⟨w.heap.size + 1, 0, none⟩) 2 2) [1, 1] := (nums_alloc (nums_alloc (nums_alloc (nums_alloc (nums_alloc (nums_alloc (nums_alloc (lit_at [1, 1] (by simp) rfl (by decide)) _) _) _) _) _) _) _)
  have hm : IntsL (((((((((w.alloc (.cells #[.int .i64 0, .int .i64 100] 3)).alloc (.cells #[.int .i64 1, .int .i64 1] 3)).alloc (.cells #[.slice (some ⟨w.heap.size, 0, none⟩) 2 2, .slice (some ⟨w.heap.size + 1, 0, none⟩) 2 2] 34)).alloc (.cells #[.int .i64 500, .int .i64 500] 3)).alloc (.cells #[.int .i64 300, .int .i64 700] 3)).alloc (.cells #[.slice (some ⟨w.heap.size + 3, 0, none⟩) 2 2, .slice (some ⟨w.heap.size + 4, 0, none⟩) 2 2] 32)).alloc (.cells #[.slice (some ⟨w.heap.size + 5, 0, none⟩) 2 2] 25)).alloc (.cells #[.slice (some ⟨w.heap.size + 5, 0, none⟩) 2 2, .slice (some ⟨w.heap.size + 5, 0, none⟩) 2 2] 25)).alloc (.cells #[.int .i64 1, .int .i64 0] 3)) (.slice (some ⟨w.heap.size + 5, 0, none⟩) 2 2) [[500, 500], [300, 700]] := lst_lit2 (Row.alloc (Row.alloc (Row.alloc (row_at (by simp)) _) _) _) (nums_alloc (nums_alloc (nums_alloc (nums_alloc (nums_alloc (lit_at [500, 500] (by simp) rfl (by decide)) _) _) _) _) _) (nums_alloc (nums_alloc (nums_alloc (nums_alloc (lit_at [300, 700] (by simp) rfl (by decide)) _) _) _) _)
  have hks : Nums .i64 (((((((((w.alloc (.cells #[.int .i64 0, .int .i64 100] 3)).alloc (.cells #[.int .i64 1, .int .i64 1] 3)).alloc (.cells #[.slice (some ⟨w.heap.size, 0, none⟩) 2 2, .slice (some ⟨w.heap.size + 1, 0, none⟩) 2 2] 34)).alloc (.cells #[.int .i64 500, .int .i64 500] 3)).alloc (.cells #[.int .i64 300, .int .i64 700] 3)).alloc (.cells #[.slice (some ⟨w.heap.size + 3, 0, none⟩) 2 2, .slice (some ⟨w.heap.size + 4, 0, none⟩) 2 2] 32)).alloc (.cells #[.slice (some ⟨w.heap.size + 5, 0, none⟩) 2 2] 25)).alloc (.cells #[.slice (some ⟨w.heap.size + 5, 0, none⟩) 2 2, .slice (some ⟨w.heap.size + 5, 0, none⟩) 2 2] 25)).alloc (.cells #[.int .i64 1, .int .i64 0] 3)) (.slice (some ⟨w.heap.size + 8, 0, none⟩) 2 2) [1, 0] := (lit_at [1, 0] (by simp) rfl (by decide))
  have hg : Row (((((((((w.alloc (.cells #[.int .i64 0, .int .i64 100] 3)).alloc (.cells #[.int .i64 1, .int .i64 1] 3)).alloc (.cells #[.slice (some ⟨w.heap.size, 0, none⟩) 2 2, .slice (some ⟨w.heap.size + 1, 0, none⟩) 2 2] 34)).alloc (.cells #[.int .i64 500, .int .i64 500] 3)).alloc (.cells #[.int .i64 300, .int .i64 700] 3)).alloc (.cells #[.slice (some ⟨w.heap.size + 3, 0, none⟩) 2 2, .slice (some ⟨w.heap.size + 4, 0, none⟩) 2 2] 32)).alloc (.cells #[.slice (some ⟨w.heap.size + 5, 0, none⟩) 2 2] 25)).alloc (.cells #[.slice (some ⟨w.heap.size + 5, 0, none⟩) 2 2, .slice (some ⟨w.heap.size + 5, 0, none⟩) 2 2] 25)).alloc (.cells #[.int .i64 1, .int .i64 0] 3)) (w.heap.size + 2) 34 [.slice (some ⟨w.heap.size, 0, none⟩) 2 2, .slice (some ⟨w.heap.size + 1, 0, none⟩) 2 2] := (Row.alloc (Row.alloc (Row.alloc (Row.alloc (Row.alloc (Row.alloc (row_at (by simp)) _) _) _) _) _) _)
  have hb2 : Row (((((((((w.alloc (.cells #[.int .i64 0, .int .i64 100] 3)).alloc (.cells #[.int .i64 1, .int .i64 1] 3)).alloc (.cells #[.slice (some ⟨w.heap.size, 0, none⟩) 2 2, .slice (some ⟨w.heap.size + 1, 0, none⟩) 2 2] 34)).alloc (.cells #[.int .i64 500, .int .i64 500] 3)).alloc (.cells #[.int .i64 300, .int .i64 700] 3)).alloc (.cells #[.slice (some ⟨w.heap.size + 3, 0, none⟩) 2 2, .slice (some ⟨w.heap.size + 4, 0, none⟩) 2 2] 32)).alloc (.cells #[.slice (some ⟨w.heap.size + 5, 0, none⟩) 2 2] 25)).alloc (.cells #[.slice (some ⟨w.heap.size + 5, 0, none⟩) 2 2, .slice (some ⟨w.heap.size + 5, 0, none⟩) 2 2] 25)).alloc (.cells #[.int .i64 1, .int .i64 0] 3)) (w.heap.size + 6) 25 [.slice (some ⟨w.heap.size + 5, 0, none⟩) 2 2] := (Row.alloc (Row.alloc (row_at (by simp)) _) _)
  have hms : ModL (((((((((w.alloc (.cells #[.int .i64 0, .int .i64 100] 3)).alloc (.cells #[.int .i64 1, .int .i64 1] 3)).alloc (.cells #[.slice (some ⟨w.heap.size, 0, none⟩) 2 2, .slice (some ⟨w.heap.size + 1, 0, none⟩) 2 2] 34)).alloc (.cells #[.int .i64 500, .int .i64 500] 3)).alloc (.cells #[.int .i64 300, .int .i64 700] 3)).alloc (.cells #[.slice (some ⟨w.heap.size + 3, 0, none⟩) 2 2, .slice (some ⟨w.heap.size + 4, 0, none⟩) 2 2] 32)).alloc (.cells #[.slice (some ⟨w.heap.size + 5, 0, none⟩) 2 2] 25)).alloc (.cells #[.slice (some ⟨w.heap.size + 5, 0, none⟩) 2 2, .slice (some ⟨w.heap.size + 5, 0, none⟩) 2 2] 25)).alloc (.cells #[.int .i64 1, .int .i64 0] 3)) (.slice (some ⟨w.heap.size + 7, 0, none⟩) 2 2) [[[500, 500], [300, 700]], [[500, 500], [300, 700]]] := lst_lit2 (Row.alloc (row_at (by simp)) _) hm hm
  refine (all_ok _ _ _ _ [0, 100] [1, 1] [[[500, 500], [300, 700]], [[500, 500], [300, 700]]] [1, 0] _ hp hr hms hks HE.out).mono ?_
  rintro e w1 ⟨v3, rfl, hv3, hb⟩
  replace hp := hp.below hb
  replace hr := hr.below hb
  replace hm := hm.below hb
  replace hks := hks.below hb
  replace hg := hg.keep hb
  replace hb2 := hb2.keep hb
  replace hb : Below w.heap.size w w1 := hl.trans (hb.mono hl.size)
  clear hl
  have BB : Below w.heap.size w w1 := hb
  clear hb
  clear hms
  rw [show allF (natsOf [1, 1]) (([[[500, 500], [300, 700]], [[500, 500], [300, 700]]] : List Mdl).zip [1, 0]) = [250000, 210000] by decide +kernel] at hv3
  obtain ⟨V3, vc3, vus3, rfl, _⟩ := id hv3
  have q00 : w1.cell? ⟨w.heap.size + 2, 0, none⟩ = some (.slice (some ⟨w.heap.size, 0, none⟩) 2 2) := hg.cell 0
  have q01 : w1.cell? ⟨w.heap.size + 2, 1, none⟩ = some (.slice (some ⟨w.heap.size + 1, 0, none⟩) 2 2) := hg.cell 1
  have z0 := hg.lt
  have q10 : w1.cell? ⟨w.heap.size + 6, 0, none⟩ = some (.slice (some ⟨w.heap.size + 5, 0, none⟩) 2 2) := hb2.cell 0
  have z1 := hb2.lt
  go_wp2_with fail
  clear q00 q01 q10 z0 z1
  have hl : Below w1.heap.size w1 w1 := Below.refl _ _
  refine (start_yes _ _ [0, 100] [1, 1] _ hp hr (by decide +kernel)).mono ?_
  rintro e w2 ⟨v5, rfl, hv5, hb⟩
  replace hb : Below w1.heap.size w1 w2 := hl.trans (hb.mono hl.size)
  clear hl
  replace hp := hp.below hb
  replace hr := hr.below hb
  replace hm := hm.below hb
  replace hks := hks.below hb
  replace hg := hg.keep hb
  replace hb2 := hb2.keep hb
  replace hv3 := hv3.below hb
  replace BB : Below w.heap.size w w2 := BB.trans (hb.mono BB.size)
  clear hb
  rw [show natsOf [1, 1] = [1, 1] by decide +kernel] at hv5
  obtain ⟨V5, vc5, vus5, rfl, _⟩ := id hv5
  have q00 : w2.cell? ⟨w.heap.size + 2, 0, none⟩ = some (.slice (some ⟨w.heap.size, 0, none⟩) 2 2) := hg.cell 0
  have q01 : w2.cell? ⟨w.heap.size + 2, 1, none⟩ = some (.slice (some ⟨w.heap.size + 1, 0, none⟩) 2 2) := hg.cell 1
  have z0 := hg.lt
  have q10 : w2.cell? ⟨w.heap.size + 6, 0, none⟩ = some (.slice (some ⟨w.heap.size + 5, 0, none⟩) 2 2) := hb2.cell 0
  have z1 := hb2.lt
  have y00 : (w2.alloc (.cells #[.int .u32 250000, .int .u32 210000] 69)).cell? ⟨w.heap.size + 2, 0, none⟩ = some (.slice (some ⟨w.heap.size, 0, none⟩) 2 2) := (hg.alloc _).cell 0
  have y01 : (w2.alloc (.cells #[.int .u32 250000, .int .u32 210000] 69)).cell? ⟨w.heap.size + 2, 1, none⟩ = some (.slice (some ⟨w.heap.size + 1, 0, none⟩) 2 2) := (hg.alloc _).cell 1
  have y10 : (w2.alloc (.cells #[.int .u32 250000, .int .u32 210000] 69)).cell? ⟨w.heap.size + 6, 0, none⟩ = some (.slice (some ⟨w.heap.size + 5, 0, none⟩) 2 2) := (hb2.alloc _).cell 0
  go_wp2_with fail
  clear q00 q01 q10 z0 z1
  clear y00 y01 y10
  have hl : Below w2.heap.size w2 (w2.alloc (.cells #[.int .u32 250000, .int .u32 210000] 69)) := lit_below _ _
  have hq : Lim (w2.alloc (.cells #[.int .u32 250000, .int .u32 210000] 69)) (.slice (some ⟨w2.heap.size, 0, none⟩) 2 2) [250000, 210000] := (lim_at [250000, 210000] (by simp) rfl (by decide) (allB2 (by decide) (by decide)))
  refine (is_yes _ _ [250000, 210000] _ _ (hv3.wts.below hl) hq (by decide)).mono ?_
  rintro e w3 ⟨rfl, hb⟩
  replace hq := hq.below hb
  replace hb : Below w2.heap.size w2 w3 := hl.trans (hb.mono hl.size)
  clear hl
  replace hp := hp.below hb
  replace hr := hr.below hb
  replace hm := hm.below hb
  replace hks := hks.below hb
  replace hg := hg.keep hb
  replace hb2 := hb2.keep hb
  replace hv3 := hv3.below hb
  replace hv5 := hv5.below hb
  replace BB : Below w.heap.size w w3 := BB.trans (hb.mono BB.size)
  clear hb
  clear hq
  have q00 : w3.cell? ⟨w.heap.size + 2, 0, none⟩ = some (.slice (some ⟨w.heap.size, 0, none⟩) 2 2) := hg.cell 0
  have q01 : w3.cell? ⟨w.heap.size + 2, 1, none⟩ = some (.slice (some ⟨w.heap.size + 1, 0, none⟩) 2 2) := hg.cell 1
  have z0 := hg.lt
  have q10 : w3.cell? ⟨w.heap.size + 6, 0, none⟩ = some (.slice (some ⟨w.heap.size + 5, 0, none⟩) 2 2) := hb2.cell 0
  have z1 := hb2.lt
  go_wp2_with fail
  clear q00 q01 q10 z0 z1
  have hl : Below w3.heap.size w3 w3 := Below.refl _ _
  refine (preduce_any _ [250000, 210000] _ _ hv3.wts (by decide) (by decide)).mono ?_
  rintro e w4 ⟨v6, rfl, hv6, hb⟩
  replace hb : Below w3.heap.size w3 w4 := hl.trans (hb.mono hl.size)
  clear hl
  replace hp := hp.below hb
  replace hr := hr.below hb
  replace hm := hm.below hb
  replace hks := hks.below hb
  replace hg := hg.keep hb
  replace hb2 := hb2.keep hb
  replace hv3 := hv3.below hb
  replace hv5 := hv5.below hb
  replace BB : Below w.heap.size w w4 := BB.trans (hb.mono BB.size)
  clear hb
  rw [show redL [250000, 210000] = [25, 21] by decide +kernel] at hv6
  obtain ⟨V6, vc6, vus6, rfl, _⟩ := id hv6
  have q00 : w4.cell? ⟨w.heap.size + 2, 0, none⟩ = some (.slice (some ⟨w.heap.size, 0, none⟩) 2 2) := hg.cell 0
  have q01 : w4.cell? ⟨w.heap.size + 2, 1, none⟩ = some (.slice (some ⟨w.heap.size + 1, 0, none⟩) 2 2) := hg.cell 1
  have z0 := hg.lt
  have q10 : w4.cell? ⟨w.heap.size + 6, 0, none⟩ = some (.slice (some ⟨w.heap.size + 5, 0, none⟩) 2 2) := hb2.cell 0
  have z1 := hb2.lt
  have y00 : (w4.alloc (.cells #[.int .u32 25, .int .u32 21] 69)).cell? ⟨w.heap.size + 2, 0, none⟩ = some (.slice (some ⟨w.heap.size, 0, none⟩) 2 2) := (hg.alloc _).cell 0
  have y01 : (w4.alloc (.cells #[.int .u32 25, .int .u32 21] 69)).cell? ⟨w.heap.size + 2, 1, none⟩ = some (.slice (some ⟨w.heap.size + 1, 0, none⟩) 2 2) := (hg.alloc _).cell 1
  have y10 : (w4.alloc (.cells #[.int .u32 25, .int .u32 21] 69)).cell? ⟨w.heap.size + 6, 0, none⟩ = some (.slice (some ⟨w.heap.size + 5, 0, none⟩) 2 2) := (hb2.alloc _).cell 0
  go_wp2_with fail
  clear q00 q01 q10 z0 z1
  clear y00 y01 y10
  have hl : Below w4.heap.size w4 (w4.alloc (.cells #[.int .u32 25, .int .u32 21] 69)) := lit_below _ _
  have hq : Lim (w4.alloc (.cells #[.int .u32 25, .int .u32 21] 69)) (.slice (some ⟨w4.heap.size, 0, none⟩) 2 2) [25, 21] := (lim_at [25, 21] (by simp) rfl (by decide) (allB2 (by decide) (by decide)))
  refine (is_yes _ _ [25, 21] _ _ (hv6.wts.below hl) hq (by decide)).mono ?_
  rintro e w5 ⟨rfl, hb⟩
  replace hq := hq.below hb
  replace hb : Below w4.heap.size w4 w5 := hl.trans (hb.mono hl.size)
  clear hl
  replace hp := hp.below hb
  replace hr := hr.below hb
  replace hm := hm.below hb
  replace hks := hks.below hb
  replace hg := hg.keep hb
  replace hb2 := hb2.keep hb
  replace hv3 := hv3.below hb
  replace hv5 := hv5.below hb
  replace hv6 := hv6.below hb
  replace BB : Below w.heap.size w w5 := BB.trans (hb.mono BB.size)
  clear hb
  clear hq
  clear hv6
  have q00 : w5.cell? ⟨w.heap.size + 2, 0, none⟩ = some (.slice (some ⟨w.heap.size, 0, none⟩) 2 2) := hg.cell 0
  have q01 : w5.cell? ⟨w.heap.size + 2, 1, none⟩ = some (.slice (some ⟨w.heap.size + 1, 0, none⟩) 2 2) := hg.cell 1
  have z0 := hg.lt
  have q10 : w5.cell? ⟨w.heap.size + 6, 0, none⟩ = some (.slice (some ⟨w.heap.size + 5, 0, none⟩) 2 2) := hb2.cell 0
  have z1 := hb2.lt
  have y00 : (w5.alloc (.cells #[.int .u32 1, .int .u32 1] 69)).cell? ⟨w.heap.size + 2, 0, none⟩ = some (.slice (some ⟨w.heap.size, 0, none⟩) 2 2) := (hg.alloc _).cell 0
  have y01 : (w5.alloc (.cells #[.int .u32 1, .int .u32 1] 69)).cell? ⟨w.heap.size + 2, 1, none⟩ = some (.slice (some ⟨w.heap.size + 1, 0, none⟩) 2 2) := (hg.alloc _).cell 1
  have y10 : (w5.alloc (.cells #[.int .u32 1, .int .u32 1] 69)).cell? ⟨w.heap.size + 6, 0, none⟩ = some (.slice (some ⟨w.heap.size + 5, 0, none⟩) 2 2) := (hb2.alloc _).cell 0
  go_wp2_with fail
  clear q00 q01 q10 z0 z1
  clear y00 y01 y10
  have hl : Below w5.heap.size w5 (w5.alloc (.cells #[.int .u32 1, .int .u32 1] 69)) := lit_below _ _
  have hq : Lim (w5.alloc (.cells #[.int .u32 1, .int .u32 1] 69)) (.slice (some ⟨w5.heap.size, 0, none⟩) 2 2) [1, 1] := (lim_at [1, 1] (by simp) rfl (by decide) (allB2 (by decide) (by decide)))
  refine (is_yes _ _ [1, 1] _ _ (hv5.wts.below hl) hq (by decide)).mono ?_
  rintro e w6 ⟨rfl, hb⟩
  replace hq := hq.below hb
  replace hb : Below w5.heap.size w5 w6 := hl.trans (hb.mono hl.size)
  clear hl
  replace hp := hp.below hb
  replace hr := hr.below hb
  replace hm := hm.below hb
  replace hks := hks.below hb
  replace hg := hg.keep hb
  replace hb2 := hb2.keep hb
  replace hv3 := hv3.below hb
  replace hv5 := hv5.below hb
  replace BB : Below w.heap.size w w6 := BB.trans (hb.mono BB.size)
  clear hb
  clear hq
  have q00 : w6.cell? ⟨w.heap.size + 2, 0, none⟩ = some (.slice (some ⟨w.heap.size, 0, none⟩) 2 2) := hg.cell 0
  have q01 : w6.cell? ⟨w.heap.size + 2, 1, none⟩ = some (.slice (some ⟨w.heap.size + 1, 0, none⟩) 2 2) := hg.cell 1
  have z0 := hg.lt
  have q10 : w6.cell? ⟨w.heap.size + 6, 0, none⟩ = some (.slice (some ⟨w.heap.size + 5, 0, none⟩) 2 2) := hb2.cell 0
  have z1 := hb2.lt
  have y00 : (((w6.alloc (.cells #[.int .u32 50] 69)).alloc (.cells #[.int .u32 42] 69)).alloc (.cells #[.slice (some ⟨w6.heap.size, 0, none⟩) 1 1, .slice (some ⟨w6.heap.size + 1, 0, none⟩) 1 1] 50)).cell? ⟨w.heap.size + 2, 0, none⟩ = some (.slice (some ⟨w.heap.size, 0, none⟩) 2 2) := (((hg.alloc _).alloc _).alloc _).cell 0
  have y01 : (((w6.alloc (.cells #[.int .u32 50] 69)).alloc (.cells #[.int .u32 42] 69)).alloc (.cells #[.slice (some ⟨w6.heap.size, 0, none⟩) 1 1, .slice (some ⟨w6.heap.size + 1, 0, none⟩) 1 1] 50)).cell? ⟨w.heap.size + 2, 1, none⟩ = some (.slice (some ⟨w.heap.size + 1, 0, none⟩) 2 2) := (((hg.alloc _).alloc _).alloc _).cell 1
  have y10 : (((w6.alloc (.cells #[.int .u32 50] 69)).alloc (.cells #[.int .u32 42] 69)).alloc (.cells #[.slice (some ⟨w6.heap.size, 0, none⟩) 1 1, .slice (some ⟨w6.heap.size + 1, 0, none⟩) 1 1] 50)).cell? ⟨w.heap.size + 6, 0, none⟩ = some (.slice (some ⟨w.heap.size + 5, 0, none⟩) 2 2) := (((hb2.alloc _).alloc _).alloc _).cell 0
  go_wp2_with fail
  clear q00 q01 q10 z0 z1
  clear y00 y01 y10
  have hl : Below w6.heap.size w6 (((w6.alloc (.cells #[.int .u32 50] 69)).alloc (.cells #[.int .u32 42] 69)).alloc (.cells #[.slice (some ⟨w6.heap.size, 0, none⟩) 1 1, .slice (some ⟨w6.heap.size + 1, 0, none⟩) 1 1] 50)) := lit_more (lit_more (lit_below _ _) _) _
  have hq : Wts (((w6.alloc (.cells #[.int .u32 50] 69)).alloc (.cells #[.int .u32 42] 69)).alloc (.cells #[.slice (some ⟨w6.heap.size, 0, none⟩) 1 1, .slice (some ⟨w6.heap.size + 1, 0, none⟩) 1 1] 50)) (.slice (some ⟨w6.heap.size + 2, 0, none⟩) 2 2) [50, 42] 1 := lst_lit2 (row_at (by simp)) (any_lim (lim_alloc (lim_alloc (lim_at [50] (by simp) rfl (by decide) (allB1 (by decide))) _) _)) (any_lim (lim_alloc (lim_at [42] (by simp) rfl (by decide) (allB1 (by decide))) _))
  refine (psame_any _ _ [250000, 210000] [50, 42] _ 1 _ (hv3.wts.below hl) hq (by decide) (by decide)).mono ?_
  rintro e w7 ⟨rfl, hb⟩
  replace hq := hq.below hb
  replace hb : Below w6.heap.size w6 w7 := hl.trans (hb.mono hl.size)
  clear hl
  replace hp := hp.below hb
  replace hr := hr.below hb
  replace hm := hm.below hb
  replace hks := hks.below hb
  replace hg := hg.keep hb
  replace hb2 := hb2.keep hb
  replace hv3 := hv3.below hb
  replace hv5 := hv5.below hb
  replace BB : Below w.heap.size w w7 := BB.trans (hb.mono BB.size)
  clear hb
  clear hq
  rw [show sameL [250000, 210000] [50, 42] = true by decide +kernel]
  have q00 : w7.cell? ⟨w.heap.size + 2, 0, none⟩ = some (.slice (some ⟨w.heap.size, 0, none⟩) 2 2) := hg.cell 0
  have q01 : w7.cell? ⟨w.heap.size + 2, 1, none⟩ = some (.slice (some ⟨w.heap.size + 1, 0, none⟩) 2 2) := hg.cell 1
  have z0 := hg.lt
  have q10 : w7.cell? ⟨w.heap.size + 6, 0, none⟩ = some (.slice (some ⟨w.heap.size + 5, 0, none⟩) 2 2) := hb2.cell 0
  have z1 := hb2.lt
  go_wp2_with fail
  clear q00 q01 q10 z0 z1
  have hl : Below w7.heap.size w7 w7 := Below.refl _ _
  refine (psame_any _ _ [250000, 210000] [1, 1] _ _ _ hv3.wts hv5.wts (by decide) (by decide)).mono ?_
  rintro e w8 ⟨rfl, hb⟩
  replace hb : Below w7.heap.size w7 w8 := hl.trans (hb.mono hl.size)
  clear hl
  replace hp := hp.below hb
  replace hr := hr.below hb
  replace hm := hm.below hb
  replace hks := hks.below hb
  replace hg := hg.keep hb
  replace hb2 := hb2.keep hb
  replace hv3 := hv3.below hb
  replace hv5 := hv5.below hb
  replace BB : Below w.heap.size w w8 := BB.trans (hb.mono BB.size)
  clear hb
  rw [show sameL [250000, 210000] [1, 1] = false by decide +kernel]
  clear hv3
  have q00 : w8.cell? ⟨w.heap.size + 2, 0, none⟩ = some (.slice (some ⟨w.heap.size, 0, none⟩) 2 2) := hg.cell 0
  have q01 : w8.cell? ⟨w.heap.size + 2, 1, none⟩ = some (.slice (some ⟨w.heap.size + 1, 0, none⟩) 2 2) := hg.cell 1
  have z0 := hg.lt
  have q10 : w8.cell? ⟨w.heap.size + 6, 0, none⟩ = some (.slice (some ⟨w.heap.size + 5, 0, none⟩) 2 2) := hb2.cell 0
  have z1 := hb2.lt
  have y00 : (((w8.alloc (.cells #[.int .u32 1] 69)).alloc (.cells #[.int .u32 2] 69)).alloc (.cells #[.slice (some ⟨w8.heap.size, 0, none⟩) 1 1, .slice (some ⟨w8.heap.size + 1, 0, none⟩) 1 1] 50)).cell? ⟨w.heap.size + 2, 0, none⟩ = some (.slice (some ⟨w.heap.size, 0, none⟩) 2 2) := (((hg.alloc _).alloc _).alloc _).cell 0
  have y01 : (((w8.alloc (.cells #[.int .u32 1] 69)).alloc (.cells #[.int .u32 2] 69)).alloc (.cells #[.slice (some ⟨w8.heap.size, 0, none⟩) 1 1, .slice (some ⟨w8.heap.size + 1, 0, none⟩) 1 1] 50)).cell? ⟨w.heap.size + 2, 1, none⟩ = some (.slice (some ⟨w.heap.size + 1, 0, none⟩) 2 2) := (((hg.alloc _).alloc _).alloc _).cell 1
  have y10 : (((w8.alloc (.cells #[.int .u32 1] 69)).alloc (.cells #[.int .u32 2] 69)).alloc (.cells #[.slice (some ⟨w8.heap.size, 0, none⟩) 1 1, .slice (some ⟨w8.heap.size + 1, 0, none⟩) 1 1] 50)).cell? ⟨w.heap.size + 6, 0, none⟩ = some (.slice (some ⟨w.heap.size + 5, 0, none⟩) 2 2) := (((hb2.alloc _).alloc _).alloc _).cell 0
  go_wp2_with fail
  clear q00 q01 q10 z0 z1
  clear y00 y01 y10
  have hl : Below w8.heap.size w8 (((w8.alloc (.cells #[.int .u32 1] 69)).alloc (.cells #[.int .u32 2] 69)).alloc (.cells #[.slice (some ⟨w8.heap.size, 0, none⟩) 1 1, .slice (some ⟨w8.heap.size + 1, 0, none⟩) 1 1] 50)) := lit_more (lit_more (lit_below _ _) _) _
  have hq : Wts (((w8.alloc (.cells #[.int .u32 1] 69)).alloc (.cells #[.int .u32 2] 69)).alloc (.cells #[.slice (some ⟨w8.heap.size, 0, none⟩) 1 1, .slice (some ⟨w8.heap.size + 1, 0, none⟩) 1 1] 50)) (.slice (some ⟨w8.heap.size + 2, 0, none⟩) 2 2) [1, 2] 1 := lst_lit2 (row_at (by simp)) (any_lim (lim_alloc (lim_alloc (lim_at [1] (by simp) rfl (by decide) (allB1 (by decide))) _) _)) (any_lim (lim_alloc (lim_at [2] (by simp) rfl (by decide) (allB1 (by decide))) _))
  refine (update_yes _ _ [1, 2] 1 [[500, 500], [300, 700]] 1 _ hq (hm.below hl) (by decide) (by decide +kernel)).mono ?_
  rintro e w9 ⟨v7, rfl, hv7, _, hb⟩
  replace hq := hq.below hb
  replace hb : Below w8.heap.size w8 w9 := hl.trans (hb.mono hl.size)
  clear hl
  replace hp := hp.below hb
  replace hr := hr.below hb
  replace hm := hm.below hb
  replace hks := hks.below hb
  replace hg := hg.keep hb
  replace hb2 := hb2.keep hb
  replace hv5 := hv5.below hb
  replace BB : Below w.heap.size w w9 := BB.trans (hb.mono BB.size)
  clear hb
  clear hq
  rw [show updF [[500, 500], [300, 700]] 1 [1, 2] = [500, 1400] by decide +kernel] at hv7
  obtain ⟨V7, vc7, vus7, rfl, _⟩ := id hv7
  have q00 : w9.cell? ⟨w.heap.size + 2, 0, none⟩ = some (.slice (some ⟨w.heap.size, 0, none⟩) 2 2) := hg.cell 0
  have q01 : w9.cell? ⟨w.heap.size + 2, 1, none⟩ = some (.slice (some ⟨w.heap.size + 1, 0, none⟩) 2 2) := hg.cell 1
  have z0 := hg.lt
  have q10 : w9.cell? ⟨w.heap.size + 6, 0, none⟩ = some (.slice (some ⟨w.heap.size + 5, 0, none⟩) 2 2) := hb2.cell 0
  have z1 := hb2.lt
  have y00 : (((w9.alloc (.cells #[.int .u32 1] 69)).alloc (.cells #[.int .u32 1] 69)).alloc (.cells #[.slice (some ⟨w9.heap.size, 0, none⟩) 1 1, .slice (some ⟨w9.heap.size + 1, 0, none⟩) 1 1] 50)).cell? ⟨w.heap.size + 2, 0, none⟩ = some (.slice (some ⟨w.heap.size, 0, none⟩) 2 2) := (((hg.alloc _).alloc _).alloc _).cell 0
  have y01 : (((w9.alloc (.cells #[.int .u32 1] 69)).alloc (.cells #[.int .u32 1] 69)).alloc (.cells #[.slice (some ⟨w9.heap.size, 0, none⟩) 1 1, .slice (some ⟨w9.heap.size + 1, 0, none⟩) 1 1] 50)).cell? ⟨w.heap.size + 2, 1, none⟩ = some (.slice (some ⟨w.heap.size + 1, 0, none⟩) 2 2) := (((hg.alloc _).alloc _).alloc _).cell 1
  have y10 : (((w9.alloc (.cells #[.int .u32 1] 69)).alloc (.cells #[.int .u32 1] 69)).alloc (.cells #[.slice (some ⟨w9.heap.size, 0, none⟩) 1 1, .slice (some ⟨w9.heap.size + 1, 0, none⟩) 1 1] 50)).cell? ⟨w.heap.size + 6, 0, none⟩ = some (.slice (some ⟨w.heap.size + 5, 0, none⟩) 2 2) := (((hb2.alloc _).alloc _).alloc _).cell 0
  go_wp2_with fail
  clear q00 q01 q10 z0 z1
  clear y00 y01 y10
  have hl : Below w9.heap.size w9 (((w9.alloc (.cells #[.int .u32 1] 69)).alloc (.cells #[.int .u32 1] 69)).alloc (.cells #[.slice (some ⟨w9.heap.size, 0, none⟩) 1 1, .slice (some ⟨w9.heap.size + 1, 0, none⟩) 1 1] 50)) := lit_more (lit_more (lit_below _ _) _) _
  have hq : Wts (((w9.alloc (.cells #[.int .u32 1] 69)).alloc (.cells #[.int .u32 1] 69)).alloc (.cells #[.slice (some ⟨w9.heap.size, 0, none⟩) 1 1, .slice (some ⟨w9.heap.size + 1, 0, none⟩) 1 1] 50)) (.slice (some ⟨w9.heap.size + 2, 0, none⟩) 2 2) [1, 1] 1 := lst_lit2 (row_at (by simp)) (any_lim (lim_alloc (lim_alloc (lim_at [1] (by simp) rfl (by decide) (allB1 (by decide))) _) _)) (any_lim (lim_alloc (lim_at [1] (by simp) rfl (by decide) (allB1 (by decide))) _))
  refine (predict_yes _ _ [1, 1] 1 [[500, 500], [300, 700]] _ hq (hm.below hl) (by decide) (by decide +kernel)).mono ?_
  rintro e w10 ⟨gp, usp, rfl, hgp, hcp, hb⟩
  replace hq := hq.below hb
  replace hb : Below w9.heap.size w9 w10 := hl.trans (hb.mono hl.size)
  clear hl
  replace hp := hp.below hb
  replace hr := hr.below hb
  replace hm := hm.below hb
  replace hks := hks.below hb
  replace hg := hg.keep hb
  replace hb2 := hb2.keep hb
  replace hv5 := hv5.below hb
  replace hv7 := hv7.below hb
  replace BB : Below w.heap.size w w10 := BB.trans (hb.mono BB.size)
  clear hb
  clear hq
  rw [show catsOf [[500, 500], [300, 700]] = 2 by decide +kernel] at hcp ⊢
  rw [show predL [1, 1] [[500, 500], [300, 700]] 2 = [(2, 5), (3, 5)] by decide +kernel] at hcp
  obtain ⟨hlenp, hrcp⟩ := hcp
  obtain ⟨uap, ubp, rfl⟩ : ∃ a b, usp = [a, b] := by
    match usp, hlenp with
    | [a, b], _ => exact ⟨a, b, rfl⟩
  have rap := hrcp 0 uap rfl
  have rbp := hrcp 1 ubp rfl
  clear hrcp hlenp
  obtain ⟨a0p, a1p, a2p⟩ := uap
  obtain ⟨b0p, b1p, b2p⟩ := ubp
  have q00 : w10.cell? ⟨w.heap.size + 2, 0, none⟩ = some (.slice (some ⟨w.heap.size, 0, none⟩) 2 2) := hg.cell 0
  have q01 : w10.cell? ⟨w.heap.size + 2, 1, none⟩ = some (.slice (some ⟨w.heap.size + 1, 0, none⟩) 2 2) := hg.cell 1
  have z0 := hg.lt
  have q10 : w10.cell? ⟨w.heap.size + 6, 0, none⟩ = some (.slice (some ⟨w.heap.size + 5, 0, none⟩) 2 2) := hb2.cell 0
  have z1 := hb2.lt
  have q20 : w10.cell? ⟨gp, 0, none⟩ = some (a0p) := hgp.cell 0
  have q21 : w10.cell? ⟨gp, 1, none⟩ = some (a1p) := hgp.cell 1
  have q22 : w10.cell? ⟨gp, 2, none⟩ = some (a2p) := hgp.cell 2
  have q23 : w10.cell? ⟨gp, 3, none⟩ = some (b0p) := hgp.cell 3
  have q24 : w10.cell? ⟨gp, 4, none⟩ = some (b1p) := hgp.cell 4
  have q25 : w10.cell? ⟨gp, 5, none⟩ = some (b2p) := hgp.cell 5
  have z2 := hgp.lt
  have y00 : (((w10.alloc (.cells #[.int .u32 25] 69)).alloc (.cells #[.int .u32 21] 69)).alloc (.cells #[.slice (some ⟨w10.heap.size, 0, none⟩) 1 1, .slice (some ⟨w10.heap.size + 1, 0, none⟩) 1 1] 50)).cell? ⟨w.heap.size + 2, 0, none⟩ = some (.slice (some ⟨w.heap.size, 0, none⟩) 2 2) := (((hg.alloc _).alloc _).alloc _).cell 0
  have y01 : (((w10.alloc (.cells #[.int .u32 25] 69)).alloc (.cells #[.int .u32 21] 69)).alloc (.cells #[.slice (some ⟨w10.heap.size, 0, none⟩) 1 1, .slice (some ⟨w10.heap.size + 1, 0, none⟩) 1 1] 50)).cell? ⟨w.heap.size + 2, 1, none⟩ = some (.slice (some ⟨w.heap.size + 1, 0, none⟩) 2 2) := (((hg.alloc _).alloc _).alloc _).cell 1
  have y10 : (((w10.alloc (.cells #[.int .u32 25] 69)).alloc (.cells #[.int .u32 21] 69)).alloc (.cells #[.slice (some ⟨w10.heap.size, 0, none⟩) 1 1, .slice (some ⟨w10.heap.size + 1, 0, none⟩) 1 1] 50)).cell? ⟨w.heap.size + 6, 0, none⟩ = some (.slice (some ⟨w.heap.size + 5, 0, none⟩) 2 2) := (((hb2.alloc _).alloc _).alloc _).cell 0
  have y20 : (((w10.alloc (.cells #[.int .u32 25] 69)).alloc (.cells #[.int .u32 21] 69)).alloc (.cells #[.slice (some ⟨w10.heap.size, 0, none⟩) 1 1, .slice (some ⟨w10.heap.size + 1, 0, none⟩) 1 1] 50)).cell? ⟨gp, 0, none⟩ = some (a0p) := (((hgp.alloc _).alloc _).alloc _).cell 0
  have y21 : (((w10.alloc (.cells #[.int .u32 25] 69)).alloc (.cells #[.int .u32 21] 69)).alloc (.cells #[.slice (some ⟨w10.heap.size, 0, none⟩) 1 1, .slice (some ⟨w10.heap.size + 1, 0, none⟩) 1 1] 50)).cell? ⟨gp, 1, none⟩ = some (a1p) := (((hgp.alloc _).alloc _).alloc _).cell 1
  have y22 : (((w10.alloc (.cells #[.int .u32 25] 69)).alloc (.cells #[.int .u32 21] 69)).alloc (.cells #[.slice (some ⟨w10.heap.size, 0, none⟩) 1 1, .slice (some ⟨w10.heap.size + 1, 0, none⟩) 1 1] 50)).cell? ⟨gp, 2, none⟩ = some (a2p) := (((hgp.alloc _).alloc _).alloc _).cell 2
  have y23 : (((w10.alloc (.cells #[.int .u32 25] 69)).alloc (.cells #[.int .u32 21] 69)).alloc (.cells #[.slice (some ⟨w10.heap.size, 0, none⟩) 1 1, .slice (some ⟨w10.heap.size + 1, 0, none⟩) 1 1] 50)).cell? ⟨gp, 3, none⟩ = some (b0p) := (((hgp.alloc _).alloc _).alloc _).cell 3
  have y24 : (((w10.alloc (.cells #[.int .u32 25] 69)).alloc (.cells #[.int .u32 21] 69)).alloc (.cells #[.slice (some ⟨w10.heap.size, 0, none⟩) 1 1, .slice (some ⟨w10.heap.size + 1, 0, none⟩) 1 1] 50)).cell? ⟨gp, 4, none⟩ = some (b1p) := (((hgp.alloc _).alloc _).alloc _).cell 4
  have y25 : (((w10.alloc (.cells #[.int .u32 25] 69)).alloc (.cells #[.int .u32 21] 69)).alloc (.cells #[.slice (some ⟨w10.heap.size, 0, none⟩) 1 1, .slice (some ⟨w10.heap.size + 1, 0, none⟩) 1 1] 50)).cell? ⟨gp, 5, none⟩ = some (b2p) := (((hgp.alloc _).alloc _).alloc _).cell 5
  go_wp2_with fail
  clear q00 q01 q10 q20 q21 q22 q23 q24 q25 z0 z1 z2
  clear y00 y01 y10 y20 y21 y22 y23 y24 y25
  have hl : Below w10.heap.size w10 (((w10.alloc (.cells #[.int .u32 25] 69)).alloc (.cells #[.int .u32 21] 69)).alloc (.cells #[.slice (some ⟨w10.heap.size, 0, none⟩) 1 1, .slice (some ⟨w10.heap.size + 1, 0, none⟩) 1 1] 50)) := lit_more (lit_more (lit_below _ _) _) _
  have hq : Wts (((w10.alloc (.cells #[.int .u32 25] 69)).alloc (.cells #[.int .u32 21] 69)).alloc (.cells #[.slice (some ⟨w10.heap.size, 0, none⟩) 1 1, .slice (some ⟨w10.heap.size + 1, 0, none⟩) 1 1] 50)) (.slice (some ⟨w10.heap.size + 2, 0, none⟩) 2 2) [25, 21] 1 := lst_lit2 (row_at (by simp)) (any_lim (lim_alloc (lim_alloc (lim_at [25] (by simp) rfl (by decide) (allB1 (by decide))) _) _)) (any_lim (lim_alloc (lim_at [21] (by simp) rfl (by decide) (allB1 (by decide))) _))
  refine (share_yes _ [25, 21] 1 _ hq (by decide) (by decide +kernel)).mono ?_
  rintro e w11 ⟨gq, usq, rfl, hgq, hcq, hb⟩
  replace hq := hq.below hb
  replace hb : Below w10.heap.size w10 w11 := hl.trans (hb.mono hl.size)
  clear hl
  replace hp := hp.below hb
  replace hr := hr.below hb
  replace hm := hm.below hb
  replace hks := hks.below hb
  replace hg := hg.keep hb
  replace hb2 := hb2.keep hb
  replace hv5 := hv5.below hb
  replace hv7 := hv7.below hb
  replace hgp := hgp.keep hb
  replace rap := rap.below hb
  replace rbp := rbp.below hb
  replace BB : Below w.heap.size w w11 := BB.trans (hb.mono BB.size)
  clear hb
  clear hq
  rw [show shareL [25, 21] = [(25, 46), (21, 46)] by decide +kernel] at hcq
  have hcq : RatC _ usq [(25, 46), (21, 46)] 2 _ _ := hcq
  obtain ⟨hlenq, hrcq⟩ := hcq
  obtain ⟨uaq, ubq, rfl⟩ : ∃ a b, usq = [a, b] := by
    match usq, hlenq with
    | [a, b], _ => exact ⟨a, b, rfl⟩
  have raq := hrcq 0 uaq rfl
  have rbq := hrcq 1 ubq rfl
  clear hrcq hlenq
  obtain ⟨a0q, a1q, a2q⟩ := uaq
  obtain ⟨b0q, b1q, b2q⟩ := ubq
  have q00 : w11.cell? ⟨w.heap.size + 2, 0, none⟩ = some (.slice (some ⟨w.heap.size, 0, none⟩) 2 2) := hg.cell 0
  have q01 : w11.cell? ⟨w.heap.size + 2, 1, none⟩ = some (.slice (some ⟨w.heap.size + 1, 0, none⟩) 2 2) := hg.cell 1
  have z0 := hg.lt
  have q10 : w11.cell? ⟨w.heap.size + 6, 0, none⟩ = some (.slice (some ⟨w.heap.size + 5, 0, none⟩) 2 2) := hb2.cell 0
  have z1 := hb2.lt
  have q20 : w11.cell? ⟨gp, 0, none⟩ = some (a0p) := hgp.cell 0
  have q21 : w11.cell? ⟨gp, 1, none⟩ = some (a1p) := hgp.cell 1
  have q22 : w11.cell? ⟨gp, 2, none⟩ = some (a2p) := hgp.cell 2
  have q23 : w11.cell? ⟨gp, 3, none⟩ = some (b0p) := hgp.cell 3
  have q24 : w11.cell? ⟨gp, 4, none⟩ = some (b1p) := hgp.cell 4
  have q25 : w11.cell? ⟨gp, 5, none⟩ = some (b2p) := hgp.cell 5
  have z2 := hgp.lt
  have q30 : w11.cell? ⟨gq, 0, none⟩ = some (a0q) := hgq.cell 0
  have q31 : w11.cell? ⟨gq, 1, none⟩ = some (a1q) := hgq.cell 1
  have q32 : w11.cell? ⟨gq, 2, none⟩ = some (a2q) := hgq.cell 2
  have q33 : w11.cell? ⟨gq, 3, none⟩ = some (b0q) := hgq.cell 3
  have q34 : w11.cell? ⟨gq, 4, none⟩ = some (b1q) := hgq.cell 4
  have q35 : w11.cell? ⟨gq, 5, none⟩ = some (b2q) := hgq.cell 5
  have z3 := hgq.lt
  have y00 : (w11.alloc (.cells #[.int .u32 500, .int .u32 1400] 69)).cell? ⟨w.heap.size + 2, 0, none⟩ = some (.slice (some ⟨w.heap.size, 0, none⟩) 2 2) := (hg.alloc _).cell 0
  have y01 : (w11.alloc (.cells #[.int .u32 500, .int .u32 1400] 69)).cell? ⟨w.heap.size + 2, 1, none⟩ = some (.slice (some ⟨w.heap.size + 1, 0, none⟩) 2 2) := (hg.alloc _).cell 1
  have y10 : (w11.alloc (.cells #[.int .u32 500, .int .u32 1400] 69)).cell? ⟨w.heap.size + 6, 0, none⟩ = some (.slice (some ⟨w.heap.size + 5, 0, none⟩) 2 2) := (hb2.alloc _).cell 0
  have y20 : (w11.alloc (.cells #[.int .u32 500, .int .u32 1400] 69)).cell? ⟨gp, 0, none⟩ = some (a0p) := (hgp.alloc _).cell 0
  have y21 : (w11.alloc (.cells #[.int .u32 500, .int .u32 1400] 69)).cell? ⟨gp, 1, none⟩ = some (a1p) := (hgp.alloc _).cell 1
  have y22 : (w11.alloc (.cells #[.int .u32 500, .int .u32 1400] 69)).cell? ⟨gp, 2, none⟩ = some (a2p) := (hgp.alloc _).cell 2
  have y23 : (w11.alloc (.cells #[.int .u32 500, .int .u32 1400] 69)).cell? ⟨gp, 3, none⟩ = some (b0p) := (hgp.alloc _).cell 3
  have y24 : (w11.alloc (.cells #[.int .u32 500, .int .u32 1400] 69)).cell? ⟨gp, 4, none⟩ = some (b1p) := (hgp.alloc _).cell 4
  have y25 : (w11.alloc (.cells #[.int .u32 500, .int .u32 1400] 69)).cell? ⟨gp, 5, none⟩ = some (b2p) := (hgp.alloc _).cell 5
  have y30 : (w11.alloc (.cells #[.int .u32 500, .int .u32 1400] 69)).cell? ⟨gq, 0, none⟩ = some (a0q) := (hgq.alloc _).cell 0
  have y31 : (w11.alloc (.cells #[.int .u32 500, .int .u32 1400] 69)).cell? ⟨gq, 1, none⟩ = some (a1q) := (hgq.alloc _).cell 1
  have y32 : (w11.alloc (.cells #[.int .u32 500, .int .u32 1400] 69)).cell? ⟨gq, 2, none⟩ = some (a2q) := (hgq.alloc _).cell 2
  have y33 : (w11.alloc (.cells #[.int .u32 500, .int .u32 1400] 69)).cell? ⟨gq, 3, none⟩ = some (b0q) := (hgq.alloc _).cell 3
  have y34 : (w11.alloc (.cells #[.int .u32 500, .int .u32 1400] 69)).cell? ⟨gq, 4, none⟩ = some (b1q) := (hgq.alloc _).cell 4
  have y35 : (w11.alloc (.cells #[.int .u32 500, .int .u32 1400] 69)).cell? ⟨gq, 5, none⟩ = some (b2q) := (hgq.alloc _).cell 5
  go_wp2_with fail
  clear q00 q01 q10 q20 q21 q22 q23 q24 q25 q30 q31 q32 q33 q34 q35 z0 z1 z2 z3
  clear y00 y01 y10 y20 y21 y22 y23 y24 y25 y30 y31 y32 y33 y34 y35
  have hl : Below w11.heap.size w11 (w11.alloc (.cells #[.int .u32 500, .int .u32 1400] 69)) := lit_below _ _
  have hq : Lim (w11.alloc (.cells #[.int .u32 500, .int .u32 1400] 69)) (.slice (some ⟨w11.heap.size, 0, none⟩) 2 2) [500, 1400] := (lim_at [500, 1400] (by simp) rfl (by decide) (allB2 (by decide) (by decide)))
  refine (is_yes _ _ [500, 1400] _ _ (hv7.wts.below hl) hq (by decide)).mono ?_
  rintro e w12 ⟨rfl, hb⟩
  replace hq := hq.below hb
  replace hb : Below w11.heap.size w11 w12 := hl.trans (hb.mono hl.size)
  clear hl
  replace hp := hp.below hb
  replace hr := hr.below hb
  replace hm := hm.below hb
  replace hks := hks.below hb
  replace hg := hg.keep hb
  replace hb2 := hb2.keep hb
  replace hv5 := hv5.below hb
  replace hv7 := hv7.below hb
  replace hgp := hgp.keep hb
  replace rap := rap.below hb
  replace rbp := rbp.below hb
  replace hgq := hgq.keep hb
  replace raq := raq.below hb
  replace rbq := rbq.below hb
  replace BB : Below w.heap.size w w12 := BB.trans (hb.mono BB.size)
  clear hb
  clear hq
  clear hv7
  have q00 : w12.cell? ⟨w.heap.size + 2, 0, none⟩ = some (.slice (some ⟨w.heap.size, 0, none⟩) 2 2) := hg.cell 0
  have q01 : w12.cell? ⟨w.heap.size + 2, 1, none⟩ = some (.slice (some ⟨w.heap.size + 1, 0, none⟩) 2 2) := hg.cell 1
  have z0 := hg.lt
  have q10 : w12.cell? ⟨w.heap.size + 6, 0, none⟩ = some (.slice (some ⟨w.heap.size + 5, 0, none⟩) 2 2) := hb2.cell 0
  have z1 := hb2.lt
  have q20 : w12.cell? ⟨gp, 0, none⟩ = some (a0p) := hgp.cell 0
  have q21 : w12.cell? ⟨gp, 1, none⟩ = some (a1p) := hgp.cell 1
  have q22 : w12.cell? ⟨gp, 2, none⟩ = some (a2p) := hgp.cell 2
  have q23 : w12.cell? ⟨gp, 3, none⟩ = some (b0p) := hgp.cell 3
  have q24 : w12.cell? ⟨gp, 4, none⟩ = some (b1p) := hgp.cell 4
  have q25 : w12.cell? ⟨gp, 5, none⟩ = some (b2p) := hgp.cell 5
  have z2 := hgp.lt
  have q30 : w12.cell? ⟨gq, 0, none⟩ = some (a0q) := hgq.cell 0
  have q31 : w12.cell? ⟨gq, 1, none⟩ = some (a1q) := hgq.cell 1
  have q32 : w12.cell? ⟨gq, 2, none⟩ = some (a2q) := hgq.cell 2
  have q33 : w12.cell? ⟨gq, 3, none⟩ = some (b0q) := hgq.cell 3
  have q34 : w12.cell? ⟨gq, 4, none⟩ = some (b1q) := hgq.cell 4
  have q35 : w12.cell? ⟨gq, 5, none⟩ = some (b2q) := hgq.cell 5
  have z3 := hgq.lt
  go_wp2_with fail
  clear q00 q01 q10 q20 q21 q22 q23 q24 q25 q30 q31 q32 q33 q34 q35 z0 z1 z2 z3
  have hl : Below w12.heap.size w12 w12 := Below.refl _ _
  refine (qprint_any _ 2 5 2 5 100 _ ((rap.ratA (by decide)).mono (by decide)) (by decide) (by decide) (by decide +kernel) (by decide +kernel) (by decide) (by decide) (by decide)).mono ?_
  rintro e w13 ⟨rfl, hb⟩
  replace hb : Below w12.heap.size w12 w13 := hl.trans (hb.mono hl.size)
  clear hl
  replace hp := hp.below hb
  replace hr := hr.below hb
  replace hm := hm.below hb
  replace hks := hks.below hb
  replace hg := hg.keep hb
  replace hb2 := hb2.keep hb
  replace hv5 := hv5.below hb
  replace hgp := hgp.keep hb
  replace rap := rap.below hb
  replace rbp := rbp.below hb
  replace hgq := hgq.keep hb
  replace raq := raq.below hb
  replace rbq := rbq.below hb
  replace BB : Below w.heap.size w w13 := BB.trans (hb.mono BB.size)
  clear hb
  rw [show fracText 2 5 = [50, 47, 53] by decide +kernel]
  have q00 : w13.cell? ⟨w.heap.size + 2, 0, none⟩ = some (.slice (some ⟨w.heap.size, 0, none⟩) 2 2) := hg.cell 0
  have q01 : w13.cell? ⟨w.heap.size + 2, 1, none⟩ = some (.slice (some ⟨w.heap.size + 1, 0, none⟩) 2 2) := hg.cell 1
  have z0 := hg.lt
  have q10 : w13.cell? ⟨w.heap.size + 6, 0, none⟩ = some (.slice (some ⟨w.heap.size + 5, 0, none⟩) 2 2) := hb2.cell 0
  have z1 := hb2.lt
  have q20 : w13.cell? ⟨gp, 0, none⟩ = some (a0p) := hgp.cell 0
  have q21 : w13.cell? ⟨gp, 1, none⟩ = some (a1p) := hgp.cell 1
  have q22 : w13.cell? ⟨gp, 2, none⟩ = some (a2p) := hgp.cell 2
  have q23 : w13.cell? ⟨gp, 3, none⟩ = some (b0p) := hgp.cell 3
  have q24 : w13.cell? ⟨gp, 4, none⟩ = some (b1p) := hgp.cell 4
  have q25 : w13.cell? ⟨gp, 5, none⟩ = some (b2p) := hgp.cell 5
  have z2 := hgp.lt
  have q30 : w13.cell? ⟨gq, 0, none⟩ = some (a0q) := hgq.cell 0
  have q31 : w13.cell? ⟨gq, 1, none⟩ = some (a1q) := hgq.cell 1
  have q32 : w13.cell? ⟨gq, 2, none⟩ = some (a2q) := hgq.cell 2
  have q33 : w13.cell? ⟨gq, 3, none⟩ = some (b0q) := hgq.cell 3
  have q34 : w13.cell? ⟨gq, 4, none⟩ = some (b1q) := hgq.cell 4
  have q35 : w13.cell? ⟨gq, 5, none⟩ = some (b2q) := hgq.cell 5
  have z3 := hgq.lt
  go_wp2_with fail
  clear q00 q01 q10 q20 q21 q22 q23 q24 q25 q30 q31 q32 q33 q34 q35 z0 z1 z2 z3
  have hl : Below w13.heap.size w13 w13 := Below.refl _ _
  refine (qprint_any _ 3 5 3 5 100 _ ((rbp.ratA (by decide)).mono (by decide)) (by decide) (by decide) (by decide +kernel) (by decide +kernel) (by decide) (by decide) (by decide)).mono ?_
  rintro e w14 ⟨rfl, hb⟩
  replace hb : Below w13.heap.size w13 w14 := hl.trans (hb.mono hl.size)
  clear hl
  replace hp := hp.below hb
  replace hr := hr.below hb
  replace hm := hm.below hb
  replace hks := hks.below hb
  replace hg := hg.keep hb
  replace hb2 := hb2.keep hb
  replace hv5 := hv5.below hb
  replace hgp := hgp.keep hb
  replace rap := rap.below hb
  replace rbp := rbp.below hb
  replace hgq := hgq.keep hb
  replace raq := raq.below hb
  replace rbq := rbq.below hb
  replace BB : Below w.heap.size w w14 := BB.trans (hb.mono BB.size)
  clear hb
  rw [show fracText 3 5 = [51, 47, 53] by decide +kernel]
  have q00 : w14.cell? ⟨w.heap.size + 2, 0, none⟩ = some (.slice (some ⟨w.heap.size, 0, none⟩) 2 2) := hg.cell 0
  have q01 : w14.cell? ⟨w.heap.size + 2, 1, none⟩ = some (.slice (some ⟨w.heap.size + 1, 0, none⟩) 2 2) := hg.cell 1
  have z0 := hg.lt
  have q10 : w14.cell? ⟨w.heap.size + 6, 0, none⟩ = some (.slice (some ⟨w.heap.size + 5, 0, none⟩) 2 2) := hb2.cell 0
  have z1 := hb2.lt
  have q20 : w14.cell? ⟨gp, 0, none⟩ = some (a0p) := hgp.cell 0
  have q21 : w14.cell? ⟨gp, 1, none⟩ = some (a1p) := hgp.cell 1
  have q22 : w14.cell? ⟨gp, 2, none⟩ = some (a2p) := hgp.cell 2
  have q23 : w14.cell? ⟨gp, 3, none⟩ = some (b0p) := hgp.cell 3
  have q24 : w14.cell? ⟨gp, 4, none⟩ = some (b1p) := hgp.cell 4
  have q25 : w14.cell? ⟨gp, 5, none⟩ = some (b2p) := hgp.cell 5
  have z2 := hgp.lt
  have q30 : w14.cell? ⟨gq, 0, none⟩ = some (a0q) := hgq.cell 0
  have q31 : w14.cell? ⟨gq, 1, none⟩ = some (a1q) := hgq.cell 1
  have q32 : w14.cell? ⟨gq, 2, none⟩ = some (a2q) := hgq.cell 2
  have q33 : w14.cell? ⟨gq, 3, none⟩ = some (b0q) := hgq.cell 3
  have q34 : w14.cell? ⟨gq, 4, none⟩ = some (b1q) := hgq.cell 4
  have q35 : w14.cell? ⟨gq, 5, none⟩ = some (b2q) := hgq.cell 5
  have z3 := hgq.lt
  go_wp2_with fail
  clear q00 q01 q10 q20 q21 q22 q23 q24 q25 q30 q31 q32 q33 q34 q35 z0 z1 z2 z3
  have hl : Below w14.heap.size w14 w14 := Below.refl _ _
  refine (qprint_any _ 25 46 25 46 100 _ ((raq.ratA (by decide)).mono (by decide)) (by decide) (by decide) (by decide +kernel) (by decide +kernel) (by decide) (by decide) (by decide)).mono ?_
  rintro e w15 ⟨rfl, hb⟩
  replace hb : Below w14.heap.size w14 w15 := hl.trans (hb.mono hl.size)
  clear hl
  replace hp := hp.below hb
  replace hr := hr.below hb
  replace hm := hm.below hb
  replace hks := hks.below hb
  replace hg := hg.keep hb
  replace hb2 := hb2.keep hb
  replace hv5 := hv5.below hb
  replace hgp := hgp.keep hb
  replace rap := rap.below hb
  replace rbp := rbp.below hb
  replace hgq := hgq.keep hb
  replace raq := raq.below hb
  replace rbq := rbq.below hb
  replace BB : Below w.heap.size w w15 := BB.trans (hb.mono BB.size)
  clear hb
  rw [show fracText 25 46 = [50, 53, 47, 52, 54] by decide +kernel]
  clear hgp
  clear hgq
  clear rap
  clear rbp
  clear raq
  clear rbq
  have q00 : w15.cell? ⟨w.heap.size + 2, 0, none⟩ = some (.slice (some ⟨w.heap.size, 0, none⟩) 2 2) := hg.cell 0
  have q01 : w15.cell? ⟨w.heap.size + 2, 1, none⟩ = some (.slice (some ⟨w.heap.size + 1, 0, none⟩) 2 2) := hg.cell 1
  have z0 := hg.lt
  have q10 : w15.cell? ⟨w.heap.size + 6, 0, none⟩ = some (.slice (some ⟨w.heap.size + 5, 0, none⟩) 2 2) := hb2.cell 0
  have z1 := hb2.lt
  go_wp2_with fail
  clear q00 q01 q10 z0 z1
  have hl : Below w15.heap.size w15 w15 := Below.refl _ _
  refine (update_no _ _ [] 1 [[500, 500], [300, 700]] 0 _ lst_nil hm (by decide +kernel)).mono ?_
  rintro e w16 ⟨rfl, hb⟩
  replace hb : Below w15.heap.size w15 w16 := hl.trans (hb.mono hl.size)
  clear hl
  replace hp := hp.below hb
  replace hr := hr.below hb
  replace hm := hm.below hb
  replace hks := hks.below hb
  replace hg := hg.keep hb
  replace hb2 := hb2.keep hb
  replace hv5 := hv5.below hb
  replace BB : Below w.heap.size w w16 := BB.trans (hb.mono BB.size)
  clear hb
  rw [show updE ([] : List Nat).length [[500, 500], [300, 700]] 0 = 1 by decide +kernel]
  have q00 : w16.cell? ⟨w.heap.size + 2, 0, none⟩ = some (.slice (some ⟨w.heap.size, 0, none⟩) 2 2) := hg.cell 0
  have q01 : w16.cell? ⟨w.heap.size + 2, 1, none⟩ = some (.slice (some ⟨w.heap.size + 1, 0, none⟩) 2 2) := hg.cell 1
  have z0 := hg.lt
  have q10 : w16.cell? ⟨w.heap.size + 6, 0, none⟩ = some (.slice (some ⟨w.heap.size + 5, 0, none⟩) 2 2) := hb2.cell 0
  have z1 := hb2.lt
  have y00 : ((w16.alloc (.cells #[.int .u32 0] 69)).alloc (.cells #[.slice (some ⟨w16.heap.size, 0, none⟩) 1 1, .slice none 0 0] 50)).cell? ⟨w.heap.size + 2, 0, none⟩ = some (.slice (some ⟨w.heap.size, 0, none⟩) 2 2) := ((hg.alloc _).alloc _).cell 0
  have y01 : ((w16.alloc (.cells #[.int .u32 0] 69)).alloc (.cells #[.slice (some ⟨w16.heap.size, 0, none⟩) 1 1, .slice none 0 0] 50)).cell? ⟨w.heap.size + 2, 1, none⟩ = some (.slice (some ⟨w.heap.size + 1, 0, none⟩) 2 2) := ((hg.alloc _).alloc _).cell 1
  have y10 : ((w16.alloc (.cells #[.int .u32 0] 69)).alloc (.cells #[.slice (some ⟨w16.heap.size, 0, none⟩) 1 1, .slice none 0 0] 50)).cell? ⟨w.heap.size + 6, 0, none⟩ = some (.slice (some ⟨w.heap.size + 5, 0, none⟩) 2 2) := ((hb2.alloc _).alloc _).cell 0
  go_wp2_with fail
  clear q00 q01 q10 z0 z1
  clear y00 y01 y10
  have hl : Below w16.heap.size w16 ((w16.alloc (.cells #[.int .u32 0] 69)).alloc (.cells #[.slice (some ⟨w16.heap.size, 0, none⟩) 1 1, .slice none 0 0] 50)) := lit_more (lit_below _ _) _
  have hq : Wts ((w16.alloc (.cells #[.int .u32 0] 69)).alloc (.cells #[.slice (some ⟨w16.heap.size, 0, none⟩) 1 1, .slice none 0 0] 50)) (.slice (some ⟨w16.heap.size + 1, 0, none⟩) 2 2) [0, 0] 1 := lst_lit2 (row_at (by simp)) (any_lim (lim_alloc (lim_at [0] (by simp) rfl (by decide) (allB1 (by decide))) _)) any_nil
  refine (share_no _ [0, 0] 1 _ hq (by decide) (by decide +kernel)).mono ?_
  rintro e w17 ⟨rfl, hb⟩
  replace hq := hq.below hb
  replace hb : Below w16.heap.size w16 w17 := hl.trans (hb.mono hl.size)
  clear hl
  replace hp := hp.below hb
  replace hr := hr.below hb
  replace hm := hm.below hb
  replace hks := hks.below hb
  replace hg := hg.keep hb
  replace hb2 := hb2.keep hb
  replace hv5 := hv5.below hb
  replace BB : Below w.heap.size w w17 := BB.trans (hb.mono BB.size)
  clear hb
  clear hq
  rw [show chkE [0, 0] = 20 by decide +kernel]
  have q00 : w17.cell? ⟨w.heap.size + 2, 0, none⟩ = some (.slice (some ⟨w.heap.size, 0, none⟩) 2 2) := hg.cell 0
  have q01 : w17.cell? ⟨w.heap.size + 2, 1, none⟩ = some (.slice (some ⟨w.heap.size + 1, 0, none⟩) 2 2) := hg.cell 1
  have z0 := hg.lt
  have q10 : w17.cell? ⟨w.heap.size + 6, 0, none⟩ = some (.slice (some ⟨w.heap.size + 5, 0, none⟩) 2 2) := hb2.cell 0
  have z1 := hb2.lt
  go_wp2_with fail
  clear q00 q01 q10 z0 z1
  have hl : Below w17.heap.size w17 w17 := Below.refl _ _
  refine (update_no _ _ [1, 1] _ [[500, 500], [300, 700]] 2 _ hv5.wts hm (by decide +kernel)).mono ?_
  rintro e w18 ⟨rfl, hb⟩
  replace hb : Below w17.heap.size w17 w18 := hl.trans (hb.mono hl.size)
  clear hl
  replace hp := hp.below hb
  replace hr := hr.below hb
  replace hm := hm.below hb
  replace hks := hks.below hb
  replace hg := hg.keep hb
  replace hb2 := hb2.keep hb
  replace hv5 := hv5.below hb
  replace BB : Below w.heap.size w w18 := BB.trans (hb.mono BB.size)
  clear hb
  rw [show updE ([1, 1] : List Nat).length [[500, 500], [300, 700]] 2 = 3 by decide +kernel]
  go_wp2_with fail
  go_ret
  exact ⟨rfl, BB⟩
end Go.Proofs.YtoihjclkocffhaaDoor
