/- Law InformCollapse. -/
import Derived.Test.YtompckomogmhiaaDoorInW
import Derived.Test.YtompckomogmhiaaDoorInR
import Derived.Test.YtompckomogmhiaaDoorMoW
namespace Go.Proofs.YtompckomogmhiaaDoor
open Go.RowKit
set_option linter.unusedVariables false
set_option maxRecDepth 100000

theorem ints_slc {w : World} {v : Value} {xs : List (List Int)} (h : IntsL w v xs) : ∃ A n c, v = .slice A n c := by
  obtain ⟨A, c, us, hv, _⟩ := h
  exact ⟨A, _, c, hv⟩
set_option maxHeartbeats 16000000 in
theorem lcol_e (pv rv mv tv : Value) (ps rs : List Int) (m : List (List Int)) (tg : List Int) (q : Int) (w : World) (hp : Nums .i64 w pv ps) (hr : Nums .i64 w rv rs) (hm : IntsL w mv m) (ht : Nums .i64 w tv tg) (htab : Pow10 w) (hE : itemE ps rs m q ≠ 0) :
    Calls Tryd.prog 6 #[.agg #[pv, rv], .agg #[mv], tv, .int .i64 q] w fun e w' => e = .returned (.bool true) ∧ Below w.heap.size w w' := by
  have HI := Lib.hid (fun (W : World) (h : Below w.heap.size w W) => item_no pv rv mv ps rs m q W (hp.below h) (hr.below h) (hm.below h) hE)
  have HC := Lib.hid (fun (W : World) (h : Below w.heap.size w W) => mcol_any mv tv m tg W (hm.below h) (ht.below h))
  obtain ⟨E, hEE⟩ : ∃ x, itemE ps rs m q = x := ⟨_, rfl⟩
  rw [hEE] at HI hE
  obtain ⟨F, hF⟩ : ∃ x, colE (modE m (m.length : Int)) (catsOf m) tg = x := ⟨_, rfl⟩
  rw [hF] at HC
  have HCE : Hid (F = F) := rfl
  have f : (E != 0) = true := by rw [bne_iff_ne]; exact hE
  clear hEE hE hF
  obtain ⟨PA, pc, rfl, _, _, hps⟩ := hp
  obtain ⟨RV, vc, rfl, _, _, _⟩ := hr
  obtain ⟨MA, mc, mus, rfl, _, _, _, _⟩ := hm
  obtain ⟨TA, tc, rfl, _, _, hts⟩ := ht
  clear hps hts
  obtain ⟨pn, hpn⟩ : ∃ x, ps.length = x := ⟨_, rfl⟩
  obtain ⟨rn, hrn⟩ : ∃ x, rs.length = x := ⟨_, rfl⟩
  obtain ⟨ml, hml⟩ : ∃ x, m.length = x := ⟨_, rfl⟩
  obtain ⟨tn, htn⟩ : ∃ x, tg.length = x := ⟨_, rfl⟩
  rw [hpn, hrn, hml] at HI
  rw [hml, htn] at HC
  rw [hpn, hrn, hml, htn]
  clear hpn hrn hml htn
  obtain ⟨W0, hW0⟩ : ∃ W0 : World, W0 = (w.alloc (.cells #[.slice PA pn pc, .slice RV rn vc] 24)).alloc (.cells #[.slice MA ml mc] 40) := ⟨_, rfl⟩
  have r0 : Row W0 w.heap.size 24 [.slice PA pn pc, .slice RV rn vc] := by
    rw [hW0]
    have := Row.alloc (Row.new w 24 [.slice PA pn pc, .slice RV rn vc]) (.cells #[.slice MA ml mc] 40)
    simpa using this
  have r1 : Row W0 (w.heap.size + 1) 40 [.slice MA ml mc] := by
    rw [hW0]
    have := Row.new (w.alloc (.cells #[.slice PA pn pc, .slice RV rn vc] 24)) 40 [.slice MA ml mc]
    simpa using this
  have B0 : Below w.heap.size w W0 := by rw [hW0]; exact (((Below.refl _ _).alloc (Nat.le_refl _) _).alloc (by simp) _)
  go_enter Tryd.func6, Tryd.ntmps6
  go_wp2_with fail
  rw [← hW0]
  clear hW0
  replace htab := htab.below B0
  have BB := B0
  have hr4 := r0
  have hr5 := r1
  clear B0 r0 r1
  have c40 : W0.cell? ⟨w.heap.size, 0, none⟩ = some (.slice PA pn pc) := hr4.cell 0
  have c41 : W0.cell? ⟨w.heap.size, 1, none⟩ = some (.slice RV rn vc) := hr4.cell 1
  have c50 : W0.cell? ⟨w.heap.size + 1, 0, none⟩ = some (.slice MA ml mc) := hr5.cell 0
  have z4 := hr4.lt
  have z5 := hr5.lt
  go_wp2_with fail
  clear c40 c41 c50 z4 z5
  refine (HI.out _ BB).mono ?_
  rintro e x1 ⟨rfl, hb⟩
  replace hr4 := hr4.keep hb
  replace hr5 := hr5.keep hb
  replace htab := htab.below hb
  replace BB : Below w.heap.size w x1 := BB.trans (hb.mono BB.size)
  clear hb
  obtain ⟨g9, hg9⟩ : ∃ g, x1.heap.size = g := ⟨_, rfl⟩
  have hr9 : Row (x1.alloc (.cells #[.bool false, .slice none 0 0, .slice none 0 0] 31)) g9 31 [.bool false, .slice none 0 0, .slice none 0 0] := row_at hg9
  have hl := lit_below x1 (.cells #[.bool false, .slice none 0 0, .slice none 0 0] 31)
  have o4_9 : w.heap.size < g9 := by have := hr4.lt; omega
  have o5_9 : w.heap.size + 1 < g9 := by have := hr5.lt; omega
  have ob_9 : w.heap.size ≤ g9 := by have := BB.size; omega
  have c40 : x1.cell? ⟨w.heap.size, 0, none⟩ = some (.slice PA pn pc) := hr4.cell 0
  have c41 : x1.cell? ⟨w.heap.size, 1, none⟩ = some (.slice RV rn vc) := hr4.cell 1
  have c50 : x1.cell? ⟨w.heap.size + 1, 0, none⟩ = some (.slice MA ml mc) := hr5.cell 0
  have d40 : (x1.alloc (.cells #[.bool false, .slice none 0 0, .slice none 0 0] 31)).cell? ⟨w.heap.size, 0, none⟩ = some (.slice PA pn pc) := (hr4.alloc _).cell 0
  have d41 : (x1.alloc (.cells #[.bool false, .slice none 0 0, .slice none 0 0] 31)).cell? ⟨w.heap.size, 1, none⟩ = some (.slice RV rn vc) := (hr4.alloc _).cell 1
  have d50 : (x1.alloc (.cells #[.bool false, .slice none 0 0, .slice none 0 0] 31)).cell? ⟨w.heap.size + 1, 0, none⟩ = some (.slice MA ml mc) := (hr5.alloc _).cell 0
  have e0 : (x1.alloc (.cells #[.bool false, .slice none 0 0, .slice none 0 0] 31)).cell? ⟨g9, 0, none⟩ = some (.bool false) := hr9.cell 0
  have e1 : (x1.alloc (.cells #[.bool false, .slice none 0 0, .slice none 0 0] 31)).cell? ⟨g9, 1, none⟩ = some (.slice none 0 0) := hr9.cell 1
  have e2 : (x1.alloc (.cells #[.bool false, .slice none 0 0, .slice none 0 0] 31)).cell? ⟨g9, 2, none⟩ = some (.slice none 0 0) := hr9.cell 2
  go_wp2_with fail
  clear c40 c41 c50 d40 d41 d50 e0 e1 e2
  clear hg9
  generalize (x1.alloc (.cells #[.bool false, .slice none 0 0, .slice none 0 0] 31)) = x2 at *
  replace hr4 := hr4.keep hl
  replace hr5 := hr5.keep hl
  replace htab := htab.below hl
  replace BB : Below w.heap.size w x2 := BB.trans (hl.mono BB.size)
  clear hl
  have c40 : x2.cell? ⟨w.heap.size, 0, none⟩ = some (.slice PA pn pc) := hr4.cell 0
  have c41 : x2.cell? ⟨w.heap.size, 1, none⟩ = some (.slice RV rn vc) := hr4.cell 1
  have c50 : x2.cell? ⟨w.heap.size + 1, 0, none⟩ = some (.slice MA ml mc) := hr5.cell 0
  have c90 : x2.cell? ⟨g9, 0, none⟩ = some (.bool false) := hr9.cell 0
  have c91 : x2.cell? ⟨g9, 1, none⟩ = some (.slice none 0 0) := hr9.cell 1
  have c92 : x2.cell? ⟨g9, 2, none⟩ = some (.slice none 0 0) := hr9.cell 2
  have z4 := hr4.lt
  have z5 := hr5.lt
  have z9 := hr9.lt
  go_wp2_with fail
  clear c40 c41 c50 c90 c91 c92 z4 z5 z9
  refine (HC.out _ BB).mono ?_
  rintro e x3 ⟨vc, rfl, hvc, hb⟩
  replace hr4 := hr4.keep hb
  replace hr5 := hr5.keep hb
  replace htab := htab.below hb
  replace hr9 := hr9.keep hb
  replace BB : Below w.heap.size w x3 := BB.trans (hb.mono BB.size)
  clear hb
  obtain ⟨CA, cn, cc, rfl⟩ := ints_slc hvc
  obtain ⟨g11, hg11⟩ : ∃ g, x3.heap.size = g := ⟨_, rfl⟩
  have hr11 : Row (x3.alloc (.cells #[.slice CA cn cc] 40)) g11 40 [.slice CA cn cc] := row_at hg11
  have hl := lit_below x3 (.cells #[.slice CA cn cc] 40)
  have o4_11 : w.heap.size < g11 := by have := hr4.lt; omega
  have o5_11 : w.heap.size + 1 < g11 := by have := hr5.lt; omega
  have o9_11 : g9 < g11 := by have := hr9.lt; omega
  have ob_11 : w.heap.size ≤ g11 := by have := BB.size; omega
  have c40 : x3.cell? ⟨w.heap.size, 0, none⟩ = some (.slice PA pn pc) := hr4.cell 0
  have c41 : x3.cell? ⟨w.heap.size, 1, none⟩ = some (.slice RV rn vc) := hr4.cell 1
  have c50 : x3.cell? ⟨w.heap.size + 1, 0, none⟩ = some (.slice MA ml mc) := hr5.cell 0
  have c90 : x3.cell? ⟨g9, 0, none⟩ = some (.bool false) := hr9.cell 0
  have c91 : x3.cell? ⟨g9, 1, none⟩ = some (.slice none 0 0) := hr9.cell 1
  have c92 : x3.cell? ⟨g9, 2, none⟩ = some (.slice none 0 0) := hr9.cell 2
  have d40 : (x3.alloc (.cells #[.slice CA cn cc] 40)).cell? ⟨w.heap.size, 0, none⟩ = some (.slice PA pn pc) := (hr4.alloc _).cell 0
  have d41 : (x3.alloc (.cells #[.slice CA cn cc] 40)).cell? ⟨w.heap.size, 1, none⟩ = some (.slice RV rn vc) := (hr4.alloc _).cell 1
  have d50 : (x3.alloc (.cells #[.slice CA cn cc] 40)).cell? ⟨w.heap.size + 1, 0, none⟩ = some (.slice MA ml mc) := (hr5.alloc _).cell 0
  have d90 : (x3.alloc (.cells #[.slice CA cn cc] 40)).cell? ⟨g9, 0, none⟩ = some (.bool false) := (hr9.alloc _).cell 0
  have d91 : (x3.alloc (.cells #[.slice CA cn cc] 40)).cell? ⟨g9, 1, none⟩ = some (.slice none 0 0) := (hr9.alloc _).cell 1
  have d92 : (x3.alloc (.cells #[.slice CA cn cc] 40)).cell? ⟨g9, 2, none⟩ = some (.slice none 0 0) := (hr9.alloc _).cell 2
  have e0 : (x3.alloc (.cells #[.slice CA cn cc] 40)).cell? ⟨g11, 0, none⟩ = some (.slice CA cn cc) := hr11.cell 0
  go_wp2_with fail
  clear c40 c41 c50 c90 c91 c92 d40 d41 d50 d90 d91 d92 e0
  clear hg11
  generalize (x3.alloc (.cells #[.slice CA cn cc] 40)) = x4 at *
  replace hr4 := hr4.keep hl
  replace hr5 := hr5.keep hl
  replace htab := htab.below hl
  replace hr9 := hr9.keep hl
  replace hvc := hvc.below hl
  replace BB : Below w.heap.size w x4 := BB.trans (hl.mono BB.size)
  clear hl
  clear hvc
  have c40 : x4.cell? ⟨w.heap.size, 0, none⟩ = some (.slice PA pn pc) := hr4.cell 0
  have c41 : x4.cell? ⟨w.heap.size, 1, none⟩ = some (.slice RV rn vc) := hr4.cell 1
  have c50 : x4.cell? ⟨w.heap.size + 1, 0, none⟩ = some (.slice MA ml mc) := hr5.cell 0
  have c90 : x4.cell? ⟨g9, 0, none⟩ = some (.bool false) := hr9.cell 0
  have c91 : x4.cell? ⟨g9, 1, none⟩ = some (.slice none 0 0) := hr9.cell 1
  have c92 : x4.cell? ⟨g9, 2, none⟩ = some (.slice none 0 0) := hr9.cell 2
  have c110 : x4.cell? ⟨g11, 0, none⟩ = some (.slice CA cn cc) := hr11.cell 0
  have z4 := hr4.lt
  have z5 := hr5.lt
  have z9 := hr9.lt
  have z11 := hr11.lt
  go_wp2_with fail
  clear c40 c41 c50 c90 c91 c92 c110 z4 z5 z9 z11
  refine (awake_any _ htab).mono ?_
  rintro e x5 ⟨rfl, hb⟩
  replace hr4 := hr4.keep hb
  replace hr5 := hr5.keep hb
  replace htab := htab.below hb
  replace hr9 := hr9.keep hb
  replace hr11 := hr11.keep hb
  replace BB : Below w.heap.size w x5 := BB.trans (hb.mono BB.size)
  clear hb
  have c40 : x5.cell? ⟨w.heap.size, 0, none⟩ = some (.slice PA pn pc) := hr4.cell 0
  have c41 : x5.cell? ⟨w.heap.size, 1, none⟩ = some (.slice RV rn vc) := hr4.cell 1
  have c50 : x5.cell? ⟨w.heap.size + 1, 0, none⟩ = some (.slice MA ml mc) := hr5.cell 0
  have c90 : x5.cell? ⟨g9, 0, none⟩ = some (.bool false) := hr9.cell 0
  have c91 : x5.cell? ⟨g9, 1, none⟩ = some (.slice none 0 0) := hr9.cell 1
  have c92 : x5.cell? ⟨g9, 2, none⟩ = some (.slice none 0 0) := hr9.cell 2
  have c110 : x5.cell? ⟨g11, 0, none⟩ = some (.slice CA cn cc) := hr11.cell 0
  have z4 := hr4.lt
  have z5 := hr5.lt
  have z9 := hr9.lt
  have z11 := hr11.lt
  go_wp2_with fail
  clear c40 c41 c50 c90 c91 c92 c110 z4 z5 z9 z11
  go_ret
  exact ⟨rfl, BB⟩
set_option maxHeartbeats 16000000 in
theorem lcol_f (pv rv mv tv : Value) (ps rs : List Int) (m : List (List Int)) (tg : List Int) (q : Nat) (w : World) (hp : Nums .i64 w pv ps) (hr : Nums .i64 w rv rs) (hm : IntsL w mv m) (ht : Nums .i64 w tv tg) (htab : Pow10 w) (hE : itemE ps rs m (q : Int) = 0) (hC : colE (modE m (m.length : Int)) (catsOf m) tg ≠ 0) :
    Calls Tryd.prog 6 #[.agg #[pv, rv], .agg #[mv], tv, .int .i64 (q : Int)] w fun e w' => e = .returned (.bool true) ∧ Below w.heap.size w w' := by
  obtain ⟨Z, hZ⟩ := lam_ex
  have HI := Lib.hid (fun (W : World) (h : Below w.heap.size w W) => item_ok pv rv mv ps rs m q Z W (hp.below h) (hr.below h) (hm.below h) hZ hE)
  have HC := Lib.hid (fun (W : World) (h : Below w.heap.size w W) => mcol_any mv tv m tg W (hm.below h) (ht.below h))
  obtain ⟨F, hF⟩ : ∃ x, colE (modE m (m.length : Int)) (catsOf m) tg = x := ⟨_, rfl⟩
  rw [hF] at HC hC
  have HCE : Hid (F = F) := rfl
  have f : (F != 0) = true := by rw [bne_iff_ne]; exact hC
  obtain ⟨P, hP⟩ : ∃ x, redP (inF Z m ps.length q) (ifD Z ps q) = x := ⟨_, rfl⟩
  rw [hP] at HI
  clear hF hC hE hP
  obtain ⟨PA, pc, rfl, _, _, hps⟩ := hp
  obtain ⟨RV, vc, rfl, _, _, _⟩ := hr
  obtain ⟨MA, mc, mus, rfl, _, _, _, _⟩ := hm
  obtain ⟨TA, tc, rfl, _, _, hts⟩ := ht
  clear hps hts
  obtain ⟨pn, hpn⟩ : ∃ x, ps.length = x := ⟨_, rfl⟩
  obtain ⟨rn, hrn⟩ : ∃ x, rs.length = x := ⟨_, rfl⟩
  obtain ⟨ml, hml⟩ : ∃ x, m.length = x := ⟨_, rfl⟩
  obtain ⟨tn, htn⟩ : ∃ x, tg.length = x := ⟨_, rfl⟩
  rw [hpn, hrn, hml] at HI
  rw [hml, htn] at HC
  rw [hpn, hrn, hml, htn]
  clear hpn hrn hml htn
  obtain ⟨W0, hW0⟩ : ∃ W0 : World, W0 = (w.alloc (.cells #[.slice PA pn pc, .slice RV rn vc] 24)).alloc (.cells #[.slice MA ml mc] 40) := ⟨_, rfl⟩
  have r0 : Row W0 w.heap.size 24 [.slice PA pn pc, .slice RV rn vc] := by
    rw [hW0]
    have := Row.alloc (Row.new w 24 [.slice PA pn pc, .slice RV rn vc]) (.cells #[.slice MA ml mc] 40)
    simpa using this
  have r1 : Row W0 (w.heap.size + 1) 40 [.slice MA ml mc] := by
    rw [hW0]
    have := Row.new (w.alloc (.cells #[.slice PA pn pc, .slice RV rn vc] 24)) 40 [.slice MA ml mc]
    simpa using this
  have B0 : Below w.heap.size w W0 := by rw [hW0]; exact (((Below.refl _ _).alloc (Nat.le_refl _) _).alloc (by simp) _)
  go_enter Tryd.func6, Tryd.ntmps6
  go_wp2_with fail
  rw [← hW0]
  clear hW0
  replace htab := htab.below B0
  have BB := B0
  have hr4 := r0
  have hr5 := r1
  clear B0 r0 r1
  have c40 : W0.cell? ⟨w.heap.size, 0, none⟩ = some (.slice PA pn pc) := hr4.cell 0
  have c41 : W0.cell? ⟨w.heap.size, 1, none⟩ = some (.slice RV rn vc) := hr4.cell 1
  have c50 : W0.cell? ⟨w.heap.size + 1, 0, none⟩ = some (.slice MA ml mc) := hr5.cell 0
  have z4 := hr4.lt
  have z5 := hr5.lt
  go_wp2_with fail
  clear c40 c41 c50 z4 z5
  refine (HI.out _ BB).mono ?_
  rintro e x1 ⟨v9, rfl, hv9, hb⟩
  replace hr4 := hr4.keep hb
  replace hr5 := hr5.keep hb
  replace htab := htab.below hb
  replace BB : Below w.heap.size w x1 := BB.trans (hb.mono BB.size)
  clear hb
  have h9' := hv9
  obtain ⟨m9, d9, e9, hm9, hd9, _, _⟩ := h9'
  subst e9
  obtain ⟨A9, k9, c9, rfl⟩ := hm9.lim1.choose_spec.1.show_
  obtain ⟨D9, l9, b9, rfl⟩ := hd9.lim1.choose_spec.1.show_
  clear hm9 hd9
  obtain ⟨g9, hg9⟩ : ∃ g, x1.heap.size = g := ⟨_, rfl⟩
  have hr9 : Row (x1.alloc (.cells #[.bool (decide (P < 0)), .slice A9 k9 c9, .slice D9 l9 b9] 31)) g9 31 [.bool (decide (P < 0)), .slice A9 k9 c9, .slice D9 l9 b9] := row_at hg9
  have hl := lit_below x1 (.cells #[.bool (decide (P < 0)), .slice A9 k9 c9, .slice D9 l9 b9] 31)
  have o4_9 : w.heap.size < g9 := by have := hr4.lt; omega
  have o5_9 : w.heap.size + 1 < g9 := by have := hr5.lt; omega
  have ob_9 : w.heap.size ≤ g9 := by have := BB.size; omega
  have c40 : x1.cell? ⟨w.heap.size, 0, none⟩ = some (.slice PA pn pc) := hr4.cell 0
  have c41 : x1.cell? ⟨w.heap.size, 1, none⟩ = some (.slice RV rn vc) := hr4.cell 1
  have c50 : x1.cell? ⟨w.heap.size + 1, 0, none⟩ = some (.slice MA ml mc) := hr5.cell 0
  have d40 : (x1.alloc (.cells #[.bool (decide (P < 0)), .slice A9 k9 c9, .slice D9 l9 b9] 31)).cell? ⟨w.heap.size, 0, none⟩ = some (.slice PA pn pc) := (hr4.alloc _).cell 0
  have d41 : (x1.alloc (.cells #[.bool (decide (P < 0)), .slice A9 k9 c9, .slice D9 l9 b9] 31)).cell? ⟨w.heap.size, 1, none⟩ = some (.slice RV rn vc) := (hr4.alloc _).cell 1
  have d50 : (x1.alloc (.cells #[.bool (decide (P < 0)), .slice A9 k9 c9, .slice D9 l9 b9] 31)).cell? ⟨w.heap.size + 1, 0, none⟩ = some (.slice MA ml mc) := (hr5.alloc _).cell 0
  have e0 : (x1.alloc (.cells #[.bool (decide (P < 0)), .slice A9 k9 c9, .slice D9 l9 b9] 31)).cell? ⟨g9, 0, none⟩ = some (.bool (decide (P < 0))) := hr9.cell 0
  have e1 : (x1.alloc (.cells #[.bool (decide (P < 0)), .slice A9 k9 c9, .slice D9 l9 b9] 31)).cell? ⟨g9, 1, none⟩ = some (.slice A9 k9 c9) := hr9.cell 1
  have e2 : (x1.alloc (.cells #[.bool (decide (P < 0)), .slice A9 k9 c9, .slice D9 l9 b9] 31)).cell? ⟨g9, 2, none⟩ = some (.slice D9 l9 b9) := hr9.cell 2
  go_wp2_with fail
  clear c40 c41 c50 d40 d41 d50 e0 e1 e2
  clear hg9
  generalize (x1.alloc (.cells #[.bool (decide (P < 0)), .slice A9 k9 c9, .slice D9 l9 b9] 31)) = x2 at *
  replace hr4 := hr4.keep hl
  replace hr5 := hr5.keep hl
  replace htab := htab.below hl
  replace hv9 := hv9.below hl
  replace BB : Below w.heap.size w x2 := BB.trans (hl.mono BB.size)
  clear hl
  have c40 : x2.cell? ⟨w.heap.size, 0, none⟩ = some (.slice PA pn pc) := hr4.cell 0
  have c41 : x2.cell? ⟨w.heap.size, 1, none⟩ = some (.slice RV rn vc) := hr4.cell 1
  have c50 : x2.cell? ⟨w.heap.size + 1, 0, none⟩ = some (.slice MA ml mc) := hr5.cell 0
  have c90 : x2.cell? ⟨g9, 0, none⟩ = some (.bool (decide (P < 0))) := hr9.cell 0
  have c91 : x2.cell? ⟨g9, 1, none⟩ = some (.slice A9 k9 c9) := hr9.cell 1
  have c92 : x2.cell? ⟨g9, 2, none⟩ = some (.slice D9 l9 b9) := hr9.cell 2
  have z4 := hr4.lt
  have z5 := hr5.lt
  have z9 := hr9.lt
  go_wp2_with fail
  clear c40 c41 c50 c90 c91 c92 z4 z5 z9
  refine (HC.out _ BB).mono ?_
  rintro e x3 ⟨vc, rfl, hvc, hb⟩
  replace hr4 := hr4.keep hb
  replace hr5 := hr5.keep hb
  replace htab := htab.below hb
  replace hv9 := hv9.below hb
  replace hr9 := hr9.keep hb
  replace BB : Below w.heap.size w x3 := BB.trans (hb.mono BB.size)
  clear hb
  obtain ⟨CA, cn, cc, rfl⟩ := ints_slc hvc
  obtain ⟨g11, hg11⟩ : ∃ g, x3.heap.size = g := ⟨_, rfl⟩
  have hr11 : Row (x3.alloc (.cells #[.slice CA cn cc] 40)) g11 40 [.slice CA cn cc] := row_at hg11
  have hl := lit_below x3 (.cells #[.slice CA cn cc] 40)
  have o4_11 : w.heap.size < g11 := by have := hr4.lt; omega
  have o5_11 : w.heap.size + 1 < g11 := by have := hr5.lt; omega
  have o9_11 : g9 < g11 := by have := hr9.lt; omega
  have ob_11 : w.heap.size ≤ g11 := by have := BB.size; omega
  have c40 : x3.cell? ⟨w.heap.size, 0, none⟩ = some (.slice PA pn pc) := hr4.cell 0
  have c41 : x3.cell? ⟨w.heap.size, 1, none⟩ = some (.slice RV rn vc) := hr4.cell 1
  have c50 : x3.cell? ⟨w.heap.size + 1, 0, none⟩ = some (.slice MA ml mc) := hr5.cell 0
  have c90 : x3.cell? ⟨g9, 0, none⟩ = some (.bool (decide (P < 0))) := hr9.cell 0
  have c91 : x3.cell? ⟨g9, 1, none⟩ = some (.slice A9 k9 c9) := hr9.cell 1
  have c92 : x3.cell? ⟨g9, 2, none⟩ = some (.slice D9 l9 b9) := hr9.cell 2
  have d40 : (x3.alloc (.cells #[.slice CA cn cc] 40)).cell? ⟨w.heap.size, 0, none⟩ = some (.slice PA pn pc) := (hr4.alloc _).cell 0
  have d41 : (x3.alloc (.cells #[.slice CA cn cc] 40)).cell? ⟨w.heap.size, 1, none⟩ = some (.slice RV rn vc) := (hr4.alloc _).cell 1
  have d50 : (x3.alloc (.cells #[.slice CA cn cc] 40)).cell? ⟨w.heap.size + 1, 0, none⟩ = some (.slice MA ml mc) := (hr5.alloc _).cell 0
  have d90 : (x3.alloc (.cells #[.slice CA cn cc] 40)).cell? ⟨g9, 0, none⟩ = some (.bool (decide (P < 0))) := (hr9.alloc _).cell 0
  have d91 : (x3.alloc (.cells #[.slice CA cn cc] 40)).cell? ⟨g9, 1, none⟩ = some (.slice A9 k9 c9) := (hr9.alloc _).cell 1
  have d92 : (x3.alloc (.cells #[.slice CA cn cc] 40)).cell? ⟨g9, 2, none⟩ = some (.slice D9 l9 b9) := (hr9.alloc _).cell 2
  have e0 : (x3.alloc (.cells #[.slice CA cn cc] 40)).cell? ⟨g11, 0, none⟩ = some (.slice CA cn cc) := hr11.cell 0
  go_wp2_with fail
  clear c40 c41 c50 c90 c91 c92 d40 d41 d50 d90 d91 d92 e0
  clear hg11
  generalize (x3.alloc (.cells #[.slice CA cn cc] 40)) = x4 at *
  replace hr4 := hr4.keep hl
  replace hr5 := hr5.keep hl
  replace htab := htab.below hl
  replace hv9 := hv9.below hl
  replace hr9 := hr9.keep hl
  replace hvc := hvc.below hl
  replace BB : Below w.heap.size w x4 := BB.trans (hl.mono BB.size)
  clear hl
  clear hvc hv9
  have c40 : x4.cell? ⟨w.heap.size, 0, none⟩ = some (.slice PA pn pc) := hr4.cell 0
  have c41 : x4.cell? ⟨w.heap.size, 1, none⟩ = some (.slice RV rn vc) := hr4.cell 1
  have c50 : x4.cell? ⟨w.heap.size + 1, 0, none⟩ = some (.slice MA ml mc) := hr5.cell 0
  have c90 : x4.cell? ⟨g9, 0, none⟩ = some (.bool (decide (P < 0))) := hr9.cell 0
  have c91 : x4.cell? ⟨g9, 1, none⟩ = some (.slice A9 k9 c9) := hr9.cell 1
  have c92 : x4.cell? ⟨g9, 2, none⟩ = some (.slice D9 l9 b9) := hr9.cell 2
  have c110 : x4.cell? ⟨g11, 0, none⟩ = some (.slice CA cn cc) := hr11.cell 0
  have z4 := hr4.lt
  have z5 := hr5.lt
  have z9 := hr9.lt
  have z11 := hr11.lt
  go_wp2_with fail
  clear c40 c41 c50 c90 c91 c92 c110 z4 z5 z9 z11
  refine (awake_any _ htab).mono ?_
  rintro e x5 ⟨rfl, hb⟩
  replace hr4 := hr4.keep hb
  replace hr5 := hr5.keep hb
  replace htab := htab.below hb
  replace hr9 := hr9.keep hb
  replace hr11 := hr11.keep hb
  replace BB : Below w.heap.size w x5 := BB.trans (hb.mono BB.size)
  clear hb
  have c40 : x5.cell? ⟨w.heap.size, 0, none⟩ = some (.slice PA pn pc) := hr4.cell 0
  have c41 : x5.cell? ⟨w.heap.size, 1, none⟩ = some (.slice RV rn vc) := hr4.cell 1
  have c50 : x5.cell? ⟨w.heap.size + 1, 0, none⟩ = some (.slice MA ml mc) := hr5.cell 0
  have c90 : x5.cell? ⟨g9, 0, none⟩ = some (.bool (decide (P < 0))) := hr9.cell 0
  have c91 : x5.cell? ⟨g9, 1, none⟩ = some (.slice A9 k9 c9) := hr9.cell 1
  have c92 : x5.cell? ⟨g9, 2, none⟩ = some (.slice D9 l9 b9) := hr9.cell 2
  have c110 : x5.cell? ⟨g11, 0, none⟩ = some (.slice CA cn cc) := hr11.cell 0
  have z4 := hr4.lt
  have z5 := hr5.lt
  have z9 := hr9.lt
  have z11 := hr11.lt
  go_wp2_with fail
  clear c40 c41 c50 c90 c91 c92 c110 z4 z5 z9 z11
  go_ret
  exact ⟨rfl, BB⟩
set_option maxHeartbeats 16000000 in
theorem lcol_ok (pv rv mv tv : Value) (ps rs : List Int) (m : List (List Int)) (tg : List Int) (q : Nat) (w : World) (hp : Nums .i64 w pv ps) (hr : Nums .i64 w rv rs) (hm : IntsL w mv m) (ht : Nums .i64 w tv tg) (htab : Pow10 w) (hE : itemE ps rs m (q : Int) = 0) (hC : colE (modE m (m.length : Int)) (catsOf m) tg = 0) :
    Calls Tryd.prog 6 #[.agg #[pv, rv], .agg #[mv], tv, .int .i64 (q : Int)] w fun e w' => e = .returned (.bool true) ∧ Below w.heap.size w w' := by
  obtain ⟨Z, hZ⟩ := lam_ex
  obtain ⟨e1, e2, e3, e4⟩ := itemE_zero hE
  have hqn : q < ps.length := by omega
  have hmn : m.length = ps.length := (in_rows e2).1
  obtain ⟨c1, c2⟩ := inF_collapse hZ e2 (by rw [← hmn]; exact hC) hqn
  have hE2 : itemE ps rs (colL m tg) (q : Int) = 0 := by
    unfold itemE
    rw [if_neg (by simpa using e1), if_neg (by simpa using c1), if_neg (by omega)]
  obtain ⟨d1, d2⟩ := inD_bd hZ e1 hqn
  have HI := Lib.hid (fun (W : World) (h : Below w.heap.size w W) => item_ok pv rv mv ps rs m q Z W (hp.below h) (hr.below h) (hm.below h) hZ hE)
  have HI2 := Lib.hid (fun (W : World) (u : Value) (h : Below w.heap.size w W) (hu : IntsL W u (colL m tg)) => item_ok pv rv u ps rs (colL m tg) q Z W (hp.below h) (hr.below h) hu hZ hE2)
  have HC := Lib.hid (fun (W : World) (h : Below w.heap.size w W) => mcol_any mv tv m tg W (hm.below h) (ht.below h))
  have HCE := Lib.hid hC
  have hcm := cmp_redI (inF Z (colL m tg) ps.length q) (inF Z m ps.length q) d1
  have hle : cmpZ (inF Z (colL m tg) ps.length q) (inF Z m ps.length q) ≤ 0 := by unfold cmpZ; split <;> (try split) <;> omega
  rw [← hcm] at hle
  obtain ⟨P, hP⟩ : ∃ x, redP (inF Z m ps.length q) (ifD Z ps q) = x := ⟨_, rfl⟩
  obtain ⟨Q, hQ'⟩ : ∃ x, redQ (inF Z m ps.length q) (ifD Z ps q) = x := ⟨_, rfl⟩
  obtain ⟨P2, hP2⟩ : ∃ x, redP (inF Z (colL m tg) ps.length q) (ifD Z ps q) = x := ⟨_, rfl⟩
  obtain ⟨Q2, hQ2'⟩ : ∃ x, redQ (inF Z (colL m tg) ps.length q) (ifD Z ps q) = x := ⟨_, rfl⟩
  have hQ : 0 < Q := by rw [← hQ']; exact redQ_pos d1
  have hQ2 : 0 < Q2 := by rw [← hQ2']; exact redQ_pos d1
  rw [hP, hQ', hP2, hQ2'] at hle
  rw [hP, hQ'] at HI
  rw [hP2, hQ2'] at HI2
  obtain ⟨cm, hcmx⟩ : ∃ x, cmpZ (P2 * (Q : Int)) (P * (Q2 : Int)) = x := ⟨_, rfl⟩
  rw [hcmx] at hle
  have HCMP := Lib.hid hcmx
  have hdc : decide (cm ≤ 0) = true := decide_eq_true hle
  clear hcm hcmx hP hQ' hP2 hQ2' d1 d2 hE hE2 hC c1 c2 e1 e2 e3 e4 hqn hmn
  obtain ⟨PA, pc, rfl, _, _, hps⟩ := hp
  obtain ⟨RV, vc, rfl, _, _, _⟩ := hr
  obtain ⟨MA, mc, mus, rfl, _, _, _, _⟩ := hm
  obtain ⟨TA, tc, rfl, _, _, hts⟩ := ht
  clear hps hts
  obtain ⟨pn, hpn⟩ : ∃ x, ps.length = x := ⟨_, rfl⟩
  obtain ⟨rn, hrn⟩ : ∃ x, rs.length = x := ⟨_, rfl⟩
  obtain ⟨ml, hml⟩ : ∃ x, m.length = x := ⟨_, rfl⟩
  obtain ⟨tn, htn⟩ : ∃ x, tg.length = x := ⟨_, rfl⟩
  rw [hpn, hrn, hml] at HI
  rw [hml, htn] at HC
  rw [hpn, hrn] at HI2
  rw [hml] at HCE
  rw [hpn, hrn, hml, htn]
  clear hpn hrn hml htn
  obtain ⟨W0, hW0⟩ : ∃ W0 : World, W0 = (w.alloc (.cells #[.slice PA pn pc, .slice RV rn vc] 24)).alloc (.cells #[.slice MA ml mc] 40) := ⟨_, rfl⟩
  have r0 : Row W0 w.heap.size 24 [.slice PA pn pc, .slice RV rn vc] := by
    rw [hW0]
    have := Row.alloc (Row.new w 24 [.slice PA pn pc, .slice RV rn vc]) (.cells #[.slice MA ml mc] 40)
    simpa using this
  have r1 : Row W0 (w.heap.size + 1) 40 [.slice MA ml mc] := by
    rw [hW0]
    have := Row.new (w.alloc (.cells #[.slice PA pn pc, .slice RV rn vc] 24)) 40 [.slice MA ml mc]
    simpa using this
  have B0 : Below w.heap.size w W0 := by rw [hW0]; exact (((Below.refl _ _).alloc (Nat.le_refl _) _).alloc (by simp) _)
  go_enter Tryd.func6, Tryd.ntmps6
  go_wp2_with fail
  rw [← hW0]
  clear hW0
  replace htab := htab.below B0
  have BB := B0
  have hr4 := r0
  have hr5 := r1
  clear B0 r0 r1
  have c40 : W0.cell? ⟨w.heap.size, 0, none⟩ = some (.slice PA pn pc) := hr4.cell 0
  have c41 : W0.cell? ⟨w.heap.size, 1, none⟩ = some (.slice RV rn vc) := hr4.cell 1
  have c50 : W0.cell? ⟨w.heap.size + 1, 0, none⟩ = some (.slice MA ml mc) := hr5.cell 0
  have z4 := hr4.lt
  have z5 := hr5.lt
  go_wp2_with fail
  clear c40 c41 c50 z4 z5
  refine (HI.out _ BB).mono ?_
  rintro e x1 ⟨v9, rfl, hv9, hb⟩
  replace hr4 := hr4.keep hb
  replace hr5 := hr5.keep hb
  replace htab := htab.below hb
  replace BB : Below w.heap.size w x1 := BB.trans (hb.mono BB.size)
  clear hb
  have h9' := hv9
  obtain ⟨m9, d9, e9, hm9, hd9, _, _⟩ := h9'
  subst e9
  obtain ⟨A9, k9, c9, rfl⟩ := hm9.lim1.choose_spec.1.show_
  obtain ⟨D9, l9, b9, rfl⟩ := hd9.lim1.choose_spec.1.show_
  clear hm9 hd9
  obtain ⟨g9, hg9⟩ : ∃ g, x1.heap.size = g := ⟨_, rfl⟩
  have hr9 : Row (x1.alloc (.cells #[.bool (decide (P < 0)), .slice A9 k9 c9, .slice D9 l9 b9] 31)) g9 31 [.bool (decide (P < 0)), .slice A9 k9 c9, .slice D9 l9 b9] := row_at hg9
  have hl := lit_below x1 (.cells #[.bool (decide (P < 0)), .slice A9 k9 c9, .slice D9 l9 b9] 31)
  have o4_9 : w.heap.size < g9 := by have := hr4.lt; omega
  have o5_9 : w.heap.size + 1 < g9 := by have := hr5.lt; omega
  have ob_9 : w.heap.size ≤ g9 := by have := BB.size; omega
  have c40 : x1.cell? ⟨w.heap.size, 0, none⟩ = some (.slice PA pn pc) := hr4.cell 0
  have c41 : x1.cell? ⟨w.heap.size, 1, none⟩ = some (.slice RV rn vc) := hr4.cell 1
  have c50 : x1.cell? ⟨w.heap.size + 1, 0, none⟩ = some (.slice MA ml mc) := hr5.cell 0
  have d40 : (x1.alloc (.cells #[.bool (decide (P < 0)), .slice A9 k9 c9, .slice D9 l9 b9] 31)).cell? ⟨w.heap.size, 0, none⟩ = some (.slice PA pn pc) := (hr4.alloc _).cell 0
  have d41 : (x1.alloc (.cells #[.bool (decide (P < 0)), .slice A9 k9 c9, .slice D9 l9 b9] 31)).cell? ⟨w.heap.size, 1, none⟩ = some (.slice RV rn vc) := (hr4.alloc _).cell 1
  have d50 : (x1.alloc (.cells #[.bool (decide (P < 0)), .slice A9 k9 c9, .slice D9 l9 b9] 31)).cell? ⟨w.heap.size + 1, 0, none⟩ = some (.slice MA ml mc) := (hr5.alloc _).cell 0
  have e0 : (x1.alloc (.cells #[.bool (decide (P < 0)), .slice A9 k9 c9, .slice D9 l9 b9] 31)).cell? ⟨g9, 0, none⟩ = some (.bool (decide (P < 0))) := hr9.cell 0
  have e1 : (x1.alloc (.cells #[.bool (decide (P < 0)), .slice A9 k9 c9, .slice D9 l9 b9] 31)).cell? ⟨g9, 1, none⟩ = some (.slice A9 k9 c9) := hr9.cell 1
  have e2 : (x1.alloc (.cells #[.bool (decide (P < 0)), .slice A9 k9 c9, .slice D9 l9 b9] 31)).cell? ⟨g9, 2, none⟩ = some (.slice D9 l9 b9) := hr9.cell 2
  go_wp2_with fail
  clear c40 c41 c50 d40 d41 d50 e0 e1 e2
  clear hg9
  generalize (x1.alloc (.cells #[.bool (decide (P < 0)), .slice A9 k9 c9, .slice D9 l9 b9] 31)) = x2 at *
  replace hr4 := hr4.keep hl
  replace hr5 := hr5.keep hl
  replace htab := htab.below hl
  replace hv9 := hv9.below hl
  replace BB : Below w.heap.size w x2 := BB.trans (hl.mono BB.size)
  clear hl
  have c40 : x2.cell? ⟨w.heap.size, 0, none⟩ = some (.slice PA pn pc) := hr4.cell 0
  have c41 : x2.cell? ⟨w.heap.size, 1, none⟩ = some (.slice RV rn vc) := hr4.cell 1
  have c50 : x2.cell? ⟨w.heap.size + 1, 0, none⟩ = some (.slice MA ml mc) := hr5.cell 0
  have c90 : x2.cell? ⟨g9, 0, none⟩ = some (.bool (decide (P < 0))) := hr9.cell 0
  have c91 : x2.cell? ⟨g9, 1, none⟩ = some (.slice A9 k9 c9) := hr9.cell 1
  have c92 : x2.cell? ⟨g9, 2, none⟩ = some (.slice D9 l9 b9) := hr9.cell 2
  have z4 := hr4.lt
  have z5 := hr5.lt
  have z9 := hr9.lt
  go_wp2_with fail
  clear c40 c41 c50 c90 c91 c92 z4 z5 z9
  refine (HC.out _ BB).mono ?_
  rintro e x3 ⟨vc, rfl, hvc, hb⟩
  replace hr4 := hr4.keep hb
  replace hr5 := hr5.keep hb
  replace htab := htab.below hb
  replace hv9 := hv9.below hb
  replace hr9 := hr9.keep hb
  replace BB : Below w.heap.size w x3 := BB.trans (hb.mono BB.size)
  clear hb
  rw [HCE.out] at hvc ⊢
  obtain ⟨CA, cn, cc, rfl⟩ := ints_slc hvc
  obtain ⟨g11, hg11⟩ : ∃ g, x3.heap.size = g := ⟨_, rfl⟩
  have hr11 : Row (x3.alloc (.cells #[.slice CA cn cc] 40)) g11 40 [.slice CA cn cc] := row_at hg11
  have hl := lit_below x3 (.cells #[.slice CA cn cc] 40)
  have o4_11 : w.heap.size < g11 := by have := hr4.lt; omega
  have o5_11 : w.heap.size + 1 < g11 := by have := hr5.lt; omega
  have o9_11 : g9 < g11 := by have := hr9.lt; omega
  have ob_11 : w.heap.size ≤ g11 := by have := BB.size; omega
  have c40 : x3.cell? ⟨w.heap.size, 0, none⟩ = some (.slice PA pn pc) := hr4.cell 0
  have c41 : x3.cell? ⟨w.heap.size, 1, none⟩ = some (.slice RV rn vc) := hr4.cell 1
  have c50 : x3.cell? ⟨w.heap.size + 1, 0, none⟩ = some (.slice MA ml mc) := hr5.cell 0
  have c90 : x3.cell? ⟨g9, 0, none⟩ = some (.bool (decide (P < 0))) := hr9.cell 0
  have c91 : x3.cell? ⟨g9, 1, none⟩ = some (.slice A9 k9 c9) := hr9.cell 1
  have c92 : x3.cell? ⟨g9, 2, none⟩ = some (.slice D9 l9 b9) := hr9.cell 2
  have d40 : (x3.alloc (.cells #[.slice CA cn cc] 40)).cell? ⟨w.heap.size, 0, none⟩ = some (.slice PA pn pc) := (hr4.alloc _).cell 0
  have d41 : (x3.alloc (.cells #[.slice CA cn cc] 40)).cell? ⟨w.heap.size, 1, none⟩ = some (.slice RV rn vc) := (hr4.alloc _).cell 1
  have d50 : (x3.alloc (.cells #[.slice CA cn cc] 40)).cell? ⟨w.heap.size + 1, 0, none⟩ = some (.slice MA ml mc) := (hr5.alloc _).cell 0
  have d90 : (x3.alloc (.cells #[.slice CA cn cc] 40)).cell? ⟨g9, 0, none⟩ = some (.bool (decide (P < 0))) := (hr9.alloc _).cell 0
  have d91 : (x3.alloc (.cells #[.slice CA cn cc] 40)).cell? ⟨g9, 1, none⟩ = some (.slice A9 k9 c9) := (hr9.alloc _).cell 1
  have d92 : (x3.alloc (.cells #[.slice CA cn cc] 40)).cell? ⟨g9, 2, none⟩ = some (.slice D9 l9 b9) := (hr9.alloc _).cell 2
  have e0 : (x3.alloc (.cells #[.slice CA cn cc] 40)).cell? ⟨g11, 0, none⟩ = some (.slice CA cn cc) := hr11.cell 0
  go_wp2_with fail
  clear c40 c41 c50 c90 c91 c92 d40 d41 d50 d90 d91 d92 e0
  clear hg11
  generalize (x3.alloc (.cells #[.slice CA cn cc] 40)) = x4 at *
  replace hr4 := hr4.keep hl
  replace hr5 := hr5.keep hl
  replace htab := htab.below hl
  replace hv9 := hv9.below hl
  replace hr9 := hr9.keep hl
  replace hvc := hvc.below hl
  replace BB : Below w.heap.size w x4 := BB.trans (hl.mono BB.size)
  clear hl
  rw [onE_ok] at hvc
  have c40 : x4.cell? ⟨w.heap.size, 0, none⟩ = some (.slice PA pn pc) := hr4.cell 0
  have c41 : x4.cell? ⟨w.heap.size, 1, none⟩ = some (.slice RV rn vc) := hr4.cell 1
  have c50 : x4.cell? ⟨w.heap.size + 1, 0, none⟩ = some (.slice MA ml mc) := hr5.cell 0
  have c90 : x4.cell? ⟨g9, 0, none⟩ = some (.bool (decide (P < 0))) := hr9.cell 0
  have c91 : x4.cell? ⟨g9, 1, none⟩ = some (.slice A9 k9 c9) := hr9.cell 1
  have c92 : x4.cell? ⟨g9, 2, none⟩ = some (.slice D9 l9 b9) := hr9.cell 2
  have c110 : x4.cell? ⟨g11, 0, none⟩ = some (.slice CA cn cc) := hr11.cell 0
  have z4 := hr4.lt
  have z5 := hr5.lt
  have z9 := hr9.lt
  have z11 := hr11.lt
  go_wp2_with fail
  clear c40 c41 c50 c90 c91 c92 c110 z4 z5 z9 z11
  refine (HI2.out _ _ BB hvc).mono ?_
  rintro e x5 ⟨v13, rfl, hv13, hb⟩
  replace hr4 := hr4.keep hb
  replace hr5 := hr5.keep hb
  replace htab := htab.below hb
  replace hv9 := hv9.below hb
  replace hr9 := hr9.keep hb
  replace hvc := hvc.below hb
  replace hr11 := hr11.keep hb
  replace BB : Below w.heap.size w x5 := BB.trans (hb.mono BB.size)
  clear hb
  have h13' := hv13
  obtain ⟨m13, d13, e13, hm13, hd13, _, _⟩ := h13'
  subst e13
  obtain ⟨A13, k13, c13, rfl⟩ := hm13.lim1.choose_spec.1.show_
  obtain ⟨D13, l13, b13, rfl⟩ := hd13.lim1.choose_spec.1.show_
  clear hm13 hd13
  obtain ⟨g13, hg13⟩ : ∃ g, x5.heap.size = g := ⟨_, rfl⟩
  have hr13 : Row (x5.alloc (.cells #[.bool (decide (P2 < 0)), .slice A13 k13 c13, .slice D13 l13 b13] 31)) g13 31 [.bool (decide (P2 < 0)), .slice A13 k13 c13, .slice D13 l13 b13] := row_at hg13
  have hl := lit_below x5 (.cells #[.bool (decide (P2 < 0)), .slice A13 k13 c13, .slice D13 l13 b13] 31)
  have o4_13 : w.heap.size < g13 := by have := hr4.lt; omega
  have o5_13 : w.heap.size + 1 < g13 := by have := hr5.lt; omega
  have o9_13 : g9 < g13 := by have := hr9.lt; omega
  have o11_13 : g11 < g13 := by have := hr11.lt; omega
  have ob_13 : w.heap.size ≤ g13 := by have := BB.size; omega
  have c40 : x5.cell? ⟨w.heap.size, 0, none⟩ = some (.slice PA pn pc) := hr4.cell 0
  have c41 : x5.cell? ⟨w.heap.size, 1, none⟩ = some (.slice RV rn vc) := hr4.cell 1
  have c50 : x5.cell? ⟨w.heap.size + 1, 0, none⟩ = some (.slice MA ml mc) := hr5.cell 0
  have c90 : x5.cell? ⟨g9, 0, none⟩ = some (.bool (decide (P < 0))) := hr9.cell 0
  have c91 : x5.cell? ⟨g9, 1, none⟩ = some (.slice A9 k9 c9) := hr9.cell 1
  have c92 : x5.cell? ⟨g9, 2, none⟩ = some (.slice D9 l9 b9) := hr9.cell 2
  have c110 : x5.cell? ⟨g11, 0, none⟩ = some (.slice CA cn cc) := hr11.cell 0
  have d40 : (x5.alloc (.cells #[.bool (decide (P2 < 0)), .slice A13 k13 c13, .slice D13 l13 b13] 31)).cell? ⟨w.heap.size, 0, none⟩ = some (.slice PA pn pc) := (hr4.alloc _).cell 0
  have d41 : (x5.alloc (.cells #[.bool (decide (P2 < 0)), .slice A13 k13 c13, .slice D13 l13 b13] 31)).cell? ⟨w.heap.size, 1, none⟩ = some (.slice RV rn vc) := (hr4.alloc _).cell 1
  have d50 : (x5.alloc (.cells #[.bool (decide (P2 < 0)), .slice A13 k13 c13, .slice D13 l13 b13] 31)).cell? ⟨w.heap.size + 1, 0, none⟩ = some (.slice MA ml mc) := (hr5.alloc _).cell 0
  have d90 : (x5.alloc (.cells #[.bool (decide (P2 < 0)), .slice A13 k13 c13, .slice D13 l13 b13] 31)).cell? ⟨g9, 0, none⟩ = some (.bool (decide (P < 0))) := (hr9.alloc _).cell 0
  have d91 : (x5.alloc (.cells #[.bool (decide (P2 < 0)), .slice A13 k13 c13, .slice D13 l13 b13] 31)).cell? ⟨g9, 1, none⟩ = some (.slice A9 k9 c9) := (hr9.alloc _).cell 1
  have d92 : (x5.alloc (.cells #[.bool (decide (P2 < 0)), .slice A13 k13 c13, .slice D13 l13 b13] 31)).cell? ⟨g9, 2, none⟩ = some (.slice D9 l9 b9) := (hr9.alloc _).cell 2
  have d110 : (x5.alloc (.cells #[.bool (decide (P2 < 0)), .slice A13 k13 c13, .slice D13 l13 b13] 31)).cell? ⟨g11, 0, none⟩ = some (.slice CA cn cc) := (hr11.alloc _).cell 0
  have e0 : (x5.alloc (.cells #[.bool (decide (P2 < 0)), .slice A13 k13 c13, .slice D13 l13 b13] 31)).cell? ⟨g13, 0, none⟩ = some (.bool (decide (P2 < 0))) := hr13.cell 0
  have e1 : (x5.alloc (.cells #[.bool (decide (P2 < 0)), .slice A13 k13 c13, .slice D13 l13 b13] 31)).cell? ⟨g13, 1, none⟩ = some (.slice A13 k13 c13) := hr13.cell 1
  have e2 : (x5.alloc (.cells #[.bool (decide (P2 < 0)), .slice A13 k13 c13, .slice D13 l13 b13] 31)).cell? ⟨g13, 2, none⟩ = some (.slice D13 l13 b13) := hr13.cell 2
  go_wp2_with fail
  clear c40 c41 c50 c90 c91 c92 c110 d40 d41 d50 d90 d91 d92 d110 e0 e1 e2
  clear hg13
  generalize (x5.alloc (.cells #[.bool (decide (P2 < 0)), .slice A13 k13 c13, .slice D13 l13 b13] 31)) = x6 at *
  replace hr4 := hr4.keep hl
  replace hr5 := hr5.keep hl
  replace htab := htab.below hl
  replace hv9 := hv9.below hl
  replace hr9 := hr9.keep hl
  replace hvc := hvc.below hl
  replace hr11 := hr11.keep hl
  replace hv13 := hv13.below hl
  replace BB : Below w.heap.size w x6 := BB.trans (hl.mono BB.size)
  clear hl
  have c40 : x6.cell? ⟨w.heap.size, 0, none⟩ = some (.slice PA pn pc) := hr4.cell 0
  have c41 : x6.cell? ⟨w.heap.size, 1, none⟩ = some (.slice RV rn vc) := hr4.cell 1
  have c50 : x6.cell? ⟨w.heap.size + 1, 0, none⟩ = some (.slice MA ml mc) := hr5.cell 0
  have c90 : x6.cell? ⟨g9, 0, none⟩ = some (.bool (decide (P < 0))) := hr9.cell 0
  have c91 : x6.cell? ⟨g9, 1, none⟩ = some (.slice A9 k9 c9) := hr9.cell 1
  have c92 : x6.cell? ⟨g9, 2, none⟩ = some (.slice D9 l9 b9) := hr9.cell 2
  have c110 : x6.cell? ⟨g11, 0, none⟩ = some (.slice CA cn cc) := hr11.cell 0
  have c130 : x6.cell? ⟨g13, 0, none⟩ = some (.bool (decide (P2 < 0))) := hr13.cell 0
  have c131 : x6.cell? ⟨g13, 1, none⟩ = some (.slice A13 k13 c13) := hr13.cell 1
  have c132 : x6.cell? ⟨g13, 2, none⟩ = some (.slice D13 l13 b13) := hr13.cell 2
  have z4 := hr4.lt
  have z5 := hr5.lt
  have z9 := hr9.lt
  have z11 := hr11.lt
  have z13 := hr13.lt
  go_wp2_with fail
  clear c40 c41 c50 c90 c91 c92 c110 c130 c131 c132 z4 z5 z9 z11 z13
  refine (qcmp_any _ _ _ _ _ _ 330 _ (hv13.ratA hQ2) (hv9.ratA hQ) (by decide) (by decide)).mono ?_
  rintro e x7 ⟨rfl, hb⟩
  replace hr4 := hr4.keep hb
  replace hr5 := hr5.keep hb
  replace htab := htab.below hb
  replace hv9 := hv9.below hb
  replace hr9 := hr9.keep hb
  replace hvc := hvc.below hb
  replace hr11 := hr11.keep hb
  replace hv13 := hv13.below hb
  replace hr13 := hr13.keep hb
  replace BB : Below w.heap.size w x7 := BB.trans (hb.mono BB.size)
  clear hb
  rw [HCMP.out]
  clear hv13 hv9 hvc
  have c40 : x7.cell? ⟨w.heap.size, 0, none⟩ = some (.slice PA pn pc) := hr4.cell 0
  have c41 : x7.cell? ⟨w.heap.size, 1, none⟩ = some (.slice RV rn vc) := hr4.cell 1
  have c50 : x7.cell? ⟨w.heap.size + 1, 0, none⟩ = some (.slice MA ml mc) := hr5.cell 0
  have c90 : x7.cell? ⟨g9, 0, none⟩ = some (.bool (decide (P < 0))) := hr9.cell 0
  have c91 : x7.cell? ⟨g9, 1, none⟩ = some (.slice A9 k9 c9) := hr9.cell 1
  have c92 : x7.cell? ⟨g9, 2, none⟩ = some (.slice D9 l9 b9) := hr9.cell 2
  have c110 : x7.cell? ⟨g11, 0, none⟩ = some (.slice CA cn cc) := hr11.cell 0
  have c130 : x7.cell? ⟨g13, 0, none⟩ = some (.bool (decide (P2 < 0))) := hr13.cell 0
  have c131 : x7.cell? ⟨g13, 1, none⟩ = some (.slice A13 k13 c13) := hr13.cell 1
  have c132 : x7.cell? ⟨g13, 2, none⟩ = some (.slice D13 l13 b13) := hr13.cell 2
  have z4 := hr4.lt
  have z5 := hr5.lt
  have z9 := hr9.lt
  have z11 := hr11.lt
  have z13 := hr13.lt
  go_wp2_with fail
  clear c40 c41 c50 c90 c91 c92 c110 c130 c131 c132 z4 z5 z9 z11 z13
  refine (awake_any _ htab).mono ?_
  rintro e x8 ⟨rfl, hb⟩
  replace hr4 := hr4.keep hb
  replace hr5 := hr5.keep hb
  replace htab := htab.below hb
  replace hr9 := hr9.keep hb
  replace hr11 := hr11.keep hb
  replace hr13 := hr13.keep hb
  replace BB : Below w.heap.size w x8 := BB.trans (hb.mono BB.size)
  clear hb
  have c40 : x8.cell? ⟨w.heap.size, 0, none⟩ = some (.slice PA pn pc) := hr4.cell 0
  have c41 : x8.cell? ⟨w.heap.size, 1, none⟩ = some (.slice RV rn vc) := hr4.cell 1
  have c50 : x8.cell? ⟨w.heap.size + 1, 0, none⟩ = some (.slice MA ml mc) := hr5.cell 0
  have c90 : x8.cell? ⟨g9, 0, none⟩ = some (.bool (decide (P < 0))) := hr9.cell 0
  have c91 : x8.cell? ⟨g9, 1, none⟩ = some (.slice A9 k9 c9) := hr9.cell 1
  have c92 : x8.cell? ⟨g9, 2, none⟩ = some (.slice D9 l9 b9) := hr9.cell 2
  have c110 : x8.cell? ⟨g11, 0, none⟩ = some (.slice CA cn cc) := hr11.cell 0
  have c130 : x8.cell? ⟨g13, 0, none⟩ = some (.bool (decide (P2 < 0))) := hr13.cell 0
  have c131 : x8.cell? ⟨g13, 1, none⟩ = some (.slice A13 k13 c13) := hr13.cell 1
  have c132 : x8.cell? ⟨g13, 2, none⟩ = some (.slice D13 l13 b13) := hr13.cell 2
  have z4 := hr4.lt
  have z5 := hr5.lt
  have z9 := hr9.lt
  have z11 := hr11.lt
  have z13 := hr13.lt
  go_wp2_with fail
  clear c40 c41 c50 c90 c91 c92 c110 c130 c131 c132 z4 z5 z9 z11 z13
  go_ret
  exact ⟨rfl, BB⟩
theorem lcol_any (pv rv mv tv : Value) (ps rs : List Int) (m : List (List Int)) (tg : List Int) (q : Int) (w : World) (hp : Nums .i64 w pv ps) (hr : Nums .i64 w rv rs) (hm : IntsL w mv m) (ht : Nums .i64 w tv tg) (htab : Pow10 w) :
    Calls Tryd.prog 6 #[.agg #[pv, rv], .agg #[mv], tv, .int .i64 q] w fun e w' => e = .returned (.bool true) ∧ Below w.heap.size w w' := by
  by_cases hE : itemE ps rs m q = 0
  · obtain ⟨e1, e2, e3, e4⟩ := itemE_zero hE
    obtain ⟨q', rfl⟩ := Int.eq_ofNat_of_zero_le e3
    by_cases hC : colE (modE m (m.length : Int)) (catsOf m) tg = 0
    · exact lcol_ok pv rv mv tv ps rs m tg q' w hp hr hm ht htab hE hC
    · exact lcol_f pv rv mv tv ps rs m tg q' w hp hr hm ht htab hE hC
  · exact lcol_e pv rv mv tv ps rs m tg q w hp hr hm ht htab hE
end Go.Proofs.YtompckomogmhiaaDoor
