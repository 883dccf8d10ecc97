/- inform.Item, models. -/
import Derived.Test.YtompckomogmhiaaDoorInA
namespace Go.Proofs.YtompckomogmhiaaDoor
open Go.RowKit
set_option linter.unusedVariables false
set_option maxRecDepth 100000

abbrev Mdl := List (List Int)
/-- The first reason why an item has no information. -/
def itemE (ps rs : List Int) (m : Mdl) (q : Int) : Int := if gridE ps rs ≠ 0 then gridE ps rs else if modE m ps.length ≠ 0 then modE m ps.length else if q < 0 ∨ (ps.length : Int) ≤ q then 3 else 0
theorem itemE_zero {ps rs : List Int} {m : Mdl} {q : Int} (h : itemE ps rs m q = 0) : gridE ps rs = 0 ∧ modE m ps.length = 0 ∧ 0 ≤ q ∧ q < ps.length := by
  unfold itemE at h
  split at h
  · contradiction
  · rename_i h1
    split at h
    · contradiction
    · rename_i h2
      split at h
      · omega
      · rename_i h3
        exact ⟨by simpa using h1, by simpa using h2, by omega, by omega⟩
/-- The first reason why models are not those of a test. -/
def modsE (n : Nat) : List Mdl → Int
  | [] => 0
  | m :: ms => if modE m n ≠ 0 then modE m n else modsE n ms
def testE (n : Nat) (ms : List Mdl) : Int := if 60 < ms.length then 5 else modsE n ms
theorem modsE_zero {n : Nat} : ∀ {ms : List Mdl}, modsE n ms = 0 → ∀ j, j < ms.length → modE (ms.getD j []) n = 0
  | [], _, j, hj => by simp at hj
  | m :: ms, h, j, hj => by
    unfold modsE at h
    split at h
    · contradiction
    · rename_i h1
      cases j with
      | zero => simpa using h1
      | succ j => exact modsE_zero (ms := ms) h j (by simpa using hj)
theorem modsE_drop (n : Nat) (ms : List Mdl) {i : Nat} (h : i < ms.length) : modsE n (ms.drop i) = if modE (ms.getD i []) n ≠ 0 then modE (ms.getD i []) n else modsE n (ms.drop (i + 1)) := by
  rw [drop_cons ms [] h]
  rfl
theorem testE_zero {n : Nat} {ms : List Mdl} (h : testE n ms = 0) : ms.length ≤ 60 ∧ ∀ j, j < ms.length → modE (ms.getD j []) n = 0 := by
  unfold testE at h
  split at h
  · omega
  · exact ⟨by omega, modsE_zero h⟩

set_option maxHeartbeats 16000000 in
theorem item_no (pv rv mv : Value) (ps rs : List Int) (m : List (List Int)) (q : Int) (w : World) (hp : Nums .i64 w pv ps) (hr : Nums .i64 w rv rs) (hm : IntsL w mv m) (hE : itemE ps rs m q ≠ 0) :
    Calls Tryd.prog 9 #[.agg #[pv, rv], .agg #[mv], .int .i64 q] w fun e w' => e = .returned (.tuple #[.agg #[.bool false, .slice none 0 0, .slice none 0 0], .int .i64 (itemE ps rs m q)]) ∧ Below w.heap.size w w' := by
  have HGV := Lib.hid (fun (W : World) (h : Below w.heap.size w W) => gvalid_any pv rv ps rs W (hp.below h) (hr.below h))
  have HMV := Lib.hid (fun (W : World) (h : Below w.heap.size w W) => mvalid_any mv m (ps.length : Int) W (hm.below h))
  by_cases h1 : gridE ps rs = 0
  · by_cases h2 : modE m ps.length = 0
    · have h3 : q < 0 ∨ (ps.length : Int) ≤ q := by
        by_cases h : q < 0 ∨ (ps.length : Int) ≤ q
        · exact h
        · exfalso; apply hE; unfold itemE; rw [if_neg (by simpa using h1), if_neg (by simpa using h2), if_neg h]
      have hR : itemE ps rs m q = 3 := by unfold itemE; rw [if_neg (by simpa using h1), if_neg (by simpa using h2), if_pos h3]
      rw [hR]
      rw [h1] at HGV
      rw [h2] at HMV
      clear hR hE h1 h2
      obtain ⟨PA, pc, rfl, _, _, hps⟩ := hp
      obtain ⟨RV, vc, rfl, _, _, _⟩ := hr
      obtain ⟨MA, mc, mus, rfl, _, _, _, _⟩ := hm
      obtain ⟨pn, hpn⟩ : ∃ n, ps.length = n := ⟨_, rfl⟩
      obtain ⟨ml, hml⟩ : ∃ n, m.length = n := ⟨_, rfl⟩
      rw [hpn] at HGV HMV h3 ⊢
      rw [hml] at HMV ⊢
      clear hpn hml hps
      by_cases hq : q < 0
      · have t1 : decide (q < 0) = true := decide_eq_true hq
        obtain ⟨W0, hW0⟩ : ∃ W0 : World, W0 = ((w.alloc (.cells #[.slice PA pn pc, .slice RV rs.length vc] 24)).alloc (.cells #[.slice MA ml mc] 40)).alloc (.cells #[.bool false, .slice none 0 0, .slice none 0 0] 31) := ⟨_, rfl⟩
        have r0 : Row W0 w.heap.size 24 [.slice PA pn pc, .slice RV rs.length vc] := by
          rw [hW0]
          have := Row.alloc (Row.alloc (Row.new w 24 [.slice PA pn pc, .slice RV rs.length vc]) (.cells #[.slice MA ml mc] 40)) (.cells #[.bool false, .slice none 0 0, .slice none 0 0] 31)
          simpa using this
        have r1 : Row W0 (w.heap.size + 1) 40 [.slice MA ml mc] := by
          rw [hW0]
          have := Row.alloc (Row.new (w.alloc (.cells #[.slice PA pn pc, .slice RV rs.length vc] 24)) 40 [.slice MA ml mc]) (.cells #[.bool false, .slice none 0 0, .slice none 0 0] 31)
          simpa using this
        have r2 : Row W0 (w.heap.size + 2) 31 [.bool false, .slice none 0 0, .slice none 0 0] := by
          rw [hW0]
          have := Row.new ((w.alloc (.cells #[.slice PA pn pc, .slice RV rs.length vc] 24)).alloc (.cells #[.slice MA ml mc] 40)) 31 [.bool false, .slice none 0 0, .slice none 0 0]
          simpa using this
        have B0 : Below w.heap.size w W0 := by rw [hW0]; exact ((((Below.refl _ _).alloc (Nat.le_refl _) _).alloc (by simp) _).alloc (by simp; omega) _)
        go_enter Tryd.func9, Tryd.ntmps9
        go_wp2_with fail
        rw [← hW0]
        clear hW0
        have BB := B0
        have hr3 : Row W0 (w.heap.size) 24 [.slice PA pn pc, .slice RV rs.length vc] := r0
        have hr4 : Row W0 (w.heap.size + 1) 40 [.slice MA ml mc] := r1
        have hr6 : Row W0 (w.heap.size + 1 + 1) 31 [.bool false, .slice none 0 0, .slice none 0 0] := r2
        clear B0 r0 r1 r2
        have c30 : W0.cell? ⟨w.heap.size, 0, none⟩ = some (.slice PA pn pc) := hr3.cell 0
        have c31 : W0.cell? ⟨w.heap.size, 1, none⟩ = some (.slice RV rs.length vc) := hr3.cell 1
        have c40 : W0.cell? ⟨w.heap.size + 1, 0, none⟩ = some (.slice MA ml mc) := hr4.cell 0
        have c60 : W0.cell? ⟨w.heap.size + 1 + 1, 0, none⟩ = some (.bool false) := hr6.cell 0
        have c61 : W0.cell? ⟨w.heap.size + 1 + 1, 1, none⟩ = some (.slice none 0 0) := hr6.cell 1
        have c62 : W0.cell? ⟨w.heap.size + 1 + 1, 2, none⟩ = some (.slice none 0 0) := hr6.cell 2
        have z3 := hr3.lt
        have z4 := hr4.lt
        have z6 := hr6.lt
        go_wp2_with fail
        clear c30 c31 c40 c60 c61 c62 z3 z4 z6
        refine (HGV.out _ BB).mono ?_
        rintro e x1 ⟨rfl, hb⟩
        replace hr3 := hr3.keep hb
        replace hr4 := hr4.keep hb
        replace hr6 := hr6.keep hb
        replace BB : Below w.heap.size w x1 := BB.trans (hb.mono BB.size)
        clear hb
        have c30 : x1.cell? ⟨w.heap.size, 0, none⟩ = some (.slice PA pn pc) := hr3.cell 0
        have c31 : x1.cell? ⟨w.heap.size, 1, none⟩ = some (.slice RV rs.length vc) := hr3.cell 1
        have c40 : x1.cell? ⟨w.heap.size + 1, 0, none⟩ = some (.slice MA ml mc) := hr4.cell 0
        have c60 : x1.cell? ⟨w.heap.size + 1 + 1, 0, none⟩ = some (.bool false) := hr6.cell 0
        have c61 : x1.cell? ⟨w.heap.size + 1 + 1, 1, none⟩ = some (.slice none 0 0) := hr6.cell 1
        have c62 : x1.cell? ⟨w.heap.size + 1 + 1, 2, none⟩ = some (.slice none 0 0) := hr6.cell 2
        have z3 := hr3.lt
        have z4 := hr4.lt
        have z6 := hr6.lt
        go_wp2_with fail
        clear c30 c31 c40 c60 c61 c62 z3 z4 z6
        refine (HMV.out _ BB).mono ?_
        rintro e x2 ⟨rfl, hb⟩
        replace hr3 := hr3.keep hb
        replace hr4 := hr4.keep hb
        replace hr6 := hr6.keep hb
        replace BB : Below w.heap.size w x2 := BB.trans (hb.mono BB.size)
        clear hb
        have c30 : x2.cell? ⟨w.heap.size, 0, none⟩ = some (.slice PA pn pc) := hr3.cell 0
        have c31 : x2.cell? ⟨w.heap.size, 1, none⟩ = some (.slice RV rs.length vc) := hr3.cell 1
        have c40 : x2.cell? ⟨w.heap.size + 1, 0, none⟩ = some (.slice MA ml mc) := hr4.cell 0
        have c60 : x2.cell? ⟨w.heap.size + 1 + 1, 0, none⟩ = some (.bool false) := hr6.cell 0
        have c61 : x2.cell? ⟨w.heap.size + 1 + 1, 1, none⟩ = some (.slice none 0 0) := hr6.cell 1
        have c62 : x2.cell? ⟨w.heap.size + 1 + 1, 2, none⟩ = some (.slice none 0 0) := hr6.cell 2
        have f60 : x2.frozen? ⟨w.heap.size + 1 + 1, 0, none⟩ = false := hr6.frozen 0
        have f61 : x2.frozen? ⟨w.heap.size + 1 + 1, 1, none⟩ = false := hr6.frozen 1
        have f62 : x2.frozen? ⟨w.heap.size + 1 + 1, 2, none⟩ = false := hr6.frozen 2
        have z3 := hr3.lt
        have z4 := hr4.lt
        have z6 := hr6.lt
        go_wp2_with fail
        exact bodyPost_ret (v := .tuple #[.agg #[.bool false, .slice none 0 0, .slice none 0 0], .int .i64 3]) (by simp [results, Tryd.results9, go_sem, c60, c61, c62]) rfl ⟨rfl, ((BB.setCell (by simp; omega) _).setCell (by simp; omega) _).setCell (by simp; omega) _⟩
      · have t1 : decide (q < 0) = false := decide_eq_false hq
        have t2 : decide ((pn : Int) ≤ q) = true := decide_eq_true (by omega)
        obtain ⟨W0, hW0⟩ : ∃ W0 : World, W0 = ((w.alloc (.cells #[.slice PA pn pc, .slice RV rs.length vc] 24)).alloc (.cells #[.slice MA ml mc] 40)).alloc (.cells #[.bool false, .slice none 0 0, .slice none 0 0] 31) := ⟨_, rfl⟩
        have r0 : Row W0 w.heap.size 24 [.slice PA pn pc, .slice RV rs.length vc] := by
          rw [hW0]
          have := Row.alloc (Row.alloc (Row.new w 24 [.slice PA pn pc, .slice RV rs.length vc]) (.cells #[.slice MA ml mc] 40)) (.cells #[.bool false, .slice none 0 0, .slice none 0 0] 31)
          simpa using this
        have r1 : Row W0 (w.heap.size + 1) 40 [.slice MA ml mc] := by
          rw [hW0]
          have := Row.alloc (Row.new (w.alloc (.cells #[.slice PA pn pc, .slice RV rs.length vc] 24)) 40 [.slice MA ml mc]) (.cells #[.bool false, .slice none 0 0, .slice none 0 0] 31)
          simpa using this
        have r2 : Row W0 (w.heap.size + 2) 31 [.bool false, .slice none 0 0, .slice none 0 0] := by
          rw [hW0]
          have := Row.new ((w.alloc (.cells #[.slice PA pn pc, .slice RV rs.length vc] 24)).alloc (.cells #[.slice MA ml mc] 40)) 31 [.bool false, .slice none 0 0, .slice none 0 0]
          simpa using this
        have B0 : Below w.heap.size w W0 := by rw [hW0]; exact ((((Below.refl _ _).alloc (Nat.le_refl _) _).alloc (by simp) _).alloc (by simp; omega) _)
        go_enter Tryd.func9, Tryd.ntmps9
        go_wp2_with fail
        rw [← hW0]
        clear hW0
        have BB := B0
        have hr3 : Row W0 (w.heap.size) 24 [.slice PA pn pc, .slice RV rs.length vc] := r0
        have hr4 : Row W0 (w.heap.size + 1) 40 [.slice MA ml mc] := r1
        have hr6 : Row W0 (w.heap.size + 1 + 1) 31 [.bool false, .slice none 0 0, .slice none 0 0] := r2
        clear B0 r0 r1 r2
        have c30 : W0.cell? ⟨w.heap.size, 0, none⟩ = some (.slice PA pn pc) := hr3.cell 0
        have c31 : W0.cell? ⟨w.heap.size, 1, none⟩ = some (.slice RV rs.length vc) := hr3.cell 1
        have c40 : W0.cell? ⟨w.heap.size + 1, 0, none⟩ = some (.slice MA ml mc) := hr4.cell 0
        have c60 : W0.cell? ⟨w.heap.size + 1 + 1, 0, none⟩ = some (.bool false) := hr6.cell 0
        have c61 : W0.cell? ⟨w.heap.size + 1 + 1, 1, none⟩ = some (.slice none 0 0) := hr6.cell 1
        have c62 : W0.cell? ⟨w.heap.size + 1 + 1, 2, none⟩ = some (.slice none 0 0) := hr6.cell 2
        have z3 := hr3.lt
        have z4 := hr4.lt
        have z6 := hr6.lt
        go_wp2_with fail
        clear c30 c31 c40 c60 c61 c62 z3 z4 z6
        refine (HGV.out _ BB).mono ?_
        rintro e x1 ⟨rfl, hb⟩
        replace hr3 := hr3.keep hb
        replace hr4 := hr4.keep hb
        replace hr6 := hr6.keep hb
        replace BB : Below w.heap.size w x1 := BB.trans (hb.mono BB.size)
        clear hb
        have c30 : x1.cell? ⟨w.heap.size, 0, none⟩ = some (.slice PA pn pc) := hr3.cell 0
        have c31 : x1.cell? ⟨w.heap.size, 1, none⟩ = some (.slice RV rs.length vc) := hr3.cell 1
        have c40 : x1.cell? ⟨w.heap.size + 1, 0, none⟩ = some (.slice MA ml mc) := hr4.cell 0
        have c60 : x1.cell? ⟨w.heap.size + 1 + 1, 0, none⟩ = some (.bool false) := hr6.cell 0
        have c61 : x1.cell? ⟨w.heap.size + 1 + 1, 1, none⟩ = some (.slice none 0 0) := hr6.cell 1
        have c62 : x1.cell? ⟨w.heap.size + 1 + 1, 2, none⟩ = some (.slice none 0 0) := hr6.cell 2
        have z3 := hr3.lt
        have z4 := hr4.lt
        have z6 := hr6.lt
        go_wp2_with fail
        clear c30 c31 c40 c60 c61 c62 z3 z4 z6
        refine (HMV.out _ BB).mono ?_
        rintro e x2 ⟨rfl, hb⟩
        replace hr3 := hr3.keep hb
        replace hr4 := hr4.keep hb
        replace hr6 := hr6.keep hb
        replace BB : Below w.heap.size w x2 := BB.trans (hb.mono BB.size)
        clear hb
        have c30 : x2.cell? ⟨w.heap.size, 0, none⟩ = some (.slice PA pn pc) := hr3.cell 0
        have c31 : x2.cell? ⟨w.heap.size, 1, none⟩ = some (.slice RV rs.length vc) := hr3.cell 1
        have c40 : x2.cell? ⟨w.heap.size + 1, 0, none⟩ = some (.slice MA ml mc) := hr4.cell 0
        have c60 : x2.cell? ⟨w.heap.size + 1 + 1, 0, none⟩ = some (.bool false) := hr6.cell 0
        have c61 : x2.cell? ⟨w.heap.size + 1 + 1, 1, none⟩ = some (.slice none 0 0) := hr6.cell 1
        have c62 : x2.cell? ⟨w.heap.size + 1 + 1, 2, none⟩ = some (.slice none 0 0) := hr6.cell 2
        have f60 : x2.frozen? ⟨w.heap.size + 1 + 1, 0, none⟩ = false := hr6.frozen 0
        have f61 : x2.frozen? ⟨w.heap.size + 1 + 1, 1, none⟩ = false := hr6.frozen 1
        have f62 : x2.frozen? ⟨w.heap.size + 1 + 1, 2, none⟩ = false := hr6.frozen 2
        have z3 := hr3.lt
        have z4 := hr4.lt
        have z6 := hr6.lt
        go_wp2_with fail
        exact bodyPost_ret (v := .tuple #[.agg #[.bool false, .slice none 0 0, .slice none 0 0], .int .i64 3]) (by simp [results, Tryd.results9, go_sem, c60, c61, c62]) rfl ⟨rfl, ((BB.setCell (by simp; omega) _).setCell (by simp; omega) _).setCell (by simp; omega) _⟩
    · have hR : itemE ps rs m q = modE m ps.length := by unfold itemE; rw [if_neg (by simpa using h1), if_pos h2]
      rw [hR]
      rw [h1] at HGV
      have t1 : (modE m ps.length != 0) = true := by rw [bne_iff_ne]; exact h2
      generalize modE m ps.length = E at *
      clear hR hE h1 h2
      obtain ⟨PA, pc, rfl, _, _, hps⟩ := hp
      obtain ⟨RV, vc, rfl, _, _, _⟩ := hr
      obtain ⟨MA, mc, mus, rfl, _, _, _, _⟩ := hm
      obtain ⟨pn, hpn⟩ : ∃ n, ps.length = n := ⟨_, rfl⟩
      obtain ⟨ml, hml⟩ : ∃ n, m.length = n := ⟨_, rfl⟩
      rw [hpn] at HGV HMV ⊢
      rw [hml] at HMV ⊢
      clear hpn hml hps
      obtain ⟨W0, hW0⟩ : ∃ W0 : World, W0 = ((w.alloc (.cells #[.slice PA pn pc, .slice RV rs.length vc] 24)).alloc (.cells #[.slice MA ml mc] 40)).alloc (.cells #[.bool false, .slice none 0 0, .slice none 0 0] 31) := ⟨_, rfl⟩
      have r0 : Row W0 w.heap.size 24 [.slice PA pn pc, .slice RV rs.length vc] := by
        rw [hW0]
        have := Row.alloc (Row.alloc (Row.new w 24 [.slice PA pn pc, .slice RV rs.length vc]) (.cells #[.slice MA ml mc] 40)) (.cells #[.bool false, .slice none 0 0, .slice none 0 0] 31)
        simpa using this
      have r1 : Row W0 (w.heap.size + 1) 40 [.slice MA ml mc] := by
        rw [hW0]
        have := Row.alloc (Row.new (w.alloc (.cells #[.slice PA pn pc, .slice RV rs.length vc] 24)) 40 [.slice MA ml mc]) (.cells #[.bool false, .slice none 0 0, .slice none 0 0] 31)
        simpa using this
      have r2 : Row W0 (w.heap.size + 2) 31 [.bool false, .slice none 0 0, .slice none 0 0] := by
        rw [hW0]
        have := Row.new ((w.alloc (.cells #[.slice PA pn pc, .slice RV rs.length vc] 24)).alloc (.cells #[.slice MA ml mc] 40)) 31 [.bool false, .slice none 0 0, .slice none 0 0]
        simpa using this
      have B0 : Below w.heap.size w W0 := by rw [hW0]; exact ((((Below.refl _ _).alloc (Nat.le_refl _) _).alloc (by simp) _).alloc (by simp; omega) _)
      go_enter Tryd.func9, Tryd.ntmps9
      go_wp2_with fail
      rw [← hW0]
      clear hW0
      have BB := B0
      have hr3 : Row W0 (w.heap.size) 24 [.slice PA pn pc, .slice RV rs.length vc] := r0
      have hr4 : Row W0 (w.heap.size + 1) 40 [.slice MA ml mc] := r1
      have hr6 : Row W0 (w.heap.size + 1 + 1) 31 [.bool false, .slice none 0 0, .slice none 0 0] := r2
      clear B0 r0 r1 r2
      have c30 : W0.cell? ⟨w.heap.size, 0, none⟩ = some (.slice PA pn pc) := hr3.cell 0
      have c31 : W0.cell? ⟨w.heap.size, 1, none⟩ = some (.slice RV rs.length vc) := hr3.cell 1
      have c40 : W0.cell? ⟨w.heap.size + 1, 0, none⟩ = some (.slice MA ml mc) := hr4.cell 0
      have c60 : W0.cell? ⟨w.heap.size + 1 + 1, 0, none⟩ = some (.bool false) := hr6.cell 0
      have c61 : W0.cell? ⟨w.heap.size + 1 + 1, 1, none⟩ = some (.slice none 0 0) := hr6.cell 1
      have c62 : W0.cell? ⟨w.heap.size + 1 + 1, 2, none⟩ = some (.slice none 0 0) := hr6.cell 2
      have z3 := hr3.lt
      have z4 := hr4.lt
      have z6 := hr6.lt
      go_wp2_with fail
      clear c30 c31 c40 c60 c61 c62 z3 z4 z6
      refine (HGV.out _ BB).mono ?_
      rintro e x1 ⟨rfl, hb⟩
      replace hr3 := hr3.keep hb
      replace hr4 := hr4.keep hb
      replace hr6 := hr6.keep hb
      replace BB : Below w.heap.size w x1 := BB.trans (hb.mono BB.size)
      clear hb
      have c30 : x1.cell? ⟨w.heap.size, 0, none⟩ = some (.slice PA pn pc) := hr3.cell 0
      have c31 : x1.cell? ⟨w.heap.size, 1, none⟩ = some (.slice RV rs.length vc) := hr3.cell 1
      have c40 : x1.cell? ⟨w.heap.size + 1, 0, none⟩ = some (.slice MA ml mc) := hr4.cell 0
      have c60 : x1.cell? ⟨w.heap.size + 1 + 1, 0, none⟩ = some (.bool false) := hr6.cell 0
      have c61 : x1.cell? ⟨w.heap.size + 1 + 1, 1, none⟩ = some (.slice none 0 0) := hr6.cell 1
      have c62 : x1.cell? ⟨w.heap.size + 1 + 1, 2, none⟩ = some (.slice none 0 0) := hr6.cell 2
      have z3 := hr3.lt
      have z4 := hr4.lt
      have z6 := hr6.lt
      go_wp2_with fail
      clear c30 c31 c40 c60 c61 c62 z3 z4 z6
      refine (HMV.out _ BB).mono ?_
      rintro e x2 ⟨rfl, hb⟩
      replace hr3 := hr3.keep hb
      replace hr4 := hr4.keep hb
      replace hr6 := hr6.keep hb
      replace BB : Below w.heap.size w x2 := BB.trans (hb.mono BB.size)
      clear hb
      have c30 : x2.cell? ⟨w.heap.size, 0, none⟩ = some (.slice PA pn pc) := hr3.cell 0
      have c31 : x2.cell? ⟨w.heap.size, 1, none⟩ = some (.slice RV rs.length vc) := hr3.cell 1
      have c40 : x2.cell? ⟨w.heap.size + 1, 0, none⟩ = some (.slice MA ml mc) := hr4.cell 0
      have c60 : x2.cell? ⟨w.heap.size + 1 + 1, 0, none⟩ = some (.bool false) := hr6.cell 0
      have c61 : x2.cell? ⟨w.heap.size + 1 + 1, 1, none⟩ = some (.slice none 0 0) := hr6.cell 1
      have c62 : x2.cell? ⟨w.heap.size + 1 + 1, 2, none⟩ = some (.slice none 0 0) := hr6.cell 2
      have f60 : x2.frozen? ⟨w.heap.size + 1 + 1, 0, none⟩ = false := hr6.frozen 0
      have f61 : x2.frozen? ⟨w.heap.size + 1 + 1, 1, none⟩ = false := hr6.frozen 1
      have f62 : x2.frozen? ⟨w.heap.size + 1 + 1, 2, none⟩ = false := hr6.frozen 2
      have z3 := hr3.lt
      have z4 := hr4.lt
      have z6 := hr6.lt
      go_wp2_with fail
      exact bodyPost_ret (v := .tuple #[.agg #[.bool false, .slice none 0 0, .slice none 0 0], .int .i64 E]) (by simp [results, Tryd.results9, go_sem, c60, c61, c62]) rfl ⟨rfl, ((BB.setCell (by simp; omega) _).setCell (by simp; omega) _).setCell (by simp; omega) _⟩
  · have hR : itemE ps rs m q = gridE ps rs := by unfold itemE; rw [if_pos h1]
    rw [hR]
    have t1 : (gridE ps rs != 0) = true := by rw [bne_iff_ne]; exact h1
    generalize gridE ps rs = E at *
    clear hR hE h1 HMV
    obtain ⟨PA, pc, rfl, _, _, hps⟩ := hp
    obtain ⟨RV, vc, rfl, _, _, _⟩ := hr
    obtain ⟨MA, mc, mus, rfl, _, _, _, _⟩ := hm
    obtain ⟨pn, hpn⟩ : ∃ n, ps.length = n := ⟨_, rfl⟩
    obtain ⟨ml, hml⟩ : ∃ n, m.length = n := ⟨_, rfl⟩
    rw [hpn] at HGV ⊢
    rw [hml]
    clear hpn hml hps
    obtain ⟨W0, hW0⟩ : ∃ W0 : World, W0 = ((w.alloc (.cells #[.slice PA pn pc, .slice RV rs.length vc] 24)).alloc (.cells #[.slice MA ml mc] 40)).alloc (.cells #[.bool false, .slice none 0 0, .slice none 0 0] 31) := ⟨_, rfl⟩
    have r0 : Row W0 w.heap.size 24 [.slice PA pn pc, .slice RV rs.length vc] := by
      rw [hW0]
      have := Row.alloc (Row.alloc (Row.new w 24 [.slice PA pn pc, .slice RV rs.length vc]) (.cells #[.slice MA ml mc] 40)) (.cells #[.bool false, .slice none 0 0, .slice none 0 0] 31)
      simpa using this
    have r1 : Row W0 (w.heap.size + 1) 40 [.slice MA ml mc] := by
      rw [hW0]
      have := Row.alloc (Row.new (w.alloc (.cells #[.slice PA pn pc, .slice RV rs.length vc] 24)) 40 [.slice MA ml mc]) (.cells #[.bool false, .slice none 0 0, .slice none 0 0] 31)
      simpa using this
    have r2 : Row W0 (w.heap.size + 2) 31 [.bool false, .slice none 0 0, .slice none 0 0] := by
      rw [hW0]
      have := Row.new ((w.alloc (.cells #[.slice PA pn pc, .slice RV rs.length vc] 24)).alloc (.cells #[.slice MA ml mc] 40)) 31 [.bool false, .slice none 0 0, .slice none 0 0]
      simpa using this
    have B0 : Below w.heap.size w W0 := by rw [hW0]; exact ((((Below.refl _ _).alloc (Nat.le_refl _) _).alloc (by simp) _).alloc (by simp; omega) _)
    go_enter Tryd.func9, Tryd.ntmps9
    go_wp2_with fail
    rw [← hW0]
    clear hW0
    have BB := B0
    have hr3 : Row W0 (w.heap.size) 24 [.slice PA pn pc, .slice RV rs.length vc] := r0
    have hr4 : Row W0 (w.heap.size + 1) 40 [.slice MA ml mc] := r1
    have hr6 : Row W0 (w.heap.size + 1 + 1) 31 [.bool false, .slice none 0 0, .slice none 0 0] := r2
    clear B0 r0 r1 r2
    have c30 : W0.cell? ⟨w.heap.size, 0, none⟩ = some (.slice PA pn pc) := hr3.cell 0
    have c31 : W0.cell? ⟨w.heap.size, 1, none⟩ = some (.slice RV rs.length vc) := hr3.cell 1
    have c40 : W0.cell? ⟨w.heap.size + 1, 0, none⟩ = some (.slice MA ml mc) := hr4.cell 0
    have c60 : W0.cell? ⟨w.heap.size + 1 + 1, 0, none⟩ = some (.bool false) := hr6.cell 0
    have c61 : W0.cell? ⟨w.heap.size + 1 + 1, 1, none⟩ = some (.slice none 0 0) := hr6.cell 1
    have c62 : W0.cell? ⟨w.heap.size + 1 + 1, 2, none⟩ = some (.slice none 0 0) := hr6.cell 2
    have z3 := hr3.lt
    have z4 := hr4.lt
    have z6 := hr6.lt
    go_wp2_with fail
    clear c30 c31 c40 c60 c61 c62 z3 z4 z6
    refine (HGV.out _ BB).mono ?_
    rintro e x1 ⟨rfl, hb⟩
    replace hr3 := hr3.keep hb
    replace hr4 := hr4.keep hb
    replace hr6 := hr6.keep hb
    replace BB : Below w.heap.size w x1 := BB.trans (hb.mono BB.size)
    clear hb
    have c30 : x1.cell? ⟨w.heap.size, 0, none⟩ = some (.slice PA pn pc) := hr3.cell 0
    have c31 : x1.cell? ⟨w.heap.size, 1, none⟩ = some (.slice RV rs.length vc) := hr3.cell 1
    have c40 : x1.cell? ⟨w.heap.size + 1, 0, none⟩ = some (.slice MA ml mc) := hr4.cell 0
    have c60 : x1.cell? ⟨w.heap.size + 1 + 1, 0, none⟩ = some (.bool false) := hr6.cell 0
    have c61 : x1.cell? ⟨w.heap.size + 1 + 1, 1, none⟩ = some (.slice none 0 0) := hr6.cell 1
    have c62 : x1.cell? ⟨w.heap.size + 1 + 1, 2, none⟩ = some (.slice none 0 0) := hr6.cell 2
    have f60 : x1.frozen? ⟨w.heap.size + 1 + 1, 0, none⟩ = false := hr6.frozen 0
    have f61 : x1.frozen? ⟨w.heap.size + 1 + 1, 1, none⟩ = false := hr6.frozen 1
    have f62 : x1.frozen? ⟨w.heap.size + 1 + 1, 2, none⟩ = false := hr6.frozen 2
    have z3 := hr3.lt
    have z4 := hr4.lt
    have z6 := hr6.lt
    go_wp2_with fail
    exact bodyPost_ret (v := .tuple #[.agg #[.bool false, .slice none 0 0, .slice none 0 0], .int .i64 E]) (by simp [results, Tryd.results9, go_sem, c60, c61, c62]) rfl ⟨rfl, ((BB.setCell (by simp; omega) _).setCell (by simp; omega) _).setCell (by simp; omega) _⟩
set_option maxHeartbeats 16000000 in
theorem item_ok (pv rv mv : Value) (ps rs : List Int) (m : List (List Int)) (q Z : Nat) (w : World) (hp : Nums .i64 w pv ps) (hr : Nums .i64 w rv rs) (hm : IntsL w mv m) (hZ : IsLam Z) (hE : itemE ps rs m (q : Int) = 0) :
    Calls Tryd.prog 9 #[.agg #[pv, rv], .agg #[mv], .int .i64 (q : Int)] w fun e w' => ∃ x, e = .returned (.tuple #[x, .int .i64 0]) ∧ RatF w.heap.size w' x (redP (inF Z m ps.length q) (ifD Z ps q)) (redQ (inF Z m ps.length q) (ifD Z ps q)) 330 ∧ Below w.heap.size w w' := by
  obtain ⟨e1, e2, e3, e4⟩ := itemE_zero hE
  have HGV := Lib.hid (fun (W : World) (h : Below w.heap.size w W) => gvalid_any pv rv ps rs W (hp.below h) (hr.below h))
  have HMV := Lib.hid (fun (W : World) (h : Below w.heap.size w W) => mvalid_any mv m (ps.length : Int) W (hm.below h))
  have HIN := Lib.hid (fun (W : World) (h : Below w.heap.size w W) => info_any pv rv mv ps rs m q Z W (hp.below h) (hr.below h) (hm.below h) e1 e2 (by omega) hZ)
  rw [e1] at HGV
  rw [e2] at HMV
  have hqn : q < ps.length := by omega
  generalize inF Z m ps.length q = N0 at *
  generalize ifD Z ps q = D0 at *
  obtain ⟨NF, hNF⟩ : ∃ x, redP N0 D0 = x := ⟨_, rfl⟩
  rw [hNF] at HIN ⊢
  clear hNF e1 e2 e3 e4 hE
  obtain ⟨PA, pc, rfl, _, _, hps⟩ := hp
  obtain ⟨RV, vc, rfl, _, _, _⟩ := hr
  obtain ⟨MA, mc, mus, rfl, _, _, _, _⟩ := hm
  obtain ⟨pn, hpn⟩ : ∃ n, ps.length = n := ⟨_, rfl⟩
  obtain ⟨ml, hml⟩ : ∃ n, m.length = n := ⟨_, rfl⟩
  rw [hpn] at HGV HMV HIN hqn ⊢
  rw [hml] at HMV HIN ⊢
  clear hpn hml hps
  have t1 : decide ((q : Int) < 0) = false := decide_eq_false (by omega)
  have t2 : decide ((pn : Int) ≤ (q : Int)) = false := decide_eq_false (by omega)
  have t3 : decide (pn ≤ q) = false := decide_eq_false (by omega)
  obtain ⟨W0, hW0⟩ : ∃ W0 : World, W0 = ((w.alloc (.cells #[.slice PA pn pc, .slice RV rs.length vc] 24)).alloc (.cells #[.slice MA ml mc] 40)).alloc (.cells #[.bool false, .slice none 0 0, .slice none 0 0] 31) := ⟨_, rfl⟩
  have r0 : Row W0 w.heap.size 24 [.slice PA pn pc, .slice RV rs.length vc] := by
    rw [hW0]
    have := Row.alloc (Row.alloc (Row.new w 24 [.slice PA pn pc, .slice RV rs.length vc]) (.cells #[.slice MA ml mc] 40)) (.cells #[.bool false, .slice none 0 0, .slice none 0 0] 31)
    simpa using this
  have r1 : Row W0 (w.heap.size + 1) 40 [.slice MA ml mc] := by
    rw [hW0]
    have := Row.alloc (Row.new (w.alloc (.cells #[.slice PA pn pc, .slice RV rs.length vc] 24)) 40 [.slice MA ml mc]) (.cells #[.bool false, .slice none 0 0, .slice none 0 0] 31)
    simpa using this
  have r2 : Row W0 (w.heap.size + 2) 31 [.bool false, .slice none 0 0, .slice none 0 0] := by
    rw [hW0]
    have := Row.new ((w.alloc (.cells #[.slice PA pn pc, .slice RV rs.length vc] 24)).alloc (.cells #[.slice MA ml mc] 40)) 31 [.bool false, .slice none 0 0, .slice none 0 0]
    simpa using this
  have B0 : Below w.heap.size w W0 := by rw [hW0]; exact ((((Below.refl _ _).alloc (Nat.le_refl _) _).alloc (by simp) _).alloc (by simp; omega) _)
  go_enter Tryd.func9, Tryd.ntmps9
  go_wp2_with fail
  rw [← hW0]
  clear hW0
  have BB := B0
  have hr3 : Row W0 (w.heap.size) 24 [.slice PA pn pc, .slice RV rs.length vc] := r0
  have hr4 : Row W0 (w.heap.size + 1) 40 [.slice MA ml mc] := r1
  have hr6 : Row W0 (w.heap.size + 1 + 1) 31 [.bool false, .slice none 0 0, .slice none 0 0] := r2
  clear B0 r0 r1 r2
  have c30 : W0.cell? ⟨w.heap.size, 0, none⟩ = some (.slice PA pn pc) := hr3.cell 0
  have c31 : W0.cell? ⟨w.heap.size, 1, none⟩ = some (.slice RV rs.length vc) := hr3.cell 1
  have c40 : W0.cell? ⟨w.heap.size + 1, 0, none⟩ = some (.slice MA ml mc) := hr4.cell 0
  have c60 : W0.cell? ⟨w.heap.size + 1 + 1, 0, none⟩ = some (.bool false) := hr6.cell 0
  have c61 : W0.cell? ⟨w.heap.size + 1 + 1, 1, none⟩ = some (.slice none 0 0) := hr6.cell 1
  have c62 : W0.cell? ⟨w.heap.size + 1 + 1, 2, none⟩ = some (.slice none 0 0) := hr6.cell 2
  have z3 := hr3.lt
  have z4 := hr4.lt
  have z6 := hr6.lt
  go_wp2_with fail
  clear c30 c31 c40 c60 c61 c62 z3 z4 z6
  refine (HGV.out _ BB).mono ?_
  rintro e x1 ⟨rfl, hb⟩
  replace hr3 := hr3.keep hb
  replace hr4 := hr4.keep hb
  replace hr6 := hr6.keep hb
  replace BB : Below w.heap.size w x1 := BB.trans (hb.mono BB.size)
  clear hb
  have c30 : x1.cell? ⟨w.heap.size, 0, none⟩ = some (.slice PA pn pc) := hr3.cell 0
  have c31 : x1.cell? ⟨w.heap.size, 1, none⟩ = some (.slice RV rs.length vc) := hr3.cell 1
  have c40 : x1.cell? ⟨w.heap.size + 1, 0, none⟩ = some (.slice MA ml mc) := hr4.cell 0
  have c60 : x1.cell? ⟨w.heap.size + 1 + 1, 0, none⟩ = some (.bool false) := hr6.cell 0
  have c61 : x1.cell? ⟨w.heap.size + 1 + 1, 1, none⟩ = some (.slice none 0 0) := hr6.cell 1
  have c62 : x1.cell? ⟨w.heap.size + 1 + 1, 2, none⟩ = some (.slice none 0 0) := hr6.cell 2
  have z3 := hr3.lt
  have z4 := hr4.lt
  have z6 := hr6.lt
  go_wp2_with fail
  clear c30 c31 c40 c60 c61 c62 z3 z4 z6
  refine (HMV.out _ BB).mono ?_
  rintro e x2 ⟨rfl, hb⟩
  replace hr3 := hr3.keep hb
  replace hr4 := hr4.keep hb
  replace hr6 := hr6.keep hb
  replace BB : Below w.heap.size w x2 := BB.trans (hb.mono BB.size)
  clear hb
  have c30 : x2.cell? ⟨w.heap.size, 0, none⟩ = some (.slice PA pn pc) := hr3.cell 0
  have c31 : x2.cell? ⟨w.heap.size, 1, none⟩ = some (.slice RV rs.length vc) := hr3.cell 1
  have c40 : x2.cell? ⟨w.heap.size + 1, 0, none⟩ = some (.slice MA ml mc) := hr4.cell 0
  have c60 : x2.cell? ⟨w.heap.size + 1 + 1, 0, none⟩ = some (.bool false) := hr6.cell 0
  have c61 : x2.cell? ⟨w.heap.size + 1 + 1, 1, none⟩ = some (.slice none 0 0) := hr6.cell 1
  have c62 : x2.cell? ⟨w.heap.size + 1 + 1, 2, none⟩ = some (.slice none 0 0) := hr6.cell 2
  have z3 := hr3.lt
  have z4 := hr4.lt
  have z6 := hr6.lt
  go_wp2_with fail
  clear c30 c31 c40 c60 c61 c62 z3 z4 z6
  refine (HIN.out _ BB).mono ?_
  have hz6 := hr6.lt
  rintro e x3 ⟨v9, rfl, hv9, hb⟩
  replace hr3 := hr3.keep hb
  replace hr4 := hr4.keep hb
  replace hr6 := hr6.keep hb
  replace BB : Below w.heap.size w x3 := BB.trans (hb.mono BB.size)
  clear hb
  have h9' := hv9
  obtain ⟨m9, d9, e9, hm9, hd9, _, _⟩ := h9'
  subst e9
  obtain ⟨A9, k9, c9, rfl⟩ := hm9.lim1.choose_spec.1.show_
  obtain ⟨D9, l9, b9, rfl⟩ := hd9.lim1.choose_spec.1.show_
  clear hm9 hd9
  have c30 : x3.cell? ⟨w.heap.size, 0, none⟩ = some (.slice PA pn pc) := hr3.cell 0
  have c31 : x3.cell? ⟨w.heap.size, 1, none⟩ = some (.slice RV rs.length vc) := hr3.cell 1
  have c40 : x3.cell? ⟨w.heap.size + 1, 0, none⟩ = some (.slice MA ml mc) := hr4.cell 0
  have c60 : x3.cell? ⟨w.heap.size + 1 + 1, 0, none⟩ = some (.bool false) := hr6.cell 0
  have c61 : x3.cell? ⟨w.heap.size + 1 + 1, 1, none⟩ = some (.slice none 0 0) := hr6.cell 1
  have c62 : x3.cell? ⟨w.heap.size + 1 + 1, 2, none⟩ = some (.slice none 0 0) := hr6.cell 2
  have f60 : x3.frozen? ⟨w.heap.size + 1 + 1, 0, none⟩ = false := hr6.frozen 0
  have f61 : x3.frozen? ⟨w.heap.size + 1 + 1, 1, none⟩ = false := hr6.frozen 1
  have f62 : x3.frozen? ⟨w.heap.size + 1 + 1, 2, none⟩ = false := hr6.frozen 2
  have z3 := hr3.lt
  have z4 := hr4.lt
  have z6 := hr6.lt
  go_wp2_with fail
  refine bodyPost_ret (v := .tuple #[.agg #[.bool (decide (NF < 0)), .slice A9 k9 c9, .slice D9 l9 b9], .int .i64 0]) (by simp [results, Tryd.results9, go_sem, c60, c61, c62]) rfl ⟨_, rfl, ?_, ((BB.setCell (by simp; omega) _).setCell (by simp; omega) _).setCell (by simp; omega) _⟩
  exact (((hv9.set_ (a := ⟨w.heap.size + 1 + 1, 0, none⟩) hz6 _).set_ (a := ⟨w.heap.size + 1 + 1, 1, none⟩) hz6 _).set_ (a := ⟨w.heap.size + 1 + 1, 2, none⟩) hz6 _).base (by omega)

set_option maxHeartbeats 16000000 in
theorem models_any (pv rv lv : Value) (ps rs : List Int) (ms : List Mdl) (w : World) (hp : Nums .i64 w pv ps) (hr : Nums .i64 w rv rs) (hm : ModL w lv ms) :
    Calls Tryd.prog 21 #[.agg #[pv, rv], lv] w fun e w' => e = .returned (.int .i64 (testE ps.length ms)) ∧ Below w.heap.size w w' := by
  obtain ⟨PA, pc, rfl, _, _, hps⟩ := hp
  obtain ⟨RV, vc, rfl, _, _, _⟩ := hr
  obtain ⟨LA, lc, us, rfl, hlc, hlm, hls, hlu⟩ := hm
  have HLU := Lib.hid hlu
  unfold maxLen at hlm
  clear hlu
  obtain ⟨pn, hpn⟩ : ∃ n, ps.length = n := ⟨_, rfl⟩
  rw [hpn]
  clear hpn hps
  obtain ⟨n, hnn⟩ : ∃ n, ms.length = n := ⟨_, rfl⟩
  have HN := Lib.hid hnn
  rw [hnn] at hls hlc ⊢
  unfold testE
  rw [hnn]
  clear hnn
  by_cases h60 : 60 < n
  · rw [if_pos h60]
    have t1 : decide ((60 : Int) < (n : Int)) = true := decide_eq_true (by omega)
    have t2 : decide (60 < n) = true := decide_eq_true h60
    obtain ⟨W0, hW0⟩ : ∃ W0 : World, W0 = w.alloc (.cells #[.slice PA pn pc, .slice RV rs.length vc] 24) := ⟨_, rfl⟩
    have r0 : Row W0 w.heap.size 24 [.slice PA pn pc, .slice RV rs.length vc] := by
      rw [hW0]
      have := Row.new w 24 [.slice PA pn pc, .slice RV rs.length vc]
      simpa using this
    have B0 : Below w.heap.size w W0 := by rw [hW0]; exact ((Below.refl _ _).alloc (Nat.le_refl _) _)
    go_enter Tryd.func21, Tryd.ntmps21
    go_wp2_with fail
    rw [← hW0]
    clear hW0
    have BB := B0
    have hr2 : Row W0 (w.heap.size) 24 [.slice PA pn pc, .slice RV rs.length vc] := r0
    clear B0 r0
    go_wp2_with fail
    go_ret
    exact ⟨rfl, BB⟩
  · rw [if_neg h60]
    have t1 : decide ((60 : Int) < (n : Int)) = false := decide_eq_false (by omega)
    have t2 : decide (60 < n) = false := decide_eq_false h60
    obtain ⟨W0, hW0⟩ : ∃ W0 : World, W0 = w.alloc (.cells #[.slice PA pn pc, .slice RV rs.length vc] 24) := ⟨_, rfl⟩
    have r0 : Row W0 w.heap.size 24 [.slice PA pn pc, .slice RV rs.length vc] := by
      rw [hW0]
      have := Row.new w 24 [.slice PA pn pc, .slice RV rs.length vc]
      simpa using this
    have B0 : Below w.heap.size w W0 := by rw [hW0]; exact ((Below.refl _ _).alloc (Nat.le_refl _) _)
    go_enter Tryd.func21, Tryd.ntmps21
    go_wp2_with fail
    rw [← hW0]
    clear hW0
    have BB := B0
    have hr2 : Row W0 (w.heap.size) 24 [.slice PA pn pc, .slice RV rs.length vc] := r0
    clear B0 r0
    go_wp2_with fail
    go_loopw [13] (fun iv wr => ∃ (i : Nat), i ≤ n ∧ iv = .int .i64 (i : Int) ∧ modsE pn ms = modsE pn (ms.drop i) ∧ Row wr w.heap.size 24 [.slice PA pn pc, .slice RV rs.length vc] ∧ Below w.heap.size w wr) (fun iv _ => n - (intOf iv).toNat)
    case atStart => exact ⟨0, by omega, rfl, by rw [List.drop_zero], hr2, BB⟩
    case round =>
      clear hr2 BB
      obtain ⟨i, hi, rfl, hme, hr2, BB⟩ := hrel
      have HME := Lib.hid hme
      clear hme
      by_cases hlt : i < n
      · obtain ⟨b, o, u, rfl, hbl, hcell, hu⟩ := lst_at (R := IntsL) (d := []) (xs := ms) hls HLU.out hlt
        replace hu := hu.below BB
        have g2 := (BB.cell (p := ⟨b, o + i, none⟩) hbl).trans hcell
        have HSTEP := Lib.hid (modsE_drop pn ms (i := i) (by rw [HN.out]; exact hlt))
        have HMV := Lib.hid (fun (W : World) (h : Below wr.heap.size wr W) => mvalid_any u (ms.getD i []) (pn : Int) W (hu.below h))
        generalize modE (ms.getD i []) (pn : Int) = E at *
        obtain ⟨MA, mc, mus, rfl, _, _, _, _⟩ := hu
        obtain ⟨ml, hml⟩ : ∃ n, (ms.getD i []).length = n := ⟨_, rfl⟩
        rw [hml] at HMV g2
        clear hml hcell
        have hiI : (i : Int) < (n : Int) := by omega
        obtain ⟨g6, hg6⟩ : ∃ g, wr.heap.size = g := ⟨_, rfl⟩
        have hr6 : Row (wr.alloc (.cells #[.slice MA ml mc] 40)) g6 40 [.slice MA ml mc] := row_at hg6
        have hl := lit_below wr (.cells #[.slice MA ml mc] 40)
        have o26 : w.heap.size < g6 := by have := hr2.lt; omega
        have c20 : wr.cell? ⟨w.heap.size, 0, none⟩ = some (.slice PA pn pc) := hr2.cell 0
        have d20 : (wr.alloc (.cells #[.slice MA ml mc] 40)).cell? ⟨w.heap.size, 0, none⟩ = some (.slice PA pn pc) := (hr2.alloc _).cell 0
        have e0 : (wr.alloc (.cells #[.slice MA ml mc] 40)).cell? ⟨g6, 0, none⟩ = some (.slice MA ml mc) := hr6.cell 0
        go_wp2_with fail
        clear c20 d20 e0 g2
        clear hg6
        have hq2 := hr2.keep hl
        have BQ := BB.trans (hl.mono BB.size)
        refine (HMV.out _ hl).mono ?_
        rintro e x2 ⟨rfl, hb⟩
        replace hq2 := hq2.keep hb
        replace BQ : Below w.heap.size w x2 := BQ.trans (hb.mono BQ.size)
        clear hb hl hr6 HMV
        by_cases hE : E = 0
        · subst hE
          have HM2 : Hid (modsE pn ms = modsE pn (ms.drop (i + 1))) := by
            unfold Hid; rw [HME.out, HSTEP.out]; simp
          go_wp2_with fail
          go_roundw
          case rel => exact ⟨i + 1, by omega, by go_num, HM2.out, hq2, BQ⟩
          case measure => simp [intOf]; omega
        · have hne : (E != 0) = true := by rw [bne_iff_ne]; exact hE
          have HM2 : Hid (modsE pn ms = E) := by
            unfold Hid; rw [HME.out, HSTEP.out, if_pos hE]
          go_wp2_with fail
          go_ret
          exact ⟨by rw [HM2.out]; rfl, BQ⟩
      · obtain rfl : i = n := by omega
        have HM2 : Hid (modsE pn ms = 0) := by
          unfold Hid; rw [HME.out, List.drop_of_length_le (by have := HN.out; omega)]; rfl
        go_wp2_with fail
        go_ret
        exact ⟨by rw [HM2.out]; rfl, BB⟩

end Go.Proofs.YtompckomogmhiaaDoor
