/- The walk of EstimateIntervals. -/
import Derived.Test.YtfoleamcaflfeaaGreatDoorEsZ
import Derived.Test.YtfoleamcaflfeaaGreatDoorEsW
namespace Go.Proofs.YtfoleamcaflfeaaGreatDoor
open Go.RowKit
set_option linter.unusedVariables false
set_option maxRecDepth 100000

set_option maxHeartbeats 8000000 in
theorem lint_any (wv lv : Value) (ns : List Nat) (L M : Nat) (p : Int) (q : Nat) (c : Int) (w : World) (hw : Wts w wv ns L) (hlv : RatA w lv p q M) (hM : 2 ≤ M) (hLM : L ≤ 35184372088000 ∧ M ≤ 35184372088000) (htab : Pow10 w) :
    Calls Tryz.prog 3 #[wv, lv, .int .i64 c] w fun e w' => e = .returned (.bool true) ∧ Below w.heap.size w w' := by
  have H1 := Lib.hid (fun (W : World) (h : Below w.heap.size w W) => ecred_any wv lv ns L M p q W (hw.below h) (hlv.below h) hM hLM)
  have H2 := Lib.hid (fun (W : World) (h : Below w.heap.size w W) => rcred_any wv lv ns L M p q W (hw.below h) (hlv.below h) hM hLM)
  have H3 := Lib.hid (fun (W : World) (h : Below w.heap.size w W) => eclass_any wv lv ns L M p q c W (hw.below h) (hlv.below h) hM hLM)
  have H4 := Lib.hid (fun (W : World) (h : Below w.heap.size w W) => rclass_any wv lv ns L M p q c W (hw.below h) (hlv.below h) hM hLM)
  have HT := Lib.hid htab
  obtain ⟨a, ha⟩ : ∃ a : Int, ((credV ns p q).1 : Int) = a := ⟨_, rfl⟩
  obtain ⟨b, hb⟩ : ∃ b : Int, ((credV ns p q).2 : Int) = b := ⟨_, rfl⟩
  obtain ⟨e, he⟩ : ∃ e, credE ns p q = e := ⟨_, rfl⟩
  obtain ⟨x, hx⟩ : ∃ x, classV ns c p q = x := ⟨_, rfl⟩
  obtain ⟨y, hy⟩ : ∃ y, classE ns c p q = y := ⟨_, rfl⟩
  rw [ha, hb, he] at H1 H2
  rw [hx, hy] at H3 H4
  have t1 : (a == a) = true := by simp
  have t2 : (b == b) = true := by simp
  have t3 : (e == e) = true := by simp
  have t4 : (x == x) = true := by simp
  have t5 : (y == y) = true := by simp
  obtain ⟨neg, LA, ln, lc, LB, lk, lb, rfl⟩ := hlv.show_
  obtain ⟨WA, wcp, us, rfl, _, _, _, _⟩ := hw
  clear ha hb he hx hy hlv htab
  obtain ⟨W0, hW0⟩ : ∃ W0 : World, W0 = w.alloc (.cells #[.bool neg, .slice LA ln lc, .slice LB lk lb] 28) := ⟨_, rfl⟩
  have r0 : Row W0 w.heap.size 28 [.bool neg, .slice LA ln lc, .slice LB lk lb] := by
    rw [hW0]
    have := Row.new w 28 [.bool neg, .slice LA ln lc, .slice LB lk lb]
    simpa using this
  have B0 : Below w.heap.size w W0 := by rw [hW0]; exact ((Below.refl _ _).alloc (Nat.le_refl _) _)
  go_enter Tryz.func3, Tryz.ntmps3
  go_wp2_with fail
  rw [← hW0]
  clear hW0
  have BB := B0
  have hr4 := r0
  clear B0 r0
  have c40 : W0.cell? ⟨w.heap.size, 0, none⟩ = some (.bool neg) := hr4.cell 0
  have c41 : W0.cell? ⟨w.heap.size, 1, none⟩ = some (.slice LA ln lc) := hr4.cell 1
  have c42 : W0.cell? ⟨w.heap.size, 2, none⟩ = some (.slice LB lk lb) := hr4.cell 2
  have z4 := hr4.lt
  go_wp2_with fail
  clear c40 c41 c42 z4
  refine (H1.out _ BB).mono ?_
  rintro e x1 ⟨rfl, hb⟩
  replace hr4 := hr4.keep hb
  replace BB : Below w.heap.size w x1 := BB.trans (hb.mono BB.size)
  clear hb
  have c40 : x1.cell? ⟨w.heap.size, 0, none⟩ = some (.bool neg) := hr4.cell 0
  have c41 : x1.cell? ⟨w.heap.size, 1, none⟩ = some (.slice LA ln lc) := hr4.cell 1
  have c42 : x1.cell? ⟨w.heap.size, 2, none⟩ = some (.slice LB lk lb) := hr4.cell 2
  have z4 := hr4.lt
  go_wp2_with fail
  clear c40 c41 c42 z4
  refine (H2.out _ BB).mono ?_
  rintro e x2 ⟨rfl, hb⟩
  replace hr4 := hr4.keep hb
  replace BB : Below w.heap.size w x2 := BB.trans (hb.mono BB.size)
  clear hb
  have c40 : x2.cell? ⟨w.heap.size, 0, none⟩ = some (.bool neg) := hr4.cell 0
  have c41 : x2.cell? ⟨w.heap.size, 1, none⟩ = some (.slice LA ln lc) := hr4.cell 1
  have c42 : x2.cell? ⟨w.heap.size, 2, none⟩ = some (.slice LB lk lb) := hr4.cell 2
  have z4 := hr4.lt
  go_wp2_with fail
  clear c40 c41 c42 z4
  refine (H3.out _ BB).mono ?_
  rintro e x3 ⟨rfl, hb⟩
  replace hr4 := hr4.keep hb
  replace BB : Below w.heap.size w x3 := BB.trans (hb.mono BB.size)
  clear hb
  have c40 : x3.cell? ⟨w.heap.size, 0, none⟩ = some (.bool neg) := hr4.cell 0
  have c41 : x3.cell? ⟨w.heap.size, 1, none⟩ = some (.slice LA ln lc) := hr4.cell 1
  have c42 : x3.cell? ⟨w.heap.size, 2, none⟩ = some (.slice LB lk lb) := hr4.cell 2
  have z4 := hr4.lt
  go_wp2_with fail
  clear c40 c41 c42 z4
  refine (H4.out _ BB).mono ?_
  rintro e x4 ⟨rfl, hb⟩
  replace hr4 := hr4.keep hb
  replace BB : Below w.heap.size w x4 := BB.trans (hb.mono BB.size)
  clear hb
  have c40 : x4.cell? ⟨w.heap.size, 0, none⟩ = some (.bool neg) := hr4.cell 0
  have c41 : x4.cell? ⟨w.heap.size, 1, none⟩ = some (.slice LA ln lc) := hr4.cell 1
  have c42 : x4.cell? ⟨w.heap.size, 2, none⟩ = some (.slice LB lk lb) := hr4.cell 2
  have z4 := hr4.lt
  go_wp2_with fail
  clear c40 c41 c42 z4
  refine (awake_any _ (HT.out.below BB)).mono ?_
  rintro e x5 ⟨rfl, hb⟩
  replace hr4 := hr4.keep hb
  replace BB : Below w.heap.size w x5 := BB.trans (hb.mono BB.size)
  clear hb
  have c40 : x5.cell? ⟨w.heap.size, 0, none⟩ = some (.bool neg) := hr4.cell 0
  have c41 : x5.cell? ⟨w.heap.size, 1, none⟩ = some (.slice LA ln lc) := hr4.cell 1
  have c42 : x5.cell? ⟨w.heap.size, 2, none⟩ = some (.slice LB lk lb) := hr4.cell 2
  have z4 := hr4.lt
  go_wp2_with fail
  clear c40 c41 c42 z4
  go_ret
  exact ⟨rfl, BB⟩
end Go.Proofs.YtfoleamcaflfeaaGreatDoor
