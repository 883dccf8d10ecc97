/- The walks of integer.Print and ratio.Print: some text, not empty, at any size; "0" at zero. The table of powers is laid. -/
import Derived.Test.YtfoleamcaflfeaaGreatDoorPrg
import Derived.Test.YtfoleamcaflfeaaGreatDoorRatQ
namespace Go.Proofs.YtfoleamcaflfeaaGreatDoor
open Go.RowKit
set_option linter.unusedVariables false

set_option maxHeartbeats 1000000 in
theorem nprint_zero (v : Value) (ls : List Nat) (w : World) (h : Lim w v ls) (h0 : val ls = 0) :
    Calls Tryz.prog 56 #[v] w fun e w' => e = .returned (.string ⟨#[48]⟩) ∧ w = w' := by
  have hst := strip_nil_of_zero h0
  obtain ⟨⟨A, c, rfl, hn, hc, hs⟩, hall⟩ := h
  have HT := trim_any A _ c ls w hs hn hc
  rw [hst] at HT
  replace HT := Lib.hid HT
  clear hs hn hc hall hst h0
  go_enter Tryz.func56, Tryz.ntmps56
  go_wp2_with fail
  refine HT.out.mono ?_
  rintro e w' ⟨rfl, rfl⟩
  go_wp2_with fail
  go_ret
  exact ⟨rfl, rfl⟩

/-- A text that is not empty, of at most n bytes. -/
def SomeText (n : Nat) (e : Ending) : Prop := ∃ s : ByteArray, e = .returned (.string s) ∧ 0 < s.size ∧ s.size ≤ n
theorem size_append (a b : ByteArray) : (a ++ b).size = a.size + b.size := by simp

set_option maxHeartbeats 4000000 in
theorem iprint_gen (v : Value) (p : Int) (L : Nat) (w : World) (h : IntA w v p L) (hL : L ≤ 1000000) (htab : Pow10 w) :
    Calls Tryz.prog 55 #[v] w fun e w' => SomeText (80 * L + 61) e ∧ Below w.heap.size w w' := by
  have h' := h
  obtain ⟨neg, mv, ls, rfl, hls, hk, hp⟩ := h'
  have hls' := hls
  obtain ⟨⟨A, c, rfl, _, _, _⟩, _⟩ := hls'
  have r0 := Row.new w 26 [.bool neg, .slice A ls.length c]
  have B0 : Below w.heap.size w (w.alloc (.cells #[.bool neg, .slice A ls.length c] 26)) := (Below.refl _ _).alloc (Nat.le_refl _) _
  obtain ⟨W0, hW0⟩ : ∃ W0 : World, W0 = w.alloc (.cells #[.bool neg, .slice A ls.length c] 26) := ⟨_, rfl⟩
  rw [← hW0] at r0 B0
  have HTAB := Lib.hid htab
  have a0 : W0.cell? ⟨w.heap.size, 0, none⟩ = some (.bool neg) := r0.cell 0
  have a1 : W0.cell? ⟨w.heap.size, 1, none⟩ = some (.slice A ls.length c) := r0.cell 1
  clear hp htab
  go_enter Tryz.func55, Tryz.ntmps55
  go_wp2_with fail
  rw [← hW0]
  clear hW0
  go_wp2_with fail
  refine (isign_any _ p L _ (h.below B0)).mono ?_
  rintro e w1 ⟨rfl, hb1⟩
  have s0 := r0.keep hb1
  have b1 : w1.cell? ⟨w.heap.size, 1, none⟩ = some (.slice A ls.length c) := s0.cell 1
  have B1 := B0.trans (hb1.mono B0.size)
  have HP := Lib.hid (nprint_gen _ ls w1 (hls.below B1) (by omega) (HTAB.out.below B1))
  by_cases hneg : p < 0
  · have t1 : decide (sgnZ p < 0) = true := decide_eq_true (by unfold sgnZ; rw [if_pos hneg]; omega)
    generalize sgnZ p = sg at *
    clear hneg
    go_wp2_with fail
    refine HP.out.mono ?_
    rintro e w2 ⟨s, rfl, hs1, hs2, hb2⟩
    go_wp2_with fail
    go_ret
    exact ⟨⟨_, rfl, by rw [size_append]; omega, by rw [size_append]; show 1 + s.size ≤ _; omega⟩, B1.trans (hb2.mono B1.size)⟩
  · have t1 : decide (sgnZ p < 0) = false := decide_eq_false (by unfold sgnZ; rw [if_neg hneg]; split <;> omega)
    generalize sgnZ p = sg at *
    clear hneg
    go_wp2_with fail
    refine HP.out.mono ?_
    rintro e w2 ⟨s, rfl, hs1, hs2, hb2⟩
    go_wp2_with fail
    go_ret
    exact ⟨⟨_, rfl, hs1, by omega⟩, B1.trans (hb2.mono B1.size)⟩
set_option maxHeartbeats 4000000 in
theorem iprint_zero (v : Value) (L : Nat) (w : World) (h : IntA w v 0 L) :
    Calls Tryz.prog 55 #[v] w fun e w' => e = .returned (.string ⟨#[48]⟩) ∧ Below w.heap.size w w' := by
  have h' := h
  obtain ⟨neg, mv, ls, rfl, hls, hk, hp⟩ := h'
  have hv0 : val ls = 0 := by have := congrArg Int.natAbs hp; rw [sg_abs] at this; omega
  have hls' := hls
  obtain ⟨⟨A, c, rfl, _, _, _⟩, _⟩ := hls'
  have r0 := Row.new w 26 [.bool neg, .slice A ls.length c]
  have B0 : Below w.heap.size w (w.alloc (.cells #[.bool neg, .slice A ls.length c] 26)) := (Below.refl _ _).alloc (Nat.le_refl _) _
  obtain ⟨W0, hW0⟩ : ∃ W0 : World, W0 = w.alloc (.cells #[.bool neg, .slice A ls.length c] 26) := ⟨_, rfl⟩
  rw [← hW0] at r0 B0
  have a0 : W0.cell? ⟨w.heap.size, 0, none⟩ = some (.bool neg) := r0.cell 0
  have a1 : W0.cell? ⟨w.heap.size, 1, none⟩ = some (.slice A ls.length c) := r0.cell 1
  have HV := Lib.hid hv0
  clear hp hv0
  go_enter Tryz.func55, Tryz.ntmps55
  go_wp2_with fail
  rw [← hW0]
  clear hW0
  go_wp2_with fail
  refine (isign_any _ 0 L _ (h.below B0)).mono ?_
  rintro e w1 ⟨rfl, hb1⟩
  rw [show sgnZ 0 = 0 by decide]
  have s0 := r0.keep hb1
  have b1 : w1.cell? ⟨w.heap.size, 1, none⟩ = some (.slice A ls.length c) := s0.cell 1
  have B1 := B0.trans (hb1.mono B0.size)
  go_wp2_with fail
  refine (nprint_zero _ ls w1 (hls.below B1) HV.out).mono ?_
  rintro e w2 ⟨rfl, rfl⟩
  go_wp2_with fail
  go_ret
  exact ⟨rfl, B1⟩

set_option maxHeartbeats 8000000 in
theorem qprint_gen (v : Value) (p : Int) (q L : Nat) (w : World) (h : RatA w v p q L) (hL : 2 ≤ L) (hM : L ≤ 100000) (htab : Pow10 w) :
    Calls Tryz.prog 27 #[v] w fun e w' => SomeText (80 * L + 61 + 1 + (80 * L + 60)) e ∧ Below w.heap.size w w' := by
  have hq := h.pos
  obtain ⟨neg, A, na, cA, B, nb, cB, rfl⟩ := h.show_
  obtain ⟨W0, hW0⟩ : ∃ W0 : World, W0 = w.alloc (.cells #[.bool neg, .slice A na cA, .slice B nb cB] 28) := ⟨_, rfl⟩
  have r0 : Row W0 w.heap.size 28 [.bool neg, .slice A na cA, .slice B nb cB] := by rw [hW0]; exact Row.new w 28 [.bool neg, .slice A na cA, .slice B nb cB]
  have B0 : Below w.heap.size w W0 := by rw [hW0]; exact (Below.refl _ _).alloc (Nat.le_refl _) _
  have HN := Lib.hid (qnorm_any _ p q L W0 (h.below B0) hL (by omega))
  have HQ := Lib.hid (redQ_pos (p := p) hq)
  have HTAB := Lib.hid htab
  generalize redP p q = n at *
  generalize redQ p q = m at *
  clear htab
  have zb : w.heap.size < W0.heap.size := r0.lt
  have a0 : W0.cell? ⟨w.heap.size, 0, none⟩ = some (.bool neg) := r0.cell 0
  have a1 : W0.cell? ⟨w.heap.size, 1, none⟩ = some (.slice A na cA) := r0.cell 1
  have a2 : W0.cell? ⟨w.heap.size, 2, none⟩ = some (.slice B nb cB) := r0.cell 2
  clear hq
  go_enter Tryz.func27, Tryz.ntmps27
  go_wp2_with fail
  rw [← hW0]
  clear hW0
  go_wp2_with fail
  refine HN.out.mono ?_
  rintro e w1 ⟨x1, rfl, ⟨mv, dv, rfl, hmv, hdv, fm, fd⟩, hb1⟩
  obtain ⟨ls, hls, vls, kls⟩ := hmv.lim1
  obtain ⟨ld, hld, vld, kld⟩ := hdv.lim1
  have hls' := hls
  obtain ⟨⟨X, cX, rfl, _, _, _⟩, _⟩ := hls'
  have hld' := hld
  obtain ⟨⟨Y, cY, rfl, _, _, _⟩, _⟩ := hld'
  obtain ⟨sb, hsb⟩ : ∃ b, decide ((n : Int) < 0) = b := ⟨_, rfl⟩
  rw [hsb]
  have r1 := ((((r0.keep hb1).set_ 0 (.bool sb)).set_ 1 (.slice X ls.length cX)).set_ 2 (.slice Y ld.length cY))
  have s0 := r0.keep hb1
  have c0 := s0.cell 0
  have c1 := s0.cell 1
  have c2 := s0.cell 2
  simp only [List.getElem?_cons_zero, List.getElem?_cons_succ] at c0 c1 c2
  have f0 := s0.frozen 0
  have f1 := s0.frozen 1
  have f2 := s0.frozen 2
  have B1 := B0.trans (hb1.mono B0.size)
  obtain ⟨W1, hW1⟩ : ∃ W1 : World, W1 = ((w1.setCell ⟨w.heap.size, 0, none⟩ (.bool sb)).setCell ⟨w.heap.size, 1, none⟩ (.slice X ls.length cX)).setCell ⟨w.heap.size, 2, none⟩ (.slice Y ld.length cY) := ⟨_, rfl⟩
  rw [← hW1] at r1
  have hB1 : Below w.heap.size w W1 := by rw [hW1]; exact ((B1.setCell (Nat.le_refl _) _).setCell (Nat.le_refl _) _).setCell (Nat.le_refl _) _
  have hx : Lim W1 (.slice X ls.length cX) ls := by rw [hW1]; exact ((hls.set_ fm zb _).set_ fm zb _).set_ fm zb _
  have hy : Lim W1 (.slice Y ld.length cY) ld := by rw [hW1]; exact ((hld.set_ fd zb _).set_ fd zb _).set_ fd zb _
  have hI : IntA W1 (.agg #[.bool sb, .slice X ls.length cX]) (n : Int) L := ⟨sb, _, ls, rfl, hx, kls, by rw [vls, ← hsb]; unfold sg; by_cases hn0 : n < 0 <;> simp [hn0] <;> omega⟩
  have d0 : W1.cell? ⟨w.heap.size, 0, none⟩ = some (.bool sb) := r1.cell 0
  have d1 : W1.cell? ⟨w.heap.size, 1, none⟩ = some (.slice X ls.length cX) := r1.cell 1
  have d2 : W1.cell? ⟨w.heap.size, 2, none⟩ = some (.slice Y ld.length cY) := r1.cell 2
  have kld2 : ld.length ≤ 1000000000 := by omega
  have HVD := Lib.hid vld
  clear hmv hdv fm fd hls hld r0 s0 a0 a1 a2 vls vld B1 B0 hb1 hsb
  go_wp2_with fail
  rw [← hW1]
  clear hW1 c0 c1 c2 f0 f1 f2
  go_wp2_with fail
  refine (iprint_gen _ n L W1 hI (by omega) (HTAB.out.below hB1)).mono ?_
  rintro e w2 ⟨⟨tn, rfl, tn1, tn2⟩, hb2⟩
  have s2 := r1.keep hb2
  have e2 : w2.cell? ⟨w.heap.size, 2, none⟩ = some (.slice Y ld.length cY) := s2.cell 2
  have z2 := s2.lt
  have hy2 := hy.below hb2
  have B2 := hB1.trans (hb2.mono hB1.size)
  clear d0 d1 d2 hx hy hI r1 hb2 hB1
  by_cases hm1 : m = 1
  · have HC : Hid (∀ l, val l = 1 → cmpN (val ld) (val l) = 0) := fun l h => by rw [h, HVD.out, hm1]; rfl
    clear hm1
    go_wp2_with fail
    go_region_held3 (fun w' => w'.cell? ⟨w.heap.size, 2, none⟩ = some (.slice Y ld.length cY))
      ((refine (Eq.trans (Below.cell (p := ⟨w.heap.size, 2, none⟩) ?_ z2) e2); (repeat (first | with_reducible exact Below.refl _ _ | with_reducible refine bl_call h6 ?_ | with_reducible refine bl_call h5 ?_ | with_reducible refine bl_drew ?_)); done))
      (first
        | (go_at_call 51; ((refine (of_any 1 _ (by omega)).mono ?_); rintro e w5 ⟨v5, rfl, l5, hl5, nt5, hv5, hk5, hf5, h5⟩; have HC5 := Lib.hid (HC.out l5 hv5); clear hv5))
        | (go_at_call 13; ((with_reducible refine (cmp_any _ _ ld l5 _ (hy2.below ?_) (hl5.below ?_)).mono ?_); (repeat (first | with_reducible exact Below.refl _ _ | with_reducible refine bl_call h6 ?_ | with_reducible refine bl_call h5 ?_ | with_reducible refine bl_drew ?_)); (repeat (first | with_reducible exact Below.refl _ _ | with_reducible refine bl_call h6 ?_ | with_reducible refine bl_call h5 ?_ | with_reducible refine bl_drew ?_)); rintro e w6 ⟨rfl, dd, hw6⟩; rw [HC5.out]; have h6 : Below w5.heap.size w5 w6 := (by rw [hw6]; exact below_drewN (Below.refl _ _) dd); clear hw6)))
    have B6 : Below w.heap.size w w6 := B2.trans (Below.mono (by (repeat (first | with_reducible exact Below.refl _ _ | with_reducible refine bl_call h6 ?_ | with_reducible refine bl_call h5 ?_ | with_reducible refine bl_drew ?_))) B2.size)
    go_wp2_with fail
    go_ret
    exact ⟨⟨_, rfl, tn1, by omega⟩, B6⟩
  · have HC : Hid (∀ l, val l = 1 → cmpN (val ld) (val l) = 1) := fun l h => by rw [h, HVD.out]; exact cmpN_gt (by have := HQ.out; omega)
    clear hm1
    go_wp2_with fail
    go_region_held3 (fun w' => w'.cell? ⟨w.heap.size, 2, none⟩ = some (.slice Y ld.length cY))
      ((refine (Eq.trans (Below.cell (p := ⟨w.heap.size, 2, none⟩) ?_ z2) e2); (repeat (first | with_reducible exact Below.refl _ _ | with_reducible refine bl_call h6 ?_ | with_reducible refine bl_call h5 ?_ | with_reducible refine bl_drew ?_)); done))
      (first
        | (go_at_call 51; ((refine (of_any 1 _ (by omega)).mono ?_); rintro e w5 ⟨v5, rfl, l5, hl5, nt5, hv5, hk5, hf5, h5⟩; have HC5 := Lib.hid (HC.out l5 hv5); clear hv5))
        | (go_at_call 13; ((with_reducible refine (cmp_any _ _ ld l5 _ (hy2.below ?_) (hl5.below ?_)).mono ?_); (repeat (first | with_reducible exact Below.refl _ _ | with_reducible refine bl_call h6 ?_ | with_reducible refine bl_call h5 ?_ | with_reducible refine bl_drew ?_)); (repeat (first | with_reducible exact Below.refl _ _ | with_reducible refine bl_call h6 ?_ | with_reducible refine bl_call h5 ?_ | with_reducible refine bl_drew ?_)); rintro e w6 ⟨rfl, dd, hw6⟩; rw [HC5.out]; have h6 : Below w5.heap.size w5 w6 := (by rw [hw6]; exact below_drewN (Below.refl _ _) dd); clear hw6)))
    have B6' : Below w2.heap.size w2 w6 := by (repeat (first | with_reducible exact Below.refl _ _ | with_reducible refine bl_call h6 ?_ | with_reducible refine bl_call h5 ?_ | with_reducible refine bl_drew ?_))
    have B6 : Below w.heap.size w w6 := B2.trans (B6'.mono B2.size)
    have e6 : w6.cell? ⟨w.heap.size, 2, none⟩ = some (.slice Y ld.length cY) := (B6'.cell (p := ⟨w.heap.size, 2, none⟩) z2).trans e2
    go_wp2_with fail
    refine (nprint_gen _ ld w6 (hy2.below B6') (by omega) (HTAB.out.below B6)).mono ?_
    rintro e w7 ⟨tm, rfl, tm1, tm2, hb7⟩
    go_wp2_with fail
    go_ret
    exact ⟨⟨_, rfl, by rw [size_append, size_append]; omega, by rw [size_append, size_append]; show tn.size + 1 + tm.size ≤ _; omega⟩, B6.trans (hb7.mono B6.size)⟩

set_option maxHeartbeats 8000000 in
theorem qprint_zero (v : Value) (q L : Nat) (w : World) (h : RatA w v 0 q L) (hL : 2 ≤ L) (hM : L ≤ 100000) :
    Calls Tryz.prog 27 #[v] w fun e w' => e = .returned (.string ⟨#[48]⟩) ∧ Below w.heap.size w w' := by
  have hq := h.pos
  obtain ⟨neg, A, na, cA, B, nb, cB, rfl⟩ := h.show_
  obtain ⟨W0, hW0⟩ : ∃ W0 : World, W0 = w.alloc (.cells #[.bool neg, .slice A na cA, .slice B nb cB] 28) := ⟨_, rfl⟩
  have r0 : Row W0 w.heap.size 28 [.bool neg, .slice A na cA, .slice B nb cB] := by rw [hW0]; exact Row.new w 28 [.bool neg, .slice A na cA, .slice B nb cB]
  have B0 : Below w.heap.size w W0 := by rw [hW0]; exact (Below.refl _ _).alloc (Nat.le_refl _) _
  have HN := Lib.hid (qnorm_any _ 0 q L W0 (h.below B0) hL (by omega))
  have HQ := Lib.hid (redQ_pos (p := 0) hq)
  have hz1 : redP 0 q = 0 := by unfold redP; simp
  have hz2 : redQ 0 q = 1 := by unfold redQ; simp [hq]
  rw [hz1, hz2] at HN
  clear hz1 hz2 HQ
  obtain ⟨n, hne⟩ : ∃ n : Int, n = 0 := ⟨_, rfl⟩
  obtain ⟨m, hme⟩ : ∃ m : Nat, m = 1 := ⟨_, rfl⟩
  rw [← hne, ← hme] at HN
  have HNE := Lib.hid hne
  have HME := Lib.hid hme
  clear hne hme
  have zb : w.heap.size < W0.heap.size := r0.lt
  have a0 : W0.cell? ⟨w.heap.size, 0, none⟩ = some (.bool neg) := r0.cell 0
  have a1 : W0.cell? ⟨w.heap.size, 1, none⟩ = some (.slice A na cA) := r0.cell 1
  have a2 : W0.cell? ⟨w.heap.size, 2, none⟩ = some (.slice B nb cB) := r0.cell 2
  clear hq
  go_enter Tryz.func27, Tryz.ntmps27
  go_wp2_with fail
  rw [← hW0]
  clear hW0
  go_wp2_with fail
  refine HN.out.mono ?_
  rintro e w1 ⟨x1, rfl, ⟨mv, dv, rfl, hmv, hdv, fm, fd⟩, hb1⟩
  obtain ⟨ls, hls, vls, kls⟩ := hmv.lim1
  obtain ⟨ld, hld, vld, kld⟩ := hdv.lim1
  have hls' := hls
  obtain ⟨⟨X, cX, rfl, _, _, _⟩, _⟩ := hls'
  have hld' := hld
  obtain ⟨⟨Y, cY, rfl, _, _, _⟩, _⟩ := hld'
  obtain ⟨sb, hsb⟩ : ∃ b, decide ((n : Int) < 0) = b := ⟨_, rfl⟩
  rw [hsb]
  have r1 := ((((r0.keep hb1).set_ 0 (.bool sb)).set_ 1 (.slice X ls.length cX)).set_ 2 (.slice Y ld.length cY))
  have s0 := r0.keep hb1
  have c0 := s0.cell 0
  have c1 := s0.cell 1
  have c2 := s0.cell 2
  simp only [List.getElem?_cons_zero, List.getElem?_cons_succ] at c0 c1 c2
  have f0 := s0.frozen 0
  have f1 := s0.frozen 1
  have f2 := s0.frozen 2
  have B1 := B0.trans (hb1.mono B0.size)
  obtain ⟨W1, hW1⟩ : ∃ W1 : World, W1 = ((w1.setCell ⟨w.heap.size, 0, none⟩ (.bool sb)).setCell ⟨w.heap.size, 1, none⟩ (.slice X ls.length cX)).setCell ⟨w.heap.size, 2, none⟩ (.slice Y ld.length cY) := ⟨_, rfl⟩
  rw [← hW1] at r1
  have hB1 : Below w.heap.size w W1 := by rw [hW1]; exact ((B1.setCell (Nat.le_refl _) _).setCell (Nat.le_refl _) _).setCell (Nat.le_refl _) _
  have hx : Lim W1 (.slice X ls.length cX) ls := by rw [hW1]; exact ((hls.set_ fm zb _).set_ fm zb _).set_ fm zb _
  have hy : Lim W1 (.slice Y ld.length cY) ld := by rw [hW1]; exact ((hld.set_ fd zb _).set_ fd zb _).set_ fd zb _
  have hI : IntA W1 (.agg #[.bool sb, .slice X ls.length cX]) (n : Int) L := ⟨sb, _, ls, rfl, hx, kls, by rw [vls, ← hsb]; unfold sg; by_cases hn0 : n < 0 <;> simp [hn0] <;> omega⟩
  have d0 : W1.cell? ⟨w.heap.size, 0, none⟩ = some (.bool sb) := r1.cell 0
  have d1 : W1.cell? ⟨w.heap.size, 1, none⟩ = some (.slice X ls.length cX) := r1.cell 1
  have d2 : W1.cell? ⟨w.heap.size, 2, none⟩ = some (.slice Y ld.length cY) := r1.cell 2
  have kld2 : ld.length ≤ 1000000000 := by omega
  have HVD := Lib.hid vld
  clear hmv hdv fm fd hls hld r0 s0 a0 a1 a2 vls vld B1 B0 hb1 hsb
  go_wp2_with fail
  rw [← hW1]
  clear hW1 c0 c1 c2 f0 f1 f2
  go_wp2_with fail
  rw [HNE.out] at hI
  refine (iprint_zero _ L W1 hI).mono ?_
  rintro e w2 ⟨rfl, hb2⟩
  have s2 := r1.keep hb2
  have e2 : w2.cell? ⟨w.heap.size, 2, none⟩ = some (.slice Y ld.length cY) := s2.cell 2
  have z2 := s2.lt
  have hy2 := hy.below hb2
  have B2 := hB1.trans (hb2.mono hB1.size)
  clear d0 d1 d2 hx hy hI r1 hb2 hB1
  have HC : Hid (∀ l, val l = 1 → cmpN (val ld) (val l) = 0) := fun l h => by rw [h, HVD.out, HME.out]; rfl
  go_wp2_with fail
  go_region_held3 (fun w' => w'.cell? ⟨w.heap.size, 2, none⟩ = some (.slice Y ld.length cY))
    ((refine (Eq.trans (Below.cell (p := ⟨w.heap.size, 2, none⟩) ?_ z2) e2); (repeat (first | with_reducible exact Below.refl _ _ | with_reducible refine bl_call h6 ?_ | with_reducible refine bl_call h5 ?_ | with_reducible refine bl_drew ?_)); done))
    (first
      | (go_at_call 51; ((refine (of_any 1 _ (by omega)).mono ?_); rintro e w5 ⟨v5, rfl, l5, hl5, nt5, hv5, hk5, hf5, h5⟩; have HC5 := Lib.hid (HC.out l5 hv5); clear hv5))
      | (go_at_call 13; ((with_reducible refine (cmp_any _ _ ld l5 _ (hy2.below ?_) (hl5.below ?_)).mono ?_); (repeat (first | with_reducible exact Below.refl _ _ | with_reducible refine bl_call h6 ?_ | with_reducible refine bl_call h5 ?_ | with_reducible refine bl_drew ?_)); (repeat (first | with_reducible exact Below.refl _ _ | with_reducible refine bl_call h6 ?_ | with_reducible refine bl_call h5 ?_ | with_reducible refine bl_drew ?_)); rintro e w6 ⟨rfl, dd, hw6⟩; rw [HC5.out]; have h6 : Below w5.heap.size w5 w6 := (by rw [hw6]; exact below_drewN (Below.refl _ _) dd); clear hw6)))
  have B6 : Below w.heap.size w w6 := B2.trans (Below.mono (by (repeat (first | with_reducible exact Below.refl _ _ | with_reducible refine bl_call h6 ?_ | with_reducible refine bl_call h5 ?_ | with_reducible refine bl_drew ?_))) B2.size)
  go_wp2_with fail
  go_ret
  exact ⟨rfl, B6⟩

end Go.Proofs.YtfoleamcaflfeaaGreatDoor
