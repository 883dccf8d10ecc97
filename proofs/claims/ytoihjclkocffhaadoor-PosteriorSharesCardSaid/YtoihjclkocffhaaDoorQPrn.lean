/- The walks of integer.Print and ratio.Print at small numbers. -/
import Derived.Test.YtoihjclkocffhaaDoorPrn
namespace Go.Proofs.YtoihjclkocffhaaDoor
open Go.RowKit
set_option linter.unusedVariables false

theorem ba_ext {a b : ByteArray} (h : a.data.toList = b.data.toList) : a = b := by
  cases a; cases b; simp at h; exact congrArg _ h
theorem str_eq {a b : ByteArray} (h : a.data.toList = b.data.toList) : Ending.returned (.string a) = .returned (.string b) := by rw [ba_ext h]

set_option maxHeartbeats 4000000 in
theorem iprint_any (v : Value) (n L : Nat) (w : World) (h : IntA w v (n : Int) L) (hL : L ≤ 1000000000) (h0 : 0 < n) (h1 : n < 100) :
    Calls Tryd.prog 65 #[v] w fun e w' => e = .returned (.string ⟨(Lib.decDigits n).toArray⟩) ∧ Below w.heap.size w w' := by
  have h' := h
  obtain ⟨neg, mv, ls, rfl, hls, hk, hp⟩ := h'
  have hvl : val ls = n := by have := congrArg Int.natAbs hp; rw [sg_abs] at this; omega
  have hls' := hls
  obtain ⟨⟨A, c, rfl, _, _, _⟩, _⟩ := hls'
  have r0 := Row.new w 52 [.bool neg, .slice A ls.length c]
  have B0 : Below w.heap.size w (w.alloc (.cells #[.bool neg, .slice A ls.length c] 52)) := (Below.refl _ _).alloc (Nat.le_refl _) _
  obtain ⟨W0, hW0⟩ : ∃ W0 : World, W0 = w.alloc (.cells #[.bool neg, .slice A ls.length c] 52) := ⟨_, rfl⟩
  rw [← hW0] at r0 B0
  have hsg : sgnZ (n : Int) = 1 := by unfold sgnZ; rw [if_neg (by omega), if_neg (by omega)]
  have HS := Lib.hid hsg
  have HV := Lib.hid hvl
  have H1 := Lib.hid h1
  have H0 := Lib.hid h0
  have a0 : W0.cell? ⟨w.heap.size, 0, none⟩ = some (.bool neg) := r0.cell 0
  have a1 : W0.cell? ⟨w.heap.size, 1, none⟩ = some (.slice A ls.length c) := r0.cell 1
  clear hp hsg hvl h1 h0
  go_enter Tryd.func65, Tryd.ntmps65
  go_wp2_with fail
  rw [← hW0]
  clear hW0
  go_wp2_with fail
  refine (isign_any _ (n : Int) L _ (h.below B0)).mono ?_
  rintro e w1 ⟨rfl, hb1⟩
  rw [HS.out]
  have s0 := r0.keep hb1
  have b1 : w1.cell? ⟨w.heap.size, 1, none⟩ = some (.slice A ls.length c) := s0.cell 1
  have B1 := B0.trans (hb1.mono B0.size)
  go_wp2_with fail
  refine (nprint_any _ ls n w1 (hls.below B1) (by omega) HV.out H0.out H1.out).mono ?_
  rintro e w2 ⟨rfl, hb2⟩
  go_wp2_with fail
  go_ret
  exact ⟨rfl, B1.trans (hb2.mono B1.size)⟩

theorem digits_len (n : Nat) (h : n < 100) : (Lib.decDigits n).length ≤ 2 := by
  unfold Lib.decDigits; split
  · simp
  · unfold Lib.decDigits; rw [dif_pos (by omega)]; simp
/-- The text of a small positive fraction. -/
def fracText (n m : Nat) : List UInt8 := if m = 1 then Lib.decDigits n else Lib.decDigits n ++ [47] ++ Lib.decDigits m

set_option maxHeartbeats 8000000 in
theorem qprint_any (v : Value) (p : Int) (q n m L : Nat) (w : World) (h : RatA w v p q L) (hL : 2 ≤ L) (hM : L ≤ 100000000) (hn : redP p q = (n : Int)) (hm : redQ p q = m) (n0 : 0 < n) (n1 : n < 100) (m1 : m < 100) :
    Calls Tryd.prog 27 #[v] w fun e w' => e = .returned (.string ⟨(fracText n m).toArray⟩) ∧ Below w.heap.size w w' := by
  have hm0 : 0 < m := by rw [← hm]; exact redQ_pos h.pos
  have HN := Lib.hid (qnorm_any v p q L)
  obtain ⟨neg, A, na, cA, B, nb, cB, rfl⟩ := h.show_
  obtain ⟨W0, hW0⟩ : ∃ W0 : World, W0 = w.alloc (.cells #[.bool neg, .slice A na cA, .slice B nb cB] 54) := ⟨_, rfl⟩
  have r0 : Row W0 w.heap.size 54 [.bool neg, .slice A na cA, .slice B nb cB] := by rw [hW0]; exact Row.new w 54 [.bool neg, .slice A na cA, .slice B nb cB]
  have B0 : Below w.heap.size w W0 := by rw [hW0]; exact (Below.refl _ _).alloc (Nat.le_refl _) _
  have HN := Lib.hid (qnorm_any _ p q L W0 (h.below B0) hL (by omega))
  rw [hn, hm] at HN
  have zb : w.heap.size < W0.heap.size := r0.lt
  have a0 : W0.cell? ⟨w.heap.size, 0, none⟩ = some (.bool neg) := r0.cell 0
  have a1 : W0.cell? ⟨w.heap.size, 1, none⟩ = some (.slice A na cA) := r0.cell 1
  have a2 : W0.cell? ⟨w.heap.size, 2, none⟩ = some (.slice B nb cB) := r0.cell 2
  have HM0 := Lib.hid hm0
  have HN0 := Lib.hid n0
  have HN1 := Lib.hid n1
  have HM1 := Lib.hid m1
  clear hn hm hm0 n0 n1 m1
  go_enter Tryd.func27, Tryd.ntmps27
  go_wp2_with fail
  rw [← hW0]
  clear hW0
  go_wp2_with fail
  refine HN.out.mono ?_
  rintro e w1 ⟨x1, rfl, ⟨mv, dv, rfl, hmv, hdv, fm, fd⟩, hb1⟩
  obtain ⟨ls, hls, vls, kls⟩ := hmv.lim1
  obtain ⟨ld, hld, vld, kld⟩ := hdv.lim1
  have hls' := hls
  obtain ⟨⟨X, cX, rfl, _, _, _⟩, _⟩ := hls'
  have hld' := hld
  obtain ⟨⟨Y, cY, rfl, _, _, _⟩, _⟩ := hld'
  rw [show decide ((n : Int) < 0) = false by simp]
  have r1 := ((((r0.keep hb1).set_ 0 (.bool false)).set_ 1 (.slice X ls.length cX)).set_ 2 (.slice Y ld.length cY))
  have s0 := r0.keep hb1
  have c0 := s0.cell 0
  have c1 := s0.cell 1
  have c2 := s0.cell 2
  simp only [List.getElem?_cons_zero, List.getElem?_cons_succ] at c0 c1 c2
  have f0 := s0.frozen 0
  have f1 := s0.frozen 1
  have f2 := s0.frozen 2
  have B1 := B0.trans (hb1.mono B0.size)
  obtain ⟨W1, hW1⟩ : ∃ W1 : World, W1 = ((w1.setCell ⟨w.heap.size, 0, none⟩ (.bool false)).setCell ⟨w.heap.size, 1, none⟩ (.slice X ls.length cX)).setCell ⟨w.heap.size, 2, none⟩ (.slice Y ld.length cY) := ⟨_, rfl⟩
  rw [← hW1] at r1
  have hB1 : Below w.heap.size w W1 := by rw [hW1]; exact ((B1.setCell (Nat.le_refl _) _).setCell (Nat.le_refl _) _).setCell (Nat.le_refl _) _
  have hx : Lim W1 (.slice X ls.length cX) ls := by rw [hW1]; exact ((hls.set_ fm zb _).set_ fm zb _).set_ fm zb _
  have hy : Lim W1 (.slice Y ld.length cY) ld := by rw [hW1]; exact ((hld.set_ fd zb _).set_ fd zb _).set_ fd zb _
  have hI : IntA W1 (.agg #[.bool false, .slice X ls.length cX]) (n : Int) L := ⟨false, _, ls, rfl, hx, kls, by rw [vls]; rfl⟩
  have d0 : W1.cell? ⟨w.heap.size, 0, none⟩ = some (.bool false) := r1.cell 0
  have d1 : W1.cell? ⟨w.heap.size, 1, none⟩ = some (.slice X ls.length cX) := r1.cell 1
  have d2 : W1.cell? ⟨w.heap.size, 2, none⟩ = some (.slice Y ld.length cY) := r1.cell 2
  have kld2 : ld.length ≤ 1000000000 := by omega
  have HVD := Lib.hid vld
  clear hmv hdv fm fd hls hld r0 s0 a0 a1 a2 vls vld B1 B0 hb1
  go_wp2_with fail
  rw [← hW1]
  clear hW1 c0 c1 c2 f0 f1 f2
  go_wp2_with fail
  refine (iprint_any _ n L W1 hI (by omega) HN0.out HN1.out).mono ?_
  rintro e w2 ⟨rfl, hb2⟩
  have s2 := r1.keep hb2
  have e2 : w2.cell? ⟨w.heap.size, 2, none⟩ = some (.slice Y ld.length cY) := s2.cell 2
  have z2 := s2.lt
  have hy2 := hy.below hb2
  have B2 := hB1.trans (hb2.mono hB1.size)
  obtain ⟨tn, htn⟩ : ∃ t : ByteArray, t = ⟨(Lib.decDigits n).toArray⟩ := ⟨_, rfl⟩
  have HTN := Lib.hid htn
  have htl : tn.size ≤ 2 := by rw [htn]; exact digits_len n HN1.out
  rw [← htn]
  clear htn d0 d1 d2 hx hy hI r1 hb2 hB1
  by_cases hm1 : m = 1
  · have HC : Hid (∀ l, val l = 1 → cmpN (val ld) (val l) = 0) := fun l h => by rw [h, HVD.out, hm1]; rfl
    have HF : Hid (fracText n m = Lib.decDigits n) := if_pos hm1
    clear hm1
    go_wp2_with fail
    go_region_held3 (fun w' => w'.cell? ⟨w.heap.size, 2, none⟩ = some (.slice Y ld.length cY))
      ((refine (Eq.trans (Below.cell (p := ⟨w.heap.size, 2, none⟩) ?_ z2) e2); (repeat (first | with_reducible exact Below.refl _ _ | with_reducible refine bl_call h6 ?_ | with_reducible refine bl_call h5 ?_ | with_reducible refine bl_drew ?_)); done))
      (first
        | (go_at_call 34; ((refine (of_any 1 _ (by omega)).mono ?_); rintro e w5 ⟨v5, rfl, l5, hl5, nt5, hv5, hk5, hf5, h5⟩; have HC5 := Lib.hid (HC.out l5 hv5); clear hv5))
        | (go_at_call 52; ((with_reducible refine (cmp_any _ _ ld l5 _ (hy2.below ?_) (hl5.below ?_)).mono ?_); (repeat (first | with_reducible exact Below.refl _ _ | with_reducible refine bl_call h6 ?_ | with_reducible refine bl_call h5 ?_ | with_reducible refine bl_drew ?_)); (repeat (first | with_reducible exact Below.refl _ _ | with_reducible refine bl_call h6 ?_ | with_reducible refine bl_call h5 ?_ | with_reducible refine bl_drew ?_)); rintro e w6 ⟨rfl, dd, hw6⟩; rw [HC5.out]; have h6 : Below w5.heap.size w5 w6 := (by rw [hw6]; exact below_drewN (Below.refl _ _) dd); clear hw6)))
    have B6 : Below w.heap.size w w6 := B2.trans (Below.mono (by (repeat (first | with_reducible exact Below.refl _ _ | with_reducible refine bl_call h6 ?_ | with_reducible refine bl_call h5 ?_ | with_reducible refine bl_drew ?_))) B2.size)
    go_wp2_with fail
    go_ret
    exact ⟨by rw [HTN.out, HF.out]; rfl, B6⟩
  · have HC : Hid (∀ l, val l = 1 → cmpN (val ld) (val l) = 1) := fun l h => by rw [h, HVD.out]; exact cmpN_gt (by have := HM0.out; omega)
    have HF : Hid (fracText n m = Lib.decDigits n ++ [47] ++ Lib.decDigits m) := if_neg hm1
    clear hm1
    go_wp2_with fail
    go_region_held3 (fun w' => w'.cell? ⟨w.heap.size, 2, none⟩ = some (.slice Y ld.length cY))
      ((refine (Eq.trans (Below.cell (p := ⟨w.heap.size, 2, none⟩) ?_ z2) e2); (repeat (first | with_reducible exact Below.refl _ _ | with_reducible refine bl_call h6 ?_ | with_reducible refine bl_call h5 ?_ | with_reducible refine bl_drew ?_)); done))
      (first
        | (go_at_call 34; ((refine (of_any 1 _ (by omega)).mono ?_); rintro e w5 ⟨v5, rfl, l5, hl5, nt5, hv5, hk5, hf5, h5⟩; have HC5 := Lib.hid (HC.out l5 hv5); clear hv5))
        | (go_at_call 52; ((with_reducible refine (cmp_any _ _ ld l5 _ (hy2.below ?_) (hl5.below ?_)).mono ?_); (repeat (first | with_reducible exact Below.refl _ _ | with_reducible refine bl_call h6 ?_ | with_reducible refine bl_call h5 ?_ | with_reducible refine bl_drew ?_)); (repeat (first | with_reducible exact Below.refl _ _ | with_reducible refine bl_call h6 ?_ | with_reducible refine bl_call h5 ?_ | with_reducible refine bl_drew ?_)); rintro e w6 ⟨rfl, dd, hw6⟩; rw [HC5.out]; have h6 : Below w5.heap.size w5 w6 := (by rw [hw6]; exact below_drewN (Below.refl _ _) dd); clear hw6)))
    have B6' : Below w2.heap.size w2 w6 := by (repeat (first | with_reducible exact Below.refl _ _ | with_reducible refine bl_call h6 ?_ | with_reducible refine bl_call h5 ?_ | with_reducible refine bl_drew ?_))
    have B6 : Below w.heap.size w w6 := B2.trans (B6'.mono B2.size)
    have e6 : w6.cell? ⟨w.heap.size, 2, none⟩ = some (.slice Y ld.length cY) := (B6'.cell (p := ⟨w.heap.size, 2, none⟩) z2).trans e2
    go_wp2_with fail
    refine (nprint_any _ ld m w6 (hy2.below B6') kld2 HVD.out HM0.out HM1.out).mono ?_
    rintro e w7 ⟨rfl, hb7⟩
    obtain ⟨tm, htm⟩ : ∃ t : ByteArray, t = ⟨(Lib.decDigits m).toArray⟩ := ⟨_, rfl⟩
    have HTM := Lib.hid htm
    have htl2 : tm.size ≤ 2 := by rw [htm]; exact digits_len m HM1.out
    rw [← htm]
    clear htm
    go_wp2_with fail
    go_ret
    refine ⟨str_eq ?_, B6.trans (hb7.mono B6.size)⟩
    simp only [ByteArray.data_append, Array.toList_append, HTN.out, HTM.out, HF.out]
end Go.Proofs.YtoihjclkocffhaaDoor
