/- The walk of nat.Print at a number of one group (below a thousand millions). The table of powers is laid. -/
import Derived.Test.YtfoleamcaflfeaaGreatDoorPrr
namespace Go.Proofs.YtfoleamcaflfeaaGreatDoor
open Go.RowKit
set_option linter.unusedVariables false

theorem strip_small9 {ls : List Nat} {n : Nat} (hall : AllB ls) (hv : val ls = n) (h0 : 0 < n) (h1 : n < 4294967296) : strip ls = [n] :=
  norm_inj (strip_all hall) (AllB.cons h1 AllB.nil) (strip_noTop _) (.inr ⟨[], n, rfl, h0⟩) (by rw [strip_val, hv]; simp [val])

set_option maxHeartbeats 4000000 in
theorem nprint_mid (v : Value) (ls : List Nat) (n : Nat) (w : World) (h : Lim w v ls) (hl : ls.length ≤ 1000000000) (hv : val ls = n) (h0 : 0 < n) (h1 : n < 1000000000) (htab : Pow10 w) :
    Calls Tryz.prog 56 #[v] w fun e w' => e = .returned (.string ⟨(Lib.decDigits n).toArray⟩) ∧ Below w.heap.size w w' := by
  have hstrip := strip_small9 h.2 hv h0 (by omega)
  obtain ⟨⟨A, c, rfl, hn, hc, hs⟩, hall⟩ := h
  have HT := Lib.hid (trim_any A _ c ls w hs hn hc)
  have hL := Lim.strip hs hn hc hall
  rw [hstrip] at HT hL
  have HN := Lib.hid h1
  have HTAB := Lib.hid htab
  have hnn : n < 4294967296 := by omega
  have HQ0 : Hid (val [n] / 1000000000 = 0 ∧ val [n] % 1000000000 = n) := by unfold Hid; simp [val]; omega
  obtain ⟨⟨A1, c1, hA1, hn1, hc1, hs1⟩, hall1⟩ := hL
  have HD := Lib.hid (divLimb_any A1 1 c1 1000000000 [n] w hs1 hall1 hn1 hc1 (by omega) (by omega) (by omega))
  rw [HQ0.out.1, HQ0.out.2] at HD
  have hA1' : Value.slice A 1 c = Value.slice A1 1 c1 := hA1
  obtain ⟨rfl, rfl⟩ : A = A1 ∧ c = c1 := by injection hA1' with a b c; exact ⟨a, c⟩
  have hle1 : (1 : Int) ≤ (c : Int) := by have : 1 ≤ c := hn1; omega
  clear hA1 hA1' hs hs1 hall hall1 hstrip hv h1 hn hc hn1 hc1 hl htab
  go_enter Tryz.func56, Tryz.ntmps56
  go_wp2_with fail
  refine HT.out.mono ?_
  rintro e w' ⟨rfl, rfl⟩
  go_wp2_with fail
  refine wp_loop_rounds 2 ?_
  rw [rounds_succ]
  go_wp2_with fail
  refine HD.out.mono ?_
  rintro e w2 ⟨v2, rfl, hN2⟩
  have hb2 := hN2.bel
  have hq2 := hN2.nat
  obtain ⟨l2, ⟨⟨A2, c2, rfl, _, _, _⟩, _⟩, nt2, e2, k2⟩ := hq2
  have hnil : l2 = [] := nt2.zero e2
  subst hnil
  clear HD HT hN2 nt2 e2 k2
  go_wp2_with (at_builtin; refine wpList_append_one w2 rfl (.tmp 23) (.tmp 25) 23 rfl w.heap.size 64 (.int .u32 0) 4 Tryz.underlying23 infoU32 rfl (.slice none 0 0) 0 [] (.int .u32 (n : Int)) rfl rfl (World.ownsRow_nil _ _ _ _) rfl (by simp [maxLen]) (by omega) hb2.size ?_; rintro G cG w3 hown hb3)
  rw [List.nil_append] at hown
  obtain ⟨A3, c3, hv3, g1, g2, hs3⟩ := Sl.of_own hown
  obtain ⟨rfl, rfl⟩ : G = A3 ∧ cG = c3 := by injection hv3 with a b c; exact ⟨a, c⟩
  obtain ⟨b, o, rfl, hcell⟩ := hs3.2 (by omega)
  have hc0 : w3.cell? ⟨b, o, none⟩ = some (.int .u32 (n : Int)) := hcell 0 _ rfl
  have B3 : Below w.heap.size w w3 := hb2.trans hb3
  clear hv3 hs3 hcell hown hb2 hb3
  rw [rounds_succ]
  go_wp2_with fail
  refine (sau_any n (Nat.lt_trans HN.out (by decide)) w3 (HTAB.out.below B3)).mono ?_
  rintro e w4 ⟨v4, rfl, ho4, hb4⟩
  obtain ⟨A4, c4, rfl, j1, j2, hs4⟩ := Sl.of_own ho4
  have B4 := B3.trans (hb4.mono B3.size)
  have hlen : 0 < (Lib.decDigits n).length := by
    unfold Lib.decDigits; split <;> simp
  obtain ⟨b4, o4, rfl, hcell4⟩ := hs4.2 hlen
  have hcv := run_convert_bytes_back (P := Tryz.prog) w4 88 9 5 ⟨b4, o4, none⟩ c4 (Lib.decDigits n) Tryz.underlying88 Tryz.underlying5 Tryz.underlying9 (fun j hj => by
    have := hcell4 j (.int .u8 (((Lib.decDigits n)[j].toNat : Nat) : Int)) (by simp [Lib.byteCells, hj])
    rw [show (⟨b4, o4, none⟩ : Addr).add j = ⟨b4, o4 + j, none⟩ by cases j <;> simp [Addr.add]]
    exact this)
  go_wp2_with fail
  refine wp_loop_rounds 1 ?_
  rw [rounds_succ]
  go_wp2_with fail
  go_ret
  exact ⟨rfl, B4⟩
theorem ba_ext9 {a b : ByteArray} (h : a.data.toList = b.data.toList) : a = b := by
  cases a; cases b; simp at h; exact congrArg _ h
theorem str_eq9 {a b : ByteArray} (h : a.data.toList = b.data.toList) : Ending.returned (.string a) = .returned (.string b) := by rw [ba_ext9 h]

set_option maxHeartbeats 4000000 in
theorem iprint_mid (v : Value) (n L : Nat) (w : World) (h : IntA w v (n : Int) L) (hL : L ≤ 1000000000) (h0 : 0 < n) (h1 : n < 1000000000) (htab : Pow10 w) :
    Calls Tryz.prog 55 #[v] w fun e w' => e = .returned (.string ⟨(Lib.decDigits n).toArray⟩) ∧ Below w.heap.size w w' := by
  have h' := h
  obtain ⟨neg, mv, ls, rfl, hls, hk, hp⟩ := h'
  have hvl : val ls = n := by have := congrArg Int.natAbs hp; rw [sg_abs] at this; omega
  have hls' := hls
  obtain ⟨⟨A, c, rfl, _, _, _⟩, _⟩ := hls'
  have r0 := Row.new w 26 [.bool neg, .slice A ls.length c]
  have B0 : Below w.heap.size w (w.alloc (.cells #[.bool neg, .slice A ls.length c] 26)) := (Below.refl _ _).alloc (Nat.le_refl _) _
  obtain ⟨W0, hW0⟩ : ∃ W0 : World, W0 = w.alloc (.cells #[.bool neg, .slice A ls.length c] 26) := ⟨_, rfl⟩
  rw [← hW0] at r0 B0
  have hsg : sgnZ (n : Int) = 1 := by unfold sgnZ; rw [if_neg (by omega), if_neg (by omega)]
  have HS := Lib.hid hsg
  have HV := Lib.hid hvl
  have H1 := Lib.hid h1
  have H0 := Lib.hid h0
  have HTAB := Lib.hid htab
  have a0 : W0.cell? ⟨w.heap.size, 0, none⟩ = some (.bool neg) := r0.cell 0
  have a1 : W0.cell? ⟨w.heap.size, 1, none⟩ = some (.slice A ls.length c) := r0.cell 1
  clear hp hsg hvl h1 h0 htab
  go_enter Tryz.func55, Tryz.ntmps55
  go_wp2_with fail
  rw [← hW0]
  clear hW0
  go_wp2_with fail
  refine (isign_any _ (n : Int) L _ (h.below B0)).mono ?_
  rintro e w1 ⟨rfl, hb1⟩
  rw [HS.out]
  have s0 := r0.keep hb1
  have b1 : w1.cell? ⟨w.heap.size, 1, none⟩ = some (.slice A ls.length c) := s0.cell 1
  have B1 := B0.trans (hb1.mono B0.size)
  go_wp2_with fail
  refine (nprint_mid _ ls n w1 (hls.below B1) (by omega) HV.out H0.out H1.out (HTAB.out.below B1)).mono ?_
  rintro e w2 ⟨rfl, hb2⟩
  go_wp2_with fail
  go_ret
  exact ⟨rfl, B1.trans (hb2.mono B1.size)⟩

/-- The text of a small positive fraction. -/
def fracText9 (n m : Nat) : List UInt8 := if m = 1 then Lib.decDigits n else Lib.decDigits n ++ [47] ++ Lib.decDigits m

set_option maxHeartbeats 8000000 in
theorem qprint_mid (v : Value) (p : Int) (q n m L : Nat) (w : World) (h : RatA w v p q L) (hL : 2 ≤ L) (hM : L ≤ 100000000) (hn : redP p q = (n : Int)) (hm : redQ p q = m) (n0 : 0 < n) (n1 : n < 1000000000) (m1 : m < 1000000000) (htab : Pow10 w) :
    Calls Tryz.prog 27 #[v] w fun e w' => e = .returned (.string ⟨(fracText9 n m).toArray⟩) ∧ Below w.heap.size w w' := by
  have hm0 : 0 < m := by rw [← hm]; exact redQ_pos h.pos
  have HN := Lib.hid (qnorm_any v p q L)
  obtain ⟨neg, A, na, cA, B, nb, cB, rfl⟩ := h.show_
  obtain ⟨W0, hW0⟩ : ∃ W0 : World, W0 = w.alloc (.cells #[.bool neg, .slice A na cA, .slice B nb cB] 28) := ⟨_, rfl⟩
  have r0 : Row W0 w.heap.size 28 [.bool neg, .slice A na cA, .slice B nb cB] := by rw [hW0]; exact Row.new w 28 [.bool neg, .slice A na cA, .slice B nb cB]
  have B0 : Below w.heap.size w W0 := by rw [hW0]; exact (Below.refl _ _).alloc (Nat.le_refl _) _
  have HN := Lib.hid (qnorm_any _ p q L W0 (h.below B0) hL (by omega))
  rw [hn, hm] at HN
  have zb : w.heap.size < W0.heap.size := r0.lt
  have a0 : W0.cell? ⟨w.heap.size, 0, none⟩ = some (.bool neg) := r0.cell 0
  have a1 : W0.cell? ⟨w.heap.size, 1, none⟩ = some (.slice A na cA) := r0.cell 1
  have a2 : W0.cell? ⟨w.heap.size, 2, none⟩ = some (.slice B nb cB) := r0.cell 2
  have HM0 := Lib.hid hm0
  have HN0 := Lib.hid n0
  have HN1 := Lib.hid n1
  have HM1 := Lib.hid m1
  have HTAB := Lib.hid htab
  clear hn hm hm0 n0 n1 m1 htab
  go_enter Tryz.func27, Tryz.ntmps27
  go_wp2_with fail
  rw [← hW0]
  clear hW0
  go_wp2_with fail
  refine HN.out.mono ?_
  rintro e w1 ⟨x1, rfl, ⟨mv, dv, rfl, hmv, hdv, fm, fd⟩, hb1⟩
  obtain ⟨ls, hls, vls, kls⟩ := hmv.lim1
  obtain ⟨ld, hld, vld, kld⟩ := hdv.lim1
  have hls' := hls
  obtain ⟨⟨X, cX, rfl, _, _, _⟩, _⟩ := hls'
  have hld' := hld
  obtain ⟨⟨Y, cY, rfl, _, _, _⟩, _⟩ := hld'
  rw [show decide ((n : Int) < 0) = false by simp]
  have r1 := ((((r0.keep hb1).set_ 0 (.bool false)).set_ 1 (.slice X ls.length cX)).set_ 2 (.slice Y ld.length cY))
  have s0 := r0.keep hb1
  have c0 := s0.cell 0
  have c1 := s0.cell 1
  have c2 := s0.cell 2
  simp only [List.getElem?_cons_zero, List.getElem?_cons_succ] at c0 c1 c2
  have f0 := s0.frozen 0
  have f1 := s0.frozen 1
  have f2 := s0.frozen 2
  have B1 := B0.trans (hb1.mono B0.size)
  obtain ⟨W1, hW1⟩ : ∃ W1 : World, W1 = ((w1.setCell ⟨w.heap.size, 0, none⟩ (.bool false)).setCell ⟨w.heap.size, 1, none⟩ (.slice X ls.length cX)).setCell ⟨w.heap.size, 2, none⟩ (.slice Y ld.length cY) := ⟨_, rfl⟩
  rw [← hW1] at r1
  have hB1 : Below w.heap.size w W1 := by rw [hW1]; exact ((B1.setCell (Nat.le_refl _) _).setCell (Nat.le_refl _) _).setCell (Nat.le_refl _) _
  have hx : Lim W1 (.slice X ls.length cX) ls := by rw [hW1]; exact ((hls.set_ fm zb _).set_ fm zb _).set_ fm zb _
  have hy : Lim W1 (.slice Y ld.length cY) ld := by rw [hW1]; exact ((hld.set_ fd zb _).set_ fd zb _).set_ fd zb _
  have hI : IntA W1 (.agg #[.bool false, .slice X ls.length cX]) (n : Int) L := ⟨false, _, ls, rfl, hx, kls, by rw [vls]; rfl⟩
  have d0 : W1.cell? ⟨w.heap.size, 0, none⟩ = some (.bool false) := r1.cell 0
  have d1 : W1.cell? ⟨w.heap.size, 1, none⟩ = some (.slice X ls.length cX) := r1.cell 1
  have d2 : W1.cell? ⟨w.heap.size, 2, none⟩ = some (.slice Y ld.length cY) := r1.cell 2
  have kld2 : ld.length ≤ 1000000000 := by omega
  have HVD := Lib.hid vld
  clear hmv hdv fm fd hls hld r0 s0 a0 a1 a2 vls vld B1 B0 hb1
  go_wp2_with fail
  rw [← hW1]
  clear hW1 c0 c1 c2 f0 f1 f2
  go_wp2_with fail
  refine (iprint_mid _ n L W1 hI (by omega) HN0.out HN1.out (HTAB.out.below hB1)).mono ?_
  rintro e w2 ⟨rfl, hb2⟩
  have s2 := r1.keep hb2
  have e2 : w2.cell? ⟨w.heap.size, 2, none⟩ = some (.slice Y ld.length cY) := s2.cell 2
  have z2 := s2.lt
  have hy2 := hy.below hb2
  have B2 := hB1.trans (hb2.mono hB1.size)
  obtain ⟨tn, htn⟩ : ∃ t : ByteArray, t = ⟨(Lib.decDigits n).toArray⟩ := ⟨_, rfl⟩
  have HTN := Lib.hid htn
  have htl : tn.size ≤ 20 := by rw [htn]; show (Lib.decDigits n).toArray.size ≤ 20; simpa using dig_le n (Nat.lt_trans HN1.out (by decide))
  rw [← htn]
  clear htn d0 d1 d2 hx hy hI r1 hb2 hB1
  by_cases hm1 : m = 1
  · have HC : Hid (∀ l, val l = 1 → cmpN (val ld) (val l) = 0) := fun l h => by rw [h, HVD.out, hm1]; rfl
    have HF : Hid (fracText9 n m = Lib.decDigits n) := if_pos hm1
    clear hm1
    go_wp2_with fail
    go_region_held3 (fun w' => w'.cell? ⟨w.heap.size, 2, none⟩ = some (.slice Y ld.length cY))
      ((refine (Eq.trans (Below.cell (p := ⟨w.heap.size, 2, none⟩) ?_ z2) e2); (repeat (first | with_reducible exact Below.refl _ _ | with_reducible refine bl_call h6 ?_ | with_reducible refine bl_call h5 ?_ | with_reducible refine bl_drew ?_)); done))
      (first
        | (go_at_call 51; ((refine (of_any 1 _ (by omega)).mono ?_); rintro e w5 ⟨v5, rfl, l5, hl5, nt5, hv5, hk5, hf5, h5⟩; have HC5 := Lib.hid (HC.out l5 hv5); clear hv5))
        | (go_at_call 13; ((with_reducible refine (cmp_any _ _ ld l5 _ (hy2.below ?_) (hl5.below ?_)).mono ?_); (repeat (first | with_reducible exact Below.refl _ _ | with_reducible refine bl_call h6 ?_ | with_reducible refine bl_call h5 ?_ | with_reducible refine bl_drew ?_)); (repeat (first | with_reducible exact Below.refl _ _ | with_reducible refine bl_call h6 ?_ | with_reducible refine bl_call h5 ?_ | with_reducible refine bl_drew ?_)); rintro e w6 ⟨rfl, dd, hw6⟩; rw [HC5.out]; have h6 : Below w5.heap.size w5 w6 := (by rw [hw6]; exact below_drewN (Below.refl _ _) dd); clear hw6)))
    have B6 : Below w.heap.size w w6 := B2.trans (Below.mono (by (repeat (first | with_reducible exact Below.refl _ _ | with_reducible refine bl_call h6 ?_ | with_reducible refine bl_call h5 ?_ | with_reducible refine bl_drew ?_))) B2.size)
    go_wp2_with fail
    go_ret
    exact ⟨by rw [HTN.out, HF.out]; rfl, B6⟩
  · have HC : Hid (∀ l, val l = 1 → cmpN (val ld) (val l) = 1) := fun l h => by rw [h, HVD.out]; exact cmpN_gt (by have := HM0.out; omega)
    have HF : Hid (fracText9 n m = Lib.decDigits n ++ [47] ++ Lib.decDigits m) := if_neg hm1
    clear hm1
    go_wp2_with fail
    go_region_held3 (fun w' => w'.cell? ⟨w.heap.size, 2, none⟩ = some (.slice Y ld.length cY))
      ((refine (Eq.trans (Below.cell (p := ⟨w.heap.size, 2, none⟩) ?_ z2) e2); (repeat (first | with_reducible exact Below.refl _ _ | with_reducible refine bl_call h6 ?_ | with_reducible refine bl_call h5 ?_ | with_reducible refine bl_drew ?_)); done))
      (first
        | (go_at_call 51; ((refine (of_any 1 _ (by omega)).mono ?_); rintro e w5 ⟨v5, rfl, l5, hl5, nt5, hv5, hk5, hf5, h5⟩; have HC5 := Lib.hid (HC.out l5 hv5); clear hv5))
        | (go_at_call 13; ((with_reducible refine (cmp_any _ _ ld l5 _ (hy2.below ?_) (hl5.below ?_)).mono ?_); (repeat (first | with_reducible exact Below.refl _ _ | with_reducible refine bl_call h6 ?_ | with_reducible refine bl_call h5 ?_ | with_reducible refine bl_drew ?_)); (repeat (first | with_reducible exact Below.refl _ _ | with_reducible refine bl_call h6 ?_ | with_reducible refine bl_call h5 ?_ | with_reducible refine bl_drew ?_)); rintro e w6 ⟨rfl, dd, hw6⟩; rw [HC5.out]; have h6 : Below w5.heap.size w5 w6 := (by rw [hw6]; exact below_drewN (Below.refl _ _) dd); clear hw6)))
    have B6' : Below w2.heap.size w2 w6 := by (repeat (first | with_reducible exact Below.refl _ _ | with_reducible refine bl_call h6 ?_ | with_reducible refine bl_call h5 ?_ | with_reducible refine bl_drew ?_))
    have B6 : Below w.heap.size w w6 := B2.trans (B6'.mono B2.size)
    have e6 : w6.cell? ⟨w.heap.size, 2, none⟩ = some (.slice Y ld.length cY) := (B6'.cell (p := ⟨w.heap.size, 2, none⟩) z2).trans e2
    go_wp2_with fail
    refine (nprint_mid _ ld m w6 (hy2.below B6') kld2 HVD.out HM0.out HM1.out (HTAB.out.below B6)).mono ?_
    rintro e w7 ⟨rfl, hb7⟩
    obtain ⟨tm, htm⟩ : ∃ t : ByteArray, t = ⟨(Lib.decDigits m).toArray⟩ := ⟨_, rfl⟩
    have HTM := Lib.hid htm
    have htl2 : tm.size ≤ 20 := by rw [htm]; show (Lib.decDigits m).toArray.size ≤ 20; simpa using dig_le m (Nat.lt_trans HM1.out (by decide))
    rw [← htm]
    clear htm
    go_wp2_with fail
    go_ret
    refine ⟨str_eq9 ?_, B6.trans (hb7.mono B6.size)⟩
    simp only [ByteArray.data_append, Array.toList_append, HTN.out, HTM.out, HF.out]
end Go.Proofs.YtfoleamcaflfeaaGreatDoor
