/- The walk of the law CalibrateBest: it returns true for all arguments. No condition. -/
import Derived.Test.YtneoglmfabilnaaChoA
import Derived.Test.YtneoglmfabilnaaLwTot
import Derived.Test.YtneoglmfabilnaaNatC
namespace Go.Proofs.Ytneoglmfabilnaa
open Go.RowKit
set_option linter.unusedVariables false

theorem keep_6 {W w' : World} {p1 p2 p3 p4 p5 p6 : Addr} {x1 x2 x3 x4 x5 x6 : Value} (l1 : p1.block < W.heap.size) (l2 : p2.block < W.heap.size) (l3 : p3.block < W.heap.size) (l4 : p4.block < W.heap.size) (l5 : p5.block < W.heap.size) (l6 : p6.block < W.heap.size) (h1 : W.cell? p1 = some x1) (h2 : W.cell? p2 = some x2) (h3 : W.cell? p3 = some x3) (h4 : W.cell? p4 = some x4) (h5 : W.cell? p5 = some x5) (h6 : W.cell? p6 = some x6) (hb : Below W.heap.size W w') :
    w'.cell? p1 = some x1 ∧ w'.cell? p2 = some x2 ∧ w'.cell? p3 = some x3 ∧ w'.cell? p4 = some x4 ∧ w'.cell? p5 = some x5 ∧ w'.cell? p6 = some x6 ∧ Below W.heap.size W w' := ⟨(hb.cell l1).trans h1, (hb.cell l2).trans h2, (hb.cell l3).trans h3, (hb.cell l4).trans h4, (hb.cell l5).trans h5, (hb.cell l6).trans h6, hb⟩
theorem NatAt.lim' {w : World} {v : Value} {n L : Nat} (h : NatAt w v n L) : ∃ ls, Lim w v ls ∧ val ls = n ∧ ls.length ≤ L := by
  obtain ⟨ls, h1, _, h3, h4⟩ := h
  exact ⟨ls, h1, h3, h4⟩
set_option maxHeartbeats 8000000 in
set_option maxRecDepth 10000 in
theorem best_all (pv rv mv qv iv cv : Value) (ps rs : List Int) (ms : List (List (List Int))) (qs is : List Int) (cs : List (List Int)) (i : Int) (fv : Value) (fam : List (List (List Int))) (w : World) (hp : Nums .i64 w pv ps) (hr : Nums .i64 w rv rs) (hm : ModL w mv ms) (hq : Nums .i64 w qv qs) (hi : Nums .i64 w iv is) (hc : IntsL w cv cs) (hf : ModL w fv fam) :
    Calls Try.prog 6 #[.agg #[pv, rv], mv, .agg #[qv, iv, cv], .int .i64 i, fv] w fun e w' => e = .returned (.bool true) ∧ Below w.heap.size w w' := by
  have hp0 := hp
  have hr0 := hr
  have hm0 := hm
  have hq0 := hq
  have hi0 := hi
  have hc0 := hc
  have hf0 := hf
  obtain ⟨A, c, rfl, hc1, hm1, hsp⟩ := hp
  obtain ⟨B, c', rfl, hc', hm2, hsr⟩ := hr
  obtain ⟨M, cM, us, rfl, k1, k2, hs, hu⟩ := hm
  obtain ⟨X, cX, rfl, x1, x2, x3⟩ := hq
  obtain ⟨Y, cY, rfl, y1, y2, y3⟩ := hi
  obtain ⟨Z, cZ, vs, rfl, z1, z2, hsc, hcu⟩ := hc
  obtain ⟨Q, cQ, fs, rfl, fq1, fq2, hsf, hfu⟩ := hf
  have HC := Lib.hid hcu
  have HF := Lib.hid hfu
  unfold maxLen at fq2 k2 x2 y2 z2 hm1 hm2
  clear hfu hu hs hsp hsr x3 y3 hcu
  have hgb := (Row.new w 24 [.slice A ps.length c, .slice B rs.length c']).alloc (.cells #[.slice X qs.length cX, .slice Y is.length cY, .slice Z cs.length cZ] 36)
  have hmb := Row.new (w.alloc (.cells #[.slice A ps.length c, .slice B rs.length c'] 24)) 36 [.slice X qs.length cX, .slice Y is.length cY, .slice Z cs.length cZ]
  have B0 : Below w.heap.size w ((w.alloc (.cells #[.slice A ps.length c, .slice B rs.length c'] 24)).alloc (.cells #[.slice X qs.length cX, .slice Y is.length cY, .slice Z cs.length cZ] 36)) := ((Below.refl _ _).alloc (Nat.le_refl _) _).alloc (by simp) _
  rw [show (w.alloc (.cells #[.slice A ps.length c, .slice B rs.length c'] 24)).heap.size = w.heap.size + 1 by simp] at hmb
  go_enter Try.func6, Try.ntmps6
  go_wp2_with fail
  refine (heavy_any _ _ _ qs is _ (hq0.below B0) (hi0.below B0) ⟨_, _, _, rfl⟩).mono ?_
  rintro e w1 ⟨b, rfl, hb1⟩
  have B1 : Below w.heap.size w w1 := B0.trans (hb1.mono B0.size)
  replace hgb := hgb.keep hb1
  replace hmb := hmb.keep hb1
  clear hb1 B0
  have qg0 : w1.cell? ⟨w.heap.size, 0, none⟩ = some (.slice A ps.length c) := hgb.cell 0
  have qg1 : w1.cell? ⟨w.heap.size, 1, none⟩ = some (.slice B rs.length c') := hgb.cell 1
  have q0 : w1.cell? ⟨w.heap.size + 1, 0, none⟩ = some (.slice X qs.length cX) := hmb.cell 0
  have q1 : w1.cell? ⟨w.heap.size + 1, 1, none⟩ = some (.slice Y is.length cY) := hmb.cell 1
  have q2 : w1.cell? ⟨w.heap.size + 1, 2, none⟩ = some (.slice Z cs.length cZ) := hmb.cell 2
  cases b
  case true =>
    go_wp2_with fail
    go_ret
    exact ⟨rfl, B1⟩
  go_wp2_with fail
  refine (wide_any _ fam _ (hf0.below B1)).mono ?_
  rintro e w1 ⟨b, rfl, rfl⟩
  cases b
  case true =>
    go_wp2_with fail
    go_ret
    exact ⟨rfl, B1⟩
  go_wp2_with fail
  refine (choose_any _ _ _ _ _ _ ps rs ms qs is cs i _ fam _ (hp0.below B1) (hr0.below B1) (hm0.below B1) (hq0.below B1) (hi0.below B1) (hc0.below B1) (hf0.below B1)).mono ?_
  rintro e w2 ⟨rfl, hb2⟩
  have B2 : Below w.heap.size w w2 := B1.trans (hb2.mono B1.size)
  replace hgb := hgb.keep hb2
  replace hmb := hmb.keep hb2
  clear hb2 B1 qg0 qg1 q0 q1 q2
  by_cases he : chE ps rs ms qs is cs i fam = 0
  case neg =>
    have HV := Lib.hid (chV_bad rfl he)
    have f1 : (chE ps rs ms qs is cs i fam != 0) = true := by rw [bne_iff_ne]; exact he
    rw [HV.out]
    clear he
    generalize chE ps rs ms qs is cs i fam = E at *
    go_wp2_with fail
    go_ret
    exact ⟨rfl, B2⟩
  have f1 : (chE ps rs ms qs is cs i fam != 0) = false := by rw [bne_eq_false_iff_eq]; exact he
  obtain ⟨h1, h60, h24, h3, h4, h5, h6, hi1, hi2⟩ := chE_zero he
  have HV := Lib.hid (chV_ok he)
  obtain ⟨it, rfl⟩ := Int.eq_ofNat_of_zero_le hi1
  have hit : it < ms.length := by omega
  obtain ⟨hf1, _, _⟩ := famE_zero h5
  have HTE := Lib.hid (fun f (hf : f < fam.length) => tot_put h1 h60 h3 h4 h5 hit h6 hf)
  have HTV := Lib.hid (fun f (hf : f < fam.length) => (totV_ok (HTE.out f hf)).trans (likeL_get rs ms cs it fam hf).symm)
  rw [Int.toNat_natCast] at HV
  have hkl : grTo (likeL rs ms cs it fam) fam.length < fam.length := by have := grTo_lt (likeL rs ms cs it fam) fam.length; omega
  have HGE := Lib.hid (grTo_ge (likeL rs ms cs it fam) fam.length)
  have HFI := Lib.hid (grTo_first (likeL rs ms cs it fam) fam.length)
  rw [HV.out]
  generalize grTo (likeL rs ms cs it fam) fam.length = K at *
  clear HV h1 h4 h5 h6 h3 he
  generalize chE ps rs ms qs is cs (it : Int) fam = E at f1 ⊢
  obtain ⟨b1, o1, u1, rfl, hb1, g1, hI⟩ := lst_at hsf HF.out hkl
  have g2 : w2.cell? ⟨b1, o1 + K, none⟩ = some u1 := (B2.cell (p := ⟨b1, o1 + K, none⟩) hb1).trans g1
  have hI' := hI
  obtain ⟨R, cR, ss, rfl, _, _, _, _⟩ := hI'
  clear g1
  have qg0 : w2.cell? ⟨w.heap.size, 0, none⟩ = some (.slice A ps.length c) := hgb.cell 0
  have qg1 : w2.cell? ⟨w.heap.size, 1, none⟩ = some (.slice B rs.length c') := hgb.cell 1
  have q0 : w2.cell? ⟨w.heap.size + 1, 0, none⟩ = some (.slice X qs.length cX) := hmb.cell 0
  have q1 : w2.cell? ⟨w.heap.size + 1, 1, none⟩ = some (.slice Y is.length cY) := hmb.cell 1
  have q2 : w2.cell? ⟨w.heap.size + 1, 2, none⟩ = some (.slice Z cs.length cZ) := hmb.cell 2
  have zg := hgb.lt
  have zm := hmb.lt
  have z1' : b1 < w2.heap.size := Nat.lt_of_lt_of_le hb1 B2.size
  have HTK := Lib.hid (HTE.out K hkl)
  have HVK := Lib.hid (HTV.out K hkl)
  have d1 : decide ((K : Int) < 0) = false := by simp
  have d2 : decide (fam.length ≤ K) = false := decide_eq_false (by omega)
  have d3 : decide ((it : Int) < 0) = false := by simp
  have d4 : decide (ms.length ≤ it) = false := decide_eq_false (by omega)
  have i1 : (0 : Int) ≤ (K : Int) := by omega
  have i2 : (K : Int) < (fam.length : Int) := by omega
  generalize fam.getD K [] = x at *
  go_wp2_with fail
  clear f1
  go_region_held3 (fun w' => w'.cell? ⟨w.heap.size, 0, none⟩ = some (.slice A ps.length c) ∧ w'.cell? ⟨w.heap.size, 1, none⟩ = some (.slice B rs.length c') ∧ w'.cell? ⟨w.heap.size + 1, 0, none⟩ = some (.slice X qs.length cX) ∧ w'.cell? ⟨w.heap.size + 1, 1, none⟩ = some (.slice Y is.length cY) ∧ w'.cell? ⟨w.heap.size + 1, 2, none⟩ = some (.slice Z cs.length cZ) ∧ w'.cell? ⟨b1, o1 + K, none⟩ = some (.slice R x.length cR) ∧ Below w2.heap.size w2 w')
    ((refine keep_6 zg zg zm zm zm z1' qg0 qg1 q0 q1 q2 g2 ?_; (repeat (first | with_reducible exact Below.refl _ _ | with_reducible refine bl_call hb3 ?_ | with_reducible refine bl_drew ?_))))
    (first
      | (go_at_call 19; ((with_reducible refine (totalOf_any _ _ _ _ _ _ ps rs ms qs is cs it _ x _ (hp0.below ?_) (hr0.below ?_) (hm0.below ?_) (hq0.below ?_) (hi0.below ?_) (hc0.below ?_) (hI.below ?_) hit h60).mono ?_); (exact B2.drew); (exact B2.drew); (exact B2.drew); (exact B2.drew); (exact B2.drew); (exact B2.drew); (exact B2.drew); rintro e w3 ⟨v3, rfl, hv3, hb3⟩)))
  have B3' : Below w2.heap.size w2 w3 := undrew1 hb3
  have B3 : Below w.heap.size w w3 := B2.trans (B3'.mono B2.size)
  replace hgb := hgb.keep B3'
  replace hmb := hmb.keep B3'
  rw [HTK.out]
  have HPOS := Lib.hid (totV_pos HTK.out)
  rw [HVK.out] at hv3 HPOS
  obtain ⟨lb, hlb1, hlb2, hlb3⟩ := hv3.lim'
  have hlb1' := hlb1
  obtain ⟨⟨C3, c3, rfl, _, _, _⟩, _⟩ := hlb1'
  clear hb3 B3' g2 qg0 qg1 q0 q1 q2 hI HTK HVK
  go_wp2_with fail
  refine (bits_any _ lb _ hlb1 (by omega)).mono ?_
  rintro e w' ⟨nb, rfl, rfl, hnb⟩
  rw [hlb2] at hnb
  have hnb1 := (hnb.2 HPOS.out).1
  have f2 : ((nb : Int) == 0) = false := by rw [beq_eq_false_iff_ne]; omega
  clear hnb HPOS
  go_wp2_with fail
  clear f2 d1 d2 d3 d4
  obtain ⟨T, hT⟩ : ∃ T, (likeL rs ms cs it fam).getD K 0 = T := ⟨_, rfl⟩
  rw [hT] at hlb2 hv3 HGE HFI
  obtain ⟨n, hn⟩ : ∃ n, fam.length = n := ⟨_, rfl⟩
  have HNF := Lib.hid hn
  clear hT hn
  go_loopw [15] (fun i wr => ∃ j : Nat, j ≤ fam.length ∧ i = .int .i64 (j : Int) ∧ Below w3.heap.size w3 wr) (fun i _ => fam.length - (intOf i).toNat)
  case atStart => exact ⟨0, by omega, rfl, Below.refl _ _⟩
  case round =>
    obtain ⟨j, hj, rfl, hb⟩ := hrel
    by_cases hlt : j < fam.length
    · obtain ⟨b2, o2, u2, hA, hb2, g1, hI⟩ := lst_at hsf HF.out hlt
      simp only [Option.some.injEq, Addr.mk.injEq, and_true] at hA
      obtain ⟨rfl, rfl⟩ := hA
      have BR : Below w.heap.size w wr := B3.trans (hb.mono B3.size)
      have hgb5 := hgb.keep hb
      have hmb5 := hmb.keep hb
      have g2 : wr.cell? ⟨b1, o1 + j, none⟩ = some u2 := (BR.cell (p := ⟨b1, o1 + j, none⟩) hb1).trans g1
      have hI' := hI
      obtain ⟨R2, cR2, ss2, rfl, _, _, _, _⟩ := hI'
      clear g1
      have qg0 : wr.cell? ⟨w.heap.size, 0, none⟩ = some (.slice A ps.length c) := hgb5.cell 0
      have qg1 : wr.cell? ⟨w.heap.size, 1, none⟩ = some (.slice B rs.length c') := hgb5.cell 1
      have q0 : wr.cell? ⟨w.heap.size + 1, 0, none⟩ = some (.slice X qs.length cX) := hmb5.cell 0
      have q1 : wr.cell? ⟨w.heap.size + 1, 1, none⟩ = some (.slice Y is.length cY) := hmb5.cell 1
      have q2 : wr.cell? ⟨w.heap.size + 1, 2, none⟩ = some (.slice Z cs.length cZ) := hmb5.cell 2
      have zg := hgb5.lt
      have zm := hmb5.lt
      have z1' : b1 < wr.heap.size := Nat.lt_of_lt_of_le hb1 BR.size
      have HTK := Lib.hid (HTE.out j hlt)
      have HVK := Lib.hid (HTV.out j hlt)
      have HG1 := Lib.hid (HGE.out j hlt)
      have HG2 := Lib.hid (HFI.out j)
      generalize fam.getD j [] = x2 at *
      have i3 : (0 : Int) ≤ (j : Int) := by omega
      have i4 : (j : Int) < (fam.length : Int) := by omega
      go_wp2_with fail
      go_region_held3 (fun w' => w'.cell? ⟨w.heap.size, 0, none⟩ = some (.slice A ps.length c) ∧ w'.cell? ⟨w.heap.size, 1, none⟩ = some (.slice B rs.length c') ∧ w'.cell? ⟨w.heap.size + 1, 0, none⟩ = some (.slice X qs.length cX) ∧ w'.cell? ⟨w.heap.size + 1, 1, none⟩ = some (.slice Y is.length cY) ∧ w'.cell? ⟨w.heap.size + 1, 2, none⟩ = some (.slice Z cs.length cZ) ∧ w'.cell? ⟨b1, o1 + j, none⟩ = some (.slice R2 x2.length cR2) ∧ Below wr.heap.size wr w')
        ((refine keep_6 zg zg zm zm zm z1' qg0 qg1 q0 q1 q2 g2 ?_; (repeat (first | with_reducible exact Below.refl _ _ | with_reducible refine bl_call hb4 ?_ | with_reducible refine bl_drew ?_))))
        (first
          | (go_at_call 19; ((with_reducible refine (totalOf_any _ _ _ _ _ _ ps rs ms qs is cs it _ x2 _ (hp0.below ?_) (hr0.below ?_) (hm0.below ?_) (hq0.below ?_) (hi0.below ?_) (hc0.below ?_) (hI.below ?_) hit h60).mono ?_); (exact BR.drew); (exact BR.drew); (exact BR.drew); (exact BR.drew); (exact BR.drew); (exact BR.drew); (exact BR.drew); rintro e w4 ⟨v4, rfl, hv4, hb4⟩)))
      have B4' : Below wr.heap.size wr w4 := undrew1 hb4
      have B4 : Below w3.heap.size w3 w4 := hb.trans (B4'.mono hb.size)
      rw [HTK.out]
      rw [HVK.out] at hv4
      obtain ⟨la, hla1, hla2, hla3⟩ := hv4.lim'
      have hla1' := hla1
      obtain ⟨⟨C4, c4, rfl, _, _, _⟩, _⟩ := hla1'
      clear hb4 B4' g2 qg0 qg1 q0 q1 q2 hI HTK HVK i3 i4
      go_wp2_with fail
      refine (cmp_any _ _ la lb _ hla1 (hlb1.below B4)).mono ?_
      rintro e w5 ⟨rfl, d, rfl⟩
      rw [hla2, hlb2]
      have B5 : Below w3.heap.size w3 (w4.drewN d) := below_drewN B4 d
      generalize (likeL rs ms cs it fam).getD j 0 = a at *
      have f1 : decide (0 < cmpN a T) = false := by rw [cmpN_pos]; exact decide_eq_false (by have := HG1.out; omega)
      by_cases hE : a = T
      · have f2 : (cmpN a T == 0) = true := by rw [cmpN_eq hE]; rfl
        have f3 : decide (j < K) = false := decide_eq_false (fun h => by have := HG2.out h; omega)
        clear hE
        generalize cmpN a T = cm at *
        go_wp2_with fail
        go_roundw
        case rel => exact ⟨j + 1, by omega, by go_num, B5⟩
        case measure => simp [intOf]; omega
      · have f2 : (cmpN a T == 0) = false := by have := HG1.out; rw [cmpN_lt (by omega)]; rfl
        clear hE
        generalize cmpN a T = cm at *
        go_wp2_with fail
        go_roundw
        case rel => exact ⟨j + 1, by omega, by go_num, B5⟩
        case measure => simp [intOf]; omega
    · go_wp2_with fail
      go_ret
      exact ⟨rfl, B3.trans (hb.mono B3.size)⟩
end Go.Proofs.Ytneoglmfabilnaa
