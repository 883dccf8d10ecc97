/- The walks of the reference's sweep, Sweep and Run. -/
import Derived.Test.YtneoglmfabilnaaRsB
import Derived.Test.YtneoglmfabilnaaSwR
import Derived.Test.YtneoglmfabilnaaLwCho
namespace Go.Proofs.Ytneoglmfabilnaa
open Go.RowKit Go.Deep
set_option linter.unusedVariables false

section
variable {ps rs qs is : List Int} {cs : List (List Int)} {fs : List (List Mod)} {ch : List Int}
theorem swTo_keep : ∀ k j, k ≤ j → (swTo rs cs fs ch k).getD j 0 = ch.getD j 0
  | 0, j, _ => rfl
  | k + 1, j, h => by
    have ih := swTo_keep k j (by omega)
    rw [swTo_succ]
    split
    · rw [set_other _ _ _ (by omega)]; exact ih
    · exact ih
theorem set_self {l : List Int} {k : Nat} {y : Int} (h : l.getD k 0 = y) : l.set k y = l := by
  subst h
  refine getD_ext 0 (by rw [List.length_set]) fun i hi => ?_
  rw [List.length_set] at hi
  by_cases he : i = k
  · subst he; rw [set_get _ _ _ hi]
  · rw [set_other _ _ _ he]
theorem swTo_set {k y : Nat} (hp : 0 < (fs.getD k []).length) (hy : (swTo rs cs fs ch k).getD k 0 = (y : Int)) : swTo rs cs fs ch (k + 1) = (swTo rs cs fs ch k).set k ((bsTo (swL rs cs fs (swTo rs cs fs ch k) k) y (fs.getD k []).length : Nat) : Int) := by
  rw [swTo_succ, bsTo_gr, hy, Int.toNat_natCast]
  by_cases hc : (swL rs cs fs (swTo rs cs fs ch k) k).getD y 0 < (swL rs cs fs (swTo rs cs fs ch k) k).getD (grTo (swL rs cs fs (swTo rs cs fs ch k) k) (fs.getD k []).length) 0
  · rw [if_pos hc, if_pos ⟨hp, hc⟩]
  · rw [if_neg hc, if_neg (fun h => hc h.2), set_self hy]
theorem take_set {l : List Int} {k : Nat} (x : Int) (h : k < l.length) : (l.set k x).take (k + 1) = l.take k ++ [x] := by
  rw [take_snoc _ 0 (by rw [List.length_set]; exact h), set_get _ _ _ h, List.take_set_of_le (Nat.le_refl _)]
theorem ms_totPut (h : swE ps rs qs is cs fs ch = 0) {k f : Nat} (hk : k < fs.length) (hf : f < (fs.getD k []).length) : totE ps rs ((msOf fs ch).set k ((fs.getD k []).getD f [])) qs is cs = 0 := by
  obtain ⟨_, _, _, h4, h5, _, _, h8⟩ := swE_zero h
  rw [← msOf_set fs ch hk (by omega)]
  refine ms_tot (swE_other h (by rw [List.length_set]) fun i hi => ?_)
  rw [List.length_set] at hi
  by_cases he : i = k
  · subst he; rw [set_get _ _ _ hi]; omega
  · rw [set_other _ _ _ he]; exact h8 i hi
end
theorem keep7b {W w' : World} {p1 p2 p3 p4 p5 p6 p7 : Addr} {x1 x2 x3 x4 x5 x6 x7 : Value} (l1 : p1.block < W.heap.size) (l2 : p2.block < W.heap.size) (l3 : p3.block < W.heap.size) (l4 : p4.block < W.heap.size) (l5 : p5.block < W.heap.size) (l6 : p6.block < W.heap.size) (l7 : p7.block < W.heap.size) (h1 : W.cell? p1 = some x1) (h2 : W.cell? p2 = some x2) (h3 : W.cell? p3 = some x3) (h4 : W.cell? p4 = some x4) (h5 : W.cell? p5 = some x5) (h6 : W.cell? p6 = some x6) (h7 : W.cell? p7 = some x7) (hb : Below W.heap.size W w') :
    w'.cell? p1 = some x1 ∧ w'.cell? p2 = some x2 ∧ w'.cell? p3 = some x3 ∧ w'.cell? p4 = some x4 ∧ w'.cell? p5 = some x5 ∧ w'.cell? p6 = some x6 ∧ w'.cell? p7 = some x7 ∧ Below W.heap.size W w' := ⟨(hb.cell l1).trans h1, (hb.cell l2).trans h2, (hb.cell l3).trans h3, (hb.cell l4).trans h4, (hb.cell l5).trans h5, (hb.cell l6).trans h6, (hb.cell l7).trans h7, hb⟩

set_option maxHeartbeats 8000000 in
theorem rsweep_any (pv rv qv iv cv fv xv : Value) (ps rs qs is : List Int) (cs : List (List Int)) (fs : List (List Mod)) (ch : List Int) (w : World) (hp : Nums .i64 w pv ps) (hr : Nums .i64 w rv rs) (hq : Nums .i64 w qv qs) (hi : Nums .i64 w iv is) (hc : IntsL w cv cs) (hf : FamL w fv fs) (hx : Nums .i64 w xv ch) (he : swE ps rs qs is cs fs ch = 0) :
    Calls Try.prog 52 #[.agg #[pv, rv], .agg #[qv, iv, cv], fv, xv] w fun e w' => ∃ v, e = .returned v ∧ Nums .i64 w' v (swp rs cs fs ch) ∧ Below w.heap.size w w' := by
  have hp0 := hp
  have hr0 := hr
  have hq0 := hq
  have hi0 := hi
  have hc0 := hc
  have hf0 := hf
  have hx0 := hx
  obtain ⟨A, c, rfl, hc1, hm1, hsp⟩ := hp
  obtain ⟨B, c', rfl, hc', hm2, hsr⟩ := hr
  obtain ⟨X, cX, rfl, x1, x2, x3⟩ := hq
  obtain ⟨Y, cY, rfl, y1, y2, y3⟩ := hi
  obtain ⟨Z, cZ, vs, rfl, z1, z2, hsc, hcu⟩ := hc
  obtain ⟨Q, cQ, us, rfl, fq1, fq2, hsf, hfu⟩ := hf
  obtain ⟨D, cD, rfl, d1, d2, hsd⟩ := hx
  have HF := Lib.hid hfu
  unfold maxLen at x2 y2 z2 hm1 hm2 fq2 d2
  clear hsp hsr x3 y3 hcu hsc hfu
  have hgb := (Row.new w 24 [.slice A ps.length c, .slice B rs.length c']).alloc (.cells #[.slice X qs.length cX, .slice Y is.length cY, .slice Z cs.length cZ] 36)
  have hmb := Row.new (w.alloc (.cells #[.slice A ps.length c, .slice B rs.length c'] 24)) 36 [.slice X qs.length cX, .slice Y is.length cY, .slice Z cs.length cZ]
  have B0 : Below w.heap.size w ((w.alloc (.cells #[.slice A ps.length c, .slice B rs.length c'] 24)).alloc (.cells #[.slice X qs.length cX, .slice Y is.length cY, .slice Z cs.length cZ] 36)) := ((Below.refl _ _).alloc (Nat.le_refl _) _).alloc (by simp) _
  rw [show (w.alloc (.cells #[.slice A ps.length c, .slice B rs.length c'] 24)).heap.size = w.heap.size + 1 by simp] at hmb
  have HE := Lib.hid he
  clear he
  have hsz := swE_zero HE.out
  obtain ⟨_, h60, h24, h4, h5, _, _, h8⟩ := hsz
  have H24 := Lib.hid h24
  have H8 := Lib.hid h8
  have HCL : Hid (ch.length = fs.length) := by unfold Hid; omega
  have hcl : ch.length ≤ fs.length := by omega
  have hcl2 : fs.length ≤ ch.length := by omega
  have HSP : Hid (swTo rs cs fs ch fs.length = swp rs cs fs ch) := rfl
  have HS0 : Hid (swTo rs cs fs ch 0 = ch) := rfl
  clear h4 h5 h8 h24
  obtain ⟨i0, hi0', hz0, hz1, hz2⟩ := info_parts infoModel
  go_enter Try.func52, Try.ntmps52
  go_wp2_with fail
  generalize hW : (w.alloc (.cells #[.slice A ps.length c, .slice B rs.length c'] 24)).alloc (.cells #[.slice X qs.length cX, .slice Y is.length cY, .slice Z cs.length cZ] 36) = W1 at *
  clear hW
  go_loopw [9, 10] (fun v i wr => ∃ (k : Nat) (V : Option Addr) (cv : Nat) (ws : List Value), k ≤ fs.length ∧ i = .int .i64 (k : Int) ∧ v = .slice V k cv ∧ wr.ownsRow (w.heap.size + 2) 48 1 (.slice V k cv) k ws ∧ Hid (∀ i u, ws[i]? = some u → IntsL w u ((msOf fs ch).getD i [])) ∧ Row wr w.heap.size 24 [.slice A ps.length c, .slice B rs.length c'] ∧ Row wr (w.heap.size + 1) 36 [.slice X qs.length cX, .slice Y is.length cY, .slice Z cs.length cZ] ∧ Below w.heap.size w wr) (fun _ i _ => fs.length - (intOf i).toNat)
  case atStart => exact ⟨0, none, 0, [], by omega, rfl, rfl, World.ownsRow_nil _ _ _ _, fun i u h => by simp at h, hgb, hmb, B0⟩
  case round =>
    clear hgb hmb B0
    obtain ⟨k, V, cv, ws, hk, rfl, rfl, hown2, hel, hgb, hmb, B2⟩ := hrel
    have hwl : Hid (ws.length = k) := by have := hown2.1; unfold Hid; omega
    have zz : w.heap.size + 2 ≤ wr.heap.size := hmb.lt
    by_cases hlt : k < fs.length
    · obtain ⟨b1, o1, u1, rfl, hb1, g1, hI⟩ := lst_at hsf HF.out hlt
      obtain ⟨b2, o2, rfl, hb2, hcell⟩ := hsd.num (show k < ch.length by omega)
      have e1 : wr.cell? ⟨b1, o1 + k, none⟩ = some u1 := (B2.cell (p := ⟨b1, o1 + k, none⟩) hb1).trans g1
      have e2 : wr.cell? ⟨b2, o2 + k, none⟩ = some (.int .i64 (ch.getD k 0)) := (B2.cell (p := ⟨b2, o2 + k, none⟩) hb2).trans (hcell k (by omega))
      obtain ⟨R, cR, ss, rfl, r1, r2, hsm, hmu⟩ := hI
      clear g1 hcell
      unfold maxLen at r2
      have i5 : (k : Int) < (fs.length : Int) := by omega
      have i6 : (k : Int) < (ch.length : Int) := by omega
      obtain ⟨c1, c2⟩ := H8.out k (by omega)
      have HMS : Hid ((msOf fs ch).getD k [] = (fs.getD k []).getD (ch.getD k 0).toNat []) := msOf_get fs ch hlt
      generalize ch.getD k 0 = x at *
      generalize fs.getD k [] = fam at *
      obtain ⟨y, rfl⟩ := Int.eq_ofNat_of_zero_le c1
      have hyl : y < fam.length := by omega
      rw [Int.toNat_natCast] at HMS
      obtain ⟨b3, o3, u3, rfl, hb3, g4, hJ⟩ := lst_at hsm hmu hyl
      have hJ' := hJ
      obtain ⟨S, cS, ss2, rfl, _, _, _, _⟩ := hJ'
      have e3 : wr.cell? ⟨b3, o3 + y, none⟩ = some (.slice S (fam.getD y []).length cS) := (B2.cell (p := ⟨b3, o3 + y, none⟩) hb3).trans g4
      have HEL : Hid (∀ i u, (ws ++ [.slice S (fam.getD y []).length cS])[i]? = some u → IntsL w u ((msOf fs ch).getD i [])) := snoc_get (P := fun i u => IntsL w u ((msOf fs ch).getD i [])) hwl.out hel.out (by rw [HMS.out]; exact hJ)
      clear hmu g4 hJ
      generalize (fam.getD y []).length = ly at *
      have hb2s := B2.size
      have z1 : b1 < wr.heap.size := by omega
      have z2 : b2 < wr.heap.size := by omega
      have z3 : b3 < wr.heap.size := by omega
      have ag1 : (Value.slice V k cv).ownBlock ≠ some b1 := fun e => by have := (hown2.lt b1 e).1; omega
      have ag2 : (Value.slice V k cv).ownBlock ≠ some b2 := fun e => by have := (hown2.lt b2 e).1; omega
      have ag3 : (Value.slice V k cv).ownBlock ≠ some b3 := fun e => by have := (hown2.lt b3 e).1; omega
      have i9 : (y : Int) < (fam.length : Int) := by omega
      obtain ⟨w2, rfl⟩ : ∃ w2 : World, w2 = wr := ⟨_, rfl⟩
      go_wp2_with fail
      go_region_held3 (fun w' => w'.cell? ⟨b1, o1 + k, none⟩ = some (.slice (some ⟨b3, o3, none⟩) fam.length cR) ∧ w'.cell? ⟨b2, o2 + k, none⟩ = some (.int .i64 (y : Int)) ∧ w'.cell? ⟨b3, o3 + y, none⟩ = some (.slice S ly cS))
        (first
          | go_keep
          | exact keep3g hgrow (by simp; omega) (by simp; omega) (by simp; omega) (Ne.symm ag1) (Ne.symm ag2) (Ne.symm ag3) ((((Below.refl w2.heap.size w2).alloc (Nat.le_refl _) _).drew.cell (p := ⟨b1, o1 + k, none⟩) z1).trans e1) ((((Below.refl w2.heap.size w2).alloc (Nat.le_refl _) _).drew.cell (p := ⟨b2, o2 + k, none⟩) z2).trans e2) ((((Below.refl w2.heap.size w2).alloc (Nat.le_refl _) _).drew.cell (p := ⟨b3, o3 + y, none⟩) z3).trans e3))
        ((refine step_append_lies _ (by rfl) _ _ _ (by rfl) (w.heap.size + 2) 48 i0 _ 1 24 Try.underlying25 hi0' hz0 hz1 hz2 rfl (by omega) (.slice V k cv) k _ (by rfl) ((hown2.alloc _).drew)
            ⟨w2.heap.size, 0, none⟩ 1 1 [.slice S ly cS] (by rfl) (by rfl) (World.news_of_block (cs := #[.slice S ly cS]) (t := 48) (fr := (0, 0)) (heap_alloc_new w2 _)) (by simp [Value.oneCell'])
            (by omega) (by unfold maxLen; omega) (by omega) (by simp; omega) (w2.heap.size + 1) (by simp) ?_; intro gg cap w1 hown1 hgrow hat hlt'))
      have hb7 : Below (w.heap.size + 2) w2 w1 := (((Below.refl _ _).alloc (by omega) _).drew).grown hgrow (by simp; omega) (fun q hq => (hown2.lt q hq).1)
      go_wp2_with fail
      go_roundw
      case rel => exact ⟨k + 1, some ⟨gg, 0, none⟩, cap, _, by omega, by go_num, rfl, hown1, HEL.out, hgb.below hb7 (by omega), hmb.below hb7 (by omega), B2.trans (hb7.mono (by omega))⟩
      case measure => simp [intOf]; omega
    · obtain rfl : k = fs.length := by omega
      have hml := modS_own hown2 (msOf_len fs ch) hel.out
      clear hel hown2 hwl
      go_wp2_with fail
      go_loopw [9, 11, 12] (fun mv v i wr => ∃ (k : Nat) (mw : Value) (V : Option Addr) (cv : Nat), k ≤ fs.length ∧ i = .int .i64 (k : Int) ∧ mv = mw ∧ ModS w wr mw (msOf fs (swTo rs cs fs ch k)) ∧ v = .slice V k cv ∧ wr.ownsRow (w.heap.size + 2) 3 1 (.slice V k cv) k (((swTo rs cs fs ch k).take k).map (Value.int .i64)) ∧ Row wr w.heap.size 24 [.slice A ps.length c, .slice B rs.length c'] ∧ Row wr (w.heap.size + 1) 36 [.slice X qs.length cX, .slice Y is.length cY, .slice Z cs.length cZ] ∧ Below w.heap.size w wr) (fun _ _ i _ => fs.length - (intOf i).toNat)
      case atStart => exact ⟨0, _, none, 0, by omega, rfl, rfl, by rw [HS0.out]; exact hml, rfl, World.ownsRow_nil _ _ _ _, hgb, hmb, B2⟩
      case round =>
        clear hgb hmb B2 hml zz
        obtain ⟨k, mw, V, cv, hk, rfl, rfl, hml, rfl, hown, hgb, hmb, hb⟩ := hrel
        have zz : w.heap.size + 2 ≤ wr.heap.size := hmb.lt
        have hml' := hml
        obtain ⟨Q2, cQ2, us2, rfl, _, _, _, _⟩ := hml'
        by_cases hlt : k < fs.length
        · have HEk := Lib.hid (swTo_E HE.out hk)
          obtain ⟨b1, o1, u1, rfl, hb1, g1, hI⟩ := lst_at hsf HF.out hlt
          obtain ⟨b2, o2, rfl, hb2, hcell⟩ := hsd.num (show k < ch.length by omega)
          have e1 : wr.cell? ⟨b1, o1 + k, none⟩ = some u1 := (hb.cell (p := ⟨b1, o1 + k, none⟩) hb1).trans g1
          have e2 : wr.cell? ⟨b2, o2 + k, none⟩ = some (.int .i64 (ch.getD k 0)) := (hb.cell (p := ⟨b2, o2 + k, none⟩) hb2).trans (hcell k (by omega))
          have hI0 := hI
          obtain ⟨R, cR, ss, rfl, r1, r2, hsm, hmu⟩ := hI
          have HMU := Lib.hid hmu
          unfold maxLen at r2
          clear g1 hcell hmu
          obtain ⟨c1, c2⟩ := H8.out k (by omega)
          obtain ⟨y, hy⟩ := Int.eq_ofNat_of_zero_le c1
          have hyl : y < (fs.getD k []).length := by omega
          have HTP := Lib.hid (fun f (hf : f < (fs.getD k []).length) => ms_totPut HEk.out hlt hf)
          have HST := Lib.hid (swTo_set (rs := rs) (cs := cs) (ch := ch) (show 0 < (fs.getD k []).length by omega) ((swTo_keep k k (Nat.le_refl _)).trans hy))
          have HMS : Hid (∀ b, msOf fs ((swTo rs cs fs ch k).set k ((b : Nat) : Int)) = (msOf fs (swTo rs cs fs ch k)).set k ((fs.getD k []).getD b [])) := fun b => msOf_set fs _ hlt (by rw [swTo_len]; exact HCL.out)
          have HTK : Hid (∀ b : Nat, ((swTo rs cs fs ch k).set k (b : Int)).take (k + 1) = (swTo rs cs fs ch k).take k ++ [(b : Int)]) := fun b => take_set _ (by rw [swTo_len]; omega)
          have HBL := Lib.hid (bsTo_lt (swL rs cs fs (swTo rs cs fs ch k) k) hyl (fs.getD k []).length (Nat.le_refl _))
          have HSL : Hid (likeL rs (msOf fs (swTo rs cs fs ch k)) cs k (fs.getD k []) = swL rs cs fs (swTo rs cs fs ch k) k) := rfl
          have hkm : k < (msOf fs (swTo rs cs fs ch k)).length := by rw [msOf_len]; exact hlt
          have hml60 : (msOf fs (swTo rs cs fs ch k)).length ≤ 60 := by rw [msOf_len]; exact h60
          rw [hy] at e2
          clear hy c1 c2
          generalize swTo rs cs fs ch k = nx at *
          generalize hmm : msOf fs nx = ms at *
          generalize swL rs cs fs nx k = L at *
          generalize fs.getD k [] = fam at *
          clear hmm
          have hFAM := hI0.below hb
          have z1 : b1 < wr.heap.size := Nat.lt_of_lt_of_le hb1 hb.size
          have z2 : b2 < wr.heap.size := Nat.lt_of_lt_of_le hb2 hb.size
          have zg := hgb.lt
          have zm := hmb.lt
          have qg0 : wr.cell? ⟨w.heap.size, 0, none⟩ = some (.slice A ps.length c) := hgb.cell 0
          have qg1 : wr.cell? ⟨w.heap.size, 1, none⟩ = some (.slice B rs.length c') := hgb.cell 1
          have q0 : wr.cell? ⟨w.heap.size + 1, 0, none⟩ = some (.slice X qs.length cX) := hmb.cell 0
          have q1 : wr.cell? ⟨w.heap.size + 1, 1, none⟩ = some (.slice Y is.length cY) := hmb.cell 1
          have q2 : wr.cell? ⟨w.heap.size + 1, 2, none⟩ = some (.slice Z cs.length cZ) := hmb.cell 2
          have i5 : (k : Int) < (fs.length : Int) := by omega
          have i6 : (k : Int) < (ch.length : Int) := by omega
          obtain ⟨wo, rfl⟩ : ∃ wo : World, wo = wr := ⟨_, rfl⟩
          go_wp2_with fail
          go_region_held3 (fun w' => w'.cell? ⟨w.heap.size, 0, none⟩ = some (.slice A ps.length c) ∧ w'.cell? ⟨w.heap.size, 1, none⟩ = some (.slice B rs.length c') ∧ w'.cell? ⟨w.heap.size + 1, 0, none⟩ = some (.slice X qs.length cX) ∧ w'.cell? ⟨w.heap.size + 1, 1, none⟩ = some (.slice Y is.length cY) ∧ w'.cell? ⟨w.heap.size + 1, 2, none⟩ = some (.slice Z cs.length cZ) ∧ w'.cell? ⟨b1, o1 + k, none⟩ = some (.slice R fam.length cR) ∧ w'.cell? ⟨b2, o2 + k, none⟩ = some (.int .i64 (y : Int)) ∧ Below wo.heap.size wo w')
            ((refine keep7b zg zg zm zm zm z1 z2 qg0 qg1 q0 q1 q2 e1 e2 ?_; (repeat (first | with_reducible exact Below.refl _ _ | with_reducible refine bl_call h5 ?_ | with_reducible refine bl_drew ?_))))
            (first
              | (go_at_call 65; ((with_reducible refine (rbest_any _ _ _ _ _ _ _ ps rs ms qs is cs k fam y _ (hp0.below ?_) (hr0.below ?_) ((hml.modL hb).below ?_) (hq0.below ?_) (hi0.below ?_) (hc0.below ?_) (hFAM.below ?_) hkm hml60 hyl HTP.out).mono ?_); (exact hb.drew); (exact hb.drew); (exact (Below.refl _ _).drew); (exact hb.drew); (exact hb.drew); (exact hb.drew); (exact (Below.refl _ _).drew); rintro e w5 ⟨rfl, h5⟩)))
          have B5' : Below wo.heap.size wo w5 := undrew1 h5
          have B5 : Below w.heap.size w w5 := hb.trans (B5'.mono hb.size)
          replace hgb := hgb.keep B5'
          replace hmb := hmb.keep B5'
          have hown5 := own_keep hown B5'
          have hml5 := hml.below B5'
          have g1 : w5.cell? ⟨b1, o1 + k, none⟩ = some (.slice R fam.length cR) := (B5'.cell (p := ⟨b1, o1 + k, none⟩) z1).trans e1
          rw [HSL.out]
          have hK := HBL.out
          generalize bsTo L y fam.length = K at *
          obtain ⟨b3, o3, u3, rfl, hb3, g3, hJ⟩ := lst_at hsm HMU.out hK
          have g4 : w5.cell? ⟨b3, o3 + K, none⟩ = some u3 := (B5.cell (p := ⟨b3, o3 + K, none⟩) hb3).trans g3
          have hJ' := hJ
          replace hJ := Lib.hid hJ
          obtain ⟨S, cS, ss2, rfl, _, _, _, _⟩ := hJ'
          have HM1 := Lib.hid (HMS.out K)
          have HT1 := Lib.hid (HTK.out K)
          generalize hxk : fam.getD K [] = xk at *
          clear qg0 qg1 q0 q1 q2 h5 g3 hxk hown hml e1 e2 HTP
          have i7 : (K : Int) < (fam.length : Int) := by omega
          have i8 : (0 : Int) ≤ (K : Int) := by omega
          go_wp2_with fail
          refine (rwith0 w _ ms k _ xk _ hml5 hJ.out hkm hml60).mono ?_
          rintro e w6 ⟨v6, rfl, hv6, hfr, hb6⟩
          have hown6 := own_keep hown5 hb6
          have hv6' := hv6
          obtain ⟨Q6, c6, us6, rfl, _, _, _, _⟩ := hv6'
          rw [List.length_set] at hv6 hfr
          replace hgb := hgb.keep hb6
          replace hmb := hmb.keep hb6
          have B6 := B5.trans (hb6.mono B5.size)
          have zz6 : w.heap.size + 2 ≤ w6.heap.size := hmb.lt
          have hoff := off_ownF hown5 hfr (Nat.le_refl _)
          clear hb6 hml5 g1 g4
          go_wp2_with (at_builtin; refine wpList_append_oneG w6 rfl (.tmp 62) (.tmp 64) 22 rfl (w.heap.size + 2) 3 (.int .i64 0) 8 Try.underlying22 infoInt rfl (.slice V k cv) k _ (.int .i64 (K : Int)) rfl rfl hown6 rfl (by unfold maxLen; omega) (by omega) zz6 ?_; intro A' c3 w7 hown7 hb7 hg7 _)
          go_roundw
          case rel =>
            refine ⟨k + 1, _, A', c3, by omega, by go_num, rfl, by rw [HST.out, HM1.out]; exact hv6.grown hg7 hoff, rfl, ?_, hgb.below hb7 (by omega), hmb.below hb7 (by omega), B6.trans (hb7.mono (by omega))⟩
            rw [HST.out, HT1.out, List.map_append]
            exact hown7
          case measure => simp [intOf]; omega
        · obtain rfl : k = fs.length := by omega
          have HTA : Hid ((swTo rs cs fs ch fs.length).take fs.length = swp rs cs fs ch) := by
            unfold Hid
            rw [List.take_of_length_le (by rw [swTo_len]; exact hcl)]
            rfl
          rw [HTA.out] at hown
          have hnn := Nums.of_own hown
          go_wp2_with fail
          go_ret
          exact ⟨_, rfl, hnn, hb⟩
end Go.Proofs.Ytneoglmfabilnaa
