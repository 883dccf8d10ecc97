/- The walks of calibrate's likelihoods and greatest. -/
import Derived.Test.YtneoglmfabilnaaCalP
namespace Go.Proofs.Ytneoglmfabilnaa
open Go.RowKit
set_option linter.unusedVariables false

/-- The cells us are the numbers f 0, f 1, .., in memory from base on. -/
def CollF (w : World) (us : List Value) (n : Nat) (f : Nat → Nat) (L base : Nat) : Prop := us.length = n ∧ ∀ i u, us[i]? = some u → NatAt w u (f i) L ∧ Fresh base u
theorem CollF.below {w w' : World} {us : List Value} {n L base : Nat} {f : Nat → Nat} (h : CollF w us n f L base) (hb : Below w.heap.size w w') : CollF w' us n f L base :=
  ⟨h.1, fun i u hi => ⟨(h.2 i u hi).1.below hb, (h.2 i u hi).2⟩⟩
theorem CollF.set_ {w : World} {us : List Value} {n L base : Nat} {f : Nat → Nat} (h : CollF w us n f L base) {p : Addr} (hp : p.block < base) (x : Value) : CollF (w.setCell p x) us n f L base :=
  ⟨h.1, fun i u hi => ⟨(h.2 i u hi).1.set_ (h.2 i u hi).2 hp x, (h.2 i u hi).2⟩⟩
theorem CollF.mono {w : World} {us : List Value} {n L L' base : Nat} {f : Nat → Nat} (h : CollF w us n f L base) (hl : L ≤ L') : CollF w us n f L' base :=
  ⟨h.1, fun i u hi => ⟨(h.2 i u hi).1.mono hl, (h.2 i u hi).2⟩⟩
theorem CollF.congr {w : World} {us : List Value} {n L base : Nat} {f f' : Nat → Nat} (h : CollF w us n f L base) (hf : ∀ i, i < n → f i = f' i) : CollF w us n f' L base := by
  refine ⟨h.1, fun i u hi => ?_⟩
  have hlt : i < n := by
    rcases Nat.lt_or_ge i us.length with h1 | h1
    · rw [← h.1]; exact h1
    · rw [List.getElem?_eq_none h1] at hi; cases hi
  rw [← hf i hlt]
  exact h.2 i u hi
theorem CollF.put {w : World} {us : List Value} {n L base k m : Nat} {f f' : Nat → Nat} {x : Value} (h : CollF w us n f L base) (hx : NatAt w x m L) (hf : Fresh base x) (hk : f' k = m) (ho : ∀ i, i ≠ k → f' i = f i) : CollF w (us.set k x) n f' L base := by
  refine ⟨by rw [List.length_set]; exact h.1, fun i u hi => ?_⟩
  by_cases he : i = k
  · subst he
    have hl : i < us.length := by
      rcases Nat.lt_or_ge i us.length with h1 | h1
      · exact h1
      · rw [List.getElem?_eq_none (by rw [List.length_set]; exact h1)] at hi; cases hi
    rw [List.getElem?_set_self hl] at hi
    injection hi with hi
    subst hi
    rw [hk]
    exact ⟨hx, hf⟩
  · rw [List.getElem?_set_ne (by omega)] at hi
    rw [ho i he]
    exact h.2 i u hi
theorem CollF.can {w : World} {us : List Value} {n L base g t b : Nat} {f : Nat → Nat} {ns : List Nat} (h : CollF w us n f L base) (hr : Row w g t us) (hn : ns.length = n) (hf : ∀ i, i < n → ns.getD i 0 = f i) (hm : n ≤ maxLen) (hg : b ≤ g) (hb : b ≤ base) : CanF b w (.slice (some ⟨g, 0, none⟩) n n) ns L := by
  have := hr.sl
  rw [h.1] at this
  refine ⟨_, _, us, by rw [hn], by rw [hn]; exact Nat.le_refl _, hm, by rw [hn]; exact this, hg, fun i u hi => ?_⟩
  have hlt : i < n := by
    rcases Nat.lt_or_ge i us.length with h1 | h1
    · rw [← h.1]; exact h1
    · rw [List.getElem?_eq_none h1] at hi; cases hi
  rw [hf i hlt]
  exact ⟨(h.2 i u hi).1, (h.2 i u hi).2.mono hb⟩
theorem NatAt.lt {w : World} {v : Value} {n L : Nat} (h : NatAt w v n L) : n < bp L := by
  obtain ⟨ls, h1, _, h3, h4⟩ := h
  rw [← h3]
  exact Nat.lt_of_lt_of_le (val_lt h1.all) (bp_mono h4)
theorem CollF.lt {w : World} {us : List Value} {n L base : Nat} {f : Nat → Nat} (h : CollF w us n f L base) {i : Nat} (hi : i < n) : f i < bp L := by
  have hl : i < us.length := by rw [h.1]; exact hi
  exact (h.2 i _ (List.getElem?_eq_getElem hl)).1.lt
theorem Coll.collF {w : World} {us : List Value} {ns : List Nat} {k L base : Nat} (h : Coll w us ns k L base) : CollF w us k (fun i => ns.getD i 0) L base := ⟨h.1, h.2⟩

/-- The likelihoods of the models of a family for the item i. -/
def likeL (rs : List Int) (ms : List (List (List Int))) (cs : List (List Int)) (i : Nat) (fam : List (List (List Int))) : List Nat := fam.map fun x => totTo rs (ms.set i x) cs cs.length
theorem likeL_len (rs : List Int) (ms : List (List (List Int))) (cs : List (List Int)) (i : Nat) (fam : List (List (List Int))) : (likeL rs ms cs i fam).length = fam.length := by simp [likeL]
theorem likeL_get (rs : List Int) (ms : List (List (List Int))) (cs : List (List Int)) (i : Nat) (fam : List (List (List Int))) {f : Nat} (h : f < fam.length) : (likeL rs ms cs i fam).getD f 0 = totTo rs (ms.set i (fam.getD f [])) cs cs.length := by
  unfold likeL
  rw [List.getD_eq_getElem?_getD, List.getElem?_map, List.getD_eq_getElem?_getD, List.getElem?_eq_getElem h]
  rfl
/-- The models of the family have a weight for each response to the item i. -/
def FOK (n i : Nat) (fam : List (List (List Int))) (row : List Int) : Prop :=
  0 ≤ row.getD i 0 → ∀ f, f < fam.length → ∀ q, q < n → q < (fam.getD f []).length ∧ (row.getD i 0).toNat < ((fam.getD f []).getD q []).length ∧
    0 ≤ ((fam.getD f []).getD q []).getD (row.getD i 0).toNat 0 ∧ ((fam.getD f []).getD q []).getD (row.getD i 0).toNat 0 ≤ 1000

set_option maxHeartbeats 8000000 in
theorem like_any (pv rv mv qv iv cv fv : Value) (ps rs : List Int) (ms : List (List (List Int))) (qs is : List Int) (cs : List (List Int)) (it : Nat) (fam : List (List (List Int))) (w : World)
    (hp : Nums .i64 w pv ps) (hr : Nums .i64 w rv rs) (hm : ModL w mv ms) (hq : Nums .i64 w qv qs) (hi : Nums .i64 w iv is) (hc : IntsL w cv cs) (hf : ModL w fv fam)
    (hn21 : rs.length ≤ 21) (hpr : ps.length = rs.length) (hit : it < ms.length) (hm60 : ms.length ≤ 60) (hc200 : cs.length ≤ 200) (hf24 : fam.length ≤ 24) (hpk : POK rs.length rs)
    (hrows : ∀ k, k < cs.length → (cs.getD k []).length = ms.length ∧ WOK rs.length ms (cs.getD k []) (it : Int) ∧ FOK rs.length it fam (cs.getD k [])) :
    Calls Try.prog 48 #[.agg #[pv, rv], mv, .agg #[qv, iv, cv], .int .i64 (it : Int), fv] w fun e w' => ∃ v, e = .returned v ∧ CanF w.heap.size w' v (likeL rs ms cs it fam) 40000 ∧ Below w.heap.size w w' := by
  have hp0 := hp
  have hr0 := hr
  have hm0 := hm
  obtain ⟨A, c, rfl, hc1, hm1, hsp⟩ := hp
  obtain ⟨B, c', rfl, hc', hm2, hsr⟩ := hr
  obtain ⟨M, cM, us, rfl, k1, k2, hs, hu⟩ := hm
  obtain ⟨X, cX, rfl, x1, x2, x3⟩ := hq
  obtain ⟨Y, cY, rfl, y1, y2, y3⟩ := hi
  obtain ⟨Z, cZ, vs, rfl, z1, z2, hsc, hcu⟩ := hc
  obtain ⟨Q, cQ, fs, rfl, q1, q2, hsf, hfu⟩ := hf
  have HC := Lib.hid hcu
  have HF := Lib.hid hfu
  have HR := Lib.hid hrows
  have HPK := Lib.hid hpk
  have HPR := Lib.hid hpr
  unfold maxLen at k2 x2 y2 z2 hm1 hm2 q2
  clear hu hs hsp hsr x3 y3 hcu hfu hrows hpk hpr
  obtain ⟨N, hN⟩ : ∃ N, cs.length = N := ⟨_, rfl⟩
  obtain ⟨F, hF⟩ : ∃ F, fam.length = F := ⟨_, rfl⟩
  have HN := Lib.hid hN
  have HFL := Lib.hid hF
  rw [hN] at hsc z1 hc200 ⊢
  rw [hF] at hsf q1 hf24 ⊢
  clear hN hF
  have hgb := ((Row.new w 24 [.slice A ps.length c, .slice B rs.length c']).alloc (.cells #[.slice X qs.length cX, .slice Y is.length cY, .slice Z N cZ] 36)).alloc (.cells (zrow (.slice none 0 0) F) 32)
  have hmb := (Row.new (w.alloc (.cells #[.slice A ps.length c, .slice B rs.length c'] 24)) 36 [.slice X qs.length cX, .slice Y is.length cY, .slice Z N cZ]).alloc (.cells (zrow (.slice none 0 0) F) 32)
  have hlb := Row.newz ((w.alloc (.cells #[.slice A ps.length c, .slice B rs.length c'] 24)).alloc (.cells #[.slice X qs.length cX, .slice Y is.length cY, .slice Z N cZ] 36)) 32 (.slice none 0 0) F
  have B0 : Below w.heap.size w (((w.alloc (.cells #[.slice A ps.length c, .slice B rs.length c'] 24)).alloc (.cells #[.slice X qs.length cX, .slice Y is.length cY, .slice Z N cZ] 36)).alloc (.cells (zrow (.slice none 0 0) F) 32)) := (((Below.refl _ _).alloc (Nat.le_refl _) _).alloc (by simp) _).alloc (by simp; omega) _
  rw [show (w.alloc (.cells #[.slice A ps.length c, .slice B rs.length c'] 24)).heap.size = w.heap.size + 1 by simp] at hmb
  rw [show ((w.alloc (.cells #[.slice A ps.length c, .slice B rs.length c'] 24)).alloc (.cells #[.slice X qs.length cX, .slice Y is.length cY, .slice Z N cZ] 36)).heap.size = w.heap.size + 2 by simp] at hlb
  have hmk := run_mk (P := Try.prog) Try.underlying26 infoNat rfl F (by omega) (by omega)
  go_enter Try.func48, Try.ntmps48
  go_wp2_with fail
  clear hmk
  generalize (((w.alloc (.cells #[.slice A ps.length c, .slice B rs.length c'] 24)).alloc (.cells #[.slice X qs.length cX, .slice Y is.length cY, .slice Z N cZ] 36)).alloc (.cells (zrow (.slice none 0 0) F) 32)) = w0 at *
  go_loopw [26] (fun i wr => ∃ (k : Nat) (ws : List Value), k ≤ F ∧ i = .int .i64 (k : Int) ∧ Coll wr ws (List.replicate F 1) k 2 (w.heap.size + 3) ∧ Row wr (w.heap.size + 2) 32 (ws ++ List.replicate (F - k) (.slice none 0 0)) ∧ Row wr w.heap.size 24 [.slice A ps.length c, .slice B rs.length c'] ∧ Row wr (w.heap.size + 1) 36 [.slice X qs.length cX, .slice Y is.length cY, .slice Z N cZ] ∧ Below w.heap.size w wr) (fun i _ => F - (intOf i).toNat)
  case atStart => exact ⟨0, [], by omega, rfl, Coll.zero _ _ _ _, by simpa using hlb, hgb, hmb, B0⟩
  case round =>
    clear hgb hmb hlb B0
    obtain ⟨k, ws, hk, rfl, hco, hrow, hgb, hmb, hb⟩ := hrel
    by_cases hlt : k < F
    · have zr := hrow.lt
      have HG : Hid ((List.replicate F 1).getD k 0 = 1) := by unfold Hid; rw [List.getD_eq_getElem?_getD, List.getElem?_replicate, if_pos hlt]; rfl
      obtain ⟨wo, rfl⟩ : ∃ wo : World, wo = wr := ⟨_, rfl⟩
      go_wp2_with fail
      refine (of_any 1 _ (by omega)).mono ?_
      rintro e w2 ⟨v, rfl, hv⟩
      have hbe := hv.bel
      have hrow2 := hrow.keep hbe
      have hc0 : w2.cell? ⟨w.heap.size + 2, k, none⟩ = some (.slice none 0 0) := by rw [hrow2.cell, padv_get _ _ _ _ hco.1 hlt]
      have hf0 : w2.frozen? ⟨w.heap.size + 2, k, none⟩ = false := hrow2.frozen k
      have hv' := hv
      obtain ⟨ls, ⟨⟨V, cv, rfl, _, _, _⟩, _⟩, _⟩ := hv'
      have hfr : Fresh (w.heap.size + 3) (.slice V ls.length cv) := hv.fresh.mono zr
      have hna := hv.nat
      have i1 : (0 : Int) ≤ (k : Int) := by omega
      have i2 : (k : Int) < (F : Int) := by omega
      go_wp2_with fail
      go_roundw
      case rel =>
        refine ⟨k + 1, ws ++ [.slice V ls.length cv], by omega, by go_num, ((hco.below hbe).set_ (p := ⟨w.heap.size + 2, k, none⟩) (by simp) _).snoc ?_ hfr, ?_, (hgb.keep hbe).far (by simp; omega) _, (hmb.keep hbe).far (by simp) _, (hb.trans (hbe.mono hb.size)).setCell (by simp; omega) _⟩
        · rw [HG.out]; exact hna.set_ hfr (p := ⟨w.heap.size + 2, k, none⟩) (by simp) _
        · rw [← padv_set _ _ _ _ _ hco.1 hlt]
          exact hrow2.set_ k _
      case measure => simp [intOf]; omega
    · obtain rfl : k = F := by omega
      have hrow' : Row wr (w.heap.size + 2) 32 ws := by simpa using hrow
      have hcf : CollF wr ws k (fun t => totTo rs (ms.set it (fam.getD t [])) cs 0) (2 + 150 * 0) (w.heap.size + 3) := hco.collF.congr fun i hi => by rw [List.getD_eq_getElem?_getD, List.getElem?_replicate, if_pos hi]; rfl
      have s2 : wr.cell? ⟨w.heap.size + 1, 2, none⟩ = some (.slice Z N cZ) := hmb.cell 2
      go_wp2_with fail
      clear s2 hrow hco
      obtain ⟨w1, rfl⟩ : ∃ w1 : World, w1 = wr := ⟨_, rfl⟩
      go_loopw [37] (fun i wr => ∃ (j : Nat) (ws : List Value), j ≤ N ∧ i = .int .i64 (j : Int) ∧ CollF wr ws k (fun t => totTo rs (ms.set it (fam.getD t [])) cs j) (2 + 150 * j) (w.heap.size + 3) ∧ Row wr (w.heap.size + 2) 32 ws ∧ Row wr w.heap.size 24 [.slice A ps.length c, .slice B rs.length c'] ∧ Below w.heap.size w wr) (fun i _ => N - (intOf i).toNat)
      case atStart => exact ⟨0, ws, by omega, rfl, hcf, hrow', hgb, hb⟩
      case round =>
        clear hcf hrow' hgb hmb hb
        obtain ⟨j, ws, hj, rfl, hcf, hrow, hgb, hb⟩ := hrel
        by_cases hlj : j < N
        · obtain ⟨b1, o1, u1, rfl, hb1, g1, hr1⟩ := lst_at hsc HC.out hlj
          have g2 : wr.cell? ⟨b1, o1 + j, none⟩ = some u1 := (hb.cell (p := ⟨b1, o1 + j, none⟩) hb1).trans g1
          have hx2 := hr1.below hb
          clear g1
          obtain ⟨r1, r2, r3⟩ := HR.out j (by rw [HN.out]; exact hlj)
          have HT := Lib.hid (fun t => (show totTo rs (ms.set it (fam.getD t [])) cs (j + 1) = totTo rs (ms.set it (fam.getD t [])) cs j * sumTo (wL rs (ms.set it (fam.getD t [])) (cs.getD j []) (-1) rs.length) rs.length from rfl))
          generalize cs.getD j [] = row at *
          have hx2' := hx2
          obtain ⟨R, cR, rfl, _, e2, _⟩ := hx2'
          have hcr : ∃ b3 o3, R = some ⟨b3, o3, none⟩ ∧ b3 < w.heap.size ∧ w.cell? ⟨b3, o3 + it, none⟩ = some (.int .i64 (row.getD it 0)) := by
            obtain ⟨R', cR', h, _, _, hsx⟩ := hr1
            injection h with h _ _
            subst h
            obtain ⟨b3, o3, h1, h2, hcell⟩ := hsx.num (show it < row.length by rw [r1]; exact hit)
            exact ⟨b3, o3, h1, h2, hcell it (by rw [r1]; exact hit)⟩
          obtain ⟨b3, o3, rfl, hb3, hcr⟩ := hcr
          have HR1 := Lib.hid r1
          have HR3 := Lib.hid r3
          have hr60 : row.length ≤ 60 := by omega
          clear r1
          have q0 : wr.cell? ⟨w.heap.size, 0, none⟩ = some (.slice A ps.length c) := hgb.cell 0
          have q1 : wr.cell? ⟨w.heap.size, 1, none⟩ = some (.slice B rs.length c') := hgb.cell 1
          obtain ⟨wo, rfl⟩ : ∃ wo : World, wo = wr := ⟨_, rfl⟩
          go_wp2_with fail
          refine (weighF_any _ _ _ _ ps rs row ms (it : Int) _ (hp0.below hb) (hr0.below hb) (hm0.below hb) hx2 hn21 HPR.out hr60 r2 HPK.out).mono ?_
          rintro e w3 ⟨v3, rfl, hcan, hb3⟩
          have zr := hrow.lt
          replace hcan := hcan.mono (base' := w.heap.size + 3) zr
          have hln := wL_len rs ms row (it : Int) rs.length
          have HSX := Lib.hid (fun t => sumX_row (rs := rs) (ms := ms) (x := fam.getD t []) (row := row) hit HR1.out rs.length (Nat.le_refl _))
          have HLT := Lib.hid (fun t (ht : t < k) => hcf.lt ht)
          have hcf3 := (hcf.below hb3).mono (show 2 + 150 * j ≤ 2 + 150 * (j + 1) by omega)
          have hrow3 := hrow.keep hb3
          have hgb3 := hgb.keep hb3
          have B3 : Below w.heap.size w w3 := hb.trans (hb3.mono hb.size)
          have hV : ∃ V cv, v3 = .slice V rs.length cv := by obtain ⟨V, cv, us, h, _⟩ := hcan; rw [hln] at h; exact ⟨V, cv, h⟩
          obtain ⟨V, cv, rfl⟩ := hV
          clear q0 q1 g2 hx2 r2 r3 hcf hrow hgb hb3 hb
          generalize hWW : wL rs ms row (it : Int) rs.length = W at *
          clear hWW
          go_wp2_with fail
          go_loopw [48] (fun i wr => ∃ (f : Nat) (ws : List Value), f ≤ k ∧ i = .int .i64 (f : Int) ∧ CollF wr ws k (fun t => if t < f then totTo rs (ms.set it (fam.getD t [])) cs (j + 1) else totTo rs (ms.set it (fam.getD t [])) cs j) (2 + 150 * (j + 1)) (w.heap.size + 3) ∧ Row wr (w.heap.size + 2) 32 ws ∧ CanF (w.heap.size + 3) wr (.slice V rs.length cv) W 122 ∧ Row wr w.heap.size 24 [.slice A ps.length c, .slice B rs.length c'] ∧ Below w.heap.size w wr) (fun i _ => k - (intOf i).toNat)
          case atStart => exact ⟨0, ws, by omega, rfl, hcf3.congr (fun i _ => by simp), hrow3, hcan, hgb3, B3⟩
          case round =>
            clear hcf3 hrow3 hcan hgb3 B3
            obtain ⟨f, ws, hf, rfl, hcf, hrow, hcan, hgb, hb⟩ := hrel
            by_cases hlf : f < k
            · obtain ⟨b2, o2, u2, rfl, hb2, g3, hI⟩ := lst_at hsf HF.out hlf
              have hfl : Hid (f < fam.length) := by unfold Hid; rw [HFL.out]; exact hlf
              have g4 : wr.cell? ⟨b2, o2 + f, none⟩ = some u2 := (hb.cell (p := ⟨b2, o2 + f, none⟩) hb2).trans g3
              have hI2 := hI.below hb
              clear g3 hI
              have hI' := hI2
              obtain ⟨G, cG, gs, rfl, _, _, _, _⟩ := hI'
              have HSX1 := Lib.hid (HSX.out f)
              have HT1 := Lib.hid (HT.out f)
              have HFK : Hid (0 ≤ row.getD it 0 → ∀ q, q < rs.length → q < (fam.getD f []).length ∧ (row.getD it 0).toNat < ((fam.getD f []).getD q []).length ∧ 0 ≤ ((fam.getD f []).getD q []).getD (row.getD it 0).toNat 0 ∧ ((fam.getD f []).getD q []).getD (row.getD it 0).toNat 0 ≤ 1000) := fun h q hq => HR3.out h f hfl.out q hq
              have HX : Hid (∀ q, facX (fam.getD f []) row it q = if 0 ≤ row.getD it 0 then (((fam.getD f []).getD q []).getD (row.getD it 0).toNat 0).toNat else 1) := fun q => rfl
              have hrl := hrow.lt
              generalize hx' : fam.getD f [] = x at *
              have HXE := Lib.hid hx'
              clear hx'
              have hbx : Below wr.heap.size wr (wr.alloc (.cells #[.slice G x.length cG] 48)) := (Below.refl _ _).alloc (Nat.le_refl _) _
              have hbr := Row.new wr 48 [.slice G x.length cG]
              have hI3 := hI2.below hbx
              have hcan2 := hcan.below hbx
              have hcan4 := hcan2
              have hrow4 := hrow.keep hbx
              have hcf4 := hcf.below hbx
              have hgb4 := hgb.keep hbx
              have B4 : Below w.heap.size w (wr.alloc (.cells #[.slice G x.length cG] 48)) := hb.trans (hbx.mono hb.size)
              obtain ⟨A4, c4, us4, hv4, n1, n2, hs4, hf4, hel4⟩ := hcan2
              have HWl : Hid (W.length = rs.length) := by simp only [Value.slice.injEq] at hv4; exact hv4.2.1.symm
              have hA4 : A4 = V := by injection hv4 with h _ _; exact h.symm
              subst hA4
              rw [HWl.out] at hs4
              have HEl := Lib.hid (fun i u (hi : us4[i]? = some u) => (hel4 i u hi).1)
              clear hv4 n1 n2 hf4 hel4
              have g5 : wr.cell? ⟨b3, o3 + it, none⟩ = some (.int .i64 (row.getD it 0)) := (hb.cell (p := ⟨b3, o3 + it, none⟩) hb3).trans hcr
              have hz3 : b3 < wr.heap.size := Nat.lt_of_lt_of_le hb3 hb.size
              obtain ⟨wo, rfl⟩ : ∃ wo : World, wo = wr := ⟨_, rfl⟩
              have hg5 : (wo.alloc (.cells #[.slice G x.length cG] 48)).cell? ⟨b3, o3 + it, none⟩ = some (.int .i64 (row.getD it 0)) := (hbx.cell (p := ⟨b3, o3 + it, none⟩) hz3).trans g5
              generalize hrr : row.getD it 0 = z at *
              have HRR := Lib.hid hrr
              have i1 : (0 : Int) ≤ (it : Int) := by omega
              have i2 : (it : Int) < (row.length : Int) := by have := HR1.out; omega
              clear hrr
              go_wp2_with fail
              obtain ⟨bq, hbq⟩ : ∃ bq, wo.heap.size = bq := ⟨_, rfl⟩
              try rw [hbq]
              rw [hbq] at hbr
              have hbxq : Below bq wo (wo.alloc (.cells #[.slice G x.length cG] 48)) := by rw [← hbq]; exact hbx
              generalize (wo.alloc (.cells #[.slice G x.length cG] 48)) = w4 at *
              go_loopw [18, 55] (fun v i wr => ∃ (q : Nat) (S : Option Addr) (l2 c2 : Nat), q ≤ rs.length ∧ i = .int .i64 (q : Int) ∧ v = .slice S l2 c2 ∧ NatAt wr (.slice S l2 c2) (sumX W x row it q) (124 + q) ∧ Below w4.heap.size w4 wr) (fun _ i _ => rs.length - (intOf i).toNat)
              case atStart => exact ⟨0, none, 0, 0, by omega, rfl, rfl, natAt_nil _ _, Below.refl _ _⟩
              case round =>
                obtain ⟨q, S, l2, c2, hq, rfl, rfl, hns, hbj⟩ := hrel
                have hbr5 := hbr.keep hbj
                have hg6 : wr.cell? ⟨b3, o3 + it, none⟩ = some (.int .i64 z) := (hbj.cell (p := ⟨b3, o3 + it, none⟩) (by have := hbxq.size; simp; omega)).trans hg5
                have d0 : wr.cell? ⟨bq, 0, none⟩ = some (.slice G x.length cG) := hbr5.cell 0
                by_cases hlq : q < rs.length
                · obtain ⟨b4, o4, u4, rfl, hb4, g6, hR4⟩ := lst_at (R := fun w u n => NatAt w u n 122) (d := 0) (xs := W) hs4 HEl.out hlq
                  have g7 : wr.cell? ⟨b4, o4 + q, none⟩ = some u4 := (hbj.cell (p := ⟨b4, o4 + q, none⟩) hb4).trans g6
                  have hR5 := hR4.below hbj
                  clear g6 hR4
                  obtain ⟨lb, hlb1, hlb2, hlb3, hlb4⟩ := hR5
                  obtain ⟨la, hla1, hla2, hla3, hla4⟩ := hns
                  have hlb1' := hlb1
                  obtain ⟨⟨L4, c4', rfl, _, _, _⟩, _⟩ := hlb1'
                  have HSS := Lib.hid (show sumX W x row it (q + 1) = sumX W x row it q + W.getD q 0 * facX x row it q from rfl)
                  by_cases hz0 : 0 ≤ z
                  · have f1 : decide (0 ≤ z) = true := by simpa using hz0
                    obtain ⟨y, rfl⟩ := Int.eq_ofNat_of_zero_le hz0
                    obtain ⟨z1', z2', z3', z4'⟩ := HFK.out hz0 q hlq
                    rw [Int.toNat_natCast] at z2' z3' z4'
                    obtain ⟨fx, hfx⟩ := Int.eq_ofNat_of_zero_le z3'
                    have HFX := Lib.hid hfx
                    have HFV : Hid (facX x row it q = fx) := by unfold Hid; rw [HX.out, if_pos hz0, Int.toNat_natCast, hfx]; rfl
                    rw [hfx] at z4'
                    have HZ1 := Lib.hid z1'
                    have HZ2 := Lib.hid z2'
                    clear z1' z2' z3' hfx
                    have hI5 := hI3.below hbj
                    go_wp2_with fail
                    go_region_with (first
                      | (go_at_call 55; refine (factor_any _ x q y fx _ ?_ HZ1.out HZ2.out HFX.out ?_).mono ?_; exact hI5; omega; rintro e w5 ⟨v5, rfl, lf, h51, h52, h53, h54, h55, h56⟩)
                      | (go_at_call 40; refine (mul_any _ _ lb lf _ ?_ ?_ ?_ ?_).mono ?_; exact hlb1.below (undrew1 h56); exact h51; omega; omega; rintro e w6 ⟨v6, rfl, lg, ⟨⟨VA, vc, rfl, hv1, hv2, hv3⟩, hv4⟩, h62, h63, h64, h65, h66⟩))
                    all_goals
                      have B6 : Below wr.heap.size wr w6 := (undrew1 h56).trans (h66.mono h56.size)
                      go_wp2_with fail
                      refine (add_any _ _ la lg _ (hla1.below B6) ⟨⟨VA, vc, rfl, hv1, hv2, hv3⟩, hv4⟩ (by omega) (by omega)).mono ?_
                      rintro e w8 ⟨v8, rfl, hv8⟩
                      have hbe8 := hv8.bel
                      have hna8 := hv8.nat
                      obtain ⟨l8, ⟨⟨C8, c8, rfl, _, _, _⟩, _⟩, _⟩ := hv8
                      have hfin : NatAt w8 (.slice C8 l8.length c8) (sumX W x row it (q + 1)) (124 + (q + 1)) := by
                        have h9 := hna8.mono (show max la.length lg.length + 1 ≤ 124 + (q + 1) by omega)
                        rw [hla3, h63, hlb3, h53] at h9
                        rw [HSS.out, HFV.out]
                        exact h9
                      have hb9 := hbj.trans ((B6.trans (hbe8.mono B6.size)).mono hbj.size)
                      go_wp2_with fail
                      go_roundw
                      case rel => exact ⟨q + 1, C8, l8.length, c8, by omega, by go_num, rfl, hfin, hb9⟩
                      case measure => simp [intOf]; omega
                  · have f1 : decide (0 ≤ z) = false := by simpa using hz0
                    have HFV : Hid (facX x row it q = 1) := by unfold Hid; rw [HX.out, if_neg hz0]
                    go_wp2_with fail
                    refine (add_any _ _ la lb _ hla1 hlb1 (by omega) (by omega)).mono ?_
                    rintro e w8 ⟨v8, rfl, hv8⟩
                    have hbe8 := hv8.bel
                    have hna8 := hv8.nat
                    obtain ⟨l8, ⟨⟨C8, c8, rfl, _, _, _⟩, _⟩, _⟩ := hv8
                    have hfin : NatAt w8 (.slice C8 l8.length c8) (sumX W x row it (q + 1)) (124 + (q + 1)) := by
                      have h9 := hna8.mono (show max la.length lb.length + 1 ≤ 124 + (q + 1) by omega)
                      rw [hla3, hlb3] at h9
                      rw [HSS.out, HFV.out, Nat.mul_one]
                      exact h9
                    have hb9 := hbj.trans (hbe8.mono hbj.size)
                    go_wp2_with fail
                    go_roundw
                    case rel => exact ⟨q + 1, C8, l8.length, c8, by omega, by go_num, rfl, hfin, hb9⟩
                    case measure => simp [intOf]; omega
                · have hqn : q = rs.length := by omega
                  rw [hqn] at hns
                  clear hqn
                  have hrow7 := hrow4.keep hbj
                  have hcf7 := hcf4.below hbj
                  have hgb7 := hgb4.keep hbj
                  have hcan7 := hcan4.below hbj
                  have B7 : Below w.heap.size w wr := B4.trans (hbj.mono B4.size)
                  have hwl : f < ws.length := by rw [hcf7.1]; exact hlf
                  have hwf : ws[f]? = some (ws[f]'hwl) := List.getElem?_eq_getElem hwl
                  obtain ⟨hn7, hfr7⟩ := hcf7.2 f _ hwf
                  dsimp only at hn7
                  rw [if_neg (Nat.lt_irrefl f)] at hn7
                  have hlt7 := HLT.out f hlf
                  replace hn7 := hn7.short hlt7
                  rw [HXE.out] at hn7
                  clear hlt7
                  have hc7 : wr.cell? ⟨w.heap.size + 2, f, none⟩ = some (ws[f]'hwl) := by rw [hrow7.cell, hwf]
                  have hf7 : wr.frozen? ⟨w.heap.size + 2, f, none⟩ = false := hrow7.frozen f
                  have hz7 := hrow7.lt
                  generalize ws[f]'hwl = uf at *
                  obtain ⟨la, hla1, hla2, hla3, hla4⟩ := hn7
                  obtain ⟨lb, hlb1, hlb2, hlb3, hlb4⟩ := hns
                  have hla1' := hla1
                  obtain ⟨⟨L7, c7, rfl, _, _, _⟩, _⟩ := hla1'
                  have i3 : (0 : Int) ≤ (f : Int) := by omega
                  have i4 : (f : Int) < (k : Int) := by omega
                  go_wp2_with fail
                  refine (mul_any _ _ la lb _ hla1 hlb1 (by omega) (by omega)).mono ?_
                  rintro e w8 ⟨v8, rfl, hv8⟩
                  have hbe8 := hv8.bel
                  have hna8 := hv8.nat
                  have hfr8 := hv8.fresh.mono (show w.heap.size + 3 ≤ wr.heap.size from hz7)
                  obtain ⟨l8, ⟨⟨C8, c8, rfl, _, _, _⟩, _⟩, _⟩ := hv8
                  have hfin : NatAt w8 (.slice C8 l8.length c8) (totTo rs (ms.set it x) cs (j + 1)) (2 + 150 * (j + 1)) := by
                    have h9 := hna8.mono (show la.length + lb.length ≤ 2 + 150 * (j + 1) by omega)
                    rw [hla3, hlb3, HSX1.out, ← HT1.out] at h9
                    exact h9
                  have hrow8 := hrow7.keep hbe8
                  have hc8 : w8.cell? ⟨w.heap.size + 2, f, none⟩ = some (.slice L7 la.length c7) := by rw [hrow8.cell, hwf]
                  have hf8 : w8.frozen? ⟨w.heap.size + 2, f, none⟩ = false := hrow8.frozen f
                  have hcf8 := (hcf7.below hbe8).set_ (p := ⟨w.heap.size + 2, f, none⟩) (by simp) (.slice C8 l8.length c8)
                  have hcan8 := (hcan7.below hbe8).set_ (p := ⟨w.heap.size + 2, f, none⟩) (by simp) (.slice C8 l8.length c8)
                  have hgb8 := (hgb7.keep hbe8).far (p := ⟨w.heap.size + 2, f, none⟩) (by simp) (.slice C8 l8.length c8)
                  have B8 : Below w.heap.size w (w8.setCell ⟨w.heap.size + 2, f, none⟩ (.slice C8 l8.length c8)) := (B7.trans (hbe8.mono B7.size)).setCell (by simp) _
                  clear hc7 hf7
                  go_wp2_with fail
                  go_roundw
                  case rel =>
                    refine ⟨f + 1, ws.set f (.slice C8 l8.length c8), by omega, by go_num, hcf8.put (hfin.set_ hfr8 (p := ⟨w.heap.size + 2, f, none⟩) (by simp) _) hfr8 ?_ ?_, hrow8.set_ f _, hcan8, hgb8, B8⟩
                    · rw [if_pos (Nat.lt_succ_self f), HXE.out]
                    · intro i hne
                      by_cases h : i < f
                      · rw [if_pos h, if_pos (by omega)]
                      · rw [if_neg h, if_neg (by omega)]
                  case measure => simp [intOf]; omega
            · obtain rfl : f = k := by omega
              go_wp2_with fail
              go_roundw
              case rel => exact ⟨j + 1, ws, by omega, by go_num, hcf.congr (fun i hi => if_pos hi), hrow, hgb, hb⟩
              case measure => simp [intOf]; omega
        · obtain rfl : j = N := by omega
          go_wp2_with fail
          go_ret
          refine ⟨_, rfl, ?_, hb⟩
          have := (hcf.mono (show 2 + 150 * j ≤ 40000 by omega)).can hrow (ns := likeL rs ms cs it fam) (b := w.heap.size) (by rw [likeL_len, HFL.out]) (fun i hi => by rw [likeL_get _ _ _ _ _ (by rw [HFL.out]; exact hi), HN.out]) (by unfold maxLen; omega) (by omega) (by omega)
          exact this
end Go.Proofs.Ytneoglmfabilnaa
