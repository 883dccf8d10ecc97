/- PosteriorMissing. -/
import Derived.Test.YtoihjclkocffhaaDoorPoL
namespace Go.Proofs.YtoihjclkocffhaaDoor
open Go.RowKit
set_option linter.unusedVariables false

theorem infoMdl : (Tryd.prog.info? 25).map (fun i => (i.zero, i.size, i.bytes)) = some (some (.agg #[.slice none 0 0]), 1, 24) := by kernel_rfl
theorem own_nul (w : World) (e : Nat) : (w.alloc (.cells #[] e)).ownsRow w.heap.size e 1 (.slice (some ⟨w.heap.size, 0, none⟩) 0 0) 0 [] :=
  own_zero w (.int .i64 0) e 0 (by unfold maxLen; omega)
theorem own_grown {w w' : World} {base e n : Nat} {v : Value} {xs : List Value} {row : Option Nat} (h : w.ownsRow base e 1 v n xs) (hg : w.grownBy w' row) (ho : ∀ q, v.ownBlock = some q → some q ≠ row) : w'.ownsRow base e 1 v n xs := by
  have hlt := h.lt
  obtain ⟨hl, h⟩ := h
  rcases h with ⟨rfl, rfl⟩ | ⟨q, cap, cur, rfl, hgb, hh, hnc, hm, hs, hx⟩
  · exact ⟨hl, .inl ⟨rfl, rfl⟩⟩
  · exact ⟨hl, .inr ⟨q, cap, cur, rfl, hgb, (hg.block q (hlt q rfl).2 (ho q rfl)).trans hh, hnc, hm, hs, hx⟩⟩
theorem apart_grow {w : World} {u u' v : Value} (h : ∀ q, u.ownBlock = some q → v.ownBlock ≠ some q) (hr : u'.ownBlock = u.ownBlock ∨ ∃ k, u'.ownBlock = some k ∧ w.heap.size ≤ k) (hv : ∀ q, v.ownBlock = some q → q < w.heap.size) : ∀ q, u'.ownBlock = some q → v.ownBlock ≠ some q := by
  intro q hq hv2
  rcases hr with hr | ⟨k, hk, hle⟩
  · exact h q (hr ▸ hq) hv2
  · rw [hk] at hq
    injection hq with hq
    have := hv q hv2
    omega
theorem apart_grow2 {w : World} {u v v' : Value} (h : ∀ q, u.ownBlock = some q → v.ownBlock ≠ some q) (hr : v'.ownBlock = v.ownBlock ∨ ∃ k, v'.ownBlock = some k ∧ w.heap.size ≤ k) (hu : ∀ q, u.ownBlock = some q → q < w.heap.size) : ∀ q, u.ownBlock = some q → v'.ownBlock ≠ some q := by
  intro q hq hv2
  rcases hr with hr | ⟨k, hk, hle⟩
  · exact h q hq (hr ▸ hv2)
  · rw [hk] at hv2
    injection hv2 with hv2
    have := hu q hq
    omega
theorem els_snoc {w : World} {us : List Value} {zs : List (Mdl × Int)} {u : Value} {m : Mdl} {x : Int} (h : ∀ j v, us[j]? = some v → IntsL w v ((zs.map Prod.fst).getD j [])) (hl : us.length = (zs.map Prod.fst).length) (hu : IntsL w u m) : ∀ j v, (us ++ [u])[j]? = some v → IntsL w v (((zs ++ [(m, x)]).map Prod.fst).getD j []) := by
  intro j v hj
  rw [List.map_append]
  rcases Nat.lt_or_ge j us.length with hlt | hge
  · rw [List.getElem?_append_left hlt] at hj
    have := h j v hj
    rw [List.getD_eq_getElem?_getD, List.getElem?_append_left (by omega), ← List.getD_eq_getElem?_getD]
    exact this
  · rw [List.getElem?_append_right hge] at hj
    have h0 : j - us.length = 0 := by
      rcases Nat.eq_zero_or_pos (j - us.length) with h0 | h0
      · exact h0
      · rw [List.getElem?_eq_none (by simp; omega)] at hj; cases hj
    rw [h0] at hj
    simp at hj
    subst hj
    rw [List.getD_eq_getElem?_getD, List.getElem?_append_right (by omega), show j - (zs.map Prod.fst).length = 0 by omega]
    exact hu
theorem lst_own {α : Type} {R : World → Value → α → Prop} {d : α} {w : World} {base e n : Nat} {v : Value} {us : List Value} {xs : List α} (h : w.ownsRow base e 1 v n us) (hn : xs.length = n) (hu : ∀ i u, us[i]? = some u → R w u (xs.getD i d)) : LstOf R d w v xs := by
  subst hn
  obtain ⟨A, c, rfl, h1, h2, hs⟩ := Sl.of_own h
  exact ⟨A, c, us, rfl, h1, h2, hs, hu⟩
/-- The responses among the first i that are given. -/
def gvn (ms : List Mdl) (ks : List Int) (i : Nat) : List (Mdl × Int) := givenL ((ms.zip ks).take i)
theorem gvn_len (ms : List Mdl) (ks : List Int) (i : Nat) : (gvn ms ks i).length ≤ ms.length := by
  unfold gvn givenL
  refine Nat.le_trans (List.length_filter_le _ _) ?_
  rw [List.length_take, List.length_zip]
  omega
theorem gvn_step (ms : List Mdl) (ks : List Int) (i : Nat) (h1 : i < ms.length) (h2 : i < ks.length) : gvn ms ks (i + 1) = if 0 ≤ ks.getD i 0 then gvn ms ks i ++ [(ms.getD i [], ks.getD i 0)] else gvn ms ks i := by
  have hz : i < (ms.zip ks).length := by rw [List.length_zip]; omega
  have e : (ms.zip ks)[i] = (ms.getD i [], ks.getD i 0) := by
    rw [List.getElem_zip, List.getD_eq_getElem?_getD, List.getD_eq_getElem?_getD, List.getElem?_eq_getElem h1, List.getElem?_eq_getElem h2]
    rfl
  unfold gvn givenL
  rw [List.take_succ_eq_append_getElem hz, List.filter_append, e]
  by_cases h : 0 ≤ ks.getD i 0
  · rw [if_pos h, List.filter_cons_of_pos (by simpa using h)]; rfl
  · rw [if_neg h, List.filter_cons_of_neg (by simpa using h), List.filter_nil, List.append_nil]
theorem zip_split : ∀ (zs : List (Mdl × Int)), (zs.map Prod.fst).zip (zs.map Prod.snd) = zs
  | [] => rfl
  | z :: zs => by show (z.1, z.2) :: (zs.map Prod.fst).zip (zs.map Prod.snd) = _; rw [zip_split zs]
theorem gvn_all (ps rs : List Int) (ms : List Mdl) (ks : List Int) (h : postE ps rs ms ks = 0) :
    postE ps rs ((gvn ms ks ms.length).map Prod.fst) ((gvn ms ks ms.length).map Prod.snd) = 0 ∧ allW ps rs ((gvn ms ks ms.length).map Prod.fst) ((gvn ms ks ms.length).map Prod.snd) = allW ps rs ms ks := by
  obtain ⟨h1, h2, h3, h4⟩ := postE_zero h
  have hg : gvn ms ks ms.length = givenL (ms.zip ks) := by
    unfold gvn
    rw [List.take_of_length_le (by rw [List.length_zip]; omega)]
  have hl := gvn_len ms ks ms.length
  rw [hg] at hl ⊢
  obtain ⟨a, b⟩ := allF_given (ms.zip ks) (natsOf rs) h4
  have hp : postE ps rs ((givenL (ms.zip ks)).map Prod.fst) ((givenL (ms.zip ks)).map Prod.snd) = 0 := by
    unfold postE
    rw [if_neg (by simpa using h1), if_neg (by simp), if_neg (by rw [List.length_map]; omega), zip_split]
    exact a
  refine ⟨hp, ?_⟩
  unfold allW
  rw [if_pos hp, if_pos h, zip_split, b]
set_option maxRecDepth 100000 in
set_option maxHeartbeats 8000000 in
theorem lmiss_no (pv rv mv kv : Value) (ps rs : List Int) (ms : List Mdl) (ks : List Int) (w : World) (hp : Nums .i64 w pv ps) (hr : Nums .i64 w rv rs) (hm : ModL w mv ms) (hk : Nums .i64 w kv ks) (hE : postE ps rs ms ks ≠ 0) :
    Calls Tryd.prog 7 #[.agg #[pv, rv], mv, kv] w fun e w' => e = .returned (.bool true) ∧ Below w.heap.size w w' := by
  have HP := Lib.hid hp
  have HR := Lib.hid hr
  have HM := Lib.hid hm
  have HK := Lib.hid hk
  obtain ⟨PA, pc, rfl, hpc, hpm, hps⟩ := hp
  obtain ⟨RV, vc, rfl, hvc, hvm, hvs⟩ := hr
  obtain ⟨MA, mc, mus, rfl, _, _, _, _⟩ := hm
  obtain ⟨KA, kc, rfl, _, _, _⟩ := hk
  obtain ⟨E2, hE2⟩ : ∃ E, postE ps rs ms ks = E := ⟨_, rfl⟩
  have HE2 := Lib.hid hE2
  have t2 : (E2 != 0) = true := by rw [bne_iff_ne, ← hE2]; exact hE
  clear hE2 hE
  obtain ⟨W0, hW0⟩ : ∃ W0 : World, W0 = w.alloc (.cells #[.slice PA ps.length pc, .slice RV rs.length vc] 34) := ⟨_, rfl⟩
  have r0 : Row W0 w.heap.size 34 [.slice PA ps.length pc, .slice RV rs.length vc] := by
    rw [hW0]
    have := Row.new w 34 [.slice PA ps.length pc, .slice RV rs.length vc]
    simpa using this
  have B0 : Below w.heap.size w W0 := by rw [hW0]; exact ((Below.refl _ _).alloc (Nat.le_refl _) _)
  go_enter Tryd.func7, Tryd.ntmps7
  go_wp2_with fail
  rw [← hW0]
  clear hW0
  have BB := B0
  have hr3 := r0
  clear B0 r0
  refine (all_u _ _ _ _ ps rs ms ks _ (HP.out.below BB) (HR.out.below BB) (HM.out.below BB) (HK.out.below BB)).mono ?_
  rintro e x1 ⟨A3, n3, c3, rfl, hv3, hb⟩
  replace hr3 := hr3.keep hb
  replace BB : Below w.heap.size w x1 := BB.trans (hb.mono BB.size)
  clear hb
  rw [HE2.out]
  have c30 : x1.cell? ⟨w.heap.size, 0, none⟩ = some (.slice PA ps.length pc) := hr3.cell 0
  have c31 : x1.cell? ⟨w.heap.size, 1, none⟩ = some (.slice RV rs.length vc) := hr3.cell 1
  have z3 := hr3.lt
  go_wp2_with fail
  clear c30 c31 z3
  refine (awake_any _).mono ?_
  rintro e x2 ⟨rfl, hb⟩
  replace hr3 := hr3.keep hb
  replace BB : Below w.heap.size w x2 := BB.trans (hb.mono BB.size)
  clear hb
  have c30 : x2.cell? ⟨w.heap.size, 0, none⟩ = some (.slice PA ps.length pc) := hr3.cell 0
  have c31 : x2.cell? ⟨w.heap.size, 1, none⟩ = some (.slice RV rs.length vc) := hr3.cell 1
  have z3 := hr3.lt
  go_wp2_with fail
  clear c30 c31 z3
  go_ret
  exact ⟨rfl, BB⟩

set_option maxRecDepth 100000 in
set_option maxHeartbeats 8000000 in
theorem lmiss_yes (pv rv mv kv : Value) (ps rs : List Int) (ms : List Mdl) (ks : List Int) (w : World) (hp : Nums .i64 w pv ps) (hr : Nums .i64 w rv rs) (hm : ModL w mv ms) (hk : Nums .i64 w kv ks) (hE : postE ps rs ms ks = 0) :
    Calls Tryd.prog 7 #[.agg #[pv, rv], mv, kv] w fun e w' => e = .returned (.bool true) ∧ Below w.heap.size w w' := by
  have HP := Lib.hid hp
  have HR := Lib.hid hr
  have HM := Lib.hid hm
  have HK := Lib.hid hk
  obtain ⟨PA, pc, rfl, hpc, hpm, hps⟩ := hp
  obtain ⟨RV, vc, rfl, hvc, hvm, hvs⟩ := hr
  obtain ⟨q1, q2, q3, q4⟩ := postE_zero hE
  have HGV := Lib.hid (gvn_all ps rs ms ks hE)
  obtain ⟨MA, mc, mus, rfl, _, hmm, hms, hmu⟩ := hm
  obtain ⟨KA, kc, rfl, _, hkm, hks⟩ := hk
  have HMU := Lib.hid hmu
  unfold maxLen at hmm hkm
  have HE2 := Lib.hid hE
  obtain ⟨n, hn⟩ : ∃ n, ms.length = n := ⟨_, rfl⟩
  have HN := Lib.hid hn
  have HKL : Hid (ks.length = n) := Lib.hid (q2.trans hn)
  have HN60 : Hid (n ≤ 60) := by unfold Hid; omega
  clear hmu hE q1 q2 q3 q4 hn
  obtain ⟨W0, hW0⟩ : ∃ W0 : World, W0 = w.alloc (.cells #[.slice PA ps.length pc, .slice RV rs.length vc] 34) := ⟨_, rfl⟩
  have r0 : Row W0 w.heap.size 34 [.slice PA ps.length pc, .slice RV rs.length vc] := by
    rw [hW0]
    have := Row.new w 34 [.slice PA ps.length pc, .slice RV rs.length vc]
    simpa using this
  have B0 : Below w.heap.size w W0 := by rw [hW0]; exact ((Below.refl _ _).alloc (Nat.le_refl _) _)
  go_enter Tryd.func7, Tryd.ntmps7
  go_wp2_with fail
  rw [← hW0]
  clear hW0
  have BB := B0
  have hr3 := r0
  clear B0 r0
  refine (all_u _ _ _ _ ps rs ms ks _ (HP.out.below BB) (HR.out.below BB) (HM.out.below BB) (HK.out.below BB)).mono ?_
  rintro e x1 ⟨A3, n3, c3, rfl, hv3, hb⟩
  replace hr3 := hr3.keep hb
  replace BB : Below w.heap.size w x1 := BB.trans (hb.mono BB.size)
  clear hb
  rw [HE2.out]
  have c30 : x1.cell? ⟨w.heap.size, 0, none⟩ = some (.slice PA ps.length pc) := hr3.cell 0
  have c31 : x1.cell? ⟨w.heap.size, 1, none⟩ = some (.slice RV rs.length vc) := hr3.cell 1
  have z3 := hr3.lt
  go_wp2_with fail
  clear c30 c31 z3
  obtain ⟨wl, hwl⟩ : ∃ x, x = x1 := ⟨_, rfl⟩
  subst hwl
  go_loopw [9, 10, 11] (fun gv kv2 iv wr => ∃ (i : Nat) (GA : Option Addr) (gc : Nat) (KB : Option Addr) (kc2 : Nat) (us : List Value), i ≤ n ∧ iv = .int .i64 (i : Int) ∧ gv = .slice GA (gvn ms ks i).length gc ∧ kv2 = .slice KB (gvn ms ks i).length kc2 ∧ wr.ownsRow wl.heap.size 25 1 (.slice GA (gvn ms ks i).length gc) (gvn ms ks i).length us ∧ wr.ownsRow (wl.heap.size + 1) 3 1 (.slice KB (gvn ms ks i).length kc2) (gvn ms ks i).length (((gvn ms ks i).map Prod.snd).map (Value.int .i64)) ∧ Hid (∀ j u, us[j]? = some u → IntsL w u (((gvn ms ks i).map Prod.fst).getD j [])) ∧ Hid (∀ q, (Value.slice GA (gvn ms ks i).length gc).ownBlock = some q → (Value.slice KB (gvn ms ks i).length kc2).ownBlock ≠ some q) ∧ wl.heap.size + 2 ≤ wr.heap.size ∧ Below wl.heap.size wl wr) (fun _ _ iv _ => n - (intOf iv).toNat)
  case atStart =>
    refine ⟨0, _, 0, _, 0, [], by omega, rfl, rfl, rfl, ?_, ?_, fun j u h => by simp at h, fun q h => ?_, by simp, ?_⟩
    · exact (own_nul wl 25).alloc _
    · have := own_nul (wl.alloc (.cells #[] 25)) 3
      rw [show gvn ms ks 0 = [] from rfl]
      simpa using this
    · intro h2
      have e1 : wl.heap.size = q := Option.some.inj h
      have e2 : wl.heap.size + 1 = q := by have := Option.some.inj h2; simpa using this
      omega
    · exact lit_more (lit_below _ _) _
  case round =>
    obtain ⟨i, GA, gc, KB, kc2, us, hi, rfl, rfl, rfl, hown, hown2, hels, hapt, hz1, BQ⟩ := hrel
    have BW := BB.trans (BQ.mono BB.size)
    by_cases hlt : i < n
    · obtain ⟨b2, o2, rfl, hb2, hc2⟩ := hks.num (i := i) (by rw [HKL.out]; exact hlt)
      have g2 := (BW.cell (p := ⟨b2, o2 + i, none⟩) hb2).trans (hc2 i (by rw [HKL.out]; exact hlt))
      clear hc2
      obtain ⟨b, o, u, rfl, hbl, g1, hI⟩ := lst_at (R := IntsL) (d := []) (xs := ms) hms HMU.out (by rw [HN.out]; exact hlt)
      have g1' := (BW.cell (p := ⟨b, o + i, none⟩) hbl).trans g1
      clear g1
      have HST := Lib.hid (gvn_step ms ks i (by rw [HN.out]; exact hlt) (by rw [HKL.out]; exact hlt))
      generalize ms.getD i [] = mi at *
      generalize ks.getD i 0 = x at *
      obtain ⟨RA, rc, rus, rfl, _, _, _⟩ := id hI
      have hiI : (i : Int) < (n : Int) := by omega
      have hiM : (i : Int) < (ms.length : Int) := by rw [HN.out]; exact hiI
      have hiK : (i : Int) < (ks.length : Int) := by rw [HKL.out]; exact hiI
      have hgl : (gvn ms ks i).length ≤ 60 := by have := gvn_len ms ks i; have := HN60.out; have := HN.out; omega
      by_cases hx : 0 ≤ x
      · have t1 : decide (0 ≤ x) = true := decide_eq_true hx
        skip
        go_wp2_with (at_builtin; first | (refine wpList_append_oneG _ rfl (.tmp 36) (.tmp 41) 35 rfl wl.heap.size 25 (.agg #[.slice none 0 0]) 24 Tryd.underlying35 infoMdl rfl (.slice GA (gvn ms ks i).length gc) (gvn ms ks i).length us (.slice RA mi.length rc) rfl rfl hown rfl (by unfold maxLen; omega) (by omega) BQ.size ?_; intro A' c3 w3 hown3 hb3 hg3 hr3; have hk3 := own_grown hown2 hg3 (fun q hq hh => hapt.out q hh.symm hq); have hap3 := apart_grow hapt.out hr3 (fun q hq => (hown2.lt q hq).2); have B3 := BQ.trans hb3; have BW3 := BB.trans (B3.mono BB.size); have g23 := (BW3.cell (p := ⟨b2, o2 + i, none⟩) hb2).trans ((BW.cell (p := ⟨b2, o2 + i, none⟩) hb2).symm.trans g2)) | (refine wpList_append_oneG _ rfl (.tmp 43) (.tmp 48) 32 rfl (wl.heap.size + 1) 3 (.int .i64 0) 8 Tryd.underlying32 infoInt rfl (.slice KB (gvn ms ks i).length kc2) (gvn ms ks i).length _ (.int .i64 x) rfl rfl hk3 rfl (by unfold maxLen; omega) (by omega) (by have := hb3.size; omega) ?_; intro B' c5 w5 hk5 hb5 hg5 hr5; have ho5 := own_grown hown3 hg5 (fun q hq hh => hap3 q hq hh.symm); have hap5 := apart_grow2 hap3 hr5 (fun q hq => (hown3.lt q hq).2); have B5 := B3.trans (hb5.mono (Nat.le_succ _))))
        go_roundw
        case rel =>
          have hst := HST.out
          rw [if_pos hx] at hst
          refine ⟨i + 1, A', c3, B', c5, us ++ [.slice RA mi.length rc], by omega, by go_num, ?_, ?_, ?_, ?_, ?_, ?_, by have := hb3.size; have := hb5.size; omega, B5⟩
          · rw [hst, List.length_append]; rfl
          · rw [hst, List.length_append]; rfl
          · rw [hst, List.length_append]; exact ho5
          · rw [hst, List.length_append, List.map_append, List.map_append]; exact hk5
          · rw [hst]; exact els_snoc hels.out (by have := hown.1; rw [List.length_map]; omega) hI
          · rw [hst, List.length_append]; exact hap5
        case measure => simp [intOf]; omega
      · have t1 : decide (0 ≤ x) = false := decide_eq_false hx
        go_wp2_with fail
        go_roundw
        case rel =>
          have hst := HST.out
          rw [if_neg hx] at hst
          exact ⟨i + 1, GA, gc, KB, kc2, us, by omega, by go_num, by rw [hst], by rw [hst], by rw [hst]; exact hown, by rw [hst]; exact hown2, by rw [hst]; exact hels, by rw [hst]; exact hapt, hz1, BQ⟩
        case measure => simp [intOf]; omega
    · have hnn := HN.out
      obtain rfl : i = ms.length := by omega
      clear hnn
      have hq3 := hr3.keep BQ
      have hv3' := hv3.below BQ
      clear hr3 hv3
      skip
      have hmg : ModL wr (.slice GA (gvn ms ks ms.length).length gc) ((gvn ms ks ms.length).map Prod.fst) := by
        have := lst_own (R := IntsL) (d := []) (xs := (gvn ms ks ms.length).map Prod.fst) hown (by rw [List.length_map]) (fun j u h => (hels.out j u h).below BW)
        exact this
      have hkg : Nums .i64 wr (.slice KB (gvn ms ks ms.length).length kc2) ((gvn ms ks ms.length).map Prod.snd) := by
        have := Nums.of_own (k := .i64) (zs := (gvn ms ks ms.length).map Prod.snd) hown2
        exact this
      have BB := BW
      clear hown hown2 hels hapt hz1 BQ BW
      have HG := Lib.hid (HGV.out)
      generalize (gvn ms ks ms.length).length = gl at *
      have c30 : wr.cell? ⟨w.heap.size, 0, none⟩ = some (.slice PA ps.length pc) := hq3.cell 0
      have c31 : wr.cell? ⟨w.heap.size, 1, none⟩ = some (.slice RV rs.length vc) := hq3.cell 1
      have z3 := hq3.lt
      go_wp2_with fail
      clear c30 c31 z3
      refine (all_u _ _ _ _ ps rs ((gvn ms ks ms.length).map Prod.fst) ((gvn ms ks ms.length).map Prod.snd) _ (HP.out.below BB) (HR.out.below BB) hmg hkg).mono ?_
      rintro e x41 ⟨A4, n4, c4, rfl, hv4, hb⟩
      replace hq3 := hq3.keep hb
      replace hv3' := hv3'.below hb
      replace BB : Below w.heap.size w x41 := BB.trans (hb.mono BB.size)
      clear hb
      rw [HG.out.1]
      rw [HG.out.2] at hv4
      have c30 : x41.cell? ⟨w.heap.size, 0, none⟩ = some (.slice PA ps.length pc) := hq3.cell 0
      have c31 : x41.cell? ⟨w.heap.size, 1, none⟩ = some (.slice RV rs.length vc) := hq3.cell 1
      have z3 := hq3.lt
      go_wp2_with fail
      clear c30 c31 z3
      refine (requal_yes _ _ _ _ _ _ hv3' hv4).mono ?_
      rintro e x42 ⟨rfl, hb⟩
      replace hq3 := hq3.keep hb
      replace hv3' := hv3'.below hb
      replace hv4 := hv4.below hb
      replace BB : Below w.heap.size w x42 := BB.trans (hb.mono BB.size)
      clear hb
      have c30 : x42.cell? ⟨w.heap.size, 0, none⟩ = some (.slice PA ps.length pc) := hq3.cell 0
      have c31 : x42.cell? ⟨w.heap.size, 1, none⟩ = some (.slice RV rs.length vc) := hq3.cell 1
      have z3 := hq3.lt
      go_wp2_with fail
      clear c30 c31 z3
      refine (awake_any _).mono ?_
      rintro e x43 ⟨rfl, hb⟩
      replace hq3 := hq3.keep hb
      replace hv3' := hv3'.below hb
      replace hv4 := hv4.below hb
      replace BB : Below w.heap.size w x43 := BB.trans (hb.mono BB.size)
      clear hb
      have c30 : x43.cell? ⟨w.heap.size, 0, none⟩ = some (.slice PA ps.length pc) := hq3.cell 0
      have c31 : x43.cell? ⟨w.heap.size, 1, none⟩ = some (.slice RV rs.length vc) := hq3.cell 1
      have z3 := hq3.lt
      go_wp2_with fail
      clear c30 c31 z3
      go_ret
      exact ⟨rfl, BB⟩
theorem lmiss_any (pv rv mv kv : Value) (ps rs : List Int) (ms : List Mdl) (ks : List Int) (w : World) (hp : Nums .i64 w pv ps) (hr : Nums .i64 w rv rs) (hm : ModL w mv ms) (hk : Nums .i64 w kv ks) :
    Calls Tryd.prog 7 #[.agg #[pv, rv], mv, kv] w fun e w' => e = .returned (.bool true) ∧ Below w.heap.size w w' := by
  by_cases h : postE ps rs ms ks = 0
  · exact lmiss_yes pv rv mv kv ps rs ms ks w hp hr hm hk h
  · exact lmiss_no pv rv mv kv ps rs ms ks w hp hr hm hk h

end Go.Proofs.YtoihjclkocffhaaDoor
