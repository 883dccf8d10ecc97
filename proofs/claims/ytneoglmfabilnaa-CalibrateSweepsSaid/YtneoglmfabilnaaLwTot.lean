/- The walks of the law's wide and totalOf. -/
import Derived.Test.YtneoglmfabilnaaChoP
import Derived.Test.YtneoglmfabilnaaLwHeavy
namespace Go.Proofs.Ytneoglmfabilnaa
open Go.RowKit
set_option linter.unusedVariables false

theorem infoModel : (Try.prog.info? 48).map (fun i => (i.zero, i.size, i.bytes)) = some (some (.agg #[.slice none 0 0]), 1, 24) := by kernel_rfl
theorem modL_own {w w' : World} {base e n cv : Nat} {V : Option Addr} {us : List Value} {xs : List (List (List Int))} (ho : w'.ownsRow base e 1 (.slice V n cv) n us) (hx : xs.length = n) (hel : ∀ i u, us[i]? = some u → IntsL w u (xs.getD i [])) (hb : Below w.heap.size w w') : ModL w' (.slice V n cv) xs := by
  obtain ⟨A, c, hv, h1, h2, hs⟩ := Sl.of_own ho
  injection hv with e1 e2 e3
  subst e1 e3
  exact ⟨V, cv, us, by rw [hx], by rw [hx]; exact h1, h2, by rw [hx]; exact hs, fun i u hi => (hel i u hi).below hb⟩
theorem els_set {w : World} {us : List Value} {ms : List (List (List Int))} (h : ∀ i u, us[i]? = some u → IntsL w u (ms.getD i [])) (hl : us.length = ms.length) {it : Nat} {xv : Value} {x : List (List Int)} (hx : IntsL w xv x) : ∀ i u, (us.set it xv)[i]? = some u → IntsL w u ((ms.set it x).getD i []) := by
  intro i u hi
  by_cases he : i = it
  · subst he
    have hl2 : i < us.length := by
      rcases Nat.lt_or_ge i us.length with h1 | h1
      · exact h1
      · rw [List.getElem?_eq_none (by rw [List.length_set]; exact h1)] at hi; cases hi
    rw [List.getElem?_set_self hl2] at hi
    injection hi with hi
    subst hi
    rw [set_get _ _ _ (by omega)]
    exact hx
  · rw [List.getElem?_set_ne (by omega)] at hi
    rw [set_other _ _ _ he]
    exact h i u hi
theorem IntsL.slice {w : World} {v : Value} {l : List (List Int)} (h : IntsL w v l) : ∃ R c, v = .slice R l.length c := by
  obtain ⟨R, c, _, h, _⟩ := h
  exact ⟨R, c, h⟩

set_option maxHeartbeats 1000000 in
theorem wide_any (fv : Value) (fam : List (List (List Int))) (w : World) (h : ModL w fv fam) :
    Calls Try.prog 17 #[fv] w fun e w' => ∃ b, e = .returned (.bool b) ∧ w = w' := by
  obtain ⟨M, cM, us, rfl, k1, k2, hs, hu⟩ := h
  clear hu hs
  unfold maxLen at k2
  generalize fam.length = n at *
  rcases h1 : decide (5 < (n : Int)) <;> rcases h2 : decide ((n : Int) ≤ 24)
  all_goals
    go_enter Try.func17, Try.ntmps17
    go_wp2_with fail
    go_ret
    exact ⟨_, rfl, rfl⟩

set_option maxHeartbeats 4000000 in
theorem totalOf_any (pv rv mv qv iv cv : Value) (ps rs : List Int) (ms : List (List (List Int))) (qs is : List Int) (cs : List (List Int)) (it : Nat) (xv : Value) (x : List (List Int)) (w : World) (hp : Nums .i64 w pv ps) (hr : Nums .i64 w rv rs) (hm : ModL w mv ms) (hq : Nums .i64 w qv qs) (hi : Nums .i64 w iv is) (hc : IntsL w cv cs) (hx : IntsL w xv x) (hit : it < ms.length) (hm60 : ms.length ≤ 60) :
    Calls Try.prog 19 #[.agg #[pv, rv], mv, .agg #[qv, iv, cv], .int .i64 (it : Int), .agg #[xv]] w fun e w' => ∃ v, e = .returned (.tuple #[v, .int .i64 (totE ps rs (ms.set it x) qs is cs)]) ∧ NatAt w' v (totV ps rs (ms.set it x) qs is cs) 40000 ∧ Below w.heap.size w w' := by
  have hp0 := hp
  have hr0 := hr
  have hm0 := hm
  have hq0 := hq
  have hi0 := hi
  have hc0 := hc
  have hx0 := hx
  obtain ⟨A, c, rfl, hc1, hm1, hsp⟩ := hp
  obtain ⟨B, c', rfl, hc', hm2, hsr⟩ := hr
  obtain ⟨M, cM, us, rfl, k1, k2, hs, hu⟩ := hm
  obtain ⟨X, cX, rfl, x1, x2, x3⟩ := hq
  obtain ⟨Y, cY, rfl, y1, y2, y3⟩ := hi
  obtain ⟨Z, cZ, vs, rfl, z1, z2, hsc, hcu⟩ := hc
  obtain ⟨R, cR, ss, rfl, _, _, _, _⟩ := hx
  have HU := Lib.hid hu
  unfold maxLen at k2 x2 y2 z2 hm1 hm2
  clear hu hsp hsr x3 y3 hcu hsc
  obtain ⟨n, hn⟩ : ∃ n, ms.length = n := ⟨_, rfl⟩
  have HN := Lib.hid hn
  rw [hn] at hs k1 hit hm60 ⊢
  clear hn
  obtain ⟨W0, hW0⟩ : ∃ W0 : World, W0 = ((w.alloc (.cells #[.slice A ps.length c, .slice B rs.length c'] 24)).alloc (.cells #[.slice X qs.length cX, .slice Y is.length cY, .slice Z cs.length cZ] 36)).alloc (.cells #[.slice R x.length cR] 48) := ⟨_, rfl⟩
  have hgb : Row W0 w.heap.size 24 [.slice A ps.length c, .slice B rs.length c'] := by rw [hW0]; exact ((Row.new w 24 [.slice A ps.length c, .slice B rs.length c']).alloc _).alloc _
  have hmb : Row W0 (w.heap.size + 1) 36 [.slice X qs.length cX, .slice Y is.length cY, .slice Z cs.length cZ] := by
    rw [hW0]
    have := (Row.new (w.alloc (.cells #[.slice A ps.length c, .slice B rs.length c'] 24)) 36 [.slice X qs.length cX, .slice Y is.length cY, .slice Z cs.length cZ]).alloc (.cells #[.slice R x.length cR] 48)
    simpa using this
  have hxb : Row W0 (w.heap.size + 2) 48 [.slice R x.length cR] := by
    rw [hW0]
    have := Row.new ((w.alloc (.cells #[.slice A ps.length c, .slice B rs.length c'] 24)).alloc (.cells #[.slice X qs.length cX, .slice Y is.length cY, .slice Z cs.length cZ] 36)) 48 [.slice R x.length cR]
    simpa using this
  have B0 : Below w.heap.size w W0 := by rw [hW0]; exact (((Below.refl _ _).alloc (Nat.le_refl _) _).alloc (by simp) _).alloc (by simp; omega) _
  go_enter Try.func19, Try.ntmps19
  go_wp2_with fail
  rw [← hW0]
  clear hW0
  go_loopw [12, 13] (fun v i wr => ∃ (k : Nat) (V : Option Addr) (cv : Nat), k ≤ n ∧ i = .int .i64 (k : Int) ∧ v = .slice V k cv ∧ wr.ownsRow (w.heap.size + 3) 48 1 (.slice V k cv) k ((us.set it (.slice R x.length cR)).take k) ∧ Row wr w.heap.size 24 [.slice A ps.length c, .slice B rs.length c'] ∧ Row wr (w.heap.size + 1) 36 [.slice X qs.length cX, .slice Y is.length cY, .slice Z cs.length cZ] ∧ Row wr (w.heap.size + 2) 48 [.slice R x.length cR] ∧ Below w.heap.size w wr) (fun _ i _ => n - (intOf i).toNat)
  case atStart => exact ⟨0, none, 0, by omega, rfl, rfl, World.ownsRow_nil _ _ _ _, hgb, hmb, hxb, B0⟩
  case round =>
    clear hgb hmb hxb B0
    obtain ⟨k, V, cv, hk, rfl, rfl, hown, hgb, hmb, hxb, hb⟩ := hrel
    have zb : w.heap.size + 3 ≤ wr.heap.size := hxb.lt
    by_cases hlt : k < n
    · have hul : k < (us.set it (.slice R x.length cR)).length := by rw [List.length_set, hs.1]; exact hlt
      have HT := Lib.hid (take_snoc (us.set it (.slice R x.length cR)) (.slice none 0 0) hul)
      by_cases hki : k = it
      · have HG : Hid ((us.set it (.slice R x.length cR)).getD k (.slice none 0 0) = .slice R x.length cR) := by unfold Hid; rw [hki]; exact set_get _ _ _ (by rw [hs.1]; exact hit)
        have f1 : ((k : Int) == (it : Int)) = true := by rw [beq_iff_eq]; omega
        have q0 : wr.cell? ⟨w.heap.size + 2, 0, none⟩ = some (.slice R x.length cR) := hxb.cell 0
        clear hki
        go_wp2_with (at_builtin; refine wpList_append_one wr rfl (.tmp 23) (.tmp 25) 25 rfl (w.heap.size + 3) 48 (.agg #[.slice none 0 0]) 24 Try.underlying25 infoModel rfl (.slice V k cv) k _ (.slice R x.length cR) rfl rfl hown rfl (by unfold maxLen; omega) (by omega) zb ?_; intro A' c3 w3 hown3 hb4)
        go_roundw
        case rel =>
          refine ⟨k + 1, A', c3, by omega, by go_num, rfl, ?_, hgb.below hb4 (by omega), hmb.below hb4 (by omega), hxb.below hb4 (by omega), hb.trans (hb4.mono (by omega))⟩
          rw [HT.out, HG.out]
          exact hown3
        case measure => simp [intOf]; omega
      · have HG : Hid ((us.set it (.slice R x.length cR)).getD k (.slice none 0 0) = us.getD k (.slice none 0 0)) := set_other _ _ _ hki
        have f1 : ((k : Int) == (it : Int)) = false := by rw [beq_eq_false_iff_ne]; omega
        have hus : us[k]? = some (us.getD k (.slice none 0 0)) := getD_some (by rw [hs.1]; exact hlt)
        obtain ⟨b1, o1, hM, hcell⟩ := hs.2 (by omega)
        subst hM
        have hb1 := hs.lt (by omega) rfl
        have g2 : wr.cell? ⟨b1, o1 + k, none⟩ = some (us.getD k (.slice none 0 0)) := (hb.cell (p := ⟨b1, o1 + k, none⟩) hb1).trans (hcell _ _ hus)
        obtain ⟨S, cS, hS⟩ := (HU.out _ _ hus).slice
        rw [hS] at g2 HG
        generalize (ms.getD k []).length = ls at *
        clear hki hcell hus hS
        go_wp2_with (at_builtin; refine wpList_append_one wr rfl (.tmp 27) (.tmp 32) 25 rfl (w.heap.size + 3) 48 (.agg #[.slice none 0 0]) 24 Try.underlying25 infoModel rfl (.slice V k cv) k _ (.slice S ls cS) rfl rfl hown rfl (by unfold maxLen; omega) (by omega) zb ?_; intro A' c3 w3 hown3 hb4)
        go_roundw
        case rel =>
          refine ⟨k + 1, A', c3, by omega, by go_num, rfl, ?_, hgb.below hb4 (by omega), hmb.below hb4 (by omega), hxb.below hb4 (by omega), hb.trans (hb4.mono (by omega))⟩
          rw [HT.out, HG.out]
          exact hown3
        case measure => simp [intOf]; omega
    · obtain rfl : k = n := by omega
      rw [List.take_of_length_le (by rw [List.length_set, hs.1]; exact Nat.le_refl _)] at hown
      have hml := modL_own hown (xs := ms.set it x) (by rw [List.length_set, HN.out]) (els_set HU.out (by rw [hs.1, HN.out]) hx0) hb
      have qg0 : wr.cell? ⟨w.heap.size, 0, none⟩ = some (.slice A ps.length c) := hgb.cell 0
      have qg1 : wr.cell? ⟨w.heap.size, 1, none⟩ = some (.slice B rs.length c') := hgb.cell 1
      have q0 : wr.cell? ⟨w.heap.size + 1, 0, none⟩ = some (.slice X qs.length cX) := hmb.cell 0
      have q1 : wr.cell? ⟨w.heap.size + 1, 1, none⟩ = some (.slice Y is.length cY) := hmb.cell 1
      have q2 : wr.cell? ⟨w.heap.size + 1, 2, none⟩ = some (.slice Z cs.length cZ) := hmb.cell 2
      go_wp2_with fail
      refine (total_any _ _ _ _ _ _ ps rs (ms.set it x) qs is cs _ (hp0.below hb) (hr0.below hb) hml (hq0.below hb) (hi0.below hb) (hc0.below hb)).mono ?_
      rintro e w2 ⟨v2, rfl, hv2, hb2⟩
      go_wp2_with fail
      go_ret2
      exact ⟨v2, rfl, hv2, hb.trans (hb2.mono hb.size)⟩
end Go.Proofs.Ytneoglmfabilnaa
