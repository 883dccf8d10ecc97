/- The walk of PosteriorShares. -/
import Derived.Test.YtoihjclkocffhaaDoorPqQ
import Derived.Test.YtoihjclkocffhaaDoorPoQd
import Derived.Test.YtoihjclkocffhaaDoorPoW
namespace Go.Proofs.YtoihjclkocffhaaDoor
open Go.RowKit
set_option linter.unusedVariables false
set_option maxRecDepth 100000

/-- A list of fractions, or no list. -/
def RatE (w : World) (v : Value) (zs : List (Int × Nat)) (L : Nat) : Prop := (zs = [] ∧ v = .slice none 0 0) ∨ ((0 < zs.length ∧ zs.length ≤ 1000) ∧ RatLs w v zs L)
theorem RatE.below {w w' : World} {v : Value} {zs : List (Int × Nat)} {L : Nat} (h : RatE w v zs L) (hb : Below w.heap.size w w') : RatE w' v zs L := by
  rcases h with h | ⟨h1, h2⟩
  · exact .inl h
  · exact .inr ⟨h1, h2.below hb⟩
theorem RatE.show_ {w : World} {v : Value} {zs : List (Int × Nat)} {L : Nat} (h : RatE w v zs L) : ∃ A n c, v = .slice A n c := by
  rcases h with ⟨_, h⟩ | ⟨_, g, c, us, h, _⟩
  · exact ⟨_, _, _, h⟩
  · exact ⟨_, _, _, h⟩
theorem rsl_any (v u : Value) (zs : List (Int × Nat)) (L M : Nat) (w : World) (h1 : RatE w v zs L) (h2 : RatE w u zs M) :
    Calls Tryd.prog 23 #[v, u] w fun e w' => e = .returned (.bool true) ∧ Below w.heap.size w w' := by
  rcases h1 with ⟨e1, rfl⟩ | ⟨p1, h1⟩
  · rcases h2 with ⟨_, rfl⟩ | ⟨p2, _⟩
    · exact rsl_nil w
    · subst e1; simp at p2
  · rcases h2 with ⟨e2, _⟩ | ⟨_, h2⟩
    · subst e2; simp at p1
    · exact rsl_yes v u zs L M w h1 h2 p1.2
theorem ns_pos {ns : List Nat} (h : chkE ns = 0) : 0 < ns.length ∧ ns.length ≤ 1000 := by
  have h21 := (chkE_zero h).1
  have := sum_pos (chkE_zero h).2
  rcases ns with _ | ⟨x, ns⟩
  · simp at this
  · exact ⟨by simp, by omega⟩
theorem cats_pos {ns : List Nat} {m : Mdl} (h : prdE ns m = 0) : 0 < catsOf m ∧ catsOf m ≤ 1000 := by
  unfold prdE at h
  split at h
  · rename_i h1; exact absurd h h1
  · have := (modE_zero h).2.2.2.1
    have := (modE_zero h).2.2.2.2.1
    omega
theorem pshareE (wv : Value) (ns : List Nat) (L : Nat) (w : World) (hw : Wts w wv ns L) (hL : L ≤ 35184372088000) :
    Calls Tryd.prog 21 #[wv] w fun e w' => ∃ v, e = .returned (.tuple #[v, .int .i64 (chkE ns)]) ∧ RatE w' v (if chkE ns = 0 then shareL ns else []) (L + 21) ∧ Below w.heap.size w w' := by
  by_cases hE : chkE ns = 0
  · rw [if_pos hE, hE]
    refine (share_yes wv ns L w hw hL hE).mono ?_
    rintro e w' ⟨g, us, he, hr, hc, hb⟩
    exact ⟨_, he, .inr ⟨by rw [shareL_len]; exact ns_pos hE, hc.ls (shareL_len ns) hr⟩, hb⟩
  · rw [if_neg hE]
    refine (share_no wv ns L w hw hL hE).mono ?_
    rintro e w' ⟨he, hb⟩
    exact ⟨_, he, .inl ⟨rfl, rfl⟩, hb⟩
theorem rshareE (wv : Value) (ns : List Nat) (L : Nat) (w : World) (hw : Wts w wv ns L) (hL : L ≤ 35184372088000) :
    Calls Tryd.prog 22 #[wv] w fun e w' => ∃ v, e = .returned (.tuple #[v, .int .i64 (chkE ns)]) ∧ RatE w' v (if chkE ns = 0 then shareL ns else []) (L + 2) ∧ Below w.heap.size w w' := by
  by_cases hE : chkE ns = 0
  · rw [if_pos hE, hE]
    refine (rshare26_yes wv ns L w hw (by omega) hE).mono ?_
    rintro e w' ⟨v, he, hc, hb⟩
    exact ⟨_, he, .inr ⟨by rw [shareL_len]; exact ns_pos hE, hc⟩, hb⟩
  · rw [if_neg hE]
    refine (rshare26_no wv ns L w hw (by omega) hE).mono ?_
    rintro e w' ⟨he, hb⟩
    exact ⟨_, he, .inl ⟨rfl, rfl⟩, hb⟩
theorem ppredE (wv mv : Value) (ns : List Nat) (L : Nat) (m : Mdl) (w : World) (hw : Wts w wv ns L) (hm : IntsL w mv m) (hL : L ≤ 35184372088000) :
    Calls Tryd.prog 24 #[wv, .agg #[mv]] w fun e w' => ∃ v, e = .returned (.tuple #[v, .int .i64 (prdE ns m)]) ∧ RatE w' v (if prdE ns m = 0 then predL ns m (catsOf m) else []) (L + 60) ∧ Below w.heap.size w w' := by
  by_cases hE : prdE ns m = 0
  · rw [if_pos hE, hE]
    refine (predict_yes wv mv ns L m w hw hm hL hE).mono ?_
    rintro e w' ⟨g, us, he, hr, hc, hb⟩
    exact ⟨_, he, .inr ⟨by rw [predL_len]; exact cats_pos hE, hc.ls (predL_len ns m _) hr⟩, hb⟩
  · rw [if_neg hE]
    refine (predict_no wv mv ns L m w hw hm hL hE).mono ?_
    rintro e w' ⟨he, hb⟩
    exact ⟨_, he, .inl ⟨rfl, rfl⟩, hb⟩
theorem rpredE (wv mv : Value) (ns : List Nat) (L : Nat) (m : Mdl) (w : World) (hw : Wts w wv ns L) (hm : IntsL w mv m) (hL : L ≤ 35184372088000) :
    Calls Tryd.prog 25 #[wv, .agg #[mv]] w fun e w' => ∃ v, e = .returned (.tuple #[v, .int .i64 (prdE ns m)]) ∧ RatE w' v (if prdE ns m = 0 then predL ns m (catsOf m) else []) (L + 30) ∧ Below w.heap.size w w' := by
  by_cases hE : prdE ns m = 0
  · rw [if_pos hE, hE]
    refine (rpred26_yes wv mv ns L m w hw hm hL hE).mono ?_
    rintro e w' ⟨v, he, hc, hb⟩
    exact ⟨_, he, .inr ⟨by rw [predL_len]; exact cats_pos hE, hc⟩, hb⟩
  · rw [if_neg hE]
    refine (rpred26_no wv mv ns L m w hw hm hL hE).mono ?_
    rintro e w' ⟨he, hb⟩
    exact ⟨_, he, .inl ⟨rfl, rfl⟩, hb⟩

set_option maxHeartbeats 16000000 in
theorem lshares_any (wv vv mv : Value) (ns bs : List Nat) (L : Nat) (m : Mdl) (w : World) (hw : Wts w wv ns L) (hv : Wts w vv bs L) (hm : IntsL w mv m) (hL : L ≤ 35184372088000) (h24 : 24 * ns.length ≤ 140737488351232) :
    Calls Tryd.prog 5 #[wv, vv, .agg #[mv]] w fun e w' => e = .returned (.bool true) ∧ Below w.heap.size w w' := by
  have H1 := Lib.hid (fun (W : World) (h : Below w.heap.size w W) => preduce_any wv ns L W (hw.below h) hL h24)
  have H2 := Lib.hid (fun (W : World) (h : Below w.heap.size w W) => rreduce_any wv ns L W (hw.below h) (by omega) h24)
  have H3 := Lib.hid (fun (W : World) (h : Below w.heap.size w W) => psame_any wv vv ns bs L L W (hw.below h) (hv.below h) hL hL)
  have H4 := Lib.hid (fun (W : World) (h : Below w.heap.size w W) => rsame26_any wv vv ns bs L W (hw.below h) (hv.below h) hL)
  have H5 := Lib.hid (fun (W : World) (h : Below w.heap.size w W) => pshareE wv ns L W (hw.below h) hL)
  have H6 := Lib.hid (fun (W : World) (h : Below w.heap.size w W) => rshareE wv ns L W (hw.below h) hL)
  have H7 := Lib.hid (fun (W : World) (h : Below w.heap.size w W) => ppredE wv mv ns L m W (hw.below h) (hm.below h) hL)
  have H8 := Lib.hid (fun (W : World) (h : Below w.heap.size w W) => rpredE wv mv ns L m W (hw.below h) (hm.below h) hL)
  rw [same_eq] at H4
  obtain ⟨s, hs⟩ : ∃ s, sameL ns bs = s := ⟨_, rfl⟩
  rw [hs] at H3 H4
  obtain ⟨z1, hz1⟩ : ∃ z, (if chkE ns = 0 then shareL ns else []) = z := ⟨_, rfl⟩
  rw [hz1] at H5 H6
  obtain ⟨z2, hz2⟩ : ∃ z, (if prdE ns m = 0 then predL ns m (catsOf m) else []) = z := ⟨_, rfl⟩
  rw [hz2] at H7 H8
  obtain ⟨E, hE⟩ : ∃ e, chkE ns = e := ⟨_, rfl⟩
  rw [hE] at H5 H6
  obtain ⟨D, hD⟩ : ∃ e, prdE ns m = e := ⟨_, rfl⟩
  rw [hD] at H7 H8
  clear hs hz1 hz2 hE hD
  have t1 : (s != s) = false := by simp
  have t2 : (E != E) = false := by simp
  have t3 : (D == D) = true := by simp
  obtain ⟨WA, wc, us, rfl, _, _, _, _⟩ := hw
  obtain ⟨VA, vc, vs, rfl, _, _, _, _⟩ := hv
  obtain ⟨MA, mc, mus, rfl, _, _, _, _⟩ := hm
  obtain ⟨W0, hW0⟩ : ∃ W0 : World, W0 = w.alloc (.cells #[.slice MA m.length mc] 25) := ⟨_, rfl⟩
  have r0 : Row W0 w.heap.size 25 [.slice MA m.length mc] := by
    rw [hW0]
    have := Row.new w 25 [.slice MA m.length mc]
    simpa using this
  have B0 : Below w.heap.size w W0 := by rw [hW0]; exact ((Below.refl _ _).alloc (Nat.le_refl _) _)
  go_enter Tryd.func5, Tryd.ntmps5
  go_wp2_with fail
  rw [← hW0]
  clear hW0
  have BB := B0
  have hr5 := r0
  clear B0 r0
  have c50 : W0.cell? ⟨w.heap.size, 0, none⟩ = some (.slice MA m.length mc) := hr5.cell 0
  have z5 := hr5.lt
  go_wp2_with fail
  clear c50 z5
  refine (H1.out _ BB).mono ?_
  rintro e x1 ⟨v1, rfl, hv1, hb⟩
  replace hr5 := hr5.keep hb
  replace BB : Below w.heap.size w x1 := BB.trans (hb.mono BB.size)
  clear hb
  obtain ⟨A1, c1, us1, rfl, _, _, _, _⟩ := id hv1
  have c50 : x1.cell? ⟨w.heap.size, 0, none⟩ = some (.slice MA m.length mc) := hr5.cell 0
  have z5 := hr5.lt
  go_wp2_with fail
  clear c50 z5
  refine (H2.out _ BB).mono ?_
  rintro e x2 ⟨v2, rfl, hv2, hb⟩
  replace hr5 := hr5.keep hb
  replace hv1 := hv1.below hb
  replace BB : Below w.heap.size w x2 := BB.trans (hb.mono BB.size)
  clear hb
  obtain ⟨A2, c2, us2, rfl, _, _, _, _⟩ := id hv2
  have c50 : x2.cell? ⟨w.heap.size, 0, none⟩ = some (.slice MA m.length mc) := hr5.cell 0
  have z5 := hr5.lt
  go_wp2_with fail
  clear c50 z5
  refine (requal_yes _ _ (redL ns) L L _ hv1 hv2).mono ?_
  rintro e x3 ⟨rfl, hb⟩
  replace hr5 := hr5.keep hb
  replace hv1 := hv1.below hb
  replace hv2 := hv2.below hb
  replace BB : Below w.heap.size w x3 := BB.trans (hb.mono BB.size)
  clear hb
  clear hv1 hv2
  have c50 : x3.cell? ⟨w.heap.size, 0, none⟩ = some (.slice MA m.length mc) := hr5.cell 0
  have z5 := hr5.lt
  go_wp2_with fail
  clear c50 z5
  refine (H3.out _ BB).mono ?_
  rintro e x4 ⟨rfl, hb⟩
  replace hr5 := hr5.keep hb
  replace BB : Below w.heap.size w x4 := BB.trans (hb.mono BB.size)
  clear hb
  have c50 : x4.cell? ⟨w.heap.size, 0, none⟩ = some (.slice MA m.length mc) := hr5.cell 0
  have z5 := hr5.lt
  go_wp2_with fail
  clear c50 z5
  refine (H4.out _ BB).mono ?_
  rintro e x5 ⟨rfl, hb⟩
  replace hr5 := hr5.keep hb
  replace BB : Below w.heap.size w x5 := BB.trans (hb.mono BB.size)
  clear hb
  have c50 : x5.cell? ⟨w.heap.size, 0, none⟩ = some (.slice MA m.length mc) := hr5.cell 0
  have z5 := hr5.lt
  go_wp2_with fail
  clear c50 z5
  refine (H5.out _ BB).mono ?_
  rintro e x6 ⟨v5, rfl, hv5, hb⟩
  replace hr5 := hr5.keep hb
  replace BB : Below w.heap.size w x6 := BB.trans (hb.mono BB.size)
  clear hb
  obtain ⟨A5, n5, c5, rfl⟩ := hv5.show_
  have c50 : x6.cell? ⟨w.heap.size, 0, none⟩ = some (.slice MA m.length mc) := hr5.cell 0
  have z5 := hr5.lt
  go_wp2_with fail
  clear c50 z5
  refine (H6.out _ BB).mono ?_
  rintro e x7 ⟨v6, rfl, hv6, hb⟩
  replace hr5 := hr5.keep hb
  replace hv5 := hv5.below hb
  replace BB : Below w.heap.size w x7 := BB.trans (hb.mono BB.size)
  clear hb
  obtain ⟨A6, n6, c6, rfl⟩ := hv6.show_
  have c50 : x7.cell? ⟨w.heap.size, 0, none⟩ = some (.slice MA m.length mc) := hr5.cell 0
  have z5 := hr5.lt
  go_wp2_with fail
  clear c50 z5
  refine (rsl_any _ _ _ _ _ _ hv5 hv6).mono ?_
  rintro e x8 ⟨rfl, hb⟩
  replace hr5 := hr5.keep hb
  replace hv5 := hv5.below hb
  replace hv6 := hv6.below hb
  replace BB : Below w.heap.size w x8 := BB.trans (hb.mono BB.size)
  clear hb
  clear hv5 hv6
  have c50 : x8.cell? ⟨w.heap.size, 0, none⟩ = some (.slice MA m.length mc) := hr5.cell 0
  have z5 := hr5.lt
  go_wp2_with fail
  clear c50 z5
  refine (H7.out _ BB).mono ?_
  rintro e x9 ⟨v7, rfl, hv7, hb⟩
  replace hr5 := hr5.keep hb
  replace BB : Below w.heap.size w x9 := BB.trans (hb.mono BB.size)
  clear hb
  obtain ⟨A7, n7, c7, rfl⟩ := hv7.show_
  have c50 : x9.cell? ⟨w.heap.size, 0, none⟩ = some (.slice MA m.length mc) := hr5.cell 0
  have z5 := hr5.lt
  go_wp2_with fail
  clear c50 z5
  refine (H8.out _ BB).mono ?_
  rintro e x10 ⟨v8, rfl, hv8, hb⟩
  replace hr5 := hr5.keep hb
  replace hv7 := hv7.below hb
  replace BB : Below w.heap.size w x10 := BB.trans (hb.mono BB.size)
  clear hb
  obtain ⟨A8, n8, c8, rfl⟩ := hv8.show_
  have c50 : x10.cell? ⟨w.heap.size, 0, none⟩ = some (.slice MA m.length mc) := hr5.cell 0
  have z5 := hr5.lt
  go_wp2_with fail
  clear c50 z5
  refine (rsl_any _ _ _ _ _ _ hv7 hv8).mono ?_
  rintro e x11 ⟨rfl, hb⟩
  replace hr5 := hr5.keep hb
  replace hv7 := hv7.below hb
  replace hv8 := hv8.below hb
  replace BB : Below w.heap.size w x11 := BB.trans (hb.mono BB.size)
  clear hb
  clear hv7 hv8
  have c50 : x11.cell? ⟨w.heap.size, 0, none⟩ = some (.slice MA m.length mc) := hr5.cell 0
  have z5 := hr5.lt
  go_wp2_with fail
  clear c50 z5
  refine (awake_any _).mono ?_
  rintro e x12 ⟨rfl, hb⟩
  replace hr5 := hr5.keep hb
  replace BB : Below w.heap.size w x12 := BB.trans (hb.mono BB.size)
  clear hb
  have c50 : x12.cell? ⟨w.heap.size, 0, none⟩ = some (.slice MA m.length mc) := hr5.cell 0
  have z5 := hr5.lt
  go_wp2_with fail
  clear c50 z5
  go_ret
  exact ⟨rfl, BB⟩
end Go.Proofs.YtoihjclkocffhaaDoor
