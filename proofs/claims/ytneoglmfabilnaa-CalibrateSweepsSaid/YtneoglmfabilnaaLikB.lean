/- The walks of calibrate's greatest and checkFamily. -/
import Derived.Test.YtneoglmfabilnaaLikA
import Derived.Test.YtneoglmfabilnaaLaw28
import Derived.Deep.RegionHeld3
namespace Go.Proofs.Ytneoglmfabilnaa
open Go.RowKit
set_option linter.unusedVariables false

theorem bl_call {a W w1 : World} (h : Below W.heap.size W w1) (h0 : Below a.heap.size a W) : Below a.heap.size a w1 := h0.trans (h.mono h0.size)
theorem keep2 {W w' : World} {p q : Addr} {x y : Value} (hp : p.block < W.heap.size) (hq : q.block < W.heap.size) (h0 : W.cell? p = some x) (h1 : W.cell? q = some y) (hb : Below W.heap.size W w') :
    w'.cell? p = some x ∧ w'.cell? q = some y ∧ Below W.heap.size W w' := ⟨(hb.cell hp).trans h0, (hb.cell hq).trans h1, hb⟩
theorem bl_drew {a w : World} (h : Below a.heap.size a w) : Below a.heap.size a w.drew := h.drew
/-- The index of the greatest of the first numbers, the lowest one of several. -/
def grTo (l : List Nat) : Nat → Nat
  | 0 => 0
  | k + 1 => if l.getD (grTo l k) 0 < l.getD k 0 then k else grTo l k
theorem grTo_lt (l : List Nat) : ∀ k, grTo l k < max 1 k
  | 0 => by simp [grTo]
  | k + 1 => by
    have := grTo_lt l k
    rw [grTo]
    split <;> omega
theorem grTo_ge (l : List Nat) : ∀ k i, i < k → l.getD i 0 ≤ l.getD (grTo l k) 0
  | 0, i, h => by omega
  | k + 1, i, h => by
    rw [grTo]
    rcases Nat.lt_or_ge i k with hl | hl
    · have := grTo_ge l k i hl
      split <;> omega
    · obtain rfl : i = k := by omega
      split <;> omega
theorem grTo_first (l : List Nat) : ∀ k i, i < grTo l k → l.getD i 0 < l.getD (grTo l k) 0
  | 0, i, h => by simp [grTo] at h
  | k + 1, i, h => by
    rw [grTo] at h ⊢
    split at h
    · rename_i hc
      rw [if_pos hc]
      have := grTo_ge l k i h
      omega
    · rename_i hc
      rw [if_neg hc]
      exact grTo_first l k i h
theorem cmpN_pos (a b : Nat) : decide (0 < cmpN a b) = decide (b < a) := by
  unfold cmpN
  split
  · rw [decide_eq_decide]; omega
  · split
    · rw [decide_eq_decide]; omega
    · rw [decide_eq_decide]; omega

set_option maxHeartbeats 2000000 in
theorem greatest_any (v : Value) (ns : List Nat) (L : Nat) (w : World) (h : CanL w v ns L) (h0 : 0 < ns.length) :
    Calls Try.prog 47 #[v] w fun e w' => e = .returned (.int .i64 (grTo ns ns.length : Nat)) ∧ ∃ d, w' = w.drewN d := by
  obtain ⟨A, c, us, rfl, h1, h2, hs, hu⟩ := h
  have HU := Lib.hid hu
  unfold maxLen at h2
  obtain ⟨n, hn⟩ : ∃ n, ns.length = n := ⟨_, rfl⟩
  have HN := Lib.hid hn
  rw [hn] at hs h1 h0 ⊢
  clear hn hu
  go_enter Try.func47, Try.ntmps47
  go_wp2
  go_loopw [3, 7] (fun b i wr => ∃ k : Nat, k ≤ n ∧ i = .int .i64 (k : Int) ∧ b = .int .i64 ((grTo ns k : Nat) : Int) ∧ ∃ d, wr = w.drewN d) (fun _ i _ => n - (intOf i).toNat)
  case atStart => exact ⟨0, by omega, rfl, rfl, 0, rfl⟩
  case round =>
    obtain ⟨k, hk, rfl, rfl, d, rfl⟩ := hrel
    by_cases hlt : k < n
    · have hg := grTo_lt ns k
      obtain ⟨b1, o1, x, rfl, _, g1, hL1⟩ := lst_at (R := fun w u n => NatAt w u n L) (d := 0) (xs := ns) hs HU.out hlt
      obtain ⟨b2, o2, y, hA, _, g2, hL2⟩ := lst_at (R := fun w u n => NatAt w u n L) (d := 0) (xs := ns) hs HU.out (show grTo ns k < n by omega)
      simp only [Option.some.injEq, Addr.mk.injEq, and_true] at hA
      obtain ⟨rfl, rfl⟩ := hA
      obtain ⟨la, ha1, _, ha3, _⟩ := hL1
      obtain ⟨lb, hb1, _, hb3, _⟩ := hL2
      have ha1' := ha1
      have hb1' := hb1
      obtain ⟨⟨X1, cx, rfl, _, _, _⟩, _⟩ := ha1'
      obtain ⟨⟨Y1, cy, rfl, _, _, _⟩, _⟩ := hb1'
      have HC := Lib.hid (fun (u : Nat) => cmp_any _ _ la lb (w.drewN u) ha1 hb1)
      have HS : Hid (grTo ns (k + 1) = if decide (0 < cmpN (val la) (val lb)) = true then k else grTo ns k) := by
        unfold Hid
        rw [cmpN_pos, ha3, hb3, grTo]
        simp only [decide_eq_true_eq]
      generalize hgg : grTo ns k = G at *
      have hG : G < n := by omega
      clear hgg
      rw [ha3, hb3] at HC HS
      generalize hcc : cmpN (ns.getD k 0) (ns.getD G 0) = cm at *
      clear hcc
      go_wp2
      go_quiet ((go_at_call 20; exact quiet_addE (HC.out _)))
      rcases hd : decide (0 < cm) with _ | _
      · have HS' : Hid (grTo ns (k + 1) = G) := by unfold Hid; rw [HS.out, hd]; rfl
        go_wp2
        go_roundw
        case rel => exact ⟨k + 1, by omega, by go_num, by rw [HS'.out], _, rfl⟩
        case measure => simp [intOf]; omega
      · have HS' : Hid (grTo ns (k + 1) = k) := by unfold Hid; rw [HS.out, hd]; rfl
        go_wp2
        go_roundw
        case rel => exact ⟨k + 1, by omega, by go_num, by rw [HS'.out], _, rfl⟩
        case measure => simp [intOf]; omega
    · obtain rfl : k = n := by omega
      go_wp2
      go_ret
      exact ⟨rfl, _, rfl⟩

/-- All models of a family have as many categories as the first. -/
def sameCats (fam : List (List (List Int))) : Bool := decide (∀ i, i < fam.length → catsOf (fam.getD i []) = catsOf (fam.getD 0 []))
/-- The first rule that a family violates. -/
def famE (pn : Int) (fam : List (List (List Int))) : Int :=
  if fam.length = 0 then 20 else if chkFrom pn (-1) 0 fam ≠ 0 then chkFrom pn (-1) 0 fam else if sameCats fam = false then 19 else 0
theorem famE_1 {pn : Int} {fam : List (List (List Int))} (h : fam.length = 0) : famE pn fam = 20 := if_pos h
theorem famE_2 {pn : Int} {fam : List (List (List Int))} (h : 0 < fam.length) (h2 : chkFrom pn (-1) 0 fam ≠ 0) : famE pn fam = chkFrom pn (-1) 0 fam := by
  unfold famE; rw [if_neg (by omega), if_pos h2]
theorem famE_3 {pn : Int} {fam : List (List (List Int))} (h : 0 < fam.length) (h2 : chkFrom pn (-1) 0 fam = 0) {k : Nat} (hk : k < fam.length) (h3 : catsOf (fam.getD k []) ≠ catsOf (fam.getD 0 [])) : famE pn fam = 19 := by
  unfold famE; rw [if_neg (by omega), if_neg (by simpa using h2), if_pos]
  exact dec_no hk h3
theorem famE_4 {pn : Int} {fam : List (List (List Int))} (h : 0 < fam.length) (h2 : chkFrom pn (-1) 0 fam = 0) (h3 : ∀ i, i < fam.length → catsOf (fam.getD i []) = catsOf (fam.getD 0 [])) : famE pn fam = 0 := by
  unfold famE; rw [if_neg (by omega), if_neg (by simpa using h2), if_neg]
  unfold sameCats
  rw [decide_eq_true h3]
  simp
theorem famE_zero {pn : Int} {fam : List (List (List Int))} (h : famE pn fam = 0) : 0 < fam.length ∧ chkFrom pn (-1) 0 fam = 0 ∧ ∀ i, i < fam.length → catsOf (fam.getD i []) = catsOf (fam.getD 0 []) := by
  unfold famE at h
  split at h
  · omega
  split at h
  · rename_i h1; exact absurd h h1
  split at h
  · omega
  rename_i h1 h2 h3
  refine ⟨by omega, by omega, ?_⟩
  unfold sameCats at h3
  simpa using h3

set_option maxHeartbeats 4000000 in
theorem chkf_any (pv rv fv : Value) (ps rs : List Int) (fam : List (List (List Int))) (w : World) (hp : Nums .i64 w pv ps) (hr : Nums .i64 w rv rs) (hf : ModL w fv fam) :
    Calls Try.prog 46 #[.agg #[pv, rv], fv] w fun e w' => e = .returned (.int .i64 (famE (ps.length : Int) fam)) ∧ Below w.heap.size w w' := by
  have hp0 := hp
  have hr0 := hr
  have hf0 := hf
  obtain ⟨A, c, rfl, hc, hm1, hsp⟩ := hp
  obtain ⟨B, c', rfl, hc', hm2, hsr⟩ := hr
  obtain ⟨M, cM, us, rfl, k1, k2, hs, hu⟩ := hf
  have HU := Lib.hid hu
  unfold maxLen at hm1 hm2 k2
  clear hu hsp hsr
  have hbox : Below w.heap.size w (w.alloc (.cells #[.slice A ps.length c, .slice B rs.length c'] 24)) := (Below.refl _ _).alloc (Nat.le_refl _) _
  have hrow := Row.new w 24 [.slice A ps.length c, .slice B rs.length c']
  obtain ⟨n, hn⟩ : ∃ n, fam.length = n := ⟨_, rfl⟩
  have HN := Lib.hid hn
  rw [hn] at hs k1 ⊢
  go_enter Try.func46, Try.ntmps46
  rcases Nat.eq_zero_or_pos n with h0 | h0
  · subst h0
    have HE := Lib.hid (famE_1 (pn := (ps.length : Int)) hn)
    clear hn
    go_wp2_with fail
    go_ret
    exact ⟨by rw [HE.out]; rfl, hbox⟩
  have f0 : ((n : Int) == 0) = false := by rw [beq_eq_false_iff_ne]; omega
  clear hn
  go_wp2_with fail
  refine (chkm_any _ _ _ ps rs fam (-1) _ (hp0.below hbox) (hr0.below hbox) (by have := hf0.below hbox; rwa [HN.out] at this)).mono ?_
  rintro e w1 ⟨rfl, hb1⟩
  have B1 : Below w.heap.size w w1 := hbox.trans (hb1.mono hbox.size)
  clear f0
  by_cases he : chkFrom (ps.length : Int) (-1) 0 fam = 0
  case neg =>
    have HE := Lib.hid (famE_2 (by rw [HN.out]; exact h0) he)
    have f1 : (chkFrom (ps.length : Int) (-1) 0 fam != 0) = true := by rw [bne_iff_ne]; exact he
    clear he
    generalize chkFrom (ps.length : Int) (-1) 0 fam = E at *
    go_wp2_with fail
    go_ret
    exact ⟨by rw [HE.out]; rfl, B1⟩
  have f1 : (chkFrom (ps.length : Int) (-1) 0 fam != 0) = false := by rw [bne_eq_false_iff_eq]; exact he
  have HE := Lib.hid he
  clear he
  generalize chkFrom (ps.length : Int) (-1) 0 fam = E at f1 ⊢
  go_wp2_with fail
  clear f1
  go_loopw [19] (fun i wr => ∃ k : Nat, k ≤ n ∧ i = .int .i64 (k : Int) ∧ Hid (∀ i, i < k → catsOf (fam.getD i []) = catsOf (fam.getD 0 [])) ∧ Below w.heap.size w wr) (fun i _ => n - (intOf i).toNat)
  case atStart => exact ⟨0, by omega, rfl, fun i hi => by omega, B1⟩
  case round =>
    clear B1 hb1
    obtain ⟨k, hk, rfl, hinv, hb⟩ := hrel
    by_cases hlt : k < n
    · obtain ⟨b1, o1, u1, rfl, hb1, g1, hI⟩ := lst_at hs HU.out hlt
      obtain ⟨b2, o2, u2, hA, hb2, g2, hJ⟩ := lst_at hs HU.out h0
      simp only [Option.some.injEq, Addr.mk.injEq, and_true] at hA
      obtain ⟨rfl, rfl⟩ := hA
      rw [Nat.add_zero] at g2
      have g3 : wr.cell? ⟨b1, o1 + k, none⟩ = some u1 := (hb.cell (p := ⟨b1, o1 + k, none⟩) hb1).trans g1
      have g4 : wr.cell? ⟨b1, o1, none⟩ = some u2 := (hb.cell (p := ⟨b1, o1, none⟩) hb1).trans g2
      have hI2 := hI.below hb
      have hJ2 := hJ.below hb
      clear g1 g2 hI hJ
      have hI' := hI2
      have hJ' := hJ2
      obtain ⟨R, cR, vs, rfl, _, _, _, _⟩ := hI'
      obtain ⟨R2, cR2, vs2, rfl, _, _, _, _⟩ := hJ'
      have HO : Hid (catsOf (fam.getD k []) = catsOf (fam.getD 0 []) → ∀ i, i < k + 1 → catsOf (fam.getD i []) = catsOf (fam.getD 0 [])) := fun h => all_snoc hinv.out h
      have HBad : Hid (catsOf (fam.getD k []) ≠ catsOf (fam.getD 0 []) → famE (ps.length : Int) fam = 19) := fun h => famE_3 (by rw [HN.out]; exact h0) HE.out (by rw [HN.out]; exact hlt) h
      generalize fam.getD k [] = x at *
      generalize fam.getD 0 [] = y at *
      have zb : b1 < wr.heap.size := Nat.lt_of_lt_of_le hb1 hb.size
      obtain ⟨wo, hwo⟩ : ∃ wo : World, wo = wr.alloc (.cells #[.slice R x.length cR] 48) := ⟨_, rfl⟩
      have hbx : Below wr.heap.size wr wo := by rw [hwo]; exact (Below.refl _ _).alloc (Nat.le_refl _) _
      have hrx : Row wo wr.heap.size 48 [.slice R x.length cR] := by rw [hwo]; exact Row.new wr 48 [.slice R x.length cR]
      have d0 : wo.cell? ⟨wr.heap.size, 0, none⟩ = some (.slice R x.length cR) := hrx.cell 0
      have d1 : wo.cell? ⟨b1, o1, none⟩ = some (.slice R2 y.length cR2) := (hbx.cell (p := ⟨b1, o1, none⟩) zb).trans g4
      have zo := hrx.lt
      have zo2 : b1 < wo.heap.size := Nat.lt_of_lt_of_le zb hbx.size
      have hI3 := hI2.below hbx
      have hJ3 := hJ2.below hbx
      have i0 : (0 : Int) < (n : Int) := by omega
      go_wp2_with fail
      rw [← hwo]
      clear hwo
      go_region_held3 (fun w' => w'.cell? ⟨wr.heap.size, 0, none⟩ = some (.slice R x.length cR) ∧ w'.cell? ⟨b1, o1, none⟩ = some (.slice R2 y.length cR2) ∧ Below wo.heap.size wo w')
        ((refine keep2 zo zo2 d0 d1 ?_; (repeat (first | with_reducible exact Below.refl _ _ | with_reducible refine bl_call h5 ?_ | with_reducible refine bl_call h6 ?_ | with_reducible refine bl_drew ?_))))
        (first
          | (go_at_call 30; ((with_reducible refine (cats_any (.slice R x.length cR) x _ ?_).mono ?_); (refine hI3.below ?_; (repeat (first | with_reducible exact Below.refl _ _ | with_reducible refine bl_call h5 ?_ | with_reducible refine bl_call h6 ?_ | with_reducible refine bl_drew ?_))); rintro e w5 ⟨rfl, h5⟩))
          | (go_at_call 30; ((with_reducible refine (cats_any (.slice R2 y.length cR2) y _ ?_).mono ?_); (refine hJ3.below ?_; (repeat (first | with_reducible exact Below.refl _ _ | with_reducible refine bl_call h5 ?_ | with_reducible refine bl_call h6 ?_ | with_reducible refine bl_drew ?_))); rintro e w6 ⟨rfl, h6⟩)))
      have B6 : Below wo.heap.size wo w6 := bl_call h6 (bl_call h5 (bl_drew (Below.refl _ _)))
      have hb6 : Below w.heap.size w w6 := hb.trans ((hbx.trans (B6.mono hbx.size)).mono hb.size)
      clear h5 h6 B6
      by_cases hxy : catsOf x = catsOf y
      · have HO' := Lib.hid (HO.out hxy)
        have f2 : (((catsOf x : Nat) : Int) != ((catsOf y : Nat) : Int)) = false := by rw [bne_eq_false_iff_eq]; omega
        clear hxy HO HBad
        generalize catsOf x = X at f2 ⊢
        generalize catsOf y = Y at f2 ⊢
        go_wp2_with fail
        go_roundw
        case rel => exact ⟨k + 1, by omega, by go_num, HO'.out, hb6⟩
        case measure => simp [intOf]; omega
      · have HE' := Lib.hid (HBad.out hxy)
        have f2 : (((catsOf x : Nat) : Int) != ((catsOf y : Nat) : Int)) = true := by rw [bne_iff_ne]; omega
        clear hxy HO HBad
        generalize catsOf x = X at f2 ⊢
        generalize catsOf y = Y at f2 ⊢
        go_wp2_with fail
        go_ret
        exact ⟨by rw [HE'.out]; rfl, hb6⟩
    · obtain rfl : k = n := by omega
      have HZ := Lib.hid (famE_4 (by rw [HN.out]; exact h0) HE.out (by rw [HN.out]; exact hinv.out))
      go_wp2_with fail
      go_ret
      exact ⟨by rw [HZ.out]; rfl, hb⟩
end Go.Proofs.Ytneoglmfabilnaa
