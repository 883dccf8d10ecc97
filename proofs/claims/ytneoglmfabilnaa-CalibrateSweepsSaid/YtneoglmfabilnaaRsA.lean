/- The walks of the reference's family, with and best. -/
import Derived.Test.YtneoglmfabilnaaLwBest
import Derived.Test.YtneoglmfabilnaaTotC
namespace Go.Proofs.Ytneoglmfabilnaa
open Go.RowKit
set_option linter.unusedVariables false

set_option maxHeartbeats 4000000 in
theorem rfam_any (fv : Value) (pn : Int) (fam : List (List (List Int))) (w : World) (hf : ModL w fv fam) :
    Calls Try.prog 64 #[fv, .int .i64 pn] w fun e w' => e = .returned (.int .i64 (famE pn fam)) ∧ Below w.heap.size w w' := by
  have hf0 := hf
  obtain ⟨M, cM, us, rfl, k1, k2, hs, hu⟩ := hf
  have HU := Lib.hid hu
  unfold maxLen at k2
  clear hu
  obtain ⟨n, hn⟩ : ∃ n, fam.length = n := ⟨_, rfl⟩
  have HN := Lib.hid hn
  rw [hn] at hs k1 ⊢
  go_enter Try.func64, Try.ntmps64
  rcases Nat.eq_zero_or_pos n with h0 | h0
  · subst h0
    have HE := Lib.hid (famE_1 (pn := pn) hn)
    clear hn
    go_wp2_with fail
    go_ret
    exact ⟨by rw [HE.out]; rfl, Below.refl _ _⟩
  have f0 : ((n : Int) == 0) = false := by rw [beq_eq_false_iff_ne]; omega
  clear hn
  go_wp2_with fail
  refine (rchkm_any _ fam pn (-1) _ (by have := hf0; rwa [HN.out] at this)).mono ?_
  rintro e w1 ⟨rfl, B1⟩
  clear f0
  by_cases he : chkFrom pn (-1) 0 fam = 0
  case neg =>
    have HE := Lib.hid (famE_2 (by rw [HN.out]; exact h0) he)
    have f1 : (chkFrom pn (-1) 0 fam != 0) = true := by rw [bne_iff_ne]; exact he
    clear he
    generalize chkFrom pn (-1) 0 fam = E at *
    go_wp2_with fail
    go_ret
    exact ⟨by rw [HE.out]; rfl, B1⟩
  have f1 : (chkFrom pn (-1) 0 fam != 0) = false := by rw [bne_eq_false_iff_eq]; exact he
  have HE := Lib.hid he
  clear he
  generalize chkFrom pn (-1) 0 fam = E at f1 ⊢
  go_wp2_with fail
  clear f1
  go_loopw [6] (fun i wr => ∃ k : Nat, k ≤ n ∧ i = .int .i64 (k : Int) ∧ Hid (∀ i, i < k → catsOf (fam.getD i []) = catsOf (fam.getD 0 [])) ∧ Below w.heap.size w wr) (fun i _ => n - (intOf i).toNat)
  case atStart => exact ⟨0, by omega, rfl, fun i hi => by omega, B1⟩
  case round =>
    clear B1
    obtain ⟨k, hk, rfl, hinv, hb⟩ := hrel
    by_cases hlt : k < n
    · obtain ⟨b1, o1, u1, rfl, hb1, g1, hI⟩ := lst_at hs HU.out hlt
      obtain ⟨b2, o2, u2, hA, hb2, g2, hJ⟩ := lst_at hs HU.out h0
      simp only [Option.some.injEq, Addr.mk.injEq, and_true] at hA
      obtain ⟨rfl, rfl⟩ := hA
      rw [Nat.add_zero] at g2
      have g3 : wr.cell? ⟨b1, o1 + k, none⟩ = some u1 := (hb.cell (p := ⟨b1, o1 + k, none⟩) hb1).trans g1
      have g4 : wr.cell? ⟨b1, o1, none⟩ = some u2 := (hb.cell (p := ⟨b1, o1, none⟩) hb1).trans g2
      have hI2 := hI.below hb
      have hJ2 := hJ.below hb
      clear g1 g2 hI hJ
      have hI' := hI2
      have hJ' := hJ2
      obtain ⟨R, cR, vs, rfl, _, _, _, _⟩ := hI'
      obtain ⟨R2, cR2, vs2, rfl, _, _, _, _⟩ := hJ'
      have HO : Hid (catsOf (fam.getD k []) = catsOf (fam.getD 0 []) → ∀ i, i < k + 1 → catsOf (fam.getD i []) = catsOf (fam.getD 0 [])) := fun h => all_snoc hinv.out h
      have HBad : Hid (catsOf (fam.getD k []) ≠ catsOf (fam.getD 0 []) → famE pn fam = 19) := fun h => famE_3 (by rw [HN.out]; exact h0) HE.out (by rw [HN.out]; exact hlt) h
      generalize fam.getD k [] = x at *
      generalize fam.getD 0 [] = y at *
      have zb : b1 < wr.heap.size := Nat.lt_of_lt_of_le hb1 hb.size
      obtain ⟨wo, rfl⟩ : ∃ wo : World, wo = wr := ⟨_, rfl⟩
      have i0 : (0 : Int) < (n : Int) := by omega
      have i1 : (k : Int) < (n : Int) := by omega
      go_wp2_with fail
      go_region_held3 (fun w' => w'.cell? ⟨b1, o1 + k, none⟩ = some (.slice R x.length cR) ∧ w'.cell? ⟨b1, o1, none⟩ = some (.slice R2 y.length cR2) ∧ Below wo.heap.size wo w')
        ((refine keep2 zb zb g3 g4 ?_; (repeat (first | with_reducible exact Below.refl _ _ | with_reducible refine bl_call h5 ?_ | with_reducible refine bl_call h6 ?_ | with_reducible refine bl_drew ?_))))
        (first
          | (go_at_call 34; ((with_reducible refine (rcats_any (.slice R x.length cR) x _ ?_).mono ?_); (refine hI2.below ?_; (repeat (first | with_reducible exact Below.refl _ _ | with_reducible refine bl_call h5 ?_ | with_reducible refine bl_call h6 ?_ | with_reducible refine bl_drew ?_))); rintro e w5 ⟨rfl, h5⟩))
          | (go_at_call 34; ((with_reducible refine (rcats_any (.slice R2 y.length cR2) y _ ?_).mono ?_); (refine hJ2.below ?_; (repeat (first | with_reducible exact Below.refl _ _ | with_reducible refine bl_call h5 ?_ | with_reducible refine bl_call h6 ?_ | with_reducible refine bl_drew ?_))); rintro e w6 ⟨rfl, h6⟩)))
      have B6 : Below wo.heap.size wo w6 := bl_call h6 (bl_call h5 (bl_drew (Below.refl _ _)))
      have hb6 : Below w.heap.size w w6 := hb.trans (B6.mono hb.size)
      clear h5 h6 B6
      by_cases hxy : catsOf x = catsOf y
      · have HO' := Lib.hid (HO.out hxy)
        have f2 : (((catsOf x : Nat) : Int) != ((catsOf y : Nat) : Int)) = false := by rw [bne_eq_false_iff_eq]; omega
        clear hxy HO HBad
        generalize catsOf x = X at f2 ⊢
        generalize catsOf y = Y at f2 ⊢
        go_wp2_with fail
        go_roundw
        case rel => exact ⟨k + 1, by omega, by go_num, HO'.out, hb6⟩
        case measure => simp [intOf]; omega
      · have HE' := Lib.hid (HBad.out hxy)
        have f2 : (((catsOf x : Nat) : Int) != ((catsOf y : Nat) : Int)) = true := by rw [bne_iff_ne]; omega
        clear hxy HO HBad
        generalize catsOf x = X at f2 ⊢
        generalize catsOf y = Y at f2 ⊢
        go_wp2_with fail
        go_ret
        exact ⟨by rw [HE'.out]; rfl, hb6⟩
    · obtain rfl : k = n := by omega
      have HZ := Lib.hid (famE_4 (pn := pn) (by rw [HN.out]; exact h0) HE.out (by rw [HN.out]; exact hinv.out))
      go_wp2_with fail
      go_ret
      exact ⟨by rw [HZ.out]; rfl, hb⟩

/-- The slice's cells, whose rows read in the world w0. -/
def ModS (w0 w : World) (v : Value) (ms : List (List (List Int))) : Prop :=
  ∃ A c us, v = .slice A ms.length c ∧ ms.length ≤ c ∧ c ≤ maxLen ∧ Sl w A ms.length us ∧ ∀ i u, us[i]? = some u → IntsL w0 u (ms.getD i [])
theorem ModS.modL {w0 w : World} {v : Value} {ms : List (List (List Int))} (h : ModS w0 w v ms) (hb : Below w0.heap.size w0 w) : ModL w v ms := by
  obtain ⟨A, c, us, h1, h2, h3, h4, h5⟩ := h
  exact ⟨A, c, us, h1, h2, h3, h4, fun i u hi => (h5 i u hi).below hb⟩
theorem ModL.modS {w : World} {v : Value} {ms : List (List (List Int))} (h : ModL w v ms) : ModS w w v ms := h
theorem ModS.below {w0 w w' : World} {v : Value} {ms : List (List (List Int))} (h : ModS w0 w v ms) (hb : Below w.heap.size w w') : ModS w0 w' v ms := by
  obtain ⟨A, c, us, h1, h2, h3, h4, h5⟩ := h
  exact ⟨A, c, us, h1, h2, h3, h4.below hb, h5⟩
theorem ModS.grown {w0 w w' : World} {v : Value} {ms : List (List (List Int))} {row : Option Nat} (h : ModS w0 w v ms) (hg : w.grownBy w' row) (ho : Off row v) : ModS w0 w' v ms := by
  obtain ⟨A, c, us, rfl, h2, h3, h4, h5⟩ := h
  exact ⟨A, c, us, rfl, h2, h3, h4.grown hg ho, h5⟩
theorem modS_own {w0 w' : World} {base e n cv : Nat} {V : Option Addr} {us : List Value} {xs : List (List (List Int))} (ho : w'.ownsRow base e 1 (.slice V n cv) n us) (hx : xs.length = n) (hel : ∀ i u, us[i]? = some u → IntsL w0 u (xs.getD i [])) : ModS w0 w' (.slice V n cv) xs := by
  obtain ⟨A, c, hv, h1, h2, hs⟩ := Sl.of_own ho
  injection hv with e1 e2 e3
  subst e1 e3
  exact ⟨V, cv, us, by rw [hx], by rw [hx]; exact h1, h2, by rw [hx]; exact hs, hel⟩
theorem off_ownF {w : World} {base e n b : Nat} {u v : Value} {xs : List Value} (ho : w.ownsRow base e 1 u n xs) (hf : Fresh b v) (hb : w.heap.size ≤ b) : Off u.ownBlock v := by
  cases h : u.ownBlock with
  | none => exact Off.none_ _
  | some q => exact Off.of_fresh hf (by have := (ho.lt q h).2; omega)

set_option maxHeartbeats 4000000 in
theorem rwith0 (w0 : World) (mv : Value) (ms : List (List (List Int))) (it : Nat) (xv : Value) (x : List (List Int)) (w : World) (hm : ModS w0 w mv ms) (hx : IntsL w0 xv x) (hit : it < ms.length) (hm60 : ms.length ≤ 60) :
    Calls Try.prog 66 #[mv, .int .i64 (it : Int), .agg #[xv]] w fun e w' => ∃ v, e = .returned v ∧ ModS w0 w' v (ms.set it x) ∧ Fresh w.heap.size v ∧ Below w.heap.size w w' := by
  have hm0 := hm
  have hx0 := hx
  obtain ⟨M, cM, us, rfl, k1, k2, hs, hu⟩ := hm
  obtain ⟨R, cR, ss, rfl, _, _, _, _⟩ := hx
  have HU := Lib.hid hu
  unfold maxLen at k2
  clear hu
  obtain ⟨n, hn⟩ : ∃ n, ms.length = n := ⟨_, rfl⟩
  have HN := Lib.hid hn
  rw [hn] at hs k1 hit hm60 ⊢
  clear hn
  obtain ⟨W0, hW0⟩ : ∃ W0 : World, W0 = w.alloc (.cells #[.slice R x.length cR] 48) := ⟨_, rfl⟩
  have hxb : Row W0 w.heap.size 48 [.slice R x.length cR] := by rw [hW0]; exact Row.new w 48 [.slice R x.length cR]
  have B0 : Below w.heap.size w W0 := by rw [hW0]; exact (Below.refl _ _).alloc (Nat.le_refl _) _
  go_enter Try.func66, Try.ntmps66
  go_wp2_with fail
  rw [← hW0]
  clear hW0
  go_loopw [7, 8] (fun v i wr => ∃ (k : Nat) (V : Option Addr) (cv : Nat), k ≤ n ∧ i = .int .i64 (k : Int) ∧ v = .slice V k cv ∧ wr.ownsRow (w.heap.size + 1) 48 1 (.slice V k cv) k ((us.set it (.slice R x.length cR)).take k) ∧ Row wr w.heap.size 48 [.slice R x.length cR] ∧ Below w.heap.size w wr) (fun _ i _ => n - (intOf i).toNat)
  case atStart => exact ⟨0, none, 0, by omega, rfl, rfl, World.ownsRow_nil _ _ _ _, hxb, B0⟩
  case round =>
    clear hxb B0
    obtain ⟨k, V, cv, hk, rfl, rfl, hown, hxb, hb⟩ := hrel
    have zb : w.heap.size + 1 ≤ wr.heap.size := hxb.lt
    by_cases hlt : k < n
    · have hul : k < (us.set it (.slice R x.length cR)).length := by rw [List.length_set, hs.1]; exact hlt
      have HT := Lib.hid (take_snoc (us.set it (.slice R x.length cR)) (.slice none 0 0) hul)
      by_cases hki : k = it
      · have HG : Hid ((us.set it (.slice R x.length cR)).getD k (.slice none 0 0) = .slice R x.length cR) := by unfold Hid; rw [hki]; exact set_get _ _ _ (by rw [hs.1]; exact hit)
        have f1 : ((k : Int) == (it : Int)) = true := by rw [beq_iff_eq]; omega
        have q0 : wr.cell? ⟨w.heap.size, 0, none⟩ = some (.slice R x.length cR) := hxb.cell 0
        clear hki
        go_wp2_with (at_builtin; refine wpList_append_one wr rfl (.tmp 18) (.tmp 20) 25 rfl (w.heap.size + 1) 48 (.agg #[.slice none 0 0]) 24 Try.underlying25 infoModel rfl (.slice V k cv) k _ (.slice R x.length cR) rfl rfl hown rfl (by unfold maxLen; omega) (by omega) zb ?_; intro A' c3 w3 hown3 hb4)
        go_roundw
        case rel =>
          refine ⟨k + 1, A', c3, by omega, by go_num, rfl, ?_, hxb.below hb4 (by omega), hb.trans (hb4.mono (by omega))⟩
          rw [HT.out, HG.out]
          exact hown3
        case measure => simp [intOf]; omega
      · have HG : Hid ((us.set it (.slice R x.length cR)).getD k (.slice none 0 0) = us.getD k (.slice none 0 0)) := set_other _ _ _ hki
        have f1 : ((k : Int) == (it : Int)) = false := by rw [beq_eq_false_iff_ne]; omega
        have hus : us[k]? = some (us.getD k (.slice none 0 0)) := getD_some (by rw [hs.1]; exact hlt)
        obtain ⟨b1, o1, hM, hcell⟩ := hs.2 (by omega)
        subst hM
        have hb1 := hs.lt (by omega) rfl
        have g2 : wr.cell? ⟨b1, o1 + k, none⟩ = some (us.getD k (.slice none 0 0)) := (hb.cell (p := ⟨b1, o1 + k, none⟩) hb1).trans (hcell _ _ hus)
        obtain ⟨S, cS, hS⟩ := (HU.out _ _ hus).slice
        rw [hS] at g2 HG
        generalize (ms.getD k []).length = ls at *
        clear hki hcell hus hS
        go_wp2_with (at_builtin; refine wpList_append_one wr rfl (.tmp 22) (.tmp 27) 25 rfl (w.heap.size + 1) 48 (.agg #[.slice none 0 0]) 24 Try.underlying25 infoModel rfl (.slice V k cv) k _ (.slice S ls cS) rfl rfl hown rfl (by unfold maxLen; omega) (by omega) zb ?_; intro A' c3 w3 hown3 hb4)
        go_roundw
        case rel =>
          refine ⟨k + 1, A', c3, by omega, by go_num, rfl, ?_, hxb.below hb4 (by omega), hb.trans (hb4.mono (by omega))⟩
          rw [HT.out, HG.out]
          exact hown3
        case measure => simp [intOf]; omega
    · obtain rfl : k = n := by omega
      rw [List.take_of_length_le (by rw [List.length_set, hs.1]; exact Nat.le_refl _)] at hown
      have hfr := (fresh_own hown).mono (show w.heap.size ≤ w.heap.size + 1 by omega)
      have hml := modS_own hown (xs := ms.set it x) (by rw [List.length_set, HN.out]) (els_set HU.out (by rw [hs.1, HN.out]) hx0)
      go_wp2_with fail
      go_ret
      exact ⟨_, rfl, hml, hfr, hb⟩

theorem rwith_any (mv : Value) (ms : List (List (List Int))) (it : Nat) (xv : Value) (x : List (List Int)) (w : World) (hm : ModL w mv ms) (hx : IntsL w xv x) (hit : it < ms.length) (hm60 : ms.length ≤ 60) :
    Calls Try.prog 66 #[mv, .int .i64 (it : Int), .agg #[xv]] w fun e w' => ∃ v, e = .returned v ∧ ModL w' v (ms.set it x) ∧ Below w.heap.size w w' :=
  (rwith0 w mv ms it xv x w hm.modS hx hit hm60).mono fun e w' ⟨v, he, h1, _, h2⟩ => ⟨v, he, h1.modL h2, h2⟩

/-- The index of the best number so far, the first one being f0. -/
def bsTo (l : List Nat) (f0 : Nat) : Nat → Nat
  | 0 => f0
  | k + 1 => if l.getD (bsTo l f0 k) 0 < l.getD k 0 then k else bsTo l f0 k
theorem bsTo_lt (l : List Nat) {f0 n : Nat} (h0 : f0 < n) : ∀ k, k ≤ n → bsTo l f0 k < n
  | 0, _ => h0
  | k + 1, h => by
    have := bsTo_lt l h0 k (by omega)
    rw [bsTo]
    split <;> omega
theorem bsTo_gr (l : List Nat) (f0 : Nat) : ∀ k, bsTo l f0 k = if 0 < k ∧ l.getD f0 0 < l.getD (grTo l k) 0 then grTo l k else f0
  | 0 => rfl
  | k + 1 => by
    have ih := bsTo_gr l f0 k
    have hg : grTo l (k + 1) = if l.getD (grTo l k) 0 < l.getD k 0 then k else grTo l k := rfl
    have hb : bsTo l f0 (k + 1) = if l.getD (bsTo l f0 k) 0 < l.getD k 0 then k else bsTo l f0 k := rfl
    rcases Nat.eq_zero_or_pos k with hk | hk
    · subst hk
      simp [bsTo, grTo]
    · rw [hb, hg, ih]
      generalize grTo l k = a at *
      obtain ⟨f, hf⟩ : ∃ f : Nat → Nat, ∀ i, l.getD i 0 = f i := ⟨fun i => l.getD i 0, fun _ => rfl⟩
      simp only [hf]
      clear hg hb ih hf
      by_cases h1 : f f0 < f a <;> by_cases h2 : f a < f k <;> by_cases h3 : f f0 < f k <;> simp [h1, h2, h3, hk] <;> omega

theorem keep6b {W w' : World} {p1 p2 p3 p4 p5 p6 : Addr} {x1 x2 x3 x4 x5 x6 : Value} (l1 : p1.block < W.heap.size) (l2 : p2.block < W.heap.size) (l3 : p3.block < W.heap.size) (l4 : p4.block < W.heap.size) (l5 : p5.block < W.heap.size) (l6 : p6.block < W.heap.size) (h1 : W.cell? p1 = some x1) (h2 : W.cell? p2 = some x2) (h3 : W.cell? p3 = some x3) (h4 : W.cell? p4 = some x4) (h5 : W.cell? p5 = some x5) (h6 : W.cell? p6 = some x6) (hb : Below W.heap.size W w') :
    w'.cell? p1 = some x1 ∧ w'.cell? p2 = some x2 ∧ w'.cell? p3 = some x3 ∧ w'.cell? p4 = some x4 ∧ w'.cell? p5 = some x5 ∧ w'.cell? p6 = some x6 ∧ Below W.heap.size W w' := ⟨(hb.cell l1).trans h1, (hb.cell l2).trans h2, (hb.cell l3).trans h3, (hb.cell l4).trans h4, (hb.cell l5).trans h5, (hb.cell l6).trans h6, hb⟩

set_option maxHeartbeats 8000000 in
theorem rbest_any (pv rv mv qv iv cv fv : Value) (ps rs : List Int) (ms : List (List (List Int))) (qs is : List Int) (cs : List (List Int)) (it : Nat) (fam : List (List (List Int))) (f0 : Nat) (w : World)
    (hp : Nums .i64 w pv ps) (hr : Nums .i64 w rv rs) (hm : ModL w mv ms) (hq : Nums .i64 w qv qs) (hi : Nums .i64 w iv is) (hc : IntsL w cv cs) (hf : ModL w fv fam)
    (hit : it < ms.length) (hm60 : ms.length ≤ 60) (hf0 : f0 < fam.length) (htot : ∀ f, f < fam.length → totE ps rs (ms.set it (fam.getD f [])) qs is cs = 0) :
    Calls Try.prog 65 #[.agg #[pv, rv], mv, .agg #[qv, iv, cv], .int .i64 (it : Int), fv, .int .i64 (f0 : Int)] w fun e w' => e = .returned (.int .i64 ((bsTo (likeL rs ms cs it fam) f0 fam.length : Nat) : Int)) ∧ Below w.heap.size w w' := by
  have HTT := Lib.hid htot
  clear htot
  have hp0 := hp
  have hr0 := hr
  have hm0 := hm
  have hq0 := hq
  have hi0 := hi
  have hc0 := hc
  have hff := hf
  obtain ⟨A, c, rfl, hc1, hm1, hsp⟩ := hp
  obtain ⟨B, c', rfl, hc', hm2, hsr⟩ := hr
  obtain ⟨M, cM, us, rfl, k1, k2, hs, hu⟩ := hm
  obtain ⟨X, cX, rfl, x1, x2, x3⟩ := hq
  obtain ⟨Y, cY, rfl, y1, y2, y3⟩ := hi
  obtain ⟨Z, cZ, vs, rfl, z1, z2, hsc, hcu⟩ := hc
  obtain ⟨Q, cQ, fs, rfl, fq1, fq2, hsf, hfu⟩ := hf
  have HF := Lib.hid hfu
  unfold maxLen at fq2 k2 x2 y2 z2 hm1 hm2
  clear hfu hu hs hsp hsr x3 y3 hcu hsc
  have HLL := Lib.hid (fun f (h : f < fam.length) => likeL_get rs ms cs it fam h)
  have HBS : Hid (∀ k, bsTo (likeL rs ms cs it fam) f0 (k + 1) = if (likeL rs ms cs it fam).getD (bsTo (likeL rs ms cs it fam) f0 k) 0 < (likeL rs ms cs it fam).getD k 0 then k else bsTo (likeL rs ms cs it fam) f0 k) := fun k => rfl
  have HB0 : Hid (bsTo (likeL rs ms cs it fam) f0 0 = f0) := rfl
  have HBL := Lib.hid (fun k hk => bsTo_lt (likeL rs ms cs it fam) hf0 k hk)
  generalize likeL rs ms cs it fam = L at *
  have hgb := (Row.new w 24 [.slice A ps.length c, .slice B rs.length c']).alloc (.cells #[.slice X qs.length cX, .slice Y is.length cY, .slice Z cs.length cZ] 36)
  have hmb := Row.new (w.alloc (.cells #[.slice A ps.length c, .slice B rs.length c'] 24)) 36 [.slice X qs.length cX, .slice Y is.length cY, .slice Z cs.length cZ]
  have B0 : Below w.heap.size w ((w.alloc (.cells #[.slice A ps.length c, .slice B rs.length c'] 24)).alloc (.cells #[.slice X qs.length cX, .slice Y is.length cY, .slice Z cs.length cZ] 36)) := ((Below.refl _ _).alloc (Nat.le_refl _) _).alloc (by simp) _
  rw [show (w.alloc (.cells #[.slice A ps.length c, .slice B rs.length c'] 24)).heap.size = w.heap.size + 1 by simp] at hmb
  go_enter Try.func65, Try.ntmps65
  go_wp2_with fail
  generalize hw1 : (w.alloc (.cells #[.slice A ps.length c, .slice B rs.length c'] 24)).alloc (.cells #[.slice X qs.length cX, .slice Y is.length cY, .slice Z cs.length cZ] 36) = w1 at *
  clear hw1
  obtain ⟨b1, o1, u1, rfl, hb1, g1, hI⟩ := lst_at hsf HF.out hf0
  have g2 : w1.cell? ⟨b1, o1 + f0, none⟩ = some u1 := (B0.cell (p := ⟨b1, o1 + f0, none⟩) hb1).trans g1
  have hI' := hI
  obtain ⟨R, cR, ss, rfl, _, _, _, _⟩ := hI'
  clear g1
  have qg0 : w1.cell? ⟨w.heap.size, 0, none⟩ = some (.slice A ps.length c) := hgb.cell 0
  have qg1 : w1.cell? ⟨w.heap.size, 1, none⟩ = some (.slice B rs.length c') := hgb.cell 1
  have q0 : w1.cell? ⟨w.heap.size + 1, 0, none⟩ = some (.slice X qs.length cX) := hmb.cell 0
  have q1 : w1.cell? ⟨w.heap.size + 1, 1, none⟩ = some (.slice Y is.length cY) := hmb.cell 1
  have q2 : w1.cell? ⟨w.heap.size + 1, 2, none⟩ = some (.slice Z cs.length cZ) := hmb.cell 2
  have zg := hgb.lt
  have zm := hmb.lt
  have z1' : b1 < w1.heap.size := Nat.lt_of_lt_of_le hb1 B0.size
  have HTK := Lib.hid (HTT.out f0 hf0)
  have HLK := Lib.hid (HLL.out f0 hf0)
  have i1 : (0 : Int) ≤ (f0 : Int) := by omega
  have i2 : (f0 : Int) < (fam.length : Int) := by omega
  generalize fam.getD f0 [] = x at *
  go_region_held3 (fun w' => w'.cell? ⟨w.heap.size, 0, none⟩ = some (.slice A ps.length c) ∧ w'.cell? ⟨w.heap.size, 1, none⟩ = some (.slice B rs.length c') ∧ w'.cell? ⟨w.heap.size + 1, 0, none⟩ = some (.slice X qs.length cX) ∧ w'.cell? ⟨w.heap.size + 1, 1, none⟩ = some (.slice Y is.length cY) ∧ w'.cell? ⟨w.heap.size + 1, 2, none⟩ = some (.slice Z cs.length cZ) ∧ w'.cell? ⟨b1, o1 + f0, none⟩ = some (.slice R x.length cR) ∧ Below w1.heap.size w1 w')
    ((refine keep6b zg zg zm zm zm z1' qg0 qg1 q0 q1 q2 g2 ?_; (repeat (first | with_reducible exact Below.refl _ _ | with_reducible refine bl_call h5 ?_ | with_reducible refine bl_call h6 ?_ | with_reducible refine bl_drew ?_))))
    (first
      | (go_at_call 66; ((with_reducible refine (rwith_any _ ms it _ x _ (hm0.below ?_) (hI.below ?_) hit hm60).mono ?_); (exact B0.drew); (exact B0.drew); rintro e w5 ⟨v5, rfl, hv5, h5⟩; have hv5' := hv5; obtain ⟨R5, c5, us5, rfl, _, _, _, _⟩ := hv5'; rw [List.length_set] at hv5))
      | (go_at_call 43; ((with_reducible refine (rtotal_any _ _ _ _ _ _ ps rs _ qs is cs _ (hp0.below ?_) (hr0.below ?_) hv5 (hq0.below ?_) (hi0.below ?_) (hc0.below ?_) HTK.out).mono ?_); (exact B0.trans ((undrew1 h5).mono B0.size)); (exact B0.trans ((undrew1 h5).mono B0.size)); (exact B0.trans ((undrew1 h5).mono B0.size)); (exact B0.trans ((undrew1 h5).mono B0.size)); (exact B0.trans ((undrew1 h5).mono B0.size)); rintro e w6 ⟨v6, rfl, hv6, h6⟩)))
  have B6' : Below w1.heap.size w1 w6 := (undrew1 h5).trans (h6.mono (undrew1 h5).size)
  have B6 : Below w.heap.size w w6 := B0.trans (B6'.mono B0.size)
  replace hgb := hgb.keep B6'
  replace hmb := hmb.keep B6'
  rw [← HLK.out] at hv6
  have hsl := hv6.lim'
  obtain ⟨la, ⟨⟨C6, c6, rfl, _, _, _⟩, _⟩, _, _⟩ := hsl
  clear hv5 h5 h6 B6' g2 qg0 qg1 q0 q1 q2 hI HTK HLK zg zm z1' i1 i2
  go_wp2_with fail
  go_loopw [13, 14, 15] (fun kv tv i wr => ∃ (k : Nat) (v : Value), k ≤ fam.length ∧ i = .int .i64 (k : Int) ∧ kv = .int .i64 ((bsTo L f0 k : Nat) : Int) ∧ tv = v ∧ NatAt wr v (L.getD (bsTo L f0 k) 0) 40000 ∧ Row wr w.heap.size 24 [.slice A ps.length c, .slice B rs.length c'] ∧ Row wr (w.heap.size + 1) 36 [.slice X qs.length cX, .slice Y is.length cY, .slice Z cs.length cZ] ∧ Below w.heap.size w wr) (fun _ _ i _ => fam.length - (intOf i).toNat)
  case atStart => exact ⟨0, _, by omega, rfl, by rw [HB0.out], rfl, by rw [HB0.out]; exact hv6, hgb, hmb, B6⟩
  case round =>
    clear hgb hmb B6 hv6
    obtain ⟨k, v, hk, rfl, rfl, rfl, hv, hgb, hmb, hb⟩ := hrel
    have hsl := hv.lim'
    obtain ⟨lt, hlt1, hlt2, hlt3⟩ := hsl
    have hlt1' := hlt1
    obtain ⟨⟨CT, cT, rfl, _, _, _⟩, _⟩ := hlt1'
    have HBK := Lib.hid (HBS.out k)
    by_cases hlt : k < fam.length
    · obtain ⟨b2, o2, u2, hA, hb2, g1, hI⟩ := lst_at hsf HF.out hlt
      simp only [Option.some.injEq, Addr.mk.injEq, and_true] at hA
      obtain ⟨rfl, rfl⟩ := hA
      have g2 : wr.cell? ⟨b1, o1 + k, none⟩ = some u2 := (hb.cell (p := ⟨b1, o1 + k, none⟩) hb1).trans g1
      have hI' := hI
      obtain ⟨R2, cR2, ss2, rfl, _, _, _, _⟩ := hI'
      clear g1
      have qg0 : wr.cell? ⟨w.heap.size, 0, none⟩ = some (.slice A ps.length c) := hgb.cell 0
      have qg1 : wr.cell? ⟨w.heap.size, 1, none⟩ = some (.slice B rs.length c') := hgb.cell 1
      have q0 : wr.cell? ⟨w.heap.size + 1, 0, none⟩ = some (.slice X qs.length cX) := hmb.cell 0
      have q1 : wr.cell? ⟨w.heap.size + 1, 1, none⟩ = some (.slice Y is.length cY) := hmb.cell 1
      have q2 : wr.cell? ⟨w.heap.size + 1, 2, none⟩ = some (.slice Z cs.length cZ) := hmb.cell 2
      have zg := hgb.lt
      have zm := hmb.lt
      have z1' : b1 < wr.heap.size := Nat.lt_of_lt_of_le hb1 hb.size
      have HTK := Lib.hid (HTT.out k hlt)
      have HLK := Lib.hid (HLL.out k hlt)
      have i1 : (0 : Int) ≤ (k : Int) := by omega
      have i2 : (k : Int) < (fam.length : Int) := by omega
      generalize fam.getD k [] = y at *
      generalize bsTo L f0 k = bk at *
      obtain ⟨wo, rfl⟩ : ∃ wo : World, wo = wr := ⟨_, rfl⟩
      go_wp2_with fail
      go_region_held3 (fun w' => w'.cell? ⟨w.heap.size, 0, none⟩ = some (.slice A ps.length c) ∧ w'.cell? ⟨w.heap.size, 1, none⟩ = some (.slice B rs.length c') ∧ w'.cell? ⟨w.heap.size + 1, 0, none⟩ = some (.slice X qs.length cX) ∧ w'.cell? ⟨w.heap.size + 1, 1, none⟩ = some (.slice Y is.length cY) ∧ w'.cell? ⟨w.heap.size + 1, 2, none⟩ = some (.slice Z cs.length cZ) ∧ w'.cell? ⟨b1, o1 + k, none⟩ = some (.slice R2 y.length cR2) ∧ Below wo.heap.size wo w')
        ((refine keep6b zg zg zm zm zm z1' qg0 qg1 q0 q1 q2 g2 ?_; (repeat (first | with_reducible exact Below.refl _ _ | with_reducible refine bl_call h5 ?_ | with_reducible refine bl_call h7 ?_ | with_reducible refine bl_drew ?_))))
        (first
          | (go_at_call 66; ((with_reducible refine (rwith_any _ ms it _ y _ (hm0.below ?_) (hI.below ?_) hit hm60).mono ?_); (exact hb.drew); (exact hb.drew); rintro e w5 ⟨v5, rfl, hv5, h5⟩; have hv5' := hv5; obtain ⟨R5, c5, us5, rfl, _, _, _, _⟩ := hv5'; rw [List.length_set] at hv5))
          | (go_at_call 43; ((with_reducible refine (rtotal_any _ _ _ _ _ _ ps rs _ qs is cs _ (hp0.below ?_) (hr0.below ?_) hv5 (hq0.below ?_) (hi0.below ?_) (hc0.below ?_) HTK.out).mono ?_); (exact hb.trans ((undrew1 h5).mono hb.size)); (exact hb.trans ((undrew1 h5).mono hb.size)); (exact hb.trans ((undrew1 h5).mono hb.size)); (exact hb.trans ((undrew1 h5).mono hb.size)); (exact hb.trans ((undrew1 h5).mono hb.size)); rintro e w7 ⟨v7, rfl, hv7, h7⟩)))
      have B7' : Below wo.heap.size wo w7 := (undrew1 h5).trans (h7.mono (undrew1 h5).size)
      have B7 : Below w.heap.size w w7 := hb.trans (B7'.mono hb.size)
      replace hgb := hgb.keep B7'
      replace hmb := hmb.keep B7'
      have hv8 := hv.below B7'
      have hlt8 := hlt1.below B7'
      rw [← HLK.out] at hv7
      have hsl := hv7.lim'
      obtain ⟨ln, hln1, hln2, hln3⟩ := hsl
      have hln1' := hln1
      obtain ⟨⟨C7, c7, rfl, _, _, _⟩, _⟩ := hln1'
      clear hv5 h5 h7 B7' g2 qg0 qg1 q0 q1 q2 hI HTK HLK zg zm z1' i1 i2 hv hlt1
      go_wp2_with fail
      refine (rcmp_any _ _ ln lt _ hln1 hlt8 (by omega) (by omega)).mono ?_
      rintro e w8 ⟨rfl, rfl⟩
      rw [hln2, hlt2]
      have HCM := Lib.hid (cmpN_pos (L.getD k 0) (L.getD bk 0))
      clear hln1 hlt8 hln2 hlt2
      by_cases hc : L.getD bk 0 < L.getD k 0
      · have HB1 := Lib.hid (HBK.out.trans (if_pos hc))
        have f1 : decide (0 < cmpN (L.getD k 0) (L.getD bk 0)) = true := by rw [HCM.out]; exact decide_eq_true hc
        clear hc
        generalize hcm : cmpN (L.getD k 0) (L.getD bk 0) = cm at *
        clear hcm
        go_wp2_with fail
        go_roundw
        case rel => exact ⟨k + 1, _, by omega, by go_num, by rw [HB1.out], rfl, by rw [HB1.out]; exact hv7, hgb, hmb, B7⟩
        case measure => simp [intOf]; omega
      · have HB1 := Lib.hid (HBK.out.trans (if_neg hc))
        have f1 : decide (0 < cmpN (L.getD k 0) (L.getD bk 0)) = false := by rw [HCM.out]; exact decide_eq_false hc
        clear hc
        generalize hcm : cmpN (L.getD k 0) (L.getD bk 0) = cm at *
        clear hcm
        go_wp2_with fail
        go_roundw
        case rel => exact ⟨k + 1, _, by omega, by go_num, by rw [HB1.out], rfl, by rw [HB1.out]; exact hv8, hgb, hmb, B7⟩
        case measure => simp [intOf]; omega
    · obtain rfl : k = fam.length := by omega
      go_wp2_with fail
      go_ret
      exact ⟨rfl, hb⟩
end Go.Proofs.Ytneoglmfabilnaa
