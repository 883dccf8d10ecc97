/- The walks of the law's anyWide and chosen. -/
import Derived.Test.YtneoglmfabilnaaSwB
import Derived.Test.YtneoglmfabilnaaLwTot
import Derived.Deep.AppendLies
import Derived.Deep.RegionLaw
namespace Go.Proofs.Ytneoglmfabilnaa
open Go.RowKit Go.Deep
set_option linter.unusedVariables false

set_option maxHeartbeats 1000000 in
theorem anyWide_any (fv : Value) (fs : List (List Mod)) (w : World) (h : FamL w fv fs) :
    Calls Try.prog 21 #[fv] w fun e w' => ∃ b, e = .returned (.bool b) ∧ w = w' := by
  obtain ⟨M, cM, us, rfl, k1, k2, hs, hu⟩ := h
  have HU := Lib.hid hu
  unfold maxLen at k2
  clear hu
  go_enter Try.func21, Try.ntmps21
  go_wp2_with fail
  go_loop [3] (fun i => ∃ k : Nat, k ≤ fs.length ∧ k ≤ 70 ∧ i = .int .i64 (k : Int)) (fun i => 71 - (intOf i).toNat)
  case atStart => exact ⟨0, by omega, by omega, rfl⟩
  case round =>
    obtain ⟨k, hk, hk7, rfl⟩ := hrel
    by_cases hlt : k < fs.length
    · have d1 : decide (k < fs.length) = true := decide_eq_true hlt
      by_cases h70 : k < 70
      · have d2 : decide ((k : Int) < 70) = true := decide_eq_true (by omega)
        obtain ⟨b1, o1, u1, rfl, hb1, g1, hI⟩ := lst_at hs HU.out hlt
        have hI' := hI
        obtain ⟨R, cR, ss, rfl, _, _, _, _⟩ := hI'
        generalize fs.getD k [] = fam at *
        have i1 : (k : Int) < (fs.length : Int) := by omega
        go_wp2_with fail
        refine (wide_any _ fam _ hI).mono ?_
        rintro e w' ⟨b, rfl, rfl⟩
        cases b
        · go_wp2_with fail
          go_round
          case rel => exact ⟨k + 1, by omega, by omega, by go_num⟩
          case measure => simp [intOf]; omega
        · go_wp2_with fail
          go_ret
          first | exact ⟨_, rfl, rfl⟩ | exact ⟨.inl rfl, rfl⟩ | exact ⟨.inr rfl, rfl⟩
      · have d2 : decide ((k : Int) < 70) = false := decide_eq_false (by omega)
        go_wp2_with fail
        go_ret
        first | exact ⟨_, rfl, rfl⟩ | exact ⟨.inl rfl, rfl⟩ | exact ⟨.inr rfl, rfl⟩
    · have d1 : decide (k < fs.length) = false := decide_eq_false hlt
      go_wp2_with fail
      go_ret
      first | exact ⟨_, rfl, rfl⟩ | exact ⟨.inl rfl, rfl⟩ | exact ⟨.inr rfl, rfl⟩

set_option maxHeartbeats 1000000 in
theorem ints_same (v u : Value) (ls : List Int) (w : World) (h1 : Nums .i64 w v ls) (h2 : Nums .i64 w u ls) :
    Calls Try.prog 24 #[v, u] w fun e w' => e = .returned (.bool true) ∧ ∃ d, w' = w.drewN d := by
  obtain ⟨A, c, rfl, hc, hm, hs⟩ := h1
  obtain ⟨B, c', rfl, hc', hm', hs'⟩ := h2
  obtain ⟨n, hn⟩ : ∃ n, n = ls.length := ⟨_, rfl⟩
  rw [← hn] at hs hs' hc hc' ⊢
  unfold maxLen at hm hm'
  have HN := Lib.hid hn
  clear hn
  have hnn : ((n : Int) != (n : Int)) = false := by simp
  go_enter Try.func24, Try.ntmps24
  go_wp2
  go_loopw [5] (fun i wr => ∃ k : Nat, k ≤ n ∧ i = .int .i64 (k : Int) ∧ ∃ d, wr = w.drewN d) (fun i _ => n - (intOf i).toNat)
  case atStart => exact ⟨0, by omega, rfl, 0, rfl⟩
  case round =>
    obtain ⟨k, hk, rfl, d, rfl⟩ := hrel
    by_cases hlt : k < n
    · obtain ⟨b, o, rfl, hb, hcell⟩ := hs.num hlt
      obtain ⟨b', o', rfl, hb', hcell'⟩ := hs'.num hlt
      have g1 := hcell k hlt
      have g2 := hcell' k hlt
      clear hcell hcell'
      generalize ls.getD k 0 = z at *
      have hne : ((z : Int) != (z : Int)) = false := by simp
      go_wp2
      go_quiet (fail)
      go_wp2
      go_roundw
      case rel => exact ⟨k + 1, by omega, by go_num, _, rfl⟩
      case measure => simp [intOf]; omega
    · go_wp2
      go_ret
      exact ⟨rfl, _, rfl⟩

/-- The choice is one of indexes. -/
def choB (fs : List (List Mod)) (ch : List Int) : Bool := decide (ch.length = fs.length) && chOK fs ch
theorem choB_len {fs : List (List Mod)} {ch : List Int} (h : ch.length ≠ fs.length) : choB fs ch = false := by
  unfold choB; rw [decide_eq_false h]; rfl
theorem choB_no {fs : List (List Mod)} {ch : List Int} {k : Nat} (hk : k < ch.length) (h : ¬ (0 ≤ ch.getD k 0 ∧ ch.getD k 0 < ((fs.getD k []).length : Int))) : choB fs ch = false := by
  unfold choB
  rw [show chOK fs ch = false from dec_no hk h, Bool.and_false]
theorem choB_yes {fs : List (List Mod)} {ch : List Int} (hl : ch.length = fs.length) (h : ∀ i, i < ch.length → 0 ≤ ch.getD i 0 ∧ ch.getD i 0 < ((fs.getD i []).length : Int)) : choB fs ch = true := by
  unfold choB
  rw [decide_eq_true hl, show chOK fs ch = true from decide_eq_true h]
  rfl

theorem keep3g {a w' : World} {row : Option Nat} {p q r : Addr} {x y z : Value} (hg : a.grownBy w' row) (lp : p.block < a.heap.size) (lq : q.block < a.heap.size) (lr : r.block < a.heap.size) (np : some p.block ≠ row) (nq : some q.block ≠ row) (nr : some r.block ≠ row) (h1 : a.cell? p = some x) (h2 : a.cell? q = some y) (h3 : a.cell? r = some z) :
    w'.cell? p = some x ∧ w'.cell? q = some y ∧ w'.cell? r = some z := ⟨(hg.cell_far _ lp np).trans h1, (hg.cell_far _ lq nq).trans h2, (hg.cell_far _ lr nr).trans h3⟩
set_option maxHeartbeats 2000000 in
theorem chosen_any (fv xv : Value) (fs : List (List Mod)) (ch : List Int) (w : World) (hf : FamL w fv fs) (hx : Nums .i64 w xv ch) (hbig : fs.length * 24 ≤ 140737488351232) :
    Calls Try.prog 27 #[fv, xv] w fun e w' => ∃ v, e = .returned (.tuple #[v, .bool (choB fs ch)]) ∧ (∃ A n c, v = .slice A n c) ∧ (choB fs ch = true → ModL w' v (msOf fs ch)) ∧ Below w.heap.size w w' := by
  obtain ⟨Q, cQ, us, rfl, fq1, fq2, hsf, hfu⟩ := hf
  obtain ⟨D, cD, rfl, d1, d2, hsd⟩ := hx
  have HF := Lib.hid hfu
  unfold maxLen at fq2 d2
  clear hfu
  go_enter Try.func27, Try.ntmps27
  by_cases hl : ch.length = fs.length
  case neg =>
    have HB := Lib.hid (choB_len hl)
    have f1 : ((ch.length : Int) != (fs.length : Int)) = true := by rw [bne_iff_ne]; omega
    clear hl
    go_wp2_with fail
    go_ret2
    exact ⟨.slice none 0 0, by rw [HB.out]; rfl, ⟨_, _, _, rfl⟩, (fun h => by rw [HB.out] at h; cases h), Below.refl _ _⟩
  have f1 : ((ch.length : Int) != (fs.length : Int)) = false := by rw [bne_eq_false_iff_eq]; omega
  have HL := Lib.hid hl
  have hl2 : ch.length ≤ fs.length := by omega
  clear hl
  go_wp2_with fail
  clear f1
  obtain ⟨i0, hi0, hz0, hz1, hz2⟩ := info_parts infoModel
  go_loopw [6, 7] (fun v i wr => ∃ (k : Nat) (V : Option Addr) (cv : Nat) (ws : List Value), k ≤ ch.length ∧ i = .int .i64 (k : Int) ∧ v = .slice V k cv ∧ wr.ownsRow w.heap.size 48 1 (.slice V k cv) k ws ∧ Hid (∀ i, i < k → 0 ≤ ch.getD i 0 ∧ ch.getD i 0 < ((fs.getD i []).length : Int)) ∧ Hid (∀ i u, ws[i]? = some u → IntsL w u ((msOf fs ch).getD i [])) ∧ Below w.heap.size w wr) (fun _ i _ => ch.length - (intOf i).toNat)
  case atStart => exact ⟨0, none, 0, [], by omega, rfl, rfl, World.ownsRow_nil _ _ _ _, fun i hi => by omega, fun i u h => by simp at h, Below.refl _ _⟩
  case round =>
    obtain ⟨k, V, cv, ws, hk, rfl, rfl, hown, hinv, hel, hb⟩ := hrel
    by_cases hlt : k < ch.length
    · obtain ⟨b1, o1, u1, rfl, hb1, g1, hI⟩ := lst_at hsf HF.out (show k < fs.length by omega)
      obtain ⟨b2, o2, rfl, hb2, hcell⟩ := hsd.num hlt
      have g2 : wr.cell? ⟨b1, o1 + k, none⟩ = some u1 := (hb.cell (p := ⟨b1, o1 + k, none⟩) hb1).trans g1
      have g3 : wr.cell? ⟨b2, o2 + k, none⟩ = some (.int .i64 (ch.getD k 0)) := (hb.cell (p := ⟨b2, o2 + k, none⟩) hb2).trans (hcell k hlt)
      obtain ⟨R, cR, ss, rfl, r1, r2, hsm, hmu⟩ := hI
      have HMU := Lib.hid hmu
      clear g1 hcell hmu
      unfold maxLen at r2
      have i5 : (k : Int) < (fs.length : Int) := by omega
      have i6 : (k : Int) < (ch.length : Int) := by omega
      have HO : Hid ((0 ≤ ch.getD k 0 ∧ ch.getD k 0 < ((fs.getD k []).length : Int)) → ∀ i, i < k + 1 → 0 ≤ ch.getD i 0 ∧ ch.getD i 0 < ((fs.getD i []).length : Int)) := fun h => all_snoc hinv.out h
      have HB : Hid (¬ (0 ≤ ch.getD k 0 ∧ ch.getD k 0 < ((fs.getD k []).length : Int)) → choB fs ch = false) := fun h => choB_no hlt h
      have HMS : Hid ((msOf fs ch).getD k [] = (fs.getD k []).getD (ch.getD k 0).toNat []) := msOf_get fs ch (by omega)
      generalize hx' : ch.getD k 0 = x at *
      generalize hfk : fs.getD k [] = fam at *
      clear hx' hfk
      have hwl : Hid (ws.length = k) := by have := hown.1; unfold Hid; omega
      by_cases c1 : x < 0
      · have HR := Lib.hid (HB.out (by omega))
        have f7 : decide (x < 0) = true := decide_eq_true c1
        go_wp2_with fail
        go_quiet (fail)
        go_wp2_with fail
        go_ret2
        exact ⟨.slice none 0 0, by rw [HR.out]; rfl, ⟨_, _, _, rfl⟩, (fun h => by rw [HR.out] at h; cases h), below_drewN hb _⟩
      · have f7 : decide (x < 0) = false := decide_eq_false c1
        by_cases c2 : (fam.length : Int) ≤ x
        · have HR := Lib.hid (HB.out (by omega))
          have f8 : decide ((fam.length : Int) ≤ x) = true := decide_eq_true c2
          go_wp2_with fail
          go_quiet (fail)
          go_wp2_with fail
          go_ret2
          exact ⟨.slice none 0 0, by rw [HR.out]; rfl, ⟨_, _, _, rfl⟩, (fun h => by rw [HR.out] at h; cases h), below_drewN hb _⟩
        · have HR := Lib.hid (HO.out ⟨by omega, by omega⟩)
          have f8 : decide ((fam.length : Int) ≤ x) = false := decide_eq_false c2
          obtain ⟨y, rfl⟩ := Int.eq_ofNat_of_zero_le (show 0 ≤ x by omega)
          have hyl : y < fam.length := by omega
          rw [Int.toNat_natCast] at HMS
          obtain ⟨b3, o3, u3, rfl, hb3, g4, hJ⟩ := lst_at hsm HMU.out hyl
          have hJ' := hJ
          obtain ⟨S, cS, ss2, rfl, _, _, _, _⟩ := hJ'
          go_wp2_with fail
          go_quiet (fail)
          obtain ⟨w2, hw2⟩ : ∃ w2 : World, w2 = wr.drewN nq := ⟨_, rfl⟩
          have B2 : Below w.heap.size w w2 := by rw [hw2]; exact below_drewN hb _
          have hown2 : w2.ownsRow w.heap.size 48 1 (.slice V k cv) k ws := by rw [hw2]; exact hown
          have e1 : w2.cell? ⟨b1, o1 + k, none⟩ = some (.slice (some ⟨b3, o3, none⟩) fam.length cR) := by rw [hw2]; exact g2
          have e2 : w2.cell? ⟨b2, o2 + k, none⟩ = some (.int .i64 (y : Int)) := by rw [hw2]; exact g3
          have e3 : w2.cell? ⟨b3, o3 + y, none⟩ = some (.slice S (fam.getD y []).length cS) := (B2.cell (p := ⟨b3, o3 + y, none⟩) hb3).trans g4
          rw [← hw2]
          clear hw2 g2 g3 g4 hown hb
          have hb2s := B2.size
          have z1 : b1 < w2.heap.size := by omega
          have z2 : b2 < w2.heap.size := by omega
          have z3 : b3 < w2.heap.size := by omega
          have ag1 : (Value.slice V k cv).ownBlock ≠ some b1 := fun e => by have := (hown2.lt b1 e).1; omega
          have ag2 : (Value.slice V k cv).ownBlock ≠ some b2 := fun e => by have := (hown2.lt b2 e).1; omega
          have ag3 : (Value.slice V k cv).ownBlock ≠ some b3 := fun e => by have := (hown2.lt b3 e).1; omega
          have HEL : Hid (∀ i u, (ws ++ [.slice S (fam.getD y []).length cS])[i]? = some u → IntsL w u ((msOf fs ch).getD i [])) := snoc_get (P := fun i u => IntsL w u ((msOf fs ch).getD i [])) hwl.out hel.out (by rw [HMS.out]; exact hJ)
          generalize (fam.getD y []).length = ly at *
          have i9 : (y : Int) < (fam.length : Int) := by omega
          go_wp2_with fail
          go_region_held3 (fun w' => w'.cell? ⟨b1, o1 + k, none⟩ = some (.slice (some ⟨b3, o3, none⟩) fam.length cR) ∧ w'.cell? ⟨b2, o2 + k, none⟩ = some (.int .i64 (y : Int)) ∧ w'.cell? ⟨b3, o3 + y, none⟩ = some (.slice S ly cS))
            (first
              | go_keep
              | exact keep3g hgrow (by simp; omega) (by simp; omega) (by simp; omega) (Ne.symm ag1) (Ne.symm ag2) (Ne.symm ag3) ((((Below.refl w2.heap.size w2).alloc (Nat.le_refl _) _).drew.cell (p := ⟨b1, o1 + k, none⟩) z1).trans e1) ((((Below.refl w2.heap.size w2).alloc (Nat.le_refl _) _).drew.cell (p := ⟨b2, o2 + k, none⟩) z2).trans e2) ((((Below.refl w2.heap.size w2).alloc (Nat.le_refl _) _).drew.cell (p := ⟨b3, o3 + y, none⟩) z3).trans e3))
            ((refine step_append_lies _ (by rfl) _ _ _ (by rfl) w.heap.size 48 i0 _ 1 24 Try.underlying25 hi0 hz0 hz1 hz2 rfl (by omega) (.slice V k cv) k _ (by rfl) ((hown2.alloc _).drew)
                ⟨w2.heap.size, 0, none⟩ 1 1 [.slice S ly cS] (by rfl) (by rfl) (World.news_of_block (cs := #[.slice S ly cS]) (t := 48) (fr := (0, 0)) (heap_alloc_new w2 _)) (by simp [Value.oneCell'])
                (by omega) (by unfold maxLen; omega) (by omega) (by simp; omega) (w2.heap.size + 1) (by simp) ?_; intro gg cap w1 hown1 hgrow hat hlt))
          go_wp2_with fail
          go_roundw
          case rel =>
            refine ⟨k + 1, some ⟨gg, 0, none⟩, cap, _, by omega, by go_num, rfl, hown1, HR.out, HEL.out, ?_⟩
            exact ((B2.alloc (by omega) _).drew).grown hgrow (by simp; omega) (fun j hj => (hown2.lt j hj).1)
          case measure => simp [intOf]; omega
    · obtain rfl : k = ch.length := by omega
      have HR := Lib.hid (choB_yes HL.out hinv.out)
      have hml : Hid (ModL wr (.slice V ch.length cv) (msOf fs ch)) := modL_own hown (by rw [msOf_len, HL.out]) hel.out hb
      go_wp2_with fail
      go_ret2
      exact ⟨.slice V ch.length cv, by rw [HR.out]; rfl, ⟨_, _, _, rfl⟩, fun _ => hml.out, hb⟩
end Go.Proofs.Ytneoglmfabilnaa
