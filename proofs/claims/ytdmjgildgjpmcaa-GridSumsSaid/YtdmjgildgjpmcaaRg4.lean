/- The walk of share (package examboardref18). -/
import Derived.Test.YtdmjgildgjpmcaaRg3
import Derived.Deep.RegionLaw
namespace Go.Proofs.Ytdmjgildgjpmcaa
open Go.RowKit
set_option linter.unusedVariables false
set_option maxRecDepth 100000

/-- The weighted sum of the first k numbers. -/
def mZ (zs : List Int) (ns : List Nat) (k : Nat) : Int := mom (fun i => zs.getD i 0 * (sg false (ns.getD i 0))) k
set_option maxHeartbeats 16000000 in
theorem rshare_any (lv wv : Value) (zs : List Int) (ns : List Nat) (L M : Nat) (w : World) (hz : IntLs w lv zs) (hw : Wts w wv ns L) (hl : ns.length = zs.length) (hL : L ≤ 1000000) (hM : M ≤ 1000000) (hLM : L + 1 ≤ M) (h2 : 2 ≤ M) (hF : ∀ k, k ≤ zs.length → (mZ zs ns k).natAbs < bp M ∧ sN ns k < bp (L + 1)) (hp : 0 < sN ns zs.length) :
    Calls Try.prog 37 #[lv, wv] w fun e w' => ∃ x, e = .returned x ∧ RatF w.heap.size w' x (redP (mZ zs ns zs.length) (sN ns zs.length)) (redQ (mZ zs ns zs.length) (sN ns zs.length)) M ∧ Below w.heap.size w w' := by
  obtain ⟨lg, lc, zu_s, rfl, hlg, hzl, hzc, hzf⟩ := hz
  obtain ⟨WA, wc, us, rfl, hwc, hwm, hws, hwu⟩ := hw
  unfold maxLen at hwm
  have HWU := Lib.hid hwu
  have HZC := Lib.hid hzc
  have HZF := Lib.hid hzf
  clear hwu hzc hzf
  obtain ⟨n, hn⟩ : ∃ n, zs.length = n := ⟨_, rfl⟩
  have hm : ns.length = n := by omega
  rw [hm] at hws hwc
  have HZL : Hid (zu_s.length = n) := by unfold Hid; omega
  rw [hn] at hF hp ⊢
  rw [hm]
  obtain ⟨sn, hsn⟩ : ∃ s, mZ zs ns n = s := ⟨_, rfl⟩
  obtain ⟨tn, htn⟩ : ∃ s, sN ns n = s := ⟨_, rfl⟩
  rw [htn] at hp
  rw [hsn, htn]
  have HSN := Lib.hid hsn
  have HTN := Lib.hid htn
  clear hsn htn
  have HFB := Lib.hid hF
  have HPP := Lib.hid hp
  clear hzl hl hn hm hF hp
  obtain ⟨W0, hW0⟩ : ∃ W0 : World, W0 = w.alloc (.cells #[.bool false, .slice none 0 0, .slice none 0 0] 42) := ⟨_, rfl⟩
  have r0 : Row W0 w.heap.size 42 [.bool false, .slice none 0 0, .slice none 0 0] := by
    rw [hW0]
    have := Row.new w 42 [.bool false, .slice none 0 0, .slice none 0 0]
    simpa using this
  have B0 : Below w.heap.size w W0 := by rw [hW0]; exact ((Below.refl _ _).alloc (Nat.le_refl _) _)
  go_enter Try.func37, Try.ntmps37
  go_wp2_with fail
  rw [← hW0]
  clear hW0
  have BB := B0
  have hr4 := r0
  clear B0 r0
  refine (r2of_any 0 _ (by omega) (by omega)).mono ?_
  have yy4 := hr4.lt
  rintro e x1 ⟨v5, rfl, hv5, hb⟩
  replace hr4 := hr4.keep hb
  replace BB : Below w.heap.size w x1 := BB.trans (hb.mono BB.size)
  clear hb
  obtain ⟨m5, e5, hm5, _⟩ := id hv5
  rw [show decide ((0 : Int) < 0) = false from rfl] at e5
  subst e5
  obtain ⟨A5, k5, c5, rfl⟩ := hm5.lim1.choose_spec.1.show_
  clear hm5
  obtain ⟨g5, hg5⟩ : ∃ g, x1.heap.size = g := ⟨_, rfl⟩
  have hr5 : Row (x1.alloc (.cells #[.bool false, .slice A5 k5 c5] 40)) g5 40 [.bool false, .slice A5 k5 c5] := row_at hg5
  have hl := lit_below x1 (.cells #[.bool false, .slice A5 k5 c5] 40)
  have o4_5 : w.heap.size < g5 := by have := hr4.lt; omega
  have ob_5 : w.heap.size ≤ g5 := by have := BB.size; omega
  have c40 : x1.cell? ⟨w.heap.size, 0, none⟩ = some (.bool false) := hr4.cell 0
  have c41 : x1.cell? ⟨w.heap.size, 1, none⟩ = some (.slice none 0 0) := hr4.cell 1
  have c42 : x1.cell? ⟨w.heap.size, 2, none⟩ = some (.slice none 0 0) := hr4.cell 2
  have d40 : (x1.alloc (.cells #[.bool false, .slice A5 k5 c5] 40)).cell? ⟨w.heap.size, 0, none⟩ = some (.bool false) := (hr4.alloc _).cell 0
  have d41 : (x1.alloc (.cells #[.bool false, .slice A5 k5 c5] 40)).cell? ⟨w.heap.size, 1, none⟩ = some (.slice none 0 0) := (hr4.alloc _).cell 1
  have d42 : (x1.alloc (.cells #[.bool false, .slice A5 k5 c5] 40)).cell? ⟨w.heap.size, 2, none⟩ = some (.slice none 0 0) := (hr4.alloc _).cell 2
  have e0 : (x1.alloc (.cells #[.bool false, .slice A5 k5 c5] 40)).cell? ⟨g5, 0, none⟩ = some (.bool false) := hr5.cell 0
  have e1 : (x1.alloc (.cells #[.bool false, .slice A5 k5 c5] 40)).cell? ⟨g5, 1, none⟩ = some (.slice A5 k5 c5) := hr5.cell 1
  go_wp2_with fail
  clear c40 c41 c42 d40 d41 d42 e0 e1
  skip
  generalize (x1.alloc (.cells #[.bool false, .slice A5 k5 c5] 40)) = x2 at *
  have B5 := hl
  replace hr4 := hr4.keep hl
  replace hv5 := hv5.below hl
  replace BB : Below w.heap.size w x2 := BB.trans (hl.mono BB.size)
  clear hl
  have hfz : decide ((0 : Int) < 0) = false := rfl
  have hg5 : g5 + 1 ≤ x2.heap.size := hr5.lt
  go_wp2_with fail
  have hv5 := hv5.base (b' := w.heap.size + 1) (by omega)
  skip
  go_loopw [6, 7] (fun av iv wr => ∃ (k : Nat) (A6 : Option Addr) (k6 c6 : Nat) (X : Option Addr) (K C : Nat), k ≤ n ∧ iv = .int .i64 (k : Int) ∧ av = .slice A6 k6 c6 ∧ NatAt wr (.slice A6 k6 c6) (sN ns k) (L + 1) ∧ Fresh (g5 + 1) (.slice A6 k6 c6) ∧ Row wr w.heap.size 42 [.bool false, .slice none 0 0, .slice none 0 0] ∧ Row wr g5 40 [.bool (decide (mZ zs ns k < 0)), .slice X K C] ∧ IntF (w.heap.size + 1) wr (.agg #[.bool (decide (mZ zs ns k < 0)), .slice X K C]) (mZ zs ns k) M ∧ Below w.heap.size w wr) (fun _ iv _ => n - (intOf iv).toNat)
  case atStart =>
    exact ⟨0, none, 0, 0, A5, k5, c5, by omega, rfl, rfl, ⟨[], ⟨⟨none, 0, rfl, by simp, by simp, Sl.nil⟩, AllB.nil⟩, .inl rfl, rfl, by simp⟩, trivial, hr4, hr5, hv5.mono h2, BB⟩
  case round =>
    obtain ⟨k, A6, k6, c6, X, K, C, hk, rfl, rfl, hal, hfa, hr4, hr5, hv5, BB⟩ := hrel
    by_cases hlt : k < n
    · skip
      obtain ⟨b, o, u, rfl, hbl, hcell, hu⟩ := lst_at (R := fun w u x => NatAny w u x L) (d := 0) (xs := ns) hws HWU.out hlt
      obtain ⟨lk, hlim00, hval, hlen⟩ := id hu
      have hlim := hlim00.below BB
      have HVL := Lib.hid hval
      obtain ⟨⟨UA, uc, rfl, _, _, _⟩, _⟩ := id hlim
      have q02 := (BB.cell (p := ⟨b, o + k, none⟩) hbl).trans hcell
      have zu : b < wr.heap.size := Nat.lt_of_lt_of_le hbl BB.size
      have hlim0 : Lim w (.slice UA lk.length uc) lk := hlim00
      have hcell0 := hcell
      clear hcell hu hval hlim00
      obtain ⟨uz, huz⟩ : ∃ u, zu_s[k]? = some u := ⟨zu_s[k]'(by rw [HZL.out]; exact hlt), List.getElem?_eq_getElem _⟩
      have hz0 := HZF.out k uz huz
      obtain ⟨e0, e1⟩ := flat2_get huz
      have q00 := (BB.cell (p := ⟨lg, k * 2, none⟩) hlg).trans (HZC.out _ _ e0)
      have q01 := (BB.cell (p := ⟨lg, k * 2 + 1, none⟩) hlg).trans (HZC.out _ _ e1)
      have zl : lg < wr.heap.size := Nat.lt_of_lt_of_le hlg BB.size
      have hz := hz0.below BB
      obtain ⟨a0, a1⟩ := uz
      simp only at q00 q01 hz
      obtain ⟨z, hze⟩ : ∃ z, zs.getD k 0 = z := ⟨_, rfl⟩
      rw [hze] at hz
      have HSK : Hid (mZ zs ns (k + 1) = mZ zs ns k + z * sg false (val lk)) := by
        unfold Hid; rw [← hze, HVL.out]; rfl
      have HNK : Hid (sN ns (k + 1) = sN ns k + val lk) := by unfold Hid; rw [HVL.out]; rfl
      obtain ⟨mz, ez, hmz, _⟩ := id hz
      obtain ⟨rfl, rfl⟩ : a0 = .bool (decide (z < 0)) ∧ a1 = mz := by simpa using ez
      obtain ⟨ZA, zk, zc, rfl⟩ := hmz.lim1.choose_spec.1.show_
      clear ez hmz e0 e1 huz hze hz0
      have FB := HFB.out (k + 1) (by omega)
      have HFK := Lib.hid FB
      clear FB
      obtain ⟨sk, hsk⟩ : ∃ s, mZ zs ns k = s := ⟨_, rfl⟩
      obtain ⟨tk, htk⟩ : ∃ s, sN ns k = s := ⟨_, rfl⟩
      rw [hsk] at HSK hr5 hv5
      rw [htk] at HNK hal
      clear hsk htk
      have t00 : wr.cell? ⟨g5, 0, none⟩ = some (.bool (decide (sk < 0))) := hr5.cell 0
      have t01 : wr.cell? ⟨g5, 1, none⟩ = some (.slice X K C) := hr5.cell 1
      have f00 : wr.frozen? ⟨g5, 0, none⟩ = false := hr5.frozen 0
      have f01 : wr.frozen? ⟨g5, 1, none⟩ = false := hr5.frozen 1
      have z5 := hr5.lt
      have hkI : (k : Int) < (n : Int) := by omega
      have hlk1 : lk.length ≤ 35184372088831 := by omega
      have b1 : 2 ≤ 17592186044000 := by omega
      have b2 : lk.length ≤ 17592186044000 := by omega
      have b3 : M ≤ 35184372088830 := by omega
      have b4 : 2 + lk.length ≤ 35184372088830 := by omega
      have n1 : lg ≠ g5 := by omega
      have n2 : b ≠ g5 := by omega
      have ng5 := BB.size
      have l45 : w.heap.size < g5 := by omega
      have lg5 : w.heap.size ≤ g5 := by omega
      go_wp2_with fail
      go_cut [] (fun wx => ∃ (X : Option Addr) (K C : Nat), Row wx w.heap.size 42 [.bool false, .slice none 0 0, .slice none 0 0] ∧ Row wx g5 40 [.bool (decide (mZ zs ns (k + 1) < 0)), .slice X K C] ∧ IntF (w.heap.size + 1) wx (.agg #[.bool (decide (mZ zs ns (k + 1) < 0)), .slice X K C]) (mZ zs ns (k + 1)) M ∧ NatAt wx (.slice A6 k6 c6) tk (L + 1) ∧ Below w.heap.size w wx)
      case first =>
        go_region_law (first
          | (go_simp; go_at_call 56; ((with_reducible refine (r2make_any false _ lk _ (hlim.below ?_) hlk1).mono ?_); (repeat (first | with_reducible exact Below.refl _ _ | with_reducible refine bl_call h7 ?_ | with_reducible refine bl_call h6 ?_ | with_reducible refine bl_call h5 ?_ | with_reducible refine bl_drew ?_)); rintro e w5 ⟨v5, rfl, hI5, h5⟩; have B5 : Below wr.heap.size wr w5 := bl_call h5 (by (repeat (first | with_reducible exact Below.refl _ _ | with_reducible refine bl_call h7 ?_ | with_reducible refine bl_call h6 ?_ | with_reducible refine bl_call h5 ?_ | with_reducible refine bl_drew ?_))); have t50 := (B5.cell (p := ⟨g5, 0, none⟩) z5).trans t00; have t51 := (B5.cell (p := ⟨g5, 1, none⟩) z5).trans t01; have q50 := (B5.cell (p := ⟨lg, k * 2, none⟩) zl).trans q00; have q51 := (B5.cell (p := ⟨lg, k * 2 + 1, none⟩) zl).trans q01; have q52 := (B5.cell (p := ⟨b, o + k, none⟩) zu).trans q02; skip))
          | (go_simp; go_at_call 58; ((with_reducible refine (r2mul_any _ _ z (sg false (val lk)) 2 lk.length _ (hz.intA.below ?_) (hI5.intA.below ?_) b1 b2).mono ?_); (repeat (first | with_reducible exact Below.refl _ _ | with_reducible refine bl_call h7 ?_ | with_reducible refine bl_call h6 ?_ | with_reducible refine bl_call h5 ?_ | with_reducible refine bl_drew ?_)); (repeat (first | with_reducible exact Below.refl _ _ | with_reducible refine bl_call h7 ?_ | with_reducible refine bl_call h6 ?_ | with_reducible refine bl_call h5 ?_ | with_reducible refine bl_drew ?_)); rintro e w6 ⟨v6, rfl, hI6, h6⟩; have B6 : Below wr.heap.size wr w6 := bl_call h6 (by (repeat (first | with_reducible exact Below.refl _ _ | with_reducible refine bl_call h7 ?_ | with_reducible refine bl_call h6 ?_ | with_reducible refine bl_call h5 ?_ | with_reducible refine bl_drew ?_))); have t60 := (B6.cell (p := ⟨g5, 0, none⟩) z5).trans t00; have t61 := (B6.cell (p := ⟨g5, 1, none⟩) z5).trans t01; skip))
          | (go_simp; go_at_call 57; ((with_reducible refine (r2add_any _ _ sk (z * sg false (val lk)) M (2 + lk.length) _ (hv5.intA.below ?_) (hI6.intA.below ?_) b3 b4).mono ?_); (repeat (first | with_reducible exact Below.refl _ _ | with_reducible refine bl_call h7 ?_ | with_reducible refine bl_call h6 ?_ | with_reducible refine bl_call h5 ?_ | with_reducible refine bl_drew ?_)); (repeat (first | with_reducible exact Below.refl _ _ | with_reducible refine bl_call h7 ?_ | with_reducible refine bl_call h6 ?_ | with_reducible refine bl_call h5 ?_ | with_reducible refine bl_drew ?_)); rintro e w7 ⟨v7, rfl, hI7, h7⟩; have hI7' := hI7; obtain ⟨m7, e7, hm7, _⟩ := hI7'; subst e7; obtain ⟨A7, k7, c7, rfl⟩ := hm7.lim1.choose_spec.1.show_; have B7 : Below wr.heap.size wr w7 := bl_call h7 (by (repeat (first | with_reducible exact Below.refl _ _ | with_reducible refine bl_call h7 ?_ | with_reducible refine bl_call h6 ?_ | with_reducible refine bl_call h5 ?_ | with_reducible refine bl_drew ?_))); have t70 := (B7.cell (p := ⟨g5, 0, none⟩) z5).trans t00; have t71 := (B7.cell (p := ⟨g5, 1, none⟩) z5).trans t01; have f70 := (B7.frozen (p := ⟨g5, 0, none⟩) z5).trans f00; have f71 := (B7.frozen (p := ⟨g5, 1, none⟩) z5).trans f01)))
        all_goals go_wp2_with fail
        all_goals go_meet
        all_goals go_light
        all_goals
          rw [HSK.out]
          have BB7 := BB.trans (B7.mono BB.size)
          have FK : (sk + z * sg false (val lk)).natAbs < bp M := by rw [← HSK.out]; exact HFK.out.1
          refine ⟨A7, k7, c7, ?_, ?_, ?_, ?_, ?_⟩
          · exact ((hr4.keep B7).far (by show w.heap.size ≠ g5; omega) _).far (by show w.heap.size ≠ g5; omega) _
          · exact (((hr5.keep B7).set_ 0 (.bool (decide (sk + z * sg false (val lk) < 0)))).set_ 1 (.slice A7 k7 c7))
          · have hgz : g5 + 1 ≤ wr.heap.size := z5
            have hI8 := (hI7.tight FK).base (b' := g5 + 1) (Nat.le_trans hgz (by first | exact (bl_call h6 (by (repeat (first | with_reducible exact Below.refl _ _ | with_reducible refine bl_call h7 ?_ | with_reducible refine bl_call h6 ?_ | with_reducible refine bl_call h5 ?_ | with_reducible refine bl_drew ?_))) : Below wr.heap.size wr w6).size))
            exact ((hI8.set_ (q := ⟨g5, 0, none⟩) (by show g5 < g5 + 1; omega) _).set_ (q := ⟨g5, 1, none⟩) (by show g5 < g5 + 1; omega) _).base (by omega)
          · exact ((hal.below B7).set_ hfa (p := ⟨g5, 0, none⟩) (by show g5 < g5 + 1; omega) _).set_ hfa (p := ⟨g5, 1, none⟩) (by show g5 < g5 + 1; omega) _
          · exact (BB7.setCell (by show w.heap.size ≤ g5; omega) _).setCell (by show w.heap.size ≤ g5; omega) _
      case rest =>
      obtain ⟨X', K', C', hr4, hr5, hv5, hal, BB⟩ := hcut
      obtain ⟨wx, hwx⟩ : ∃ x, x = wc := ⟨_, rfl⟩
      rw [← hwx] at hr4 hr5 hv5 hal BB ⊢
      have hlx := hlim0.below BB
      have g2 := (BB.cell (p := ⟨b, o + k, none⟩) hbl).trans hcell0
      clear hwx
      obtain ⟨l6, hl6, _, hq6, hk6⟩ := hal
      obtain ⟨⟨A6', c6', e6, _, _, _⟩, _⟩ := id hl6
      injection e6 with e6a e6b e6c
      subst e6a e6b e6c
      go_wp2_with fail
      refine (radd_wide _ _ l6 lk _ hl6 hlx (by omega) (by omega)).mono ?_
      have z5x := hr5.lt
      rintro e w9 ⟨v9, rfl, l9, hl9, nt9, hv9, hk9, hf9, hb9⟩
      have BB9 := BB.trans (hb9.mono BB.size)
      obtain ⟨⟨A9, c9, rfl, _, _, _⟩, _⟩ := id hl9
      go_wp2_with fail
      go_roundw
      case rel =>
        refine ⟨k + 1, A9, _, c9, X', K', C', by omega, by go_num, rfl, ?_, hf9.mono z5x, hr4.keep hb9, hr5.keep hb9, hv5.below hb9, BB9⟩
        exact natAt_tightG ⟨l9, hl9, nt9, by rw [hv9, hq6, HNK.out], hk9⟩ HFK.out.2
      case measure => simp [intOf]; omega
    · obtain rfl : k = n := by omega
      rw [HSN.out] at hr5 hv5
      rw [HTN.out] at hal
      obtain ⟨l6, hl6, _, hq6, hk6⟩ := hal
      obtain ⟨⟨A6', c6', e6, _, _, _⟩, _⟩ := id hl6
      injection e6 with e6a e6b e6c
      subst e6a e6b e6c
      have HSG : Hid (sg false (val l6) = (tn : Int)) := by unfold Hid; rw [hq6]; rfl
      have HPOS : Hid (0 < (tn : Int)) := by unfold Hid; have := HPP.out; omega
      have HNA : Hid ((tn : Int).natAbs = tn) := by unfold Hid; exact Int.natAbs_natCast _
      have HMX : Hid (max M l6.length ≤ M) := by unfold Hid; omega
      have j1 : l6.length ≤ 35184372088831 := by omega
      have j2 : 2 ≤ max M l6.length := by omega
      have j3 : max M l6.length ≤ 8796093022000 := by omega
      clear hq6
      have yyr := hr4.lt
      have c40 : wr.cell? ⟨w.heap.size, 0, none⟩ = some (.bool false) := hr4.cell 0
      have c41 : wr.cell? ⟨w.heap.size, 1, none⟩ = some (.slice none 0 0) := hr4.cell 1
      have c42 : wr.cell? ⟨w.heap.size, 2, none⟩ = some (.slice none 0 0) := hr4.cell 2
      have c50 : wr.cell? ⟨g5, 0, none⟩ = some (.bool (decide (sn < 0))) := hr5.cell 0
      have c51 : wr.cell? ⟨g5, 1, none⟩ = some (.slice X K C) := hr5.cell 1
      have z4 := hr4.lt
      have z5 := hr5.lt
      go_wp2_with fail
      have qs0 : wr.cell? ⟨g5, 0, none⟩ = some (.bool (decide (sn < 0))) := hr5.cell 0
      have qs1 : wr.cell? ⟨g5, 1, none⟩ = some (.slice X K C) := hr5.cell 1
      have zs0 := hr5.lt
      go_cut [8, 9] (fun s0 s1 wx => ∃ (g : Nat) (A18 : Option Addr) (k18 c18 : Nat) (D18 : Option Addr) (l18 b18 : Nat), s0 = .pointer (some ⟨g, 0, none⟩) ∧ wr.heap.size ≤ g ∧ Row wx g 42 [.bool (decide ((redP sn tn) < 0)), .slice A18 k18 c18, .slice D18 l18 b18] ∧ RatF wr.heap.size wx (.agg #[.bool (decide ((redP sn tn) < 0)), .slice A18 k18 c18, .slice D18 l18 b18]) (redP sn tn) (redQ sn tn) M ∧ s1 = .bool true ∧ Below wr.heap.size wr wx)
      case first =>
        go_region_held3 (fun w' => w'.cell? ⟨g5, 0, none⟩ = some (.bool (decide (sn < 0))) ∧ w'.cell? ⟨g5, 1, none⟩ = some (.slice X K C))
          ((refine keep2c zs0 zs0 qs0 qs1 ?_; (repeat (first | with_reducible exact Below.refl _ _ | ((with_reducible refine bl_set ?_ ?_ _); rotate_left; (first | exact Nat.le_refl _ | exact gz15 | exact gz16)) | with_reducible refine bl_call h16 ?_ | with_reducible refine bl_call h15 ?_ | with_reducible refine bl_alloc ?_ _ | with_reducible refine bl_drew ?_)); done))
          (first
            | (go_at_call 56; ((with_reducible refine (r2make_any false _ l6 _ (hl6.below ?_) j1).mono ?_); (repeat (first | with_reducible exact Below.refl _ _ | ((with_reducible refine bl_set ?_ ?_ _); rotate_left; (first | exact Nat.le_refl _ | exact gz15 | exact gz16)) | with_reducible refine bl_call h16 ?_ | with_reducible refine bl_call h15 ?_ | with_reducible refine bl_alloc ?_ _ | with_reducible refine bl_drew ?_)); rintro e w15 ⟨v15, rfl, hI15, h15⟩; have gz15 : wr.heap.size ≤ w15.heap.size := (bl_call h15 (by (repeat (first | with_reducible exact Below.refl _ _ | ((with_reducible refine bl_set ?_ ?_ _); rotate_left; (first | exact Nat.le_refl _ | exact gz15 | exact gz16)) | with_reducible refine bl_call h16 ?_ | with_reducible refine bl_call h15 ?_ | with_reducible refine bl_alloc ?_ _ | with_reducible refine bl_drew ?_))) : Below wr.heap.size wr w15).size; (first | (replace RR := RR.keep h15) | (have R0 := Row.drew (Row.new wr 42 [.bool false, .slice none 0 0, .slice none 0 0]); have RR := R0.keep h15; clear R0) | (have R0 := Row.new wr.drew 42 [.bool false, .slice none 0 0, .slice none 0 0]; have RR := R0.keep h15; clear R0) | (have R0 := Row.new wr 42 [.bool false, .slice none 0 0, .slice none 0 0]; have RR := R0.keep h15; clear R0) | (have R0 := Row.new w16 42 [.bool false, .slice none 0 0, .slice none 0 0]; have RR := R0.keep h15; clear R0) | skip); rw [HSG.out] at hI15))
            | (go_at_call 60; ((with_reducible refine (r3make_pos (.agg #[.bool (decide (sn < 0)), .slice X K C]) _ sn (tn : Int) M l6.length _ (hv5.intA.below ?_) (hI15.intA.below ?_) HPOS.out j2 j3).mono ?_); (repeat (first | with_reducible exact Below.refl _ _ | ((with_reducible refine bl_set ?_ ?_ _); rotate_left; (first | exact Nat.le_refl _ | exact gz15 | exact gz16)) | with_reducible refine bl_call h16 ?_ | with_reducible refine bl_call h15 ?_ | with_reducible refine bl_alloc ?_ _ | with_reducible refine bl_drew ?_)); (repeat (first | with_reducible exact Below.refl _ _ | ((with_reducible refine bl_set ?_ ?_ _); rotate_left; (first | exact Nat.le_refl _ | exact gz15 | exact gz16)) | with_reducible refine bl_call h16 ?_ | with_reducible refine bl_call h15 ?_ | with_reducible refine bl_alloc ?_ _ | with_reducible refine bl_drew ?_)); rintro e w16 ⟨v16, rfl, hR16, h16⟩; have gz16 : wr.heap.size ≤ w16.heap.size := (bl_call h16 (by (repeat (first | with_reducible exact Below.refl _ _ | ((with_reducible refine bl_set ?_ ?_ _); rotate_left; (first | exact Nat.le_refl _ | exact gz15 | exact gz16)) | with_reducible refine bl_call h16 ?_ | with_reducible refine bl_call h15 ?_ | with_reducible refine bl_alloc ?_ _ | with_reducible refine bl_drew ?_))) : Below wr.heap.size wr w16).size; (first | (have zg := RR.lt; replace RR := RR.keep h16) | (have R0 := Row.drew (Row.new wr 42 [.bool false, .slice none 0 0, .slice none 0 0]); have zg := R0.lt; have RR := R0.keep h16) | (have R0 := Row.new wr.drew 42 [.bool false, .slice none 0 0, .slice none 0 0]; have zg := R0.lt; have RR := R0.keep h16) | (have R0 := Row.new wr 42 [.bool false, .slice none 0 0, .slice none 0 0]; have zg := R0.lt; have RR := R0.keep h16) | (have R0 := Row.new w15 42 [.bool false, .slice none 0 0, .slice none 0 0]; have zg := R0.lt; have RR := R0.keep h16) | skip); rw [HNA.out] at hR16; have hR16' := hR16; obtain ⟨m16, d16, e16, hm16, hd16, _, _⟩ := hR16'; subst e16; obtain ⟨A18, k18, c18, rfl⟩ := hm16.lim1.choose_spec.1.show_; obtain ⟨D18, l18, b18, rfl⟩ := hd16.lim1.choose_spec.1.show_; clear hm16 hd16; (try (have e0 := RR.cell 0; have e1 := RR.cell 1; have e2 := RR.cell 2; simp only [List.getElem?_cons_zero, List.getElem?_cons_succ] at e0 e1 e2; have f0 := RR.frozen 0; have f1 := RR.frozen 1; have f2 := RR.frozen 2)))))
        all_goals go_wp2_with fail
        all_goals go_meet
        all_goals go_light
        all_goals
          refine ⟨_, A18, k18, c18, D18, l18, b18, rfl, ?_, ?_, ?_, rfl, ?_⟩
          · (first | exact Nat.le_refl _ | exact gz15 | exact gz16)
          · (first | exact Row.new _ _ _ | exact (((RR.set_ 0 _).set_ 1 _).set_ 2 _))
          · (first | exact ((hR16.mono HMX.out).below (lit_below _ _)).base (bl_sz (by (repeat (first | with_reducible exact Below.refl _ _ | ((with_reducible refine bl_set ?_ ?_ _); rotate_left; (first | exact Nat.le_refl _ | exact gz15 | exact gz16)) | with_reducible refine bl_call h16 ?_ | with_reducible refine bl_call h15 ?_ | with_reducible refine bl_alloc ?_ _ | with_reducible refine bl_drew ?_)))) | exact (((((hR16.mono HMX.out).set_ zg _).set_ zg _).set_ zg _)).base (bl_sz (by (repeat (first | with_reducible exact Below.refl _ _ | ((with_reducible refine bl_set ?_ ?_ _); rotate_left; (first | exact Nat.le_refl _ | exact gz15 | exact gz16)) | with_reducible refine bl_call h16 ?_ | with_reducible refine bl_call h15 ?_ | with_reducible refine bl_alloc ?_ _ | with_reducible refine bl_drew ?_)))))
          · (repeat (first | with_reducible exact Below.refl _ _ | ((with_reducible refine bl_set ?_ ?_ _); rotate_left; (first | exact Nat.le_refl _ | exact gz15 | exact gz16)) | with_reducible refine bl_call h16 ?_ | with_reducible refine bl_call h15 ?_ | with_reducible refine bl_alloc ?_ _ | with_reducible refine bl_drew ?_))
      case rest =>
      obtain ⟨g8, A18, k18, c18, D18, l18, b18, rfl, hg8, hr8, hv8, rfl, hbc⟩ := hcut
      clear qs0 qs1 zs0 c40 c41 c42 c50 c51 z4 z5
      obtain ⟨x1, hx1⟩ : ∃ x, x = wc := ⟨_, rfl⟩
      rw [← hx1] at hr8 hv8 hbc ⊢
      clear hx1
      have o4_8 : w.heap.size < g8 := by have := hr4.lt; omega
      have o5_8 : g5 < g8 := by have := hr5.lt; omega
      have ob_8 : w.heap.size ≤ g8 := by have := BB.size; omega
      replace hr4 := hr4.keep hbc
      replace hr5 := hr5.keep hbc
      replace hv5 := hv5.below hbc
      replace hl6 := hl6.below hbc
      replace BB : Below w.heap.size w x1 := BB.trans (hbc.mono BB.size)
      clear hbc
      clear hl6
      clear hr5
      clear hv5
      have c40 : x1.cell? ⟨w.heap.size, 0, none⟩ = some (.bool false) := hr4.cell 0
      have c41 : x1.cell? ⟨w.heap.size, 1, none⟩ = some (.slice none 0 0) := hr4.cell 1
      have c42 : x1.cell? ⟨w.heap.size, 2, none⟩ = some (.slice none 0 0) := hr4.cell 2
      have c80 : x1.cell? ⟨g8, 0, none⟩ = some (.bool (decide ((redP sn tn) < 0))) := hr8.cell 0
      have c81 : x1.cell? ⟨g8, 1, none⟩ = some (.slice A18 k18 c18) := hr8.cell 1
      have c82 : x1.cell? ⟨g8, 2, none⟩ = some (.slice D18 l18 b18) := hr8.cell 2
      have f40 : x1.frozen? ⟨w.heap.size, 0, none⟩ = false := hr4.frozen 0
      have f41 : x1.frozen? ⟨w.heap.size, 1, none⟩ = false := hr4.frozen 1
      have f42 : x1.frozen? ⟨w.heap.size, 2, none⟩ = false := hr4.frozen 2
      have z4 := hr4.lt
      have z8 := hr8.lt
      go_wp2_with fail
      refine bodyPost_ret (v := .agg #[.bool (decide ((redP sn tn) < 0)), .slice A18 k18 c18, .slice D18 l18 b18]) (by simp [results, Try.results37, go_sem, c40, c41, c42]) rfl ⟨_, rfl, ?_, ((BB.setCell (by simp) _).setCell (by simp) _).setCell (by simp) _⟩
      exact (((hv8.set_ (a := ⟨w.heap.size, 0, none⟩) yyr _).set_ (a := ⟨w.heap.size, 1, none⟩) yyr _).set_ (a := ⟨w.heap.size, 2, none⟩) yyr _).base (by omega)
end Go.Proofs.Ytdmjgildgjpmcaa
