/- Lists of whole numbers in memory; the walk of check (package examboardref18). -/
import Derived.Test.YtdmjgildgjpmcaaRg1
import Derived.Test.YtdmjgildgjpmcaaGrM
import Derived.Deep.AppendLies
namespace Go.Proofs.Ytdmjgildgjpmcaa
open Go.RowKit
set_option linter.unusedVariables false
set_option maxRecDepth 100000

abbrev T2 := Value × Value
/-- Two cells each. -/
def flat2 : List T2 → List Value
  | [] => []
  | u :: us => u.1 :: u.2 :: flat2 us
theorem flat2_append : ∀ (a b : List T2), flat2 (a ++ b) = flat2 a ++ flat2 b
  | [], b => rfl
  | u :: a, b => by show _ :: _ :: flat2 (a ++ b) = _; rw [flat2_append a b]; rfl
theorem flat2_len : ∀ (us : List T2), (flat2 us).length = us.length * 2
  | [] => rfl
  | u :: us => by show (flat2 us).length + 1 + 1 = (us.length + 1) * 2; rw [flat2_len us]; omega
theorem flat2_get : ∀ {us : List T2} {i : Nat} {u : T2}, us[i]? = some u → (flat2 us)[i * 2]? = some u.1 ∧ (flat2 us)[i * 2 + 1]? = some u.2
  | [], i, u, h => by simp at h
  | v :: us, 0, u, h => by
    simp at h
    subst h
    exact ⟨rfl, rfl⟩
  | v :: us, i + 1, u, h => by
    have h' : us[i]? = some u := by simpa using h
    obtain ⟨a, b⟩ := flat2_get h'
    rw [show (i + 1) * 2 = i * 2 + 1 + 1 by omega]
    exact ⟨a, b⟩
/-- What has been collected by append: the first k of the whole numbers, none in the row's own block. -/
def IntO (w : World) (us : List T2) (zs : List Int) (k : Nat) (row : Option Nat) : Prop := us.length = k ∧ ∀ i u, us[i]? = some u → u.1 = .bool (decide (zs.getD i 0 < 0)) ∧ NatAt w u.2 (zs.getD i 0).natAbs 2 ∧ Off row u.2
theorem IntO.zero (w : World) (zs : List Int) (row : Option Nat) : IntO w [] zs 0 row := ⟨rfl, fun i u h => by simp at h⟩
theorem IntO.below {w w' : World} {us : List T2} {zs : List Int} {k : Nat} {row : Option Nat} (h : IntO w us zs k row) (hb : Below w.heap.size w w') : IntO w' us zs k row :=
  ⟨h.1, fun i u hi => ⟨(h.2 i u hi).1, (h.2 i u hi).2.1.below hb, (h.2 i u hi).2.2⟩⟩
theorem IntO.snoc {w : World} {us : List T2} {zs : List Int} {k : Nat} {row : Option Nat} {x y : Value} (h : IntO w us zs k row) (hx : x = .bool (decide (zs.getD k 0 < 0))) (hy : NatAt w y (zs.getD k 0).natAbs 2) (hf : Off row y) : IntO w (us ++ [(x, y)]) zs (k + 1) row := by
  refine ⟨by rw [List.length_append, h.1]; rfl, fun i u hi => ?_⟩
  rcases Nat.lt_or_ge i us.length with hl | hl
  · rw [List.getElem?_append_left hl] at hi
    exact h.2 i u hi
  · rw [List.getElem?_append_right hl] at hi
    have : i - us.length = 0 := by
      rcases Nat.eq_zero_or_pos (i - us.length) with h0 | h0
      · exact h0
      · rw [List.getElem?_eq_none (by simp; omega)] at hi; cases hi
    rw [this] at hi
    simp at hi
    subst hi
    have : i = k := by have := h.1; omega
    subst this
    exact ⟨hx, hy, hf⟩
theorem IntO.grown {w w' : World} {us : List T2} {zs : List Int} {k : Nat} {row row' : Option Nat} (h : IntO w us zs k row) (hg : w.grownBy w' row) (hr : row' = row ∨ ∃ j, row' = some j ∧ w.heap.size ≤ j) : IntO w' us zs k row' := by
  refine ⟨h.1, fun i u hi => ?_⟩
  obtain ⟨h0, h1, h2⟩ := h.2 i u hi
  refine ⟨h0, h1.grown hg h2, ?_⟩
  rcases hr with rfl | ⟨j, rfl, hj⟩
  · exact h2
  · exact h1.off hj
/-- A slice of whole numbers, at the start of its block. -/
def IntLs (w : World) (v : Value) (zs : List Int) : Prop := ∃ g c us, v = .slice (some ⟨g, 0, none⟩) zs.length c ∧ g < w.heap.size ∧ us.length = zs.length ∧ (∀ j u, (flat2 us)[j]? = some u → w.cell? ⟨g, j, none⟩ = some u) ∧ ∀ i u, us[i]? = some u → IntF 0 w (.agg #[u.1, u.2]) (zs.getD i 0) 2
theorem IntLs.below {w w' : World} {v : Value} {zs : List Int} (h : IntLs w v zs) (hb : Below w.heap.size w w') : IntLs w' v zs := by
  obtain ⟨g, c, us, hv, hg, hl, hc, hu⟩ := h
  exact ⟨g, c, us, hv, Nat.lt_of_lt_of_le hg hb.size, hl, fun j u hj => (hb.cell (p := ⟨g, j, none⟩) hg).trans (hc j u hj), fun i u hi => (hu i u hi).below hb⟩
theorem IntO.ls {w : World} {us : List T2} {zs : List Int} {base e n : Nat} {v : Value} {row : Option Nat} (h : IntO w us zs n row) (hn : zs.length = n) (h0 : 0 < n) (ho : w.ownsRow base e 2 v n (flat2 us)) : IntLs w v zs := by
  obtain ⟨hl, ho⟩ := ho
  rcases ho with ⟨rfl, rfl⟩ | ⟨g, cap, cur, rfl, _, hh, hnc, hm, hs, hx⟩
  · omega
  · subst hn
    refine ⟨g, cap, us, rfl, ?_, h.1, ?_, ?_⟩
    · rcases Nat.lt_or_ge g w.heap.size with hlt | hge
      · exact hlt
      · rw [Array.getElem?_eq_none hge] at hh; cases hh
    · intro j u hu
      rw [cell_of_row w g j cur e (0, 0) hh]
      rw [← hx, List.getElem?_take] at hu
      split at hu
      · simpa using hu
      · cases hu
    · intro i u hi
      obtain ⟨h1, h2, _⟩ := h.2 i u hi
      refine ⟨u.2, by rw [h1], h2, ?_⟩
      obtain ⟨ls, ⟨⟨A, c, e2, _⟩, _⟩, _⟩ := h2
      rw [e2]
      unfold Fresh
      split
      · exact Nat.zero_le _
      · trivial
theorem own_zero2 (w : World) (base e : Nat) : w.ownsRow base e 2 (.slice none 0 0) 0 (flat2 []) := ⟨rfl, .inl ⟨rfl, rfl⟩⟩
theorem infoInt2 : (Try.prog.info? 40).map (fun i => (i.zero.map (·.cells), i.size, i.bytes)) = some (some #[.bool false, .slice none 0 0], 2, 32) := by kernel_rfl
theorem info_parts2 {P : Program} {e : TypeId} {cs : Array Value} {s b : Nat} (h : (P.info? e).map (fun i => (i.zero.map (·.cells), i.size, i.bytes)) = some (some cs, s, b)) : ∃ i z, P.info? e = some i ∧ i.zero = some z ∧ i.size = s ∧ i.bytes = b ∧ z.cells = cs := by
  rcases hi : P.info? e with _ | i
  · rw [hi] at h; simp at h
  · rw [hi] at h
    simp only [Option.map_some, Option.some.injEq, Prod.mk.injEq] at h
    obtain ⟨h1, h2, h3⟩ := h
    rcases hz : i.zero with _ | z
    · rw [hz] at h1; simp at h1
    · rw [hz] at h1
      simp only [Option.map_some, Option.some.injEq] at h1
      exact ⟨i, z, rfl, hz, h2, h3, h1⟩
/-- The sum of the first k weights. -/
def sN (ns : List Nat) : Nat → Nat
  | 0 => 0
  | k + 1 => sN ns k + ns.getD k 0
theorem sN_eq (ns : List Nat) : ∀ k, wF0 ns k = (sN ns k : Int)
  | 0 => rfl
  | k + 1 => by
    show wF0 ns k + (ns.getD k 0 : Int) = ((sN ns k + ns.getD k 0 : Nat) : Int)
    rw [sN_eq ns k]; omega
theorem sN_mono (ns : List Nat) {i : Nat} : ∀ {k : Nat}, i < k → ns.getD i 0 ≤ sN ns k
  | 0, h => absurd h (by omega)
  | k + 1, h => by
    rcases Nat.lt_or_ge i k with h1 | h1
    · have := sN_mono ns h1
      show _ ≤ sN ns k + _
      omega
    · obtain rfl : i = k := by omega
      show _ ≤ sN ns i + ns.getD i 0
      omega

set_option maxHeartbeats 8000000 in
theorem rcheck_bad (pv rv wv : Value) (ps rs : List Int) (ns : List Nat) (L : Nat) (w : World) (hp : Nums .i64 w pv ps) (hr : Nums .i64 w rv rs) (hw : Wts w wv ns L) (hE : gridE ps rs ≠ 0) :
    Calls Try.prog 34 #[.agg #[pv, rv], wv] w fun e w' => e = .returned (.int .i64 (gridE ps rs)) ∧ Below w.heap.size w w' := by
  have HV := Lib.hid (fun (W : World) (h : Below w.heap.size w W) => rgvalid_any pv rv ps rs W (hp.below h) (hr.below h))
  have hne : (gridE ps rs != 0) = true := by rw [bne_iff_ne]; exact hE
  obtain ⟨PA, pc, rfl, hpc, hpm, hps⟩ := hp
  obtain ⟨QA, qc, rfl, hqc, hqm, hqs⟩ := hr
  obtain ⟨WA, wc, us, rfl, hwc, hwm, hws, hwu⟩ := hw
  unfold maxLen at hwm
  have HWU := Lib.hid hwu
  clear hwu
  obtain ⟨W0, hW0⟩ : ∃ W0 : World, W0 = w.alloc (.cells #[.slice PA ps.length pc, .slice QA rs.length qc] 24) := ⟨_, rfl⟩
  have r0 : Row W0 w.heap.size 24 [.slice PA ps.length pc, .slice QA rs.length qc] := by
    rw [hW0]
    have := Row.new w 24 [.slice PA ps.length pc, .slice QA rs.length qc]
    simpa using this
  have B0 : Below w.heap.size w W0 := by rw [hW0]; exact ((Below.refl _ _).alloc (Nat.le_refl _) _)
  generalize gridE ps rs = E at *
  clear hE
  go_enter Try.func34, Try.ntmps34
  go_wp2_with fail
  rw [← hW0]
  clear hW0
  have BB := B0
  have hr0 := r0
  clear B0 r0
  have c00 : W0.cell? ⟨w.heap.size, 0, none⟩ = some (.slice PA ps.length pc) := hr0.cell 0
  have c01 : W0.cell? ⟨w.heap.size, 1, none⟩ = some (.slice QA rs.length qc) := hr0.cell 1
  have z0 := hr0.lt
  go_wp2_with fail
  clear c00 c01 z0
  refine (HV.out _ BB).mono ?_
  rintro e x1 ⟨rfl, hb⟩
  replace hr0 := hr0.keep hb
  replace BB : Below w.heap.size w x1 := BB.trans (hb.mono BB.size)
  clear hb
  have c00 : x1.cell? ⟨w.heap.size, 0, none⟩ = some (.slice PA ps.length pc) := hr0.cell 0
  have c01 : x1.cell? ⟨w.heap.size, 1, none⟩ = some (.slice QA rs.length qc) := hr0.cell 1
  have z0 := hr0.lt
  go_wp2_with fail
  go_ret
  exact ⟨rfl, BB⟩
set_option maxHeartbeats 8000000 in
theorem rcheck_len (pv rv wv : Value) (ps rs : List Int) (ns : List Nat) (L : Nat) (w : World) (hp : Nums .i64 w pv ps) (hr : Nums .i64 w rv rs) (hw : Wts w wv ns L) (hE : gridE ps rs = 0) (hl : ns.length ≠ ps.length) :
    Calls Try.prog 34 #[.agg #[pv, rv], wv] w fun e w' => e = .returned (.int .i64 1) ∧ Below w.heap.size w w' := by
  have HV := Lib.hid (fun (W : World) (h : Below w.heap.size w W) => rgvalid_any pv rv ps rs W (hp.below h) (hr.below h))
  rw [hE] at HV
  obtain ⟨PA, pc, rfl, hpc, hpm, hps⟩ := hp
  obtain ⟨QA, qc, rfl, hqc, hqm, hqs⟩ := hr
  obtain ⟨WA, wc, us, rfl, hwc, hwm, hws, hwu⟩ := hw
  unfold maxLen at hwm
  have HWU := Lib.hid hwu
  clear hwu
  obtain ⟨W0, hW0⟩ : ∃ W0 : World, W0 = w.alloc (.cells #[.slice PA ps.length pc, .slice QA rs.length qc] 24) := ⟨_, rfl⟩
  have r0 : Row W0 w.heap.size 24 [.slice PA ps.length pc, .slice QA rs.length qc] := by
    rw [hW0]
    have := Row.new w 24 [.slice PA ps.length pc, .slice QA rs.length qc]
    simpa using this
  have B0 : Below w.heap.size w W0 := by rw [hW0]; exact ((Below.refl _ _).alloc (Nat.le_refl _) _)
  have hne : ((ns.length : Int) != (ps.length : Int)) = true := by rw [bne_iff_ne]; omega
  clear hE
  go_enter Try.func34, Try.ntmps34
  go_wp2_with fail
  rw [← hW0]
  clear hW0
  have BB := B0
  have hr0 := r0
  clear B0 r0
  have c00 : W0.cell? ⟨w.heap.size, 0, none⟩ = some (.slice PA ps.length pc) := hr0.cell 0
  have c01 : W0.cell? ⟨w.heap.size, 1, none⟩ = some (.slice QA rs.length qc) := hr0.cell 1
  have z0 := hr0.lt
  go_wp2_with fail
  clear c00 c01 z0
  refine (HV.out _ BB).mono ?_
  rintro e x1 ⟨rfl, hb⟩
  replace hr0 := hr0.keep hb
  replace BB : Below w.heap.size w x1 := BB.trans (hb.mono BB.size)
  clear hb
  have c00 : x1.cell? ⟨w.heap.size, 0, none⟩ = some (.slice PA ps.length pc) := hr0.cell 0
  have c01 : x1.cell? ⟨w.heap.size, 1, none⟩ = some (.slice QA rs.length qc) := hr0.cell 1
  have z0 := hr0.lt
  go_wp2_with fail
  go_ret
  exact ⟨rfl, BB⟩
set_option maxHeartbeats 8000000 in
theorem rcheck_ok (pv rv wv : Value) (ps rs : List Int) (ns : List Nat) (L : Nat) (w : World) (hp : Nums .i64 w pv ps) (hr : Nums .i64 w rv rs) (hw : Wts w wv ns L) (hL : L ≤ 35184372088832) (hE : gridE ps rs = 0) (hl : ns.length = ps.length) :
    Calls Try.prog 34 #[.agg #[pv, rv], wv] w fun e w' => e = .returned (.int .i64 (if wF0 ns ps.length = 0 then 20 else 0)) ∧ Below w.heap.size w w' := by
  have HV := Lib.hid (fun (W : World) (h : Below w.heap.size w W) => rgvalid_any pv rv ps rs W (hp.below h) (hr.below h))
  rw [hE] at HV
  obtain ⟨PA, pc, rfl, hpc, hpm, hps⟩ := hp
  obtain ⟨QA, qc, rfl, hqc, hqm, hqs⟩ := hr
  obtain ⟨WA, wc, us, rfl, hwc, hwm, hws, hwu⟩ := hw
  unfold maxLen at hwm
  have HWU := Lib.hid hwu
  clear hwu
  have HS := Lib.hid (sN_eq ns ps.length)
  obtain ⟨W0, hW0⟩ : ∃ W0 : World, W0 = w.alloc (.cells #[.slice PA ps.length pc, .slice QA rs.length qc] 24) := ⟨_, rfl⟩
  have r0 : Row W0 w.heap.size 24 [.slice PA ps.length pc, .slice QA rs.length qc] := by
    rw [hW0]
    have := Row.new w 24 [.slice PA ps.length pc, .slice QA rs.length qc]
    simpa using this
  have B0 : Below w.heap.size w W0 := by rw [hW0]; exact ((Below.refl _ _).alloc (Nat.le_refl _) _)
  obtain ⟨n, hn⟩ : ∃ n, ps.length = n := ⟨_, rfl⟩
  have hm : ns.length = n := by omega
  rw [hm] at hws hwc
  rw [hn] at HS r0
  rw [hn] at hW0 HV ⊢
  rw [hm]
  clear hE hl hn hm
  obtain ⟨E, hE⟩ : ∃ E : Int, (if wF0 ns n = 0 then 20 else 0) = E := ⟨_, rfl⟩
  rw [hE]
  have HE := Lib.hid hE
  clear hE
  have hne : ((n : Int) != (n : Int)) = false := by simp
  go_enter Try.func34, Try.ntmps34
  go_wp2_with fail
  rw [← hW0]
  clear hW0
  have BB := B0
  have hr0 := r0
  clear B0 r0
  have c00 : W0.cell? ⟨w.heap.size, 0, none⟩ = some (.slice PA n pc) := hr0.cell 0
  have c01 : W0.cell? ⟨w.heap.size, 1, none⟩ = some (.slice QA rs.length qc) := hr0.cell 1
  have z0 := hr0.lt
  go_wp2_with fail
  clear c00 c01 z0
  refine (HV.out _ BB).mono ?_
  rintro e x1 ⟨rfl, hb⟩
  replace hr0 := hr0.keep hb
  replace BB : Below w.heap.size w x1 := BB.trans (hb.mono BB.size)
  clear hb
  have c00 : x1.cell? ⟨w.heap.size, 0, none⟩ = some (.slice PA n pc) := hr0.cell 0
  have c01 : x1.cell? ⟨w.heap.size, 1, none⟩ = some (.slice QA rs.length qc) := hr0.cell 1
  have z0 := hr0.lt
  go_wp2_with fail
  go_loopw [4, 6] (fun r4 i wr => ∃ k : Nat, k ≤ n ∧ r4 = .int .i64 0 ∧ i = .int .i64 (k : Int) ∧ sN ns k = 0 ∧ Below w.heap.size w wr) (fun _ i _ => n - (intOf i).toNat)
  case atStart => exact ⟨0, by omega, rfl, rfl, rfl, BB⟩
  case round =>
    obtain ⟨k, hk, rfl, rfl, hs, BR⟩ := hrel
    by_cases hlt : k < n
    · obtain ⟨b, o, u, rfl, hbl, hcell, hu⟩ := lst_at (R := fun w u x => NatAny w u x L) (d := 0) (xs := ns) hws HWU.out hlt
      obtain ⟨lk, hlim, hval, hlen⟩ := hu.below BR
      obtain ⟨⟨UA, uc, rfl, _, _, _⟩, _⟩ := id hlim
      have g2 := (BR.cell (p := ⟨b, o + k, none⟩) hbl).trans hcell
      have hkI : (k : Int) < (n : Int) := by omega
      have HB := Lib.hid (bitL_iff (val lk))
      have HVL := Lib.hid hval
      have HSK := Lib.hid hs
      clear hcell hu hval hs
      go_wp2_with fail
      refine (rbits_any _ lk _ hlim (by omega)).mono ?_
      rintro e w2 ⟨rfl, hb⟩
      have BR2 := BR.trans (hb.mono BR.size)
      obtain ⟨m, hm⟩ : ∃ m, bitL (val lk) = m := ⟨_, rfl⟩
      rw [hm] at HB ⊢
      clear hm
      by_cases hz : 0 < m
      · have t1 : decide (0 < (m : Int)) = true := decide_eq_true (by omega)
        have t1n : decide (0 < m) = true := decide_eq_true hz
        have t2 : Hid (wF0 ns n ≠ 0) := by
          unfold Hid
          rw [HS.out]
          have := sN_mono ns hlt
          rw [← HVL.out] at this
          have hb := HB.out
          omega
        clear HB hz
        go_wp2_with fail
        go_ret
        have he := HE.out
        rw [if_neg t2.out] at he
        exact ⟨by rw [← he]; rfl, BR2⟩
      · have t1 : decide (0 < (m : Int)) = false := decide_eq_false (by omega)
        have t1n : decide (0 < m) = false := decide_eq_false hz
        have t2 : Hid (sN ns (k + 1) = 0) := by
          unfold Hid
          show sN ns k + ns.getD k 0 = 0
          rw [HSK.out, ← HVL.out]
          have hb := HB.out
          omega
        clear HB hz
        go_wp2_with fail
        go_roundw
        case rel => exact ⟨k + 1, by omega, rfl, by go_num, t2.out, BR2⟩
        case measure => simp [intOf]; omega
    · obtain rfl : k = n := by omega
      have t2 : Hid (wF0 ns k = 0) := by unfold Hid; rw [HS.out, hs]; rfl
      clear hs
      go_wp2_with fail
      go_ret
      have he := HE.out
      rw [if_pos t2.out] at he
      exact ⟨by rw [← he]; rfl, BR⟩
theorem rcheck_any (pv rv wv : Value) (ps rs : List Int) (ns : List Nat) (L : Nat) (w : World) (hp : Nums .i64 w pv ps) (hr : Nums .i64 w rv rs) (hw : Wts w wv ns L) (hL : L ≤ 35184372088832) :
    Calls Try.prog 34 #[.agg #[pv, rv], wv] w fun e w' => e = .returned (.int .i64 (sumE ps rs ns)) ∧ Below w.heap.size w w' := by
  unfold sumE
  by_cases h0 : gridE ps rs = 0
  · rw [if_neg (by simpa using h0)]
    by_cases h1 : ns.length = ps.length
    · rw [if_neg (by omega)]
      exact rcheck_ok pv rv wv ps rs ns L w hp hr hw hL h0 h1
    · rw [if_pos h1]
      exact rcheck_len pv rv wv ps rs ns L w hp hr hw h0 h1
  · rw [if_pos h0]
    exact rcheck_bad pv rv wv ps rs ns L w hp hr hw h0
end Go.Proofs.Ytdmjgildgjpmcaa
