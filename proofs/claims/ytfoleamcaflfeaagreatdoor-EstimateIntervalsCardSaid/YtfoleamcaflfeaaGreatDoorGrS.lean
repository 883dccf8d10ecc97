/- The walk of grid.sums. -/
import Derived.Test.YtfoleamcaflfeaaGreatDoorRatH
import Derived.Test.YtfoleamcaflfeaaGreatDoorBx
import Derived.Test.YtfoleamcaflfeaaGreatDoorGridV
import Derived.Deep.RegionLaw
namespace Go.Proofs.YtfoleamcaflfeaaGreatDoor
open Go.RowKit
set_option linter.unusedVariables false

theorem natAt_drew1 {w : World} {v : Value} {n L : Nat} (h : NatAt w v n L) : NatAt w.drew v n L := h
theorem natAt_tightG {w : World} {v : Value} {n M L : Nat} (h : NatAt w v n M) (hn : n < bp L) : NatAt w v n L := by
  obtain ⟨ls, h1, h2, h3, h4⟩ := h
  refine ⟨ls, h1, h2, h3, ?_⟩
  rcases Nat.lt_or_ge L ls.length with hlt | hge
  · exfalso
    have hge := NoTop.ge h2 (by omega)
    have hm : bp L ≤ bp (ls.length - 1) := bp_mono (by omega)
    omega
  · exact hge
theorem mom_abs (f : Nat → Int) (B : Nat) : ∀ k, (∀ j, j < k → (f j).natAbs ≤ B) → (mom f k).natAbs ≤ k * B
  | 0, _ => by simp [mom]
  | k + 1, h => by
    have h1 := mom_abs f B k fun j hj => h j (by omega)
    have h2 := h k (by omega)
    have h3 : (mom f k + f k).natAbs ≤ (mom f k).natAbs + (f k).natAbs := Int.natAbs_add_le _ _
    show (mom f k + f k).natAbs ≤ (k + 1) * B
    rw [Nat.add_mul]
    omega
theorem wF_tight {w : World} {m L : Nat} {us : List Value} {ns : List Nat} {ps : List Int} (hl : us.length = m) (hu : ∀ i u, us[i]? = some u → NatAny w u (ns.getD i 0) L) (hp : ∀ j, j < ps.length → -1000 ≤ ps.getD j 0 ∧ ps.getD j 0 ≤ 1000) (h21 : ps.length ≤ 21) (hn : ns.length = ps.length) (hm : m = ns.length) : ∀ k, k ≤ ps.length → (wF0 ns k).natAbs < bp (L + 1) ∧ (wF1 ns ps k).natAbs < bp (L + 3) ∧ (wF2 ns ps k).natAbs < bp (L + 5) := by
  intro k hk
  have hb := bp_pos L
  have hw : ∀ j, j < k → ns.getD j 0 ≤ bp L := by
    intro j hj
    obtain ⟨ls, h1, h2, h3⟩ := hu j _ (List.getElem?_eq_getElem (by omega))
    have h4 := val_lt h1.2
    have h5 := bp_mono h3
    omega
  have e1 : bp (L + 1) = bp L * 4294967296 := bp_succ L
  have e3 : bp (L + 3) = bp L * 4294967296 * 4294967296 * 4294967296 := by rw [bp_succ, bp_succ, bp_succ]
  have e5 : bp (L + 5) = bp L * 4294967296 * 4294967296 * 4294967296 * 4294967296 * 4294967296 := by rw [bp_succ, bp_succ, bp_succ, bp_succ, bp_succ]
  have hx : ∀ j, j < k → (ps.getD j 0).natAbs ≤ 1000 := fun j hj => by
    have := hp j (by omega)
    omega
  have m0 := mom_abs (fun i => (ns.getD i 0 : Int)) (bp L) k fun j hj => by
    show ((ns.getD j 0 : Nat) : Int).natAbs ≤ bp L
    rw [Int.natAbs_natCast]; exact hw j hj
  have m1 := mom_abs (fun i => (ns.getD i 0 : Int) * ps.getD i 0) (bp L * 1000) k fun j hj => by
    show (((ns.getD j 0 : Nat) : Int) * ps.getD j 0).natAbs ≤ bp L * 1000
    rw [Int.natAbs_mul, Int.natAbs_natCast]; exact Nat.mul_le_mul (hw j hj) (hx j hj)
  have m2 := mom_abs (fun i => (ns.getD i 0 : Int) * ps.getD i 0 * ps.getD i 0) (bp L * 1000 * 1000) k fun j hj => by
    show (((ns.getD j 0 : Nat) : Int) * ps.getD j 0 * ps.getD j 0).natAbs ≤ bp L * 1000 * 1000
    rw [Int.natAbs_mul, Int.natAbs_mul, Int.natAbs_natCast]; exact Nat.mul_le_mul (Nat.mul_le_mul (hw j hj) (hx j hj)) (hx j hj)
  have k21 : k ≤ 21 := by omega
  have n0 : k * bp L ≤ 21 * bp L := Nat.mul_le_mul_right _ k21
  have n1 : k * (bp L * 1000) ≤ 21 * (bp L * 1000) := Nat.mul_le_mul_right _ k21
  have n2 : k * (bp L * 1000 * 1000) ≤ 21 * (bp L * 1000 * 1000) := Nat.mul_le_mul_right _ k21
  refine ⟨?_, ?_, ?_⟩
  · show (mom _ k).natAbs < _
    rw [e1]; omega
  · show (mom _ k).natAbs < _
    rw [e3]; omega
  · show (mom _ k).natAbs < _
    rw [e5]; omega
theorem mom_zero (f : Nat → Int) : mom f 0 = 0 := rfl
theorem intf_nil (base : Nat) (w : World) (L : Nat) : IntF base w (.agg #[.bool (decide ((0 : Int) < 0)), .slice none 0 0]) 0 L := ⟨_, rfl, natAt_nilD _ _, trivial⟩

set_option maxHeartbeats 16000000 in
theorem gsums_ok (pv rv wv : Value) (ps rs : List Int) (ns : List Nat) (L : Nat) (w : World) (hp : Nums .i64 w pv ps) (hr : Nums .i64 w rv rs) (hw : Wts w wv ns L) (hE : gridE ps rs = 0) (hn : ns.length = ps.length) (hL : L ≤ 35184372088700) (hT : wF0 ns ps.length ≠ 0) :
    Calls Tryz.prog 72 #[.agg #[pv, rv], wv] w fun e w' => ∃ x y z, e = .returned (.tuple #[x, y, z, .int .i64 0]) ∧ IntF w.heap.size w' x (wF0 ns ps.length) (L + 1) ∧ IntF w.heap.size w' y (wF1 ns ps ps.length) (L + 3) ∧ IntF w.heap.size w' z (wF2 ns ps ps.length) (L + 5) ∧ Below w.heap.size w w' := by
  obtain ⟨z1, z2, z3, z4, _⟩ := gridE_zero hE
  have HZ := Lib.hid z4
  have HV := Lib.hid (fun (W : World) (h : Below w.heap.size w W) => gvalid_any pv rv ps rs W (hp.below h) (hr.below h))
  rw [hE] at HV
  obtain ⟨PA, pc, rfl, hpc, hpm, hps⟩ := hp
  obtain ⟨QA, qc, rfl, hqc, hqm, hqs⟩ := hr
  obtain ⟨WA, wc, us, rfl, hwc, hwm, hws, hwu⟩ := hw
  unfold maxLen at hpm hwm
  have HT := Lib.hid hT
  have HWU := Lib.hid hwu
  have HFB := Lib.hid (wF_tight hws.1 hwu (fun j hj => ⟨(z4 j hj).1, (z4 j hj).2.1⟩) z1 hn rfl)
  obtain ⟨W0, hW0⟩ : ∃ W0 : World, W0 = (((w.alloc (.cells #[.slice PA ps.length pc, .slice QA rs.length qc] 48)).alloc (.cells #[.bool false, .slice none 0 0] 26)).alloc (.cells #[.bool false, .slice none 0 0] 26)).alloc (.cells #[.bool false, .slice none 0 0] 26) := ⟨_, rfl⟩
  have r0 : Row W0 w.heap.size 48 [.slice PA ps.length pc, .slice QA rs.length qc] := by
    rw [hW0]
    have := Row.alloc (Row.alloc (Row.alloc (Row.new w 48 [.slice PA ps.length pc, .slice QA rs.length qc]) (.cells #[.bool false, .slice none 0 0] 26)) (.cells #[.bool false, .slice none 0 0] 26)) (.cells #[.bool false, .slice none 0 0] 26)
    simpa using this
  have r1 : Row W0 (w.heap.size + 1) 26 [.bool false, .slice none 0 0] := by
    rw [hW0]
    have := Row.alloc (Row.alloc (Row.new (w.alloc (.cells #[.slice PA ps.length pc, .slice QA rs.length qc] 48)) 26 [.bool false, .slice none 0 0]) (.cells #[.bool false, .slice none 0 0] 26)) (.cells #[.bool false, .slice none 0 0] 26)
    simpa using this
  have r2 : Row W0 (w.heap.size + 2) 26 [.bool false, .slice none 0 0] := by
    rw [hW0]
    have := Row.alloc (Row.new ((w.alloc (.cells #[.slice PA ps.length pc, .slice QA rs.length qc] 48)).alloc (.cells #[.bool false, .slice none 0 0] 26)) 26 [.bool false, .slice none 0 0]) (.cells #[.bool false, .slice none 0 0] 26)
    simpa using this
  have r3 : Row W0 (w.heap.size + 3) 26 [.bool false, .slice none 0 0] := by
    rw [hW0]
    have := Row.new (((w.alloc (.cells #[.slice PA ps.length pc, .slice QA rs.length qc] 48)).alloc (.cells #[.bool false, .slice none 0 0] 26)).alloc (.cells #[.bool false, .slice none 0 0] 26)) 26 [.bool false, .slice none 0 0]
    simpa using this
  have B0 : Below w.heap.size w W0 := by rw [hW0]; exact (((((Below.refl _ _).alloc (Nat.le_refl _) _).alloc (by simp) _).alloc (by simp; omega) _).alloc (by simp; omega) _)
  have a0 : W0.cell? ⟨w.heap.size, 0, none⟩ = some (.slice PA ps.length pc) := r0.cell 0
  have a1 : W0.cell? ⟨w.heap.size, 1, none⟩ = some (.slice QA rs.length qc) := r0.cell 1
  obtain ⟨n, hnn⟩ : ∃ n, ps.length = n := ⟨_, rfl⟩
  have hwn : ns.length = n := by omega
  have HN := Lib.hid hnn
  have HWN := Lib.hid hwn
  rw [hwn] at hws hwc
  rw [hnn] at hps hpc r0 a0 z1 z2 HZ HT HFB
  rw [hnn] at hW0 HV ⊢
  rw [hwn]
  clear hE hn hT z3 z4 hnn hwn hwu
  go_enter Tryz.func72, Tryz.ntmps72
  go_wp2_with fail
  rw [← hW0]
  clear hW0
  go_wp2_with fail
  refine (HV.out _ B0).mono ?_
  rintro e w1 ⟨rfl, hb1⟩
  have B1 := B0.trans (hb1.mono B0.size)
  obtain ⟨W1, hW1⟩ : ∃ W1 : World, W1 = ((w1.alloc (.cells #[.bool false, .slice none 0 0] 26)).alloc (.cells #[.bool false, .slice none 0 0] 26)).alloc (.cells #[.bool false, .slice none 0 0] 26) := ⟨_, rfl⟩
  have r9 : Row W1 w1.heap.size 26 [.bool false, .slice none 0 0] := by
    rw [hW1]; have := ((Row.new w1 26 [.bool false, .slice none 0 0]).alloc (.cells #[.bool false, .slice none 0 0] 26)).alloc (.cells #[.bool false, .slice none 0 0] 26); simpa using this
  have r10 : Row W1 (w1.heap.size + 1) 26 [.bool false, .slice none 0 0] := by
    rw [hW1]; have := (Row.new (w1.alloc (.cells #[.bool false, .slice none 0 0] 26)) 26 [.bool false, .slice none 0 0]).alloc (.cells #[.bool false, .slice none 0 0] 26); simpa using this
  have r11 : Row W1 (w1.heap.size + 2) 26 [.bool false, .slice none 0 0] := by
    rw [hW1]; have := Row.new ((w1.alloc (.cells #[.bool false, .slice none 0 0] 26)).alloc (.cells #[.bool false, .slice none 0 0] 26)) 26 [.bool false, .slice none 0 0]; simpa using this
  have Bx : Below w1.heap.size w1 W1 := by rw [hW1]; exact ((((Below.refl _ _).alloc (Nat.le_refl _) _).alloc (by simp) _).alloc (by simp; omega) _)
  have r0' := (r0.keep hb1)
  have a10 : w1.cell? ⟨w.heap.size, 0, none⟩ = some (.slice PA n pc) := r0'.cell 0
  have a20 : W1.cell? ⟨w.heap.size, 0, none⟩ = some (.slice PA n pc) := (r0'.keep Bx).cell 0
  rw [hW1] at a20
  go_wp2_with fail
  rw [← hW1]
  have hG1 : w1.heap.size + 3 ≤ W1.heap.size := r11.lt
  have r4 : Row W1 (w.heap.size + 1) 26 [.bool false, .slice none 0 0] := (r1.keep hb1).keep Bx
  have r5 : Row W1 (w.heap.size + 2) 26 [.bool false, .slice none 0 0] := (r2.keep hb1).keep Bx
  have r6 : Row W1 (w.heap.size + 3) 26 [.bool false, .slice none 0 0] := (r3.keep hb1).keep Bx
  have BW1 := B1.trans (Bx.mono B1.size)
  have l6 : w.heap.size + 3 < w1.heap.size := (r3.keep hb1).lt
  clear hW1 a10 a20 r0' r0 r1 r2 r3 HV hb1 Bx B1 a0 a1 B0
  obtain ⟨G, hG⟩ : ∃ G, w1.heap.size = G := ⟨_, rfl⟩
  rw [hG] at r9 r10 r11 l6 hG1 ⊢
  have HGW := Lib.hid hG
  clear hG
  go_loopw [37] (fun i wr => ∃ (k : Nat) (X0 : Option Addr) (K0 C0 : Nat) (X1 : Option Addr) (K1 C1 : Nat) (X2 : Option Addr) (K2 C2 : Nat), k ≤ n ∧ i = .int .i64 (k : Int) ∧ Row wr G 26 [.bool (decide (wF0 ns k < 0)), .slice X0 K0 C0] ∧ IntF (G + 3) wr (.agg #[.bool (decide (wF0 ns k < 0)), .slice X0 K0 C0]) (wF0 ns k) (L + 1) ∧ Row wr (G + 1) 26 [.bool (decide (wF1 ns ps k < 0)), .slice X1 K1 C1] ∧ IntF (G + 3) wr (.agg #[.bool (decide (wF1 ns ps k < 0)), .slice X1 K1 C1]) (wF1 ns ps k) (L + 3) ∧ Row wr (G + 2) 26 [.bool (decide (wF2 ns ps k < 0)), .slice X2 K2 C2] ∧ IntF (G + 3) wr (.agg #[.bool (decide (wF2 ns ps k < 0)), .slice X2 K2 C2]) (wF2 ns ps k) (L + 5) ∧ Row wr (w.heap.size + 1) 26 [.bool false, .slice none 0 0] ∧ Row wr (w.heap.size + 2) 26 [.bool false, .slice none 0 0] ∧ Row wr (w.heap.size + 3) 26 [.bool false, .slice none 0 0] ∧ Below w.heap.size w wr) (fun i _ => n - (intOf i).toNat)
  case atStart => exact ⟨0, none, 0, 0, none, 0, 0, none, 0, 0, by omega, rfl, r9, intf_nil _ _ _, r10, intf_nil _ _ _, r11, intf_nil _ _ _, r4, r5, r6, BW1⟩
  case round =>
    clear r9 r10 r11 r4 r5 r6 BW1
    obtain ⟨k, X0, K0, C0, X1, K1, C1, X2, K2, C2, hk, rfl, hr9, hv9, hr10, hv10, hr11, hv11, hr4, hr5, hr6, BB⟩ := hrel
    by_cases hlt : k < n
    · obtain ⟨b1, o1, rfl, hb1, hcell⟩ := hps.num hlt
      have g1 : wr.cell? ⟨b1, o1 + k, none⟩ = some (.int .i64 (ps.getD k 0)) := (BB.cell (p := ⟨b1, o1 + k, none⟩) hb1).trans (hcell k hlt)
      obtain ⟨b2, o2, uw, rfl, hb2, hc2, hu2⟩ := lst_at (R := fun w u n => NatAny w u n L) (d := 0) (xs := ns) hws HWU.out hlt
      obtain ⟨lw, hwk1, hlv, hlw⟩ := hu2
      have hwk1' := hwk1
      obtain ⟨⟨UA, uc, rfl, _, _, _⟩, _⟩ := hwk1'
      have g2 : wr.cell? ⟨b2, o2 + k, none⟩ = some (.slice UA lw.length uc) := (BB.cell (p := ⟨b2, o2 + k, none⟩) hb2).trans hc2
      obtain ⟨x1, x2, _, _⟩ := HZ.out k hlt
      obtain ⟨x, hx⟩ : ∃ x, ps.getD k 0 = x := ⟨_, rfl⟩
      obtain ⟨y, hy⟩ : ∃ y, ns.getD k 0 = y := ⟨_, rfl⟩
      have HX := Lib.hid hx
      have HY := Lib.hid hy
      have HLW : Hid (sg false (val lw) = ((y : Nat) : Int)) := by unfold Hid; rw [hlv, hy]; rfl
      rw [hx] at g1 x1 x2
      obtain ⟨t0, ht0⟩ : ∃ t, wF0 ns k = t := ⟨_, rfl⟩
      obtain ⟨t1, ht1⟩ : ∃ t, wF1 ns ps k = t := ⟨_, rfl⟩
      obtain ⟨t2, ht2⟩ : ∃ t, wF2 ns ps k = t := ⟨_, rfl⟩
      have HT0 := Lib.hid ht0
      have HT1 := Lib.hid ht1
      have HT2 := Lib.hid ht2
      rw [ht0] at hr9 hv9
      rw [ht1] at hr10 hv10
      rw [ht2] at hr11 hv11
      clear hx hy ht0 ht1 ht2 hlv hcell hc2
      have b0 : L + 1 ≤ 70368744177600 := by omega
      have b1' : L + 3 ≤ 70368744177600 := by omega
      have b2' : L + 5 ≤ 70368744177600 := by omega
      have c90 : wr.cell? ⟨G, 0, none⟩ = some (.bool (decide (t0 < 0))) := hr9.cell 0
      have c91 : wr.cell? ⟨G, 1, none⟩ = some (.slice X0 K0 C0) := hr9.cell 1
      have c100 : wr.cell? ⟨G + 1, 0, none⟩ = some (.bool (decide (t1 < 0))) := hr10.cell 0
      have c101 : wr.cell? ⟨G + 1, 1, none⟩ = some (.slice X1 K1 C1) := hr10.cell 1
      have c110 : wr.cell? ⟨G + 1 + 1, 0, none⟩ = some (.bool (decide (t2 < 0))) := hr11.cell 0
      have c111 : wr.cell? ⟨G + 1 + 1, 1, none⟩ = some (.slice X2 K2 C2) := hr11.cell 1
      have f90 : wr.frozen? ⟨G, 0, none⟩ = false := hr9.frozen 0
      have f91 : wr.frozen? ⟨G, 1, none⟩ = false := hr9.frozen 1
      have f100 : wr.frozen? ⟨G + 1, 0, none⟩ = false := hr10.frozen 0
      have f101 : wr.frozen? ⟨G + 1, 1, none⟩ = false := hr10.frozen 1
      have f110 : wr.frozen? ⟨G + 1 + 1, 0, none⟩ = false := hr11.frozen 0
      have f111 : wr.frozen? ⟨G + 1 + 1, 1, none⟩ = false := hr11.frozen 1
      have z9 := hr9.lt
      have z10 := hr10.lt
      have z11 := hr11.lt
      go_wp2_with fail
      clear c90 c91 c100 c101 c110 c111 f90 f91 f100 f101 f110 f111 z9 z10 z11
      refine (imake_any false _ lw _ (hwk1.below BB) (by omega)).mono ?_
      have hz11 := hr11.lt
      rintro e x1 ⟨v14, rfl, hv14, hb⟩
      replace hr9 := hr9.keep hb
      replace hv9 := hv9.below hb
      replace hr10 := hr10.keep hb
      replace hv10 := hv10.below hb
      replace hr11 := hr11.keep hb
      replace hv11 := hv11.below hb
      replace hr4 := hr4.keep hb
      replace hr5 := hr5.keep hb
      replace hr6 := hr6.keep hb
      replace BB : Below w.heap.size w x1 := BB.trans (hb.mono BB.size)
      clear hb
      rw [HLW.out] at hv14
      have hv14 := hv14.mono (L' := L) hlw
      replace hv14 := hv14.base (b' := G + 3) (by omega)
      have hv14' := hv14
      obtain ⟨m14, e14, hm14, _⟩ := hv14'
      subst e14
      obtain ⟨A14, k14, c14, rfl⟩ := hm14.lim1.choose_spec.1.show_
      clear hm14
      clear hz11
      obtain ⟨g14, hg14⟩ : ∃ g, x1.heap.size = g := ⟨_, rfl⟩
      have hr14 : Row (x1.alloc (.cells #[.bool (decide (((y : Nat) : Int) < 0)), .slice A14 k14 c14] 26)) g14 26 [.bool (decide (((y : Nat) : Int) < 0)), .slice A14 k14 c14] := row_at hg14
      have hl := lit_below x1 (.cells #[.bool (decide (((y : Nat) : Int) < 0)), .slice A14 k14 c14] 26)
      have o9_14 : G < g14 := by have := hr9.lt; omega
      have o10_14 : G + 1 < g14 := by have := hr10.lt; omega
      have o11_14 : G + 1 + 1 < g14 := by have := hr11.lt; omega
      have ob_14 : w.heap.size ≤ g14 := by have := BB.size; omega
      have c90 : x1.cell? ⟨G, 0, none⟩ = some (.bool (decide (t0 < 0))) := hr9.cell 0
      have c91 : x1.cell? ⟨G, 1, none⟩ = some (.slice X0 K0 C0) := hr9.cell 1
      have c100 : x1.cell? ⟨G + 1, 0, none⟩ = some (.bool (decide (t1 < 0))) := hr10.cell 0
      have c101 : x1.cell? ⟨G + 1, 1, none⟩ = some (.slice X1 K1 C1) := hr10.cell 1
      have c110 : x1.cell? ⟨G + 1 + 1, 0, none⟩ = some (.bool (decide (t2 < 0))) := hr11.cell 0
      have c111 : x1.cell? ⟨G + 1 + 1, 1, none⟩ = some (.slice X2 K2 C2) := hr11.cell 1
      have f90 : x1.frozen? ⟨G, 0, none⟩ = false := hr9.frozen 0
      have f91 : x1.frozen? ⟨G, 1, none⟩ = false := hr9.frozen 1
      have f100 : x1.frozen? ⟨G + 1, 0, none⟩ = false := hr10.frozen 0
      have f101 : x1.frozen? ⟨G + 1, 1, none⟩ = false := hr10.frozen 1
      have f110 : x1.frozen? ⟨G + 1 + 1, 0, none⟩ = false := hr11.frozen 0
      have f111 : x1.frozen? ⟨G + 1 + 1, 1, none⟩ = false := hr11.frozen 1
      have d90 : (x1.alloc (.cells #[.bool (decide (((y : Nat) : Int) < 0)), .slice A14 k14 c14] 26)).cell? ⟨G, 0, none⟩ = some (.bool (decide (t0 < 0))) := (hr9.alloc _).cell 0
      have d91 : (x1.alloc (.cells #[.bool (decide (((y : Nat) : Int) < 0)), .slice A14 k14 c14] 26)).cell? ⟨G, 1, none⟩ = some (.slice X0 K0 C0) := (hr9.alloc _).cell 1
      have d100 : (x1.alloc (.cells #[.bool (decide (((y : Nat) : Int) < 0)), .slice A14 k14 c14] 26)).cell? ⟨G + 1, 0, none⟩ = some (.bool (decide (t1 < 0))) := (hr10.alloc _).cell 0
      have d101 : (x1.alloc (.cells #[.bool (decide (((y : Nat) : Int) < 0)), .slice A14 k14 c14] 26)).cell? ⟨G + 1, 1, none⟩ = some (.slice X1 K1 C1) := (hr10.alloc _).cell 1
      have d110 : (x1.alloc (.cells #[.bool (decide (((y : Nat) : Int) < 0)), .slice A14 k14 c14] 26)).cell? ⟨G + 1 + 1, 0, none⟩ = some (.bool (decide (t2 < 0))) := (hr11.alloc _).cell 0
      have d111 : (x1.alloc (.cells #[.bool (decide (((y : Nat) : Int) < 0)), .slice A14 k14 c14] 26)).cell? ⟨G + 1 + 1, 1, none⟩ = some (.slice X2 K2 C2) := (hr11.alloc _).cell 1
      have h90 : (x1.alloc (.cells #[.bool (decide (((y : Nat) : Int) < 0)), .slice A14 k14 c14] 26)).frozen? ⟨G, 0, none⟩ = false := (hr9.alloc _).frozen 0
      have h91 : (x1.alloc (.cells #[.bool (decide (((y : Nat) : Int) < 0)), .slice A14 k14 c14] 26)).frozen? ⟨G, 1, none⟩ = false := (hr9.alloc _).frozen 1
      have h100 : (x1.alloc (.cells #[.bool (decide (((y : Nat) : Int) < 0)), .slice A14 k14 c14] 26)).frozen? ⟨G + 1, 0, none⟩ = false := (hr10.alloc _).frozen 0
      have h101 : (x1.alloc (.cells #[.bool (decide (((y : Nat) : Int) < 0)), .slice A14 k14 c14] 26)).frozen? ⟨G + 1, 1, none⟩ = false := (hr10.alloc _).frozen 1
      have h110 : (x1.alloc (.cells #[.bool (decide (((y : Nat) : Int) < 0)), .slice A14 k14 c14] 26)).frozen? ⟨G + 1 + 1, 0, none⟩ = false := (hr11.alloc _).frozen 0
      have h111 : (x1.alloc (.cells #[.bool (decide (((y : Nat) : Int) < 0)), .slice A14 k14 c14] 26)).frozen? ⟨G + 1 + 1, 1, none⟩ = false := (hr11.alloc _).frozen 1
      have e0 : (x1.alloc (.cells #[.bool (decide (((y : Nat) : Int) < 0)), .slice A14 k14 c14] 26)).cell? ⟨g14, 0, none⟩ = some (.bool (decide (((y : Nat) : Int) < 0))) := hr14.cell 0
      have e1 : (x1.alloc (.cells #[.bool (decide (((y : Nat) : Int) < 0)), .slice A14 k14 c14] 26)).cell? ⟨g14, 1, none⟩ = some (.slice A14 k14 c14) := hr14.cell 1
      go_wp2_with fail
      clear c90 c91 c100 c101 c110 c111 f90 f91 f100 f101 f110 f111 d90 d91 d100 d101 d110 d111 h90 h91 h100 h101 h110 h111 e0 e1
      clear hg14
      generalize (x1.alloc (.cells #[.bool (decide (((y : Nat) : Int) < 0)), .slice A14 k14 c14] 26)) = x2 at *
      replace hr9 := hr9.keep hl
      replace hv9 := hv9.below hl
      replace hr10 := hr10.keep hl
      replace hv10 := hv10.below hl
      replace hr11 := hr11.keep hl
      replace hv11 := hv11.below hl
      replace hr4 := hr4.keep hl
      replace hr5 := hr5.keep hl
      replace hr6 := hr6.keep hl
      replace hv14 := hv14.below hl
      replace BB : Below w.heap.size w x2 := BB.trans (hl.mono BB.size)
      clear hl
      have c90 : x2.cell? ⟨G, 0, none⟩ = some (.bool (decide (t0 < 0))) := hr9.cell 0
      have c91 : x2.cell? ⟨G, 1, none⟩ = some (.slice X0 K0 C0) := hr9.cell 1
      have c100 : x2.cell? ⟨G + 1, 0, none⟩ = some (.bool (decide (t1 < 0))) := hr10.cell 0
      have c101 : x2.cell? ⟨G + 1, 1, none⟩ = some (.slice X1 K1 C1) := hr10.cell 1
      have c110 : x2.cell? ⟨G + 1 + 1, 0, none⟩ = some (.bool (decide (t2 < 0))) := hr11.cell 0
      have c111 : x2.cell? ⟨G + 1 + 1, 1, none⟩ = some (.slice X2 K2 C2) := hr11.cell 1
      have c140 : x2.cell? ⟨g14, 0, none⟩ = some (.bool (decide (((y : Nat) : Int) < 0))) := hr14.cell 0
      have c141 : x2.cell? ⟨g14, 1, none⟩ = some (.slice A14 k14 c14) := hr14.cell 1
      have f90 : x2.frozen? ⟨G, 0, none⟩ = false := hr9.frozen 0
      have f91 : x2.frozen? ⟨G, 1, none⟩ = false := hr9.frozen 1
      have f100 : x2.frozen? ⟨G + 1, 0, none⟩ = false := hr10.frozen 0
      have f101 : x2.frozen? ⟨G + 1, 1, none⟩ = false := hr10.frozen 1
      have f110 : x2.frozen? ⟨G + 1 + 1, 0, none⟩ = false := hr11.frozen 0
      have f111 : x2.frozen? ⟨G + 1 + 1, 1, none⟩ = false := hr11.frozen 1
      have z9 := hr9.lt
      have z10 := hr10.lt
      have z11 := hr11.lt
      have z14 := hr14.lt
      go_wp2_with fail
      clear c90 c91 c100 c101 c110 c111 c140 c141 f90 f91 f100 f101 f110 f111 z9 z10 z11 z14
      refine (iof_any x _ (by omega) (by omega)).mono ?_
      have hz11 := hr11.lt
      rintro e x3 ⟨v15, rfl, hv15, hb⟩
      replace hr9 := hr9.keep hb
      replace hv9 := hv9.below hb
      replace hr10 := hr10.keep hb
      replace hv10 := hv10.below hb
      replace hr11 := hr11.keep hb
      replace hv11 := hv11.below hb
      replace hr4 := hr4.keep hb
      replace hr5 := hr5.keep hb
      replace hr6 := hr6.keep hb
      replace hv14 := hv14.below hb
      replace hr14 := hr14.keep hb
      replace BB : Below w.heap.size w x3 := BB.trans (hb.mono BB.size)
      clear hb
      replace hv15 := hv15.base (b' := G + 3) (by omega)
      have hv15' := hv15
      obtain ⟨m15, e15, hm15, _⟩ := hv15'
      subst e15
      obtain ⟨A15, k15, c15, rfl⟩ := hm15.lim1.choose_spec.1.show_
      clear hm15
      clear hz11
      obtain ⟨g15, hg15⟩ : ∃ g, x3.heap.size = g := ⟨_, rfl⟩
      have hr15 : Row (x3.alloc (.cells #[.bool (decide (x < 0)), .slice A15 k15 c15] 26)) g15 26 [.bool (decide (x < 0)), .slice A15 k15 c15] := row_at hg15
      have hl := lit_below x3 (.cells #[.bool (decide (x < 0)), .slice A15 k15 c15] 26)
      have o9_15 : G < g15 := by have := hr9.lt; omega
      have o10_15 : G + 1 < g15 := by have := hr10.lt; omega
      have o11_15 : G + 1 + 1 < g15 := by have := hr11.lt; omega
      have o14_15 : g14 < g15 := by have := hr14.lt; omega
      have ob_15 : w.heap.size ≤ g15 := by have := BB.size; omega
      have c90 : x3.cell? ⟨G, 0, none⟩ = some (.bool (decide (t0 < 0))) := hr9.cell 0
      have c91 : x3.cell? ⟨G, 1, none⟩ = some (.slice X0 K0 C0) := hr9.cell 1
      have c100 : x3.cell? ⟨G + 1, 0, none⟩ = some (.bool (decide (t1 < 0))) := hr10.cell 0
      have c101 : x3.cell? ⟨G + 1, 1, none⟩ = some (.slice X1 K1 C1) := hr10.cell 1
      have c110 : x3.cell? ⟨G + 1 + 1, 0, none⟩ = some (.bool (decide (t2 < 0))) := hr11.cell 0
      have c111 : x3.cell? ⟨G + 1 + 1, 1, none⟩ = some (.slice X2 K2 C2) := hr11.cell 1
      have c140 : x3.cell? ⟨g14, 0, none⟩ = some (.bool (decide (((y : Nat) : Int) < 0))) := hr14.cell 0
      have c141 : x3.cell? ⟨g14, 1, none⟩ = some (.slice A14 k14 c14) := hr14.cell 1
      have f90 : x3.frozen? ⟨G, 0, none⟩ = false := hr9.frozen 0
      have f91 : x3.frozen? ⟨G, 1, none⟩ = false := hr9.frozen 1
      have f100 : x3.frozen? ⟨G + 1, 0, none⟩ = false := hr10.frozen 0
      have f101 : x3.frozen? ⟨G + 1, 1, none⟩ = false := hr10.frozen 1
      have f110 : x3.frozen? ⟨G + 1 + 1, 0, none⟩ = false := hr11.frozen 0
      have f111 : x3.frozen? ⟨G + 1 + 1, 1, none⟩ = false := hr11.frozen 1
      have d90 : (x3.alloc (.cells #[.bool (decide (x < 0)), .slice A15 k15 c15] 26)).cell? ⟨G, 0, none⟩ = some (.bool (decide (t0 < 0))) := (hr9.alloc _).cell 0
      have d91 : (x3.alloc (.cells #[.bool (decide (x < 0)), .slice A15 k15 c15] 26)).cell? ⟨G, 1, none⟩ = some (.slice X0 K0 C0) := (hr9.alloc _).cell 1
      have d100 : (x3.alloc (.cells #[.bool (decide (x < 0)), .slice A15 k15 c15] 26)).cell? ⟨G + 1, 0, none⟩ = some (.bool (decide (t1 < 0))) := (hr10.alloc _).cell 0
      have d101 : (x3.alloc (.cells #[.bool (decide (x < 0)), .slice A15 k15 c15] 26)).cell? ⟨G + 1, 1, none⟩ = some (.slice X1 K1 C1) := (hr10.alloc _).cell 1
      have d110 : (x3.alloc (.cells #[.bool (decide (x < 0)), .slice A15 k15 c15] 26)).cell? ⟨G + 1 + 1, 0, none⟩ = some (.bool (decide (t2 < 0))) := (hr11.alloc _).cell 0
      have d111 : (x3.alloc (.cells #[.bool (decide (x < 0)), .slice A15 k15 c15] 26)).cell? ⟨G + 1 + 1, 1, none⟩ = some (.slice X2 K2 C2) := (hr11.alloc _).cell 1
      have d140 : (x3.alloc (.cells #[.bool (decide (x < 0)), .slice A15 k15 c15] 26)).cell? ⟨g14, 0, none⟩ = some (.bool (decide (((y : Nat) : Int) < 0))) := (hr14.alloc _).cell 0
      have d141 : (x3.alloc (.cells #[.bool (decide (x < 0)), .slice A15 k15 c15] 26)).cell? ⟨g14, 1, none⟩ = some (.slice A14 k14 c14) := (hr14.alloc _).cell 1
      have h90 : (x3.alloc (.cells #[.bool (decide (x < 0)), .slice A15 k15 c15] 26)).frozen? ⟨G, 0, none⟩ = false := (hr9.alloc _).frozen 0
      have h91 : (x3.alloc (.cells #[.bool (decide (x < 0)), .slice A15 k15 c15] 26)).frozen? ⟨G, 1, none⟩ = false := (hr9.alloc _).frozen 1
      have h100 : (x3.alloc (.cells #[.bool (decide (x < 0)), .slice A15 k15 c15] 26)).frozen? ⟨G + 1, 0, none⟩ = false := (hr10.alloc _).frozen 0
      have h101 : (x3.alloc (.cells #[.bool (decide (x < 0)), .slice A15 k15 c15] 26)).frozen? ⟨G + 1, 1, none⟩ = false := (hr10.alloc _).frozen 1
      have h110 : (x3.alloc (.cells #[.bool (decide (x < 0)), .slice A15 k15 c15] 26)).frozen? ⟨G + 1 + 1, 0, none⟩ = false := (hr11.alloc _).frozen 0
      have h111 : (x3.alloc (.cells #[.bool (decide (x < 0)), .slice A15 k15 c15] 26)).frozen? ⟨G + 1 + 1, 1, none⟩ = false := (hr11.alloc _).frozen 1
      have e0 : (x3.alloc (.cells #[.bool (decide (x < 0)), .slice A15 k15 c15] 26)).cell? ⟨g15, 0, none⟩ = some (.bool (decide (x < 0))) := hr15.cell 0
      have e1 : (x3.alloc (.cells #[.bool (decide (x < 0)), .slice A15 k15 c15] 26)).cell? ⟨g15, 1, none⟩ = some (.slice A15 k15 c15) := hr15.cell 1
      go_wp2_with fail
      clear c90 c91 c100 c101 c110 c111 c140 c141 f90 f91 f100 f101 f110 f111 d90 d91 d100 d101 d110 d111 d140 d141 h90 h91 h100 h101 h110 h111 e0 e1
      clear hg15
      generalize (x3.alloc (.cells #[.bool (decide (x < 0)), .slice A15 k15 c15] 26)) = x4 at *
      replace hr9 := hr9.keep hl
      replace hv9 := hv9.below hl
      replace hr10 := hr10.keep hl
      replace hv10 := hv10.below hl
      replace hr11 := hr11.keep hl
      replace hv11 := hv11.below hl
      replace hr4 := hr4.keep hl
      replace hr5 := hr5.keep hl
      replace hr6 := hr6.keep hl
      replace hv14 := hv14.below hl
      replace hr14 := hr14.keep hl
      replace hv15 := hv15.below hl
      replace BB : Below w.heap.size w x4 := BB.trans (hl.mono BB.size)
      clear hl
      have c90 : x4.cell? ⟨G, 0, none⟩ = some (.bool (decide (t0 < 0))) := hr9.cell 0
      have c91 : x4.cell? ⟨G, 1, none⟩ = some (.slice X0 K0 C0) := hr9.cell 1
      have c100 : x4.cell? ⟨G + 1, 0, none⟩ = some (.bool (decide (t1 < 0))) := hr10.cell 0
      have c101 : x4.cell? ⟨G + 1, 1, none⟩ = some (.slice X1 K1 C1) := hr10.cell 1
      have c110 : x4.cell? ⟨G + 1 + 1, 0, none⟩ = some (.bool (decide (t2 < 0))) := hr11.cell 0
      have c111 : x4.cell? ⟨G + 1 + 1, 1, none⟩ = some (.slice X2 K2 C2) := hr11.cell 1
      have c140 : x4.cell? ⟨g14, 0, none⟩ = some (.bool (decide (((y : Nat) : Int) < 0))) := hr14.cell 0
      have c141 : x4.cell? ⟨g14, 1, none⟩ = some (.slice A14 k14 c14) := hr14.cell 1
      have c150 : x4.cell? ⟨g15, 0, none⟩ = some (.bool (decide (x < 0))) := hr15.cell 0
      have c151 : x4.cell? ⟨g15, 1, none⟩ = some (.slice A15 k15 c15) := hr15.cell 1
      have f90 : x4.frozen? ⟨G, 0, none⟩ = false := hr9.frozen 0
      have f91 : x4.frozen? ⟨G, 1, none⟩ = false := hr9.frozen 1
      have f100 : x4.frozen? ⟨G + 1, 0, none⟩ = false := hr10.frozen 0
      have f101 : x4.frozen? ⟨G + 1, 1, none⟩ = false := hr10.frozen 1
      have f110 : x4.frozen? ⟨G + 1 + 1, 0, none⟩ = false := hr11.frozen 0
      have f111 : x4.frozen? ⟨G + 1 + 1, 1, none⟩ = false := hr11.frozen 1
      have z9 := hr9.lt
      have z10 := hr10.lt
      have z11 := hr11.lt
      have z14 := hr14.lt
      have z15 := hr15.lt
      go_wp2_with fail
      clear c90 c91 c100 c101 c110 c111 c140 c141 c150 c151 f90 f91 f100 f101 f110 f111 z9 z10 z11 z14 z15
      refine (imul_any _ _ ((y : Nat) : Int) x L 2 _ hv14.intA hv15.intA (by omega) (by omega)).mono ?_
      have hz11 := hr11.lt
      rintro e x5 ⟨v16, rfl, hv16, hb⟩
      replace hr9 := hr9.keep hb
      replace hv9 := hv9.below hb
      replace hr10 := hr10.keep hb
      replace hv10 := hv10.below hb
      replace hr11 := hr11.keep hb
      replace hv11 := hv11.below hb
      replace hr4 := hr4.keep hb
      replace hr5 := hr5.keep hb
      replace hr6 := hr6.keep hb
      replace hv14 := hv14.below hb
      replace hr14 := hr14.keep hb
      replace hv15 := hv15.below hb
      replace hr15 := hr15.keep hb
      replace BB : Below w.heap.size w x5 := BB.trans (hb.mono BB.size)
      clear hb
      replace hv16 := hv16.base (b' := G + 3) (by omega)
      have hv16' := hv16
      obtain ⟨m16, e16, hm16, _⟩ := hv16'
      subst e16
      obtain ⟨A16, k16, c16, rfl⟩ := hm16.lim1.choose_spec.1.show_
      clear hm16
      clear hz11
      obtain ⟨g16, hg16⟩ : ∃ g, x5.heap.size = g := ⟨_, rfl⟩
      have hr16 : Row (x5.alloc (.cells #[.bool (decide (((y : Nat) : Int) * x < 0)), .slice A16 k16 c16] 26)) g16 26 [.bool (decide (((y : Nat) : Int) * x < 0)), .slice A16 k16 c16] := row_at hg16
      have hl := lit_below x5 (.cells #[.bool (decide (((y : Nat) : Int) * x < 0)), .slice A16 k16 c16] 26)
      have o9_16 : G < g16 := by have := hr9.lt; omega
      have o10_16 : G + 1 < g16 := by have := hr10.lt; omega
      have o11_16 : G + 1 + 1 < g16 := by have := hr11.lt; omega
      have o14_16 : g14 < g16 := by have := hr14.lt; omega
      have o15_16 : g15 < g16 := by have := hr15.lt; omega
      have ob_16 : w.heap.size ≤ g16 := by have := BB.size; omega
      have c90 : x5.cell? ⟨G, 0, none⟩ = some (.bool (decide (t0 < 0))) := hr9.cell 0
      have c91 : x5.cell? ⟨G, 1, none⟩ = some (.slice X0 K0 C0) := hr9.cell 1
      have c100 : x5.cell? ⟨G + 1, 0, none⟩ = some (.bool (decide (t1 < 0))) := hr10.cell 0
      have c101 : x5.cell? ⟨G + 1, 1, none⟩ = some (.slice X1 K1 C1) := hr10.cell 1
      have c110 : x5.cell? ⟨G + 1 + 1, 0, none⟩ = some (.bool (decide (t2 < 0))) := hr11.cell 0
      have c111 : x5.cell? ⟨G + 1 + 1, 1, none⟩ = some (.slice X2 K2 C2) := hr11.cell 1
      have c140 : x5.cell? ⟨g14, 0, none⟩ = some (.bool (decide (((y : Nat) : Int) < 0))) := hr14.cell 0
      have c141 : x5.cell? ⟨g14, 1, none⟩ = some (.slice A14 k14 c14) := hr14.cell 1
      have c150 : x5.cell? ⟨g15, 0, none⟩ = some (.bool (decide (x < 0))) := hr15.cell 0
      have c151 : x5.cell? ⟨g15, 1, none⟩ = some (.slice A15 k15 c15) := hr15.cell 1
      have f90 : x5.frozen? ⟨G, 0, none⟩ = false := hr9.frozen 0
      have f91 : x5.frozen? ⟨G, 1, none⟩ = false := hr9.frozen 1
      have f100 : x5.frozen? ⟨G + 1, 0, none⟩ = false := hr10.frozen 0
      have f101 : x5.frozen? ⟨G + 1, 1, none⟩ = false := hr10.frozen 1
      have f110 : x5.frozen? ⟨G + 1 + 1, 0, none⟩ = false := hr11.frozen 0
      have f111 : x5.frozen? ⟨G + 1 + 1, 1, none⟩ = false := hr11.frozen 1
      have d90 : (x5.alloc (.cells #[.bool (decide (((y : Nat) : Int) * x < 0)), .slice A16 k16 c16] 26)).cell? ⟨G, 0, none⟩ = some (.bool (decide (t0 < 0))) := (hr9.alloc _).cell 0
      have d91 : (x5.alloc (.cells #[.bool (decide (((y : Nat) : Int) * x < 0)), .slice A16 k16 c16] 26)).cell? ⟨G, 1, none⟩ = some (.slice X0 K0 C0) := (hr9.alloc _).cell 1
      have d100 : (x5.alloc (.cells #[.bool (decide (((y : Nat) : Int) * x < 0)), .slice A16 k16 c16] 26)).cell? ⟨G + 1, 0, none⟩ = some (.bool (decide (t1 < 0))) := (hr10.alloc _).cell 0
      have d101 : (x5.alloc (.cells #[.bool (decide (((y : Nat) : Int) * x < 0)), .slice A16 k16 c16] 26)).cell? ⟨G + 1, 1, none⟩ = some (.slice X1 K1 C1) := (hr10.alloc _).cell 1
      have d110 : (x5.alloc (.cells #[.bool (decide (((y : Nat) : Int) * x < 0)), .slice A16 k16 c16] 26)).cell? ⟨G + 1 + 1, 0, none⟩ = some (.bool (decide (t2 < 0))) := (hr11.alloc _).cell 0
      have d111 : (x5.alloc (.cells #[.bool (decide (((y : Nat) : Int) * x < 0)), .slice A16 k16 c16] 26)).cell? ⟨G + 1 + 1, 1, none⟩ = some (.slice X2 K2 C2) := (hr11.alloc _).cell 1
      have d140 : (x5.alloc (.cells #[.bool (decide (((y : Nat) : Int) * x < 0)), .slice A16 k16 c16] 26)).cell? ⟨g14, 0, none⟩ = some (.bool (decide (((y : Nat) : Int) < 0))) := (hr14.alloc _).cell 0
      have d141 : (x5.alloc (.cells #[.bool (decide (((y : Nat) : Int) * x < 0)), .slice A16 k16 c16] 26)).cell? ⟨g14, 1, none⟩ = some (.slice A14 k14 c14) := (hr14.alloc _).cell 1
      have d150 : (x5.alloc (.cells #[.bool (decide (((y : Nat) : Int) * x < 0)), .slice A16 k16 c16] 26)).cell? ⟨g15, 0, none⟩ = some (.bool (decide (x < 0))) := (hr15.alloc _).cell 0
      have d151 : (x5.alloc (.cells #[.bool (decide (((y : Nat) : Int) * x < 0)), .slice A16 k16 c16] 26)).cell? ⟨g15, 1, none⟩ = some (.slice A15 k15 c15) := (hr15.alloc _).cell 1
      have h90 : (x5.alloc (.cells #[.bool (decide (((y : Nat) : Int) * x < 0)), .slice A16 k16 c16] 26)).frozen? ⟨G, 0, none⟩ = false := (hr9.alloc _).frozen 0
      have h91 : (x5.alloc (.cells #[.bool (decide (((y : Nat) : Int) * x < 0)), .slice A16 k16 c16] 26)).frozen? ⟨G, 1, none⟩ = false := (hr9.alloc _).frozen 1
      have h100 : (x5.alloc (.cells #[.bool (decide (((y : Nat) : Int) * x < 0)), .slice A16 k16 c16] 26)).frozen? ⟨G + 1, 0, none⟩ = false := (hr10.alloc _).frozen 0
      have h101 : (x5.alloc (.cells #[.bool (decide (((y : Nat) : Int) * x < 0)), .slice A16 k16 c16] 26)).frozen? ⟨G + 1, 1, none⟩ = false := (hr10.alloc _).frozen 1
      have h110 : (x5.alloc (.cells #[.bool (decide (((y : Nat) : Int) * x < 0)), .slice A16 k16 c16] 26)).frozen? ⟨G + 1 + 1, 0, none⟩ = false := (hr11.alloc _).frozen 0
      have h111 : (x5.alloc (.cells #[.bool (decide (((y : Nat) : Int) * x < 0)), .slice A16 k16 c16] 26)).frozen? ⟨G + 1 + 1, 1, none⟩ = false := (hr11.alloc _).frozen 1
      have e0 : (x5.alloc (.cells #[.bool (decide (((y : Nat) : Int) * x < 0)), .slice A16 k16 c16] 26)).cell? ⟨g16, 0, none⟩ = some (.bool (decide (((y : Nat) : Int) * x < 0))) := hr16.cell 0
      have e1 : (x5.alloc (.cells #[.bool (decide (((y : Nat) : Int) * x < 0)), .slice A16 k16 c16] 26)).cell? ⟨g16, 1, none⟩ = some (.slice A16 k16 c16) := hr16.cell 1
      go_wp2_with fail
      clear c90 c91 c100 c101 c110 c111 c140 c141 c150 c151 f90 f91 f100 f101 f110 f111 d90 d91 d100 d101 d110 d111 d140 d141 d150 d151 h90 h91 h100 h101 h110 h111 e0 e1
      clear hg16
      generalize (x5.alloc (.cells #[.bool (decide (((y : Nat) : Int) * x < 0)), .slice A16 k16 c16] 26)) = x6 at *
      replace hr9 := hr9.keep hl
      replace hv9 := hv9.below hl
      replace hr10 := hr10.keep hl
      replace hv10 := hv10.below hl
      replace hr11 := hr11.keep hl
      replace hv11 := hv11.below hl
      replace hr4 := hr4.keep hl
      replace hr5 := hr5.keep hl
      replace hr6 := hr6.keep hl
      replace hv14 := hv14.below hl
      replace hr14 := hr14.keep hl
      replace hv15 := hv15.below hl
      replace hr15 := hr15.keep hl
      replace hv16 := hv16.below hl
      replace BB : Below w.heap.size w x6 := BB.trans (hl.mono BB.size)
      clear hl
      have c90 : x6.cell? ⟨G, 0, none⟩ = some (.bool (decide (t0 < 0))) := hr9.cell 0
      have c91 : x6.cell? ⟨G, 1, none⟩ = some (.slice X0 K0 C0) := hr9.cell 1
      have c100 : x6.cell? ⟨G + 1, 0, none⟩ = some (.bool (decide (t1 < 0))) := hr10.cell 0
      have c101 : x6.cell? ⟨G + 1, 1, none⟩ = some (.slice X1 K1 C1) := hr10.cell 1
      have c110 : x6.cell? ⟨G + 1 + 1, 0, none⟩ = some (.bool (decide (t2 < 0))) := hr11.cell 0
      have c111 : x6.cell? ⟨G + 1 + 1, 1, none⟩ = some (.slice X2 K2 C2) := hr11.cell 1
      have c140 : x6.cell? ⟨g14, 0, none⟩ = some (.bool (decide (((y : Nat) : Int) < 0))) := hr14.cell 0
      have c141 : x6.cell? ⟨g14, 1, none⟩ = some (.slice A14 k14 c14) := hr14.cell 1
      have c150 : x6.cell? ⟨g15, 0, none⟩ = some (.bool (decide (x < 0))) := hr15.cell 0
      have c151 : x6.cell? ⟨g15, 1, none⟩ = some (.slice A15 k15 c15) := hr15.cell 1
      have c160 : x6.cell? ⟨g16, 0, none⟩ = some (.bool (decide (((y : Nat) : Int) * x < 0))) := hr16.cell 0
      have c161 : x6.cell? ⟨g16, 1, none⟩ = some (.slice A16 k16 c16) := hr16.cell 1
      have f90 : x6.frozen? ⟨G, 0, none⟩ = false := hr9.frozen 0
      have f91 : x6.frozen? ⟨G, 1, none⟩ = false := hr9.frozen 1
      have f100 : x6.frozen? ⟨G + 1, 0, none⟩ = false := hr10.frozen 0
      have f101 : x6.frozen? ⟨G + 1, 1, none⟩ = false := hr10.frozen 1
      have f110 : x6.frozen? ⟨G + 1 + 1, 0, none⟩ = false := hr11.frozen 0
      have f111 : x6.frozen? ⟨G + 1 + 1, 1, none⟩ = false := hr11.frozen 1
      have z9 := hr9.lt
      have z10 := hr10.lt
      have z11 := hr11.lt
      have z14 := hr14.lt
      have z15 := hr15.lt
      have z16 := hr16.lt
      go_wp2_with fail
      clear c90 c91 c100 c101 c110 c111 c140 c141 c150 c151 c160 c161 f90 f91 f100 f101 f110 f111 z9 z10 z11 z14 z15 z16
      refine (iadd_any _ _ t0 ((y : Nat) : Int) (L + 1) L _ hv9.intA hv14.intA b0 (by omega)).mono ?_
      have hz11 := hr11.lt
      rintro e x7 ⟨v17, rfl, hv17, hb⟩
      replace hr9 := hr9.keep hb
      replace hv9 := hv9.below hb
      replace hr10 := hr10.keep hb
      replace hv10 := hv10.below hb
      replace hr11 := hr11.keep hb
      replace hv11 := hv11.below hb
      replace hr4 := hr4.keep hb
      replace hr5 := hr5.keep hb
      replace hr6 := hr6.keep hb
      replace hv14 := hv14.below hb
      replace hr14 := hr14.keep hb
      replace hv15 := hv15.below hb
      replace hr15 := hr15.keep hb
      replace hv16 := hv16.below hb
      replace hr16 := hr16.keep hb
      replace BB : Below w.heap.size w x7 := BB.trans (hb.mono BB.size)
      clear hb
      replace hv17 := hv17.base (b' := G + 3) (by omega)
      have hv17' := hv17
      obtain ⟨m17, e17, hm17, _⟩ := hv17'
      subst e17
      obtain ⟨A17, k17, c17, rfl⟩ := hm17.lim1.choose_spec.1.show_
      clear hm17
      clear hz11
      have c90 : x7.cell? ⟨G, 0, none⟩ = some (.bool (decide (t0 < 0))) := hr9.cell 0
      have c91 : x7.cell? ⟨G, 1, none⟩ = some (.slice X0 K0 C0) := hr9.cell 1
      have c100 : x7.cell? ⟨G + 1, 0, none⟩ = some (.bool (decide (t1 < 0))) := hr10.cell 0
      have c101 : x7.cell? ⟨G + 1, 1, none⟩ = some (.slice X1 K1 C1) := hr10.cell 1
      have c110 : x7.cell? ⟨G + 1 + 1, 0, none⟩ = some (.bool (decide (t2 < 0))) := hr11.cell 0
      have c111 : x7.cell? ⟨G + 1 + 1, 1, none⟩ = some (.slice X2 K2 C2) := hr11.cell 1
      have c140 : x7.cell? ⟨g14, 0, none⟩ = some (.bool (decide (((y : Nat) : Int) < 0))) := hr14.cell 0
      have c141 : x7.cell? ⟨g14, 1, none⟩ = some (.slice A14 k14 c14) := hr14.cell 1
      have c150 : x7.cell? ⟨g15, 0, none⟩ = some (.bool (decide (x < 0))) := hr15.cell 0
      have c151 : x7.cell? ⟨g15, 1, none⟩ = some (.slice A15 k15 c15) := hr15.cell 1
      have c160 : x7.cell? ⟨g16, 0, none⟩ = some (.bool (decide (((y : Nat) : Int) * x < 0))) := hr16.cell 0
      have c161 : x7.cell? ⟨g16, 1, none⟩ = some (.slice A16 k16 c16) := hr16.cell 1
      have f90 : x7.frozen? ⟨G, 0, none⟩ = false := hr9.frozen 0
      have f91 : x7.frozen? ⟨G, 1, none⟩ = false := hr9.frozen 1
      have f100 : x7.frozen? ⟨G + 1, 0, none⟩ = false := hr10.frozen 0
      have f101 : x7.frozen? ⟨G + 1, 1, none⟩ = false := hr10.frozen 1
      have f110 : x7.frozen? ⟨G + 1 + 1, 0, none⟩ = false := hr11.frozen 0
      have f111 : x7.frozen? ⟨G + 1 + 1, 1, none⟩ = false := hr11.frozen 1
      have z9 := hr9.lt
      have z10 := hr10.lt
      have z11 := hr11.lt
      have z14 := hr14.lt
      have z15 := hr15.lt
      have z16 := hr16.lt
      have nhr9 : Row ((x7.setCell ⟨G, 0, none⟩ (.bool (decide (t0 + ((y : Nat) : Int) < 0)))).setCell ⟨G, 1, none⟩ (.slice A17 k17 c17)) (G) 26 [.bool (decide (t0 + ((y : Nat) : Int) < 0)), .slice A17 k17 c17] := ((hr9.set_ 0 (.bool (decide (t0 + ((y : Nat) : Int) < 0)))).set_ 1 (.slice A17 k17 c17))
      have nhr10 : Row ((x7.setCell ⟨G, 0, none⟩ (.bool (decide (t0 + ((y : Nat) : Int) < 0)))).setCell ⟨G, 1, none⟩ (.slice A17 k17 c17)) (G + 1) 26 [.bool (decide (t1 < 0)), .slice X1 K1 C1] := ((hr10.far (by show G + 1 ≠ G; omega) _).far (by show G + 1 ≠ G; omega) _)
      have nhr11 : Row ((x7.setCell ⟨G, 0, none⟩ (.bool (decide (t0 + ((y : Nat) : Int) < 0)))).setCell ⟨G, 1, none⟩ (.slice A17 k17 c17)) (G + 1 + 1) 26 [.bool (decide (t2 < 0)), .slice X2 K2 C2] := ((hr11.far (by show G + 1 + 1 ≠ G; omega) _).far (by show G + 1 + 1 ≠ G; omega) _)
      have nhr14 : Row ((x7.setCell ⟨G, 0, none⟩ (.bool (decide (t0 + ((y : Nat) : Int) < 0)))).setCell ⟨G, 1, none⟩ (.slice A17 k17 c17)) (g14) 26 [.bool (decide (((y : Nat) : Int) < 0)), .slice A14 k14 c14] := ((hr14.far (by show g14 ≠ G; omega) _).far (by show g14 ≠ G; omega) _)
      have nhr15 : Row ((x7.setCell ⟨G, 0, none⟩ (.bool (decide (t0 + ((y : Nat) : Int) < 0)))).setCell ⟨G, 1, none⟩ (.slice A17 k17 c17)) (g15) 26 [.bool (decide (x < 0)), .slice A15 k15 c15] := ((hr15.far (by show g15 ≠ G; omega) _).far (by show g15 ≠ G; omega) _)
      have nhr16 : Row ((x7.setCell ⟨G, 0, none⟩ (.bool (decide (t0 + ((y : Nat) : Int) < 0)))).setCell ⟨G, 1, none⟩ (.slice A17 k17 c17)) (g16) 26 [.bool (decide (((y : Nat) : Int) * x < 0)), .slice A16 k16 c16] := ((hr16.far (by show g16 ≠ G; omega) _).far (by show g16 ≠ G; omega) _)
      have nhr4 : Row ((x7.setCell ⟨G, 0, none⟩ (.bool (decide (t0 + ((y : Nat) : Int) < 0)))).setCell ⟨G, 1, none⟩ (.slice A17 k17 c17)) (w.heap.size + 1) 26 [.bool false, .slice none 0 0] := ((hr4.far (by show w.heap.size + 1 ≠ G; omega) _).far (by show w.heap.size + 1 ≠ G; omega) _)
      have nhr5 : Row ((x7.setCell ⟨G, 0, none⟩ (.bool (decide (t0 + ((y : Nat) : Int) < 0)))).setCell ⟨G, 1, none⟩ (.slice A17 k17 c17)) (w.heap.size + 2) 26 [.bool false, .slice none 0 0] := ((hr5.far (by show w.heap.size + 2 ≠ G; omega) _).far (by show w.heap.size + 2 ≠ G; omega) _)
      have nhr6 : Row ((x7.setCell ⟨G, 0, none⟩ (.bool (decide (t0 + ((y : Nat) : Int) < 0)))).setCell ⟨G, 1, none⟩ (.slice A17 k17 c17)) (w.heap.size + 3) 26 [.bool false, .slice none 0 0] := ((hr6.far (by show w.heap.size + 3 ≠ G; omega) _).far (by show w.heap.size + 3 ≠ G; omega) _)
      have nBB : Below w.heap.size w ((x7.setCell ⟨G, 0, none⟩ (.bool (decide (t0 + ((y : Nat) : Int) < 0)))).setCell ⟨G, 1, none⟩ (.slice A17 k17 c17)) := ((BB.setCell (by show w.heap.size ≤ G; omega) _).setCell (by show w.heap.size ≤ G; omega) _)
      have nhv9 := ((hv9.set_ (q := ⟨G, 0, none⟩) (by show G < _; omega) (.bool (decide (t0 + ((y : Nat) : Int) < 0)))).set_ (q := ⟨G, 1, none⟩) (by show G < _; omega) (.slice A17 k17 c17))
      have nhv10 := ((hv10.set_ (q := ⟨G, 0, none⟩) (by show G < _; omega) (.bool (decide (t0 + ((y : Nat) : Int) < 0)))).set_ (q := ⟨G, 1, none⟩) (by show G < _; omega) (.slice A17 k17 c17))
      have nhv11 := ((hv11.set_ (q := ⟨G, 0, none⟩) (by show G < _; omega) (.bool (decide (t0 + ((y : Nat) : Int) < 0)))).set_ (q := ⟨G, 1, none⟩) (by show G < _; omega) (.slice A17 k17 c17))
      have nhv14 := ((hv14.set_ (q := ⟨G, 0, none⟩) (by show G < _; omega) (.bool (decide (t0 + ((y : Nat) : Int) < 0)))).set_ (q := ⟨G, 1, none⟩) (by show G < _; omega) (.slice A17 k17 c17))
      have nhv15 := ((hv15.set_ (q := ⟨G, 0, none⟩) (by show G < _; omega) (.bool (decide (t0 + ((y : Nat) : Int) < 0)))).set_ (q := ⟨G, 1, none⟩) (by show G < _; omega) (.slice A17 k17 c17))
      have nhv16 := ((hv16.set_ (q := ⟨G, 0, none⟩) (by show G < _; omega) (.bool (decide (t0 + ((y : Nat) : Int) < 0)))).set_ (q := ⟨G, 1, none⟩) (by show G < _; omega) (.slice A17 k17 c17))
      have nhv17 := ((hv17.set_ (q := ⟨G, 0, none⟩) (by show G < _; omega) (.bool (decide (t0 + ((y : Nat) : Int) < 0)))).set_ (q := ⟨G, 1, none⟩) (by show G < _; omega) (.slice A17 k17 c17))
      have d90 : ((x7.setCell ⟨G, 0, none⟩ (.bool (decide (t0 + ((y : Nat) : Int) < 0)))).setCell ⟨G, 1, none⟩ (.slice A17 k17 c17)).cell? ⟨G, 0, none⟩ = some (.bool (decide (t0 + ((y : Nat) : Int) < 0))) := nhr9.cell 0
      have d91 : ((x7.setCell ⟨G, 0, none⟩ (.bool (decide (t0 + ((y : Nat) : Int) < 0)))).setCell ⟨G, 1, none⟩ (.slice A17 k17 c17)).cell? ⟨G, 1, none⟩ = some (.slice A17 k17 c17) := nhr9.cell 1
      have d100 : ((x7.setCell ⟨G, 0, none⟩ (.bool (decide (t0 + ((y : Nat) : Int) < 0)))).setCell ⟨G, 1, none⟩ (.slice A17 k17 c17)).cell? ⟨G + 1, 0, none⟩ = some (.bool (decide (t1 < 0))) := nhr10.cell 0
      have d101 : ((x7.setCell ⟨G, 0, none⟩ (.bool (decide (t0 + ((y : Nat) : Int) < 0)))).setCell ⟨G, 1, none⟩ (.slice A17 k17 c17)).cell? ⟨G + 1, 1, none⟩ = some (.slice X1 K1 C1) := nhr10.cell 1
      have d110 : ((x7.setCell ⟨G, 0, none⟩ (.bool (decide (t0 + ((y : Nat) : Int) < 0)))).setCell ⟨G, 1, none⟩ (.slice A17 k17 c17)).cell? ⟨G + 1 + 1, 0, none⟩ = some (.bool (decide (t2 < 0))) := nhr11.cell 0
      have d111 : ((x7.setCell ⟨G, 0, none⟩ (.bool (decide (t0 + ((y : Nat) : Int) < 0)))).setCell ⟨G, 1, none⟩ (.slice A17 k17 c17)).cell? ⟨G + 1 + 1, 1, none⟩ = some (.slice X2 K2 C2) := nhr11.cell 1
      have d140 : ((x7.setCell ⟨G, 0, none⟩ (.bool (decide (t0 + ((y : Nat) : Int) < 0)))).setCell ⟨G, 1, none⟩ (.slice A17 k17 c17)).cell? ⟨g14, 0, none⟩ = some (.bool (decide (((y : Nat) : Int) < 0))) := nhr14.cell 0
      have d141 : ((x7.setCell ⟨G, 0, none⟩ (.bool (decide (t0 + ((y : Nat) : Int) < 0)))).setCell ⟨G, 1, none⟩ (.slice A17 k17 c17)).cell? ⟨g14, 1, none⟩ = some (.slice A14 k14 c14) := nhr14.cell 1
      have d150 : ((x7.setCell ⟨G, 0, none⟩ (.bool (decide (t0 + ((y : Nat) : Int) < 0)))).setCell ⟨G, 1, none⟩ (.slice A17 k17 c17)).cell? ⟨g15, 0, none⟩ = some (.bool (decide (x < 0))) := nhr15.cell 0
      have d151 : ((x7.setCell ⟨G, 0, none⟩ (.bool (decide (t0 + ((y : Nat) : Int) < 0)))).setCell ⟨G, 1, none⟩ (.slice A17 k17 c17)).cell? ⟨g15, 1, none⟩ = some (.slice A15 k15 c15) := nhr15.cell 1
      have d160 : ((x7.setCell ⟨G, 0, none⟩ (.bool (decide (t0 + ((y : Nat) : Int) < 0)))).setCell ⟨G, 1, none⟩ (.slice A17 k17 c17)).cell? ⟨g16, 0, none⟩ = some (.bool (decide (((y : Nat) : Int) * x < 0))) := nhr16.cell 0
      have d161 : ((x7.setCell ⟨G, 0, none⟩ (.bool (decide (t0 + ((y : Nat) : Int) < 0)))).setCell ⟨G, 1, none⟩ (.slice A17 k17 c17)).cell? ⟨g16, 1, none⟩ = some (.slice A16 k16 c16) := nhr16.cell 1
      have h90 : ((x7.setCell ⟨G, 0, none⟩ (.bool (decide (t0 + ((y : Nat) : Int) < 0)))).setCell ⟨G, 1, none⟩ (.slice A17 k17 c17)).frozen? ⟨G, 0, none⟩ = false := nhr9.frozen 0
      have h91 : ((x7.setCell ⟨G, 0, none⟩ (.bool (decide (t0 + ((y : Nat) : Int) < 0)))).setCell ⟨G, 1, none⟩ (.slice A17 k17 c17)).frozen? ⟨G, 1, none⟩ = false := nhr9.frozen 1
      have h100 : ((x7.setCell ⟨G, 0, none⟩ (.bool (decide (t0 + ((y : Nat) : Int) < 0)))).setCell ⟨G, 1, none⟩ (.slice A17 k17 c17)).frozen? ⟨G + 1, 0, none⟩ = false := nhr10.frozen 0
      have h101 : ((x7.setCell ⟨G, 0, none⟩ (.bool (decide (t0 + ((y : Nat) : Int) < 0)))).setCell ⟨G, 1, none⟩ (.slice A17 k17 c17)).frozen? ⟨G + 1, 1, none⟩ = false := nhr10.frozen 1
      have h110 : ((x7.setCell ⟨G, 0, none⟩ (.bool (decide (t0 + ((y : Nat) : Int) < 0)))).setCell ⟨G, 1, none⟩ (.slice A17 k17 c17)).frozen? ⟨G + 1 + 1, 0, none⟩ = false := nhr11.frozen 0
      have h111 : ((x7.setCell ⟨G, 0, none⟩ (.bool (decide (t0 + ((y : Nat) : Int) < 0)))).setCell ⟨G, 1, none⟩ (.slice A17 k17 c17)).frozen? ⟨G + 1 + 1, 1, none⟩ = false := nhr11.frozen 1
      go_wp2_with fail
      clear d90 d91 d100 d101 d110 d111 d140 d141 d150 d151 d160 d161 h90 h91 h100 h101 h110 h111 c90 c91 c100 c101 c110 c111 c140 c141 c150 c151 c160 c161 f90 f91 f100 f101 f110 f111 z9 z10 z11 z14 z15 z16
      replace hr9 := nhr9
      clear nhr9
      replace hv9 := nhv9
      clear nhv9
      replace hr10 := nhr10
      clear nhr10
      replace hv10 := nhv10
      clear nhv10
      replace hr11 := nhr11
      clear nhr11
      replace hv11 := nhv11
      clear nhv11
      replace hr4 := nhr4
      clear nhr4
      replace hr5 := nhr5
      clear nhr5
      replace hr6 := nhr6
      clear nhr6
      replace hv14 := nhv14
      clear nhv14
      replace hr14 := nhr14
      clear nhr14
      replace hv15 := nhv15
      clear nhv15
      replace hr15 := nhr15
      clear nhr15
      replace hv16 := nhv16
      clear nhv16
      replace hr16 := nhr16
      clear nhr16
      replace hv17 := nhv17
      clear nhv17
      replace BB := nBB
      clear nBB
      generalize ((x7.setCell ⟨G, 0, none⟩ (.bool (decide (t0 + ((y : Nat) : Int) < 0)))).setCell ⟨G, 1, none⟩ (.slice A17 k17 c17)) = x8 at *
      refine (iadd_any _ _ t1 (((y : Nat) : Int) * x) (L + 3) (L + 2) _ hv10.intA hv16.intA b1' (by omega)).mono ?_
      have hz11 := hr11.lt
      rintro e x9 ⟨v18, rfl, hv18, hb⟩
      replace hr9 := hr9.keep hb
      replace hv9 := hv9.below hb
      replace hr10 := hr10.keep hb
      replace hv10 := hv10.below hb
      replace hr11 := hr11.keep hb
      replace hv11 := hv11.below hb
      replace hr4 := hr4.keep hb
      replace hr5 := hr5.keep hb
      replace hr6 := hr6.keep hb
      replace hv14 := hv14.below hb
      replace hr14 := hr14.keep hb
      replace hv15 := hv15.below hb
      replace hr15 := hr15.keep hb
      replace hv16 := hv16.below hb
      replace hr16 := hr16.keep hb
      replace hv17 := hv17.below hb
      replace BB : Below w.heap.size w x9 := BB.trans (hb.mono BB.size)
      clear hb
      replace hv18 := hv18.base (b' := G + 3) (by omega)
      have hv18' := hv18
      obtain ⟨m18, e18, hm18, _⟩ := hv18'
      subst e18
      obtain ⟨A18, k18, c18, rfl⟩ := hm18.lim1.choose_spec.1.show_
      clear hm18
      clear hz11
      have c90 : x9.cell? ⟨G, 0, none⟩ = some (.bool (decide (t0 + ((y : Nat) : Int) < 0))) := hr9.cell 0
      have c91 : x9.cell? ⟨G, 1, none⟩ = some (.slice A17 k17 c17) := hr9.cell 1
      have c100 : x9.cell? ⟨G + 1, 0, none⟩ = some (.bool (decide (t1 < 0))) := hr10.cell 0
      have c101 : x9.cell? ⟨G + 1, 1, none⟩ = some (.slice X1 K1 C1) := hr10.cell 1
      have c110 : x9.cell? ⟨G + 1 + 1, 0, none⟩ = some (.bool (decide (t2 < 0))) := hr11.cell 0
      have c111 : x9.cell? ⟨G + 1 + 1, 1, none⟩ = some (.slice X2 K2 C2) := hr11.cell 1
      have c140 : x9.cell? ⟨g14, 0, none⟩ = some (.bool (decide (((y : Nat) : Int) < 0))) := hr14.cell 0
      have c141 : x9.cell? ⟨g14, 1, none⟩ = some (.slice A14 k14 c14) := hr14.cell 1
      have c150 : x9.cell? ⟨g15, 0, none⟩ = some (.bool (decide (x < 0))) := hr15.cell 0
      have c151 : x9.cell? ⟨g15, 1, none⟩ = some (.slice A15 k15 c15) := hr15.cell 1
      have c160 : x9.cell? ⟨g16, 0, none⟩ = some (.bool (decide (((y : Nat) : Int) * x < 0))) := hr16.cell 0
      have c161 : x9.cell? ⟨g16, 1, none⟩ = some (.slice A16 k16 c16) := hr16.cell 1
      have f90 : x9.frozen? ⟨G, 0, none⟩ = false := hr9.frozen 0
      have f91 : x9.frozen? ⟨G, 1, none⟩ = false := hr9.frozen 1
      have f100 : x9.frozen? ⟨G + 1, 0, none⟩ = false := hr10.frozen 0
      have f101 : x9.frozen? ⟨G + 1, 1, none⟩ = false := hr10.frozen 1
      have f110 : x9.frozen? ⟨G + 1 + 1, 0, none⟩ = false := hr11.frozen 0
      have f111 : x9.frozen? ⟨G + 1 + 1, 1, none⟩ = false := hr11.frozen 1
      have z9 := hr9.lt
      have z10 := hr10.lt
      have z11 := hr11.lt
      have z14 := hr14.lt
      have z15 := hr15.lt
      have z16 := hr16.lt
      have nhr9 : Row ((x9.setCell ⟨G + 1, 0, none⟩ (.bool (decide (t1 + ((y : Nat) : Int) * x < 0)))).setCell ⟨G + 1, 1, none⟩ (.slice A18 k18 c18)) (G) 26 [.bool (decide (t0 + ((y : Nat) : Int) < 0)), .slice A17 k17 c17] := ((hr9.far (by show G ≠ G + 1; omega) _).far (by show G ≠ G + 1; omega) _)
      have nhr10 : Row ((x9.setCell ⟨G + 1, 0, none⟩ (.bool (decide (t1 + ((y : Nat) : Int) * x < 0)))).setCell ⟨G + 1, 1, none⟩ (.slice A18 k18 c18)) (G + 1) 26 [.bool (decide (t1 + ((y : Nat) : Int) * x < 0)), .slice A18 k18 c18] := ((hr10.set_ 0 (.bool (decide (t1 + ((y : Nat) : Int) * x < 0)))).set_ 1 (.slice A18 k18 c18))
      have nhr11 : Row ((x9.setCell ⟨G + 1, 0, none⟩ (.bool (decide (t1 + ((y : Nat) : Int) * x < 0)))).setCell ⟨G + 1, 1, none⟩ (.slice A18 k18 c18)) (G + 1 + 1) 26 [.bool (decide (t2 < 0)), .slice X2 K2 C2] := ((hr11.far (by show G + 1 + 1 ≠ G + 1; omega) _).far (by show G + 1 + 1 ≠ G + 1; omega) _)
      have nhr14 : Row ((x9.setCell ⟨G + 1, 0, none⟩ (.bool (decide (t1 + ((y : Nat) : Int) * x < 0)))).setCell ⟨G + 1, 1, none⟩ (.slice A18 k18 c18)) (g14) 26 [.bool (decide (((y : Nat) : Int) < 0)), .slice A14 k14 c14] := ((hr14.far (by show g14 ≠ G + 1; omega) _).far (by show g14 ≠ G + 1; omega) _)
      have nhr15 : Row ((x9.setCell ⟨G + 1, 0, none⟩ (.bool (decide (t1 + ((y : Nat) : Int) * x < 0)))).setCell ⟨G + 1, 1, none⟩ (.slice A18 k18 c18)) (g15) 26 [.bool (decide (x < 0)), .slice A15 k15 c15] := ((hr15.far (by show g15 ≠ G + 1; omega) _).far (by show g15 ≠ G + 1; omega) _)
      have nhr16 : Row ((x9.setCell ⟨G + 1, 0, none⟩ (.bool (decide (t1 + ((y : Nat) : Int) * x < 0)))).setCell ⟨G + 1, 1, none⟩ (.slice A18 k18 c18)) (g16) 26 [.bool (decide (((y : Nat) : Int) * x < 0)), .slice A16 k16 c16] := ((hr16.far (by show g16 ≠ G + 1; omega) _).far (by show g16 ≠ G + 1; omega) _)
      have nhr4 : Row ((x9.setCell ⟨G + 1, 0, none⟩ (.bool (decide (t1 + ((y : Nat) : Int) * x < 0)))).setCell ⟨G + 1, 1, none⟩ (.slice A18 k18 c18)) (w.heap.size + 1) 26 [.bool false, .slice none 0 0] := ((hr4.far (by show w.heap.size + 1 ≠ G + 1; omega) _).far (by show w.heap.size + 1 ≠ G + 1; omega) _)
      have nhr5 : Row ((x9.setCell ⟨G + 1, 0, none⟩ (.bool (decide (t1 + ((y : Nat) : Int) * x < 0)))).setCell ⟨G + 1, 1, none⟩ (.slice A18 k18 c18)) (w.heap.size + 2) 26 [.bool false, .slice none 0 0] := ((hr5.far (by show w.heap.size + 2 ≠ G + 1; omega) _).far (by show w.heap.size + 2 ≠ G + 1; omega) _)
      have nhr6 : Row ((x9.setCell ⟨G + 1, 0, none⟩ (.bool (decide (t1 + ((y : Nat) : Int) * x < 0)))).setCell ⟨G + 1, 1, none⟩ (.slice A18 k18 c18)) (w.heap.size + 3) 26 [.bool false, .slice none 0 0] := ((hr6.far (by show w.heap.size + 3 ≠ G + 1; omega) _).far (by show w.heap.size + 3 ≠ G + 1; omega) _)
      have nBB : Below w.heap.size w ((x9.setCell ⟨G + 1, 0, none⟩ (.bool (decide (t1 + ((y : Nat) : Int) * x < 0)))).setCell ⟨G + 1, 1, none⟩ (.slice A18 k18 c18)) := ((BB.setCell (by show w.heap.size ≤ G + 1; omega) _).setCell (by show w.heap.size ≤ G + 1; omega) _)
      have nhv9 := ((hv9.set_ (q := ⟨G + 1, 0, none⟩) (by show G + 1 < _; omega) (.bool (decide (t1 + ((y : Nat) : Int) * x < 0)))).set_ (q := ⟨G + 1, 1, none⟩) (by show G + 1 < _; omega) (.slice A18 k18 c18))
      have nhv10 := ((hv10.set_ (q := ⟨G + 1, 0, none⟩) (by show G + 1 < _; omega) (.bool (decide (t1 + ((y : Nat) : Int) * x < 0)))).set_ (q := ⟨G + 1, 1, none⟩) (by show G + 1 < _; omega) (.slice A18 k18 c18))
      have nhv11 := ((hv11.set_ (q := ⟨G + 1, 0, none⟩) (by show G + 1 < _; omega) (.bool (decide (t1 + ((y : Nat) : Int) * x < 0)))).set_ (q := ⟨G + 1, 1, none⟩) (by show G + 1 < _; omega) (.slice A18 k18 c18))
      have nhv14 := ((hv14.set_ (q := ⟨G + 1, 0, none⟩) (by show G + 1 < _; omega) (.bool (decide (t1 + ((y : Nat) : Int) * x < 0)))).set_ (q := ⟨G + 1, 1, none⟩) (by show G + 1 < _; omega) (.slice A18 k18 c18))
      have nhv15 := ((hv15.set_ (q := ⟨G + 1, 0, none⟩) (by show G + 1 < _; omega) (.bool (decide (t1 + ((y : Nat) : Int) * x < 0)))).set_ (q := ⟨G + 1, 1, none⟩) (by show G + 1 < _; omega) (.slice A18 k18 c18))
      have nhv16 := ((hv16.set_ (q := ⟨G + 1, 0, none⟩) (by show G + 1 < _; omega) (.bool (decide (t1 + ((y : Nat) : Int) * x < 0)))).set_ (q := ⟨G + 1, 1, none⟩) (by show G + 1 < _; omega) (.slice A18 k18 c18))
      have nhv17 := ((hv17.set_ (q := ⟨G + 1, 0, none⟩) (by show G + 1 < _; omega) (.bool (decide (t1 + ((y : Nat) : Int) * x < 0)))).set_ (q := ⟨G + 1, 1, none⟩) (by show G + 1 < _; omega) (.slice A18 k18 c18))
      have nhv18 := ((hv18.set_ (q := ⟨G + 1, 0, none⟩) (by show G + 1 < _; omega) (.bool (decide (t1 + ((y : Nat) : Int) * x < 0)))).set_ (q := ⟨G + 1, 1, none⟩) (by show G + 1 < _; omega) (.slice A18 k18 c18))
      have d90 : ((x9.setCell ⟨G + 1, 0, none⟩ (.bool (decide (t1 + ((y : Nat) : Int) * x < 0)))).setCell ⟨G + 1, 1, none⟩ (.slice A18 k18 c18)).cell? ⟨G, 0, none⟩ = some (.bool (decide (t0 + ((y : Nat) : Int) < 0))) := nhr9.cell 0
      have d91 : ((x9.setCell ⟨G + 1, 0, none⟩ (.bool (decide (t1 + ((y : Nat) : Int) * x < 0)))).setCell ⟨G + 1, 1, none⟩ (.slice A18 k18 c18)).cell? ⟨G, 1, none⟩ = some (.slice A17 k17 c17) := nhr9.cell 1
      have d100 : ((x9.setCell ⟨G + 1, 0, none⟩ (.bool (decide (t1 + ((y : Nat) : Int) * x < 0)))).setCell ⟨G + 1, 1, none⟩ (.slice A18 k18 c18)).cell? ⟨G + 1, 0, none⟩ = some (.bool (decide (t1 + ((y : Nat) : Int) * x < 0))) := nhr10.cell 0
      have d101 : ((x9.setCell ⟨G + 1, 0, none⟩ (.bool (decide (t1 + ((y : Nat) : Int) * x < 0)))).setCell ⟨G + 1, 1, none⟩ (.slice A18 k18 c18)).cell? ⟨G + 1, 1, none⟩ = some (.slice A18 k18 c18) := nhr10.cell 1
      have d110 : ((x9.setCell ⟨G + 1, 0, none⟩ (.bool (decide (t1 + ((y : Nat) : Int) * x < 0)))).setCell ⟨G + 1, 1, none⟩ (.slice A18 k18 c18)).cell? ⟨G + 1 + 1, 0, none⟩ = some (.bool (decide (t2 < 0))) := nhr11.cell 0
      have d111 : ((x9.setCell ⟨G + 1, 0, none⟩ (.bool (decide (t1 + ((y : Nat) : Int) * x < 0)))).setCell ⟨G + 1, 1, none⟩ (.slice A18 k18 c18)).cell? ⟨G + 1 + 1, 1, none⟩ = some (.slice X2 K2 C2) := nhr11.cell 1
      have d140 : ((x9.setCell ⟨G + 1, 0, none⟩ (.bool (decide (t1 + ((y : Nat) : Int) * x < 0)))).setCell ⟨G + 1, 1, none⟩ (.slice A18 k18 c18)).cell? ⟨g14, 0, none⟩ = some (.bool (decide (((y : Nat) : Int) < 0))) := nhr14.cell 0
      have d141 : ((x9.setCell ⟨G + 1, 0, none⟩ (.bool (decide (t1 + ((y : Nat) : Int) * x < 0)))).setCell ⟨G + 1, 1, none⟩ (.slice A18 k18 c18)).cell? ⟨g14, 1, none⟩ = some (.slice A14 k14 c14) := nhr14.cell 1
      have d150 : ((x9.setCell ⟨G + 1, 0, none⟩ (.bool (decide (t1 + ((y : Nat) : Int) * x < 0)))).setCell ⟨G + 1, 1, none⟩ (.slice A18 k18 c18)).cell? ⟨g15, 0, none⟩ = some (.bool (decide (x < 0))) := nhr15.cell 0
      have d151 : ((x9.setCell ⟨G + 1, 0, none⟩ (.bool (decide (t1 + ((y : Nat) : Int) * x < 0)))).setCell ⟨G + 1, 1, none⟩ (.slice A18 k18 c18)).cell? ⟨g15, 1, none⟩ = some (.slice A15 k15 c15) := nhr15.cell 1
      have d160 : ((x9.setCell ⟨G + 1, 0, none⟩ (.bool (decide (t1 + ((y : Nat) : Int) * x < 0)))).setCell ⟨G + 1, 1, none⟩ (.slice A18 k18 c18)).cell? ⟨g16, 0, none⟩ = some (.bool (decide (((y : Nat) : Int) * x < 0))) := nhr16.cell 0
      have d161 : ((x9.setCell ⟨G + 1, 0, none⟩ (.bool (decide (t1 + ((y : Nat) : Int) * x < 0)))).setCell ⟨G + 1, 1, none⟩ (.slice A18 k18 c18)).cell? ⟨g16, 1, none⟩ = some (.slice A16 k16 c16) := nhr16.cell 1
      have h90 : ((x9.setCell ⟨G + 1, 0, none⟩ (.bool (decide (t1 + ((y : Nat) : Int) * x < 0)))).setCell ⟨G + 1, 1, none⟩ (.slice A18 k18 c18)).frozen? ⟨G, 0, none⟩ = false := nhr9.frozen 0
      have h91 : ((x9.setCell ⟨G + 1, 0, none⟩ (.bool (decide (t1 + ((y : Nat) : Int) * x < 0)))).setCell ⟨G + 1, 1, none⟩ (.slice A18 k18 c18)).frozen? ⟨G, 1, none⟩ = false := nhr9.frozen 1
      have h100 : ((x9.setCell ⟨G + 1, 0, none⟩ (.bool (decide (t1 + ((y : Nat) : Int) * x < 0)))).setCell ⟨G + 1, 1, none⟩ (.slice A18 k18 c18)).frozen? ⟨G + 1, 0, none⟩ = false := nhr10.frozen 0
      have h101 : ((x9.setCell ⟨G + 1, 0, none⟩ (.bool (decide (t1 + ((y : Nat) : Int) * x < 0)))).setCell ⟨G + 1, 1, none⟩ (.slice A18 k18 c18)).frozen? ⟨G + 1, 1, none⟩ = false := nhr10.frozen 1
      have h110 : ((x9.setCell ⟨G + 1, 0, none⟩ (.bool (decide (t1 + ((y : Nat) : Int) * x < 0)))).setCell ⟨G + 1, 1, none⟩ (.slice A18 k18 c18)).frozen? ⟨G + 1 + 1, 0, none⟩ = false := nhr11.frozen 0
      have h111 : ((x9.setCell ⟨G + 1, 0, none⟩ (.bool (decide (t1 + ((y : Nat) : Int) * x < 0)))).setCell ⟨G + 1, 1, none⟩ (.slice A18 k18 c18)).frozen? ⟨G + 1 + 1, 1, none⟩ = false := nhr11.frozen 1
      go_wp2_with fail
      clear d90 d91 d100 d101 d110 d111 d140 d141 d150 d151 d160 d161 h90 h91 h100 h101 h110 h111 c90 c91 c100 c101 c110 c111 c140 c141 c150 c151 c160 c161 f90 f91 f100 f101 f110 f111 z9 z10 z11 z14 z15 z16
      replace hr9 := nhr9
      clear nhr9
      replace hv9 := nhv9
      clear nhv9
      replace hr10 := nhr10
      clear nhr10
      replace hv10 := nhv10
      clear nhv10
      replace hr11 := nhr11
      clear nhr11
      replace hv11 := nhv11
      clear nhv11
      replace hr4 := nhr4
      clear nhr4
      replace hr5 := nhr5
      clear nhr5
      replace hr6 := nhr6
      clear nhr6
      replace hv14 := nhv14
      clear nhv14
      replace hr14 := nhr14
      clear nhr14
      replace hv15 := nhv15
      clear nhv15
      replace hr15 := nhr15
      clear nhr15
      replace hv16 := nhv16
      clear nhv16
      replace hr16 := nhr16
      clear nhr16
      replace hv17 := nhv17
      clear nhv17
      replace hv18 := nhv18
      clear nhv18
      replace BB := nBB
      clear nBB
      generalize ((x9.setCell ⟨G + 1, 0, none⟩ (.bool (decide (t1 + ((y : Nat) : Int) * x < 0)))).setCell ⟨G + 1, 1, none⟩ (.slice A18 k18 c18)) = x10 at *
      have s0 : x10.cell? ⟨G + 1 + 1, 0, none⟩ = some (.bool (decide (t2 < 0))) := hr11.cell 0
      have s1 : x10.cell? ⟨G + 1 + 1, 1, none⟩ = some (.slice X2 K2 C2) := hr11.cell 1
      have s2 : x10.cell? ⟨g16, 0, none⟩ = some (.bool (decide (((y : Nat) : Int) * x < 0))) := hr16.cell 0
      have s3 : x10.cell? ⟨g16, 1, none⟩ = some (.slice A16 k16 c16) := hr16.cell 1
      have s4 : x10.cell? ⟨g15, 0, none⟩ = some (.bool (decide (x < 0))) := hr15.cell 0
      have s5 : x10.cell? ⟨g15, 1, none⟩ = some (.slice A15 k15 c15) := hr15.cell 1
      have z11 := hr11.lt
      have z16 := hr16.lt
      have z15 := hr15.lt
      have j0 : x10.frozen? ⟨G + 1 + 1, 0, none⟩ = false := hr11.frozen 0
      have j1 : x10.frozen? ⟨G + 1 + 1, 1, none⟩ = false := hr11.frozen 1
      have b5 : L + 2 ≤ 35184372088820 := by omega
      have b6 : 2 ≤ 35184372088820 := by omega
      have b7 : L + 2 + 2 ≤ 70368744177600 := by omega
      have n16 : g16 ≠ G + 1 + 1 := by omega
      have n15 : g15 ≠ G + 1 + 1 := by omega
      go_region_law (first
          | (go_simp; go_at_call 33; ((with_reducible refine (imul_any _ _ (((y : Nat) : Int) * x) x (L + 2) 2 _ (hv16.intA.below ?_) (hv15.intA.below ?_) b5 b6).mono ?_); (repeat (first | with_reducible exact Below.refl _ _ | with_reducible refine bl_call h5 ?_ | with_reducible refine bl_call h6 ?_ | with_reducible refine bl_drew ?_)); (repeat (first | with_reducible exact Below.refl _ _ | with_reducible refine bl_call h5 ?_ | with_reducible refine bl_call h6 ?_ | with_reducible refine bl_drew ?_)); rintro e w5 ⟨v5, rfl, hI5, h5⟩; have B5 : Below x10.heap.size x10 w5 := bl_call h5 (bl_drew (Below.refl _ _)); have s50 := (B5.cell (p := ⟨G + 1 + 1, 0, none⟩) z11).trans s0; have s51 := (B5.cell (p := ⟨G + 1 + 1, 1, none⟩) z11).trans s1))
          | (go_simp; go_at_call 85; ((with_reducible refine (iadd_any _ _ t2 (((y : Nat) : Int) * x * x) (L + 5) (L + 2 + 2) _ (hv11.intA.below ?_) hI5.intA b2' b7).mono ?_); (repeat (first | with_reducible exact Below.refl _ _ | with_reducible refine bl_call h5 ?_ | with_reducible refine bl_call h6 ?_ | with_reducible refine bl_drew ?_)); rintro e w6 ⟨v6, rfl, hI6, h6⟩; have hI6' := hI6; obtain ⟨m6, e6, hm6, _⟩ := hI6'; subst e6; obtain ⟨A6, k6, c6, rfl⟩ := hm6.lim1.choose_spec.1.show_; have B6 : Below x10.heap.size x10 w6 := bl_call h6 (bl_call h5 (bl_drew (Below.refl _ _))); have r60 := (B6.cell (p := ⟨G + 1 + 1, 0, none⟩) z11).trans s0; have r61 := (B6.cell (p := ⟨G + 1 + 1, 1, none⟩) z11).trans s1; have f60 := (B6.frozen (p := ⟨G + 1 + 1, 0, none⟩) z11).trans j0; have f61 := (B6.frozen (p := ⟨G + 1 + 1, 1, none⟩) z11).trans j1)))
      all_goals
        have hI7 := hI6.base (b' := G + 3) (by have := (bl_call h5 (bl_drew (Below.refl _ _)) : Below x10.heap.size x10 w5).size; have := BB.size; omega)
        have q9 := hr9.keep B6
        have q10 := hr10.keep B6
        have q11 := hr11.keep B6
        have q4 := hr4.keep B6
        have q5 := hr5.keep B6
        have q6 := hr6.keep B6
        have u9 := hv17.below B6
        have u10 := hv18.below B6
        have BB6 := BB.trans (B6.mono BB.size)
        go_wp2_with fail
        go_roundw
        case rel =>
          have FB := HFB.out (k + 1) (by omega)
          rw [show wF0 ns (k + 1) = t0 + ((y : Nat) : Int) by rw [← HT0.out, ← HY.out]; rfl, show wF1 ns ps (k + 1) = t1 + ((y : Nat) : Int) * x by rw [← HT1.out, ← HY.out, ← HX.out]; rfl, show wF2 ns ps (k + 1) = t2 + ((y : Nat) : Int) * x * x by rw [← HT2.out, ← HY.out, ← HX.out]; rfl] at FB
          refine ⟨k + 1, A17, k17, c17, A18, k18, c18, A6, k6, c6, by omega, by go_num, ?_, ?_, ?_, ?_, ?_, ?_, (q4.far (by show w.heap.size + 1 ≠ G + 2; omega) _).far (by show w.heap.size + 1 ≠ G + 2; omega) _, (q5.far (by show w.heap.size + 2 ≠ G + 2; omega) _).far (by show w.heap.size + 2 ≠ G + 2; omega) _, (q6.far (by show w.heap.size + 3 ≠ G + 2; omega) _).far (by show w.heap.size + 3 ≠ G + 2; omega) _, (BB6.setCell (by show w.heap.size ≤ G + 2; omega) _).setCell (by show w.heap.size ≤ G + 2; omega) _⟩
          · rw [show wF0 ns (k + 1) = t0 + ((y : Nat) : Int) by rw [← HT0.out, ← HY.out]; rfl]
            exact (q9.far (by show G ≠ G + 2; omega) _).far (by show G ≠ G + 2; omega) _
          · rw [show wF0 ns (k + 1) = t0 + ((y : Nat) : Int) by rw [← HT0.out, ← HY.out]; rfl]
            exact (((u9.set_ (q := ⟨G + 2, 0, none⟩) (by show G + 2 < _; omega) _).set_ (q := ⟨G + 2, 1, none⟩) (by show G + 2 < _; omega) _).tight FB.1)
          · rw [show wF1 ns ps (k + 1) = t1 + ((y : Nat) : Int) * x by rw [← HT1.out, ← HY.out, ← HX.out]; rfl]
            exact (q10.far (by show G + 1 ≠ G + 2; omega) _).far (by show G + 1 ≠ G + 2; omega) _
          · rw [show wF1 ns ps (k + 1) = t1 + ((y : Nat) : Int) * x by rw [← HT1.out, ← HY.out, ← HX.out]; rfl]
            exact (((u10.set_ (q := ⟨G + 2, 0, none⟩) (by show G + 2 < _; omega) _).set_ (q := ⟨G + 2, 1, none⟩) (by show G + 2 < _; omega) _).tight FB.2.1)
          · rw [show wF2 ns ps (k + 1) = t2 + ((y : Nat) : Int) * x * x by rw [← HT2.out, ← HY.out, ← HX.out]; rfl]
            exact (q11.set_ 0 (.bool (decide (t2 + ((y : Nat) : Int) * x * x < 0)))).set_ 1 (.slice A6 k6 c6)
          · rw [show wF2 ns ps (k + 1) = t2 + ((y : Nat) : Int) * x * x by rw [← HT2.out, ← HY.out, ← HX.out]; rfl]
            exact (((hI7.set_ (q := ⟨G + 2, 0, none⟩) (by show G + 2 < _; omega) _).set_ (q := ⟨G + 2, 1, none⟩) (by show G + 2 < _; omega) _).tight FB.2.2)
        case measure => simp [intOf]; omega
    · obtain rfl : k = n := by omega
      have HS0 : Hid ((sgnZ (wF0 ns k) == 0) = false) := by
        unfold Hid; rw [beq_eq_false_iff_ne]; unfold sgnZ
        by_cases h : wF0 ns k < 0
        · rw [if_pos h]; decide
        · rw [if_neg h, if_neg HT.out]; decide
      have c90 : wr.cell? ⟨G, 0, none⟩ = some (.bool (decide (wF0 ns k < 0))) := hr9.cell 0
      have c91 : wr.cell? ⟨G, 1, none⟩ = some (.slice X0 K0 C0) := hr9.cell 1
      go_wp2_with fail
      refine (isign_any _ _ _ _ hv9.intA).mono ?_
      rintro e wy ⟨rfl, hb⟩
      have hs0 := HS0.out
      have BBy := BB.trans (hb.mono BB.size)
      have q9 := hr9.keep hb
      have q10 := hr10.keep hb
      have q11 := hr11.keep hb
      have q4 := hr4.keep hb
      have q5 := hr5.keep hb
      have q6 := hr6.keep hb
      have u9 := hv9.below hb
      have u10 := hv10.below hb
      have u11 := hv11.below hb
      have z11 := q11.lt
      clear c90 c91 hr9 hr10 hr11 hr4 hr5 hr6 hv9 hv10 hv11 BB hb
      have c90 : wy.cell? ⟨G, 0, none⟩ = some (.bool (decide (wF0 ns k < 0))) := q9.cell 0
      have c91 : wy.cell? ⟨G, 1, none⟩ = some (.slice X0 K0 C0) := q9.cell 1
      have c100 : wy.cell? ⟨G + 1, 0, none⟩ = some (.bool (decide (wF1 ns ps k < 0))) := q10.cell 0
      have c101 : wy.cell? ⟨G + 1, 1, none⟩ = some (.slice X1 K1 C1) := q10.cell 1
      have c110 : wy.cell? ⟨G + 1 + 1, 0, none⟩ = some (.bool (decide (wF2 ns ps k < 0))) := q11.cell 0
      have c111 : wy.cell? ⟨G + 1 + 1, 1, none⟩ = some (.slice X2 K2 C2) := q11.cell 1
      have c40 : wy.cell? ⟨w.heap.size + 1, 0, none⟩ = some (.bool false) := q4.cell 0
      have c41 : wy.cell? ⟨w.heap.size + 1, 1, none⟩ = some (.slice none 0 0) := q4.cell 1
      have c50 : wy.cell? ⟨w.heap.size + 1 + 1, 0, none⟩ = some (.bool false) := q5.cell 0
      have c51 : wy.cell? ⟨w.heap.size + 1 + 1, 1, none⟩ = some (.slice none 0 0) := q5.cell 1
      have c60 : wy.cell? ⟨w.heap.size + 1 + 1 + 1, 0, none⟩ = some (.bool false) := q6.cell 0
      have c61 : wy.cell? ⟨w.heap.size + 1 + 1 + 1, 1, none⟩ = some (.slice none 0 0) := q6.cell 1
      have f40 : wy.frozen? ⟨w.heap.size + 1, 0, none⟩ = false := q4.frozen 0
      have f41 : wy.frozen? ⟨w.heap.size + 1, 1, none⟩ = false := q4.frozen 1
      have f50 : wy.frozen? ⟨w.heap.size + 1 + 1, 0, none⟩ = false := q5.frozen 0
      have f51 : wy.frozen? ⟨w.heap.size + 1 + 1, 1, none⟩ = false := q5.frozen 1
      have f60 : wy.frozen? ⟨w.heap.size + 1 + 1 + 1, 0, none⟩ = false := q6.frozen 0
      have f61 : wy.frozen? ⟨w.heap.size + 1 + 1 + 1, 1, none⟩ = false := q6.frozen 1
      have m1 : w.heap.size + 1 < G := by omega
      have m2 : w.heap.size + 1 + 1 < G := by omega
      have m3 : w.heap.size + 1 + 1 + 1 < G := by omega
      have m4 : w.heap.size + 1 < G + 1 := by omega
      have m5 : w.heap.size + 1 + 1 < G + 1 := by omega
      have m6 : w.heap.size + 1 + 1 + 1 < G + 1 := by omega
      have m7 : w.heap.size + 1 < G + 1 + 1 := by omega
      have m8 : w.heap.size + 1 + 1 < G + 1 + 1 := by omega
      have m9 : w.heap.size + 1 + 1 + 1 < G + 1 + 1 := by omega
      obtain ⟨vx, ex, ux, fx⟩ := u9
      obtain ⟨vy, ey, uy, fy⟩ := u10
      obtain ⟨vz, ez, uz, fz⟩ := u11
      injection ex with ex
      injection ey with ey
      injection ez with ez
      simp only [Array.mk.injEq, List.cons.injEq, and_true, true_and] at ex ey ez
      subst ex ey ez
      go_wp2_with fail
      go_region
      all_goals go_wp2_with fail
      all_goals
        refine bodyPost_ret (v := .tuple #[.agg #[.bool (decide (wF0 ns k < 0)), .slice X0 K0 C0], .agg #[.bool (decide (wF1 ns ps k < 0)), .slice X1 K1 C1], .agg #[.bool (decide (wF2 ns ps k < 0)), .slice X2 K2 C2], .int .i64 0]) (by simp [results, Tryz.results72, go_sem, c40, c41, c50, c51, c60, c61]) rfl ?_
        refine ⟨_, _, _, rfl, ⟨_, rfl, ?_, fx.mono (by omega)⟩, ⟨_, rfl, ?_, fy.mono (by omega)⟩, ⟨_, rfl, ?_, fz.mono (by omega)⟩, ?_⟩
        · exact natAt_drew1 (((((((ux.set_ fx (by simp; omega) _).set_ fx (by simp; omega) _).set_ fx (by simp; omega) _).set_ fx (by simp; omega) _).set_ fx (by simp; omega) _).set_ fx (by simp; omega) _))
        · exact natAt_drew1 (((((((uy.set_ fy (by simp; omega) _).set_ fy (by simp; omega) _).set_ fy (by simp; omega) _).set_ fy (by simp; omega) _).set_ fy (by simp; omega) _).set_ fy (by simp; omega) _))
        · exact natAt_drew1 (((((((uz.set_ fz (by simp; omega) _).set_ fz (by simp; omega) _).set_ fz (by simp; omega) _).set_ fz (by simp; omega) _).set_ fz (by simp; omega) _).set_ fz (by simp; omega) _))
        · exact ((((((BBy.setCell (by first | (simp; done) | (simp; omega)) _).setCell (by first | (simp; done) | (simp; omega)) _).setCell (by first | (simp; done) | (simp; omega)) _).setCell (by first | (simp; done) | (simp; omega)) _).setCell (by first | (simp; done) | (simp; omega)) _).setCell (by first | (simp; done) | (simp; omega)) _).drew

set_option maxHeartbeats 16000000 in
theorem gsums_zero (pv rv wv : Value) (ps rs : List Int) (ns : List Nat) (L : Nat) (w : World) (hp : Nums .i64 w pv ps) (hr : Nums .i64 w rv rs) (hw : Wts w wv ns L) (hE : gridE ps rs = 0) (hn : ns.length = ps.length) (hL : L ≤ 35184372088700) (hT : wF0 ns ps.length = 0) :
    Calls Tryz.prog 72 #[.agg #[pv, rv], wv] w fun e w' => e = .returned (.tuple #[.agg #[.bool false, .slice none 0 0], .agg #[.bool false, .slice none 0 0], .agg #[.bool false, .slice none 0 0], .int .i64 20]) ∧ Below w.heap.size w w' := by
  obtain ⟨z1, z2, z3, z4, _⟩ := gridE_zero hE
  have HZ := Lib.hid z4
  have HV := Lib.hid (fun (W : World) (h : Below w.heap.size w W) => gvalid_any pv rv ps rs W (hp.below h) (hr.below h))
  rw [hE] at HV
  obtain ⟨PA, pc, rfl, hpc, hpm, hps⟩ := hp
  obtain ⟨QA, qc, rfl, hqc, hqm, hqs⟩ := hr
  obtain ⟨WA, wc, us, rfl, hwc, hwm, hws, hwu⟩ := hw
  unfold maxLen at hpm hwm
  have HT := Lib.hid hT
  have HWU := Lib.hid hwu
  have HFB := Lib.hid (wF_tight hws.1 hwu (fun j hj => ⟨(z4 j hj).1, (z4 j hj).2.1⟩) z1 hn rfl)
  obtain ⟨W0, hW0⟩ : ∃ W0 : World, W0 = (((w.alloc (.cells #[.slice PA ps.length pc, .slice QA rs.length qc] 48)).alloc (.cells #[.bool false, .slice none 0 0] 26)).alloc (.cells #[.bool false, .slice none 0 0] 26)).alloc (.cells #[.bool false, .slice none 0 0] 26) := ⟨_, rfl⟩
  have r0 : Row W0 w.heap.size 48 [.slice PA ps.length pc, .slice QA rs.length qc] := by
    rw [hW0]
    have := Row.alloc (Row.alloc (Row.alloc (Row.new w 48 [.slice PA ps.length pc, .slice QA rs.length qc]) (.cells #[.bool false, .slice none 0 0] 26)) (.cells #[.bool false, .slice none 0 0] 26)) (.cells #[.bool false, .slice none 0 0] 26)
    simpa using this
  have r1 : Row W0 (w.heap.size + 1) 26 [.bool false, .slice none 0 0] := by
    rw [hW0]
    have := Row.alloc (Row.alloc (Row.new (w.alloc (.cells #[.slice PA ps.length pc, .slice QA rs.length qc] 48)) 26 [.bool false, .slice none 0 0]) (.cells #[.bool false, .slice none 0 0] 26)) (.cells #[.bool false, .slice none 0 0] 26)
    simpa using this
  have r2 : Row W0 (w.heap.size + 2) 26 [.bool false, .slice none 0 0] := by
    rw [hW0]
    have := Row.alloc (Row.new ((w.alloc (.cells #[.slice PA ps.length pc, .slice QA rs.length qc] 48)).alloc (.cells #[.bool false, .slice none 0 0] 26)) 26 [.bool false, .slice none 0 0]) (.cells #[.bool false, .slice none 0 0] 26)
    simpa using this
  have r3 : Row W0 (w.heap.size + 3) 26 [.bool false, .slice none 0 0] := by
    rw [hW0]
    have := Row.new (((w.alloc (.cells #[.slice PA ps.length pc, .slice QA rs.length qc] 48)).alloc (.cells #[.bool false, .slice none 0 0] 26)).alloc (.cells #[.bool false, .slice none 0 0] 26)) 26 [.bool false, .slice none 0 0]
    simpa using this
  have B0 : Below w.heap.size w W0 := by rw [hW0]; exact (((((Below.refl _ _).alloc (Nat.le_refl _) _).alloc (by simp) _).alloc (by simp; omega) _).alloc (by simp; omega) _)
  have a0 : W0.cell? ⟨w.heap.size, 0, none⟩ = some (.slice PA ps.length pc) := r0.cell 0
  have a1 : W0.cell? ⟨w.heap.size, 1, none⟩ = some (.slice QA rs.length qc) := r0.cell 1
  obtain ⟨n, hnn⟩ : ∃ n, ps.length = n := ⟨_, rfl⟩
  have hwn : ns.length = n := by omega
  have HN := Lib.hid hnn
  have HWN := Lib.hid hwn
  rw [hwn] at hws hwc
  rw [hnn] at hps hpc r0 a0 z1 z2 HZ HT HFB
  rw [hnn] at hW0 HV ⊢
  rw [hwn]
  clear hE hn hT z3 z4 hnn hwn hwu
  go_enter Tryz.func72, Tryz.ntmps72
  go_wp2_with fail
  rw [← hW0]
  clear hW0
  go_wp2_with fail
  refine (HV.out _ B0).mono ?_
  rintro e w1 ⟨rfl, hb1⟩
  have B1 := B0.trans (hb1.mono B0.size)
  obtain ⟨W1, hW1⟩ : ∃ W1 : World, W1 = ((w1.alloc (.cells #[.bool false, .slice none 0 0] 26)).alloc (.cells #[.bool false, .slice none 0 0] 26)).alloc (.cells #[.bool false, .slice none 0 0] 26) := ⟨_, rfl⟩
  have r9 : Row W1 w1.heap.size 26 [.bool false, .slice none 0 0] := by
    rw [hW1]; have := ((Row.new w1 26 [.bool false, .slice none 0 0]).alloc (.cells #[.bool false, .slice none 0 0] 26)).alloc (.cells #[.bool false, .slice none 0 0] 26); simpa using this
  have r10 : Row W1 (w1.heap.size + 1) 26 [.bool false, .slice none 0 0] := by
    rw [hW1]; have := (Row.new (w1.alloc (.cells #[.bool false, .slice none 0 0] 26)) 26 [.bool false, .slice none 0 0]).alloc (.cells #[.bool false, .slice none 0 0] 26); simpa using this
  have r11 : Row W1 (w1.heap.size + 2) 26 [.bool false, .slice none 0 0] := by
    rw [hW1]; have := Row.new ((w1.alloc (.cells #[.bool false, .slice none 0 0] 26)).alloc (.cells #[.bool false, .slice none 0 0] 26)) 26 [.bool false, .slice none 0 0]; simpa using this
  have Bx : Below w1.heap.size w1 W1 := by rw [hW1]; exact ((((Below.refl _ _).alloc (Nat.le_refl _) _).alloc (by simp) _).alloc (by simp; omega) _)
  have r0' := (r0.keep hb1)
  have a10 : w1.cell? ⟨w.heap.size, 0, none⟩ = some (.slice PA n pc) := r0'.cell 0
  have a20 : W1.cell? ⟨w.heap.size, 0, none⟩ = some (.slice PA n pc) := (r0'.keep Bx).cell 0
  rw [hW1] at a20
  go_wp2_with fail
  rw [← hW1]
  have hG1 : w1.heap.size + 3 ≤ W1.heap.size := r11.lt
  have r4 : Row W1 (w.heap.size + 1) 26 [.bool false, .slice none 0 0] := (r1.keep hb1).keep Bx
  have r5 : Row W1 (w.heap.size + 2) 26 [.bool false, .slice none 0 0] := (r2.keep hb1).keep Bx
  have r6 : Row W1 (w.heap.size + 3) 26 [.bool false, .slice none 0 0] := (r3.keep hb1).keep Bx
  have BW1 := B1.trans (Bx.mono B1.size)
  have l6 : w.heap.size + 3 < w1.heap.size := (r3.keep hb1).lt
  clear hW1 a10 a20 r0' r0 r1 r2 r3 HV hb1 Bx B1 a0 a1 B0
  obtain ⟨G, hG⟩ : ∃ G, w1.heap.size = G := ⟨_, rfl⟩
  rw [hG] at r9 r10 r11 l6 hG1 ⊢
  have HGW := Lib.hid hG
  clear hG
  go_loopw [37] (fun i wr => ∃ (k : Nat) (X0 : Option Addr) (K0 C0 : Nat) (X1 : Option Addr) (K1 C1 : Nat) (X2 : Option Addr) (K2 C2 : Nat), k ≤ n ∧ i = .int .i64 (k : Int) ∧ Row wr G 26 [.bool (decide (wF0 ns k < 0)), .slice X0 K0 C0] ∧ IntF (G + 3) wr (.agg #[.bool (decide (wF0 ns k < 0)), .slice X0 K0 C0]) (wF0 ns k) (L + 1) ∧ Row wr (G + 1) 26 [.bool (decide (wF1 ns ps k < 0)), .slice X1 K1 C1] ∧ IntF (G + 3) wr (.agg #[.bool (decide (wF1 ns ps k < 0)), .slice X1 K1 C1]) (wF1 ns ps k) (L + 3) ∧ Row wr (G + 2) 26 [.bool (decide (wF2 ns ps k < 0)), .slice X2 K2 C2] ∧ IntF (G + 3) wr (.agg #[.bool (decide (wF2 ns ps k < 0)), .slice X2 K2 C2]) (wF2 ns ps k) (L + 5) ∧ Row wr (w.heap.size + 1) 26 [.bool false, .slice none 0 0] ∧ Row wr (w.heap.size + 2) 26 [.bool false, .slice none 0 0] ∧ Row wr (w.heap.size + 3) 26 [.bool false, .slice none 0 0] ∧ Below w.heap.size w wr) (fun i _ => n - (intOf i).toNat)
  case atStart => exact ⟨0, none, 0, 0, none, 0, 0, none, 0, 0, by omega, rfl, r9, intf_nil _ _ _, r10, intf_nil _ _ _, r11, intf_nil _ _ _, r4, r5, r6, BW1⟩
  case round =>
    clear r9 r10 r11 r4 r5 r6 BW1
    obtain ⟨k, X0, K0, C0, X1, K1, C1, X2, K2, C2, hk, rfl, hr9, hv9, hr10, hv10, hr11, hv11, hr4, hr5, hr6, BB⟩ := hrel
    by_cases hlt : k < n
    · obtain ⟨b1, o1, rfl, hb1, hcell⟩ := hps.num hlt
      have g1 : wr.cell? ⟨b1, o1 + k, none⟩ = some (.int .i64 (ps.getD k 0)) := (BB.cell (p := ⟨b1, o1 + k, none⟩) hb1).trans (hcell k hlt)
      obtain ⟨b2, o2, uw, rfl, hb2, hc2, hu2⟩ := lst_at (R := fun w u n => NatAny w u n L) (d := 0) (xs := ns) hws HWU.out hlt
      obtain ⟨lw, hwk1, hlv, hlw⟩ := hu2
      have hwk1' := hwk1
      obtain ⟨⟨UA, uc, rfl, _, _, _⟩, _⟩ := hwk1'
      have g2 : wr.cell? ⟨b2, o2 + k, none⟩ = some (.slice UA lw.length uc) := (BB.cell (p := ⟨b2, o2 + k, none⟩) hb2).trans hc2
      obtain ⟨x1, x2, _, _⟩ := HZ.out k hlt
      obtain ⟨x, hx⟩ : ∃ x, ps.getD k 0 = x := ⟨_, rfl⟩
      obtain ⟨y, hy⟩ : ∃ y, ns.getD k 0 = y := ⟨_, rfl⟩
      have HX := Lib.hid hx
      have HY := Lib.hid hy
      have HLW : Hid (sg false (val lw) = ((y : Nat) : Int)) := by unfold Hid; rw [hlv, hy]; rfl
      rw [hx] at g1 x1 x2
      obtain ⟨t0, ht0⟩ : ∃ t, wF0 ns k = t := ⟨_, rfl⟩
      obtain ⟨t1, ht1⟩ : ∃ t, wF1 ns ps k = t := ⟨_, rfl⟩
      obtain ⟨t2, ht2⟩ : ∃ t, wF2 ns ps k = t := ⟨_, rfl⟩
      have HT0 := Lib.hid ht0
      have HT1 := Lib.hid ht1
      have HT2 := Lib.hid ht2
      rw [ht0] at hr9 hv9
      rw [ht1] at hr10 hv10
      rw [ht2] at hr11 hv11
      clear hx hy ht0 ht1 ht2 hlv hcell hc2
      have b0 : L + 1 ≤ 70368744177600 := by omega
      have b1' : L + 3 ≤ 70368744177600 := by omega
      have b2' : L + 5 ≤ 70368744177600 := by omega
      have c90 : wr.cell? ⟨G, 0, none⟩ = some (.bool (decide (t0 < 0))) := hr9.cell 0
      have c91 : wr.cell? ⟨G, 1, none⟩ = some (.slice X0 K0 C0) := hr9.cell 1
      have c100 : wr.cell? ⟨G + 1, 0, none⟩ = some (.bool (decide (t1 < 0))) := hr10.cell 0
      have c101 : wr.cell? ⟨G + 1, 1, none⟩ = some (.slice X1 K1 C1) := hr10.cell 1
      have c110 : wr.cell? ⟨G + 1 + 1, 0, none⟩ = some (.bool (decide (t2 < 0))) := hr11.cell 0
      have c111 : wr.cell? ⟨G + 1 + 1, 1, none⟩ = some (.slice X2 K2 C2) := hr11.cell 1
      have f90 : wr.frozen? ⟨G, 0, none⟩ = false := hr9.frozen 0
      have f91 : wr.frozen? ⟨G, 1, none⟩ = false := hr9.frozen 1
      have f100 : wr.frozen? ⟨G + 1, 0, none⟩ = false := hr10.frozen 0
      have f101 : wr.frozen? ⟨G + 1, 1, none⟩ = false := hr10.frozen 1
      have f110 : wr.frozen? ⟨G + 1 + 1, 0, none⟩ = false := hr11.frozen 0
      have f111 : wr.frozen? ⟨G + 1 + 1, 1, none⟩ = false := hr11.frozen 1
      have z9 := hr9.lt
      have z10 := hr10.lt
      have z11 := hr11.lt
      go_wp2_with fail
      clear c90 c91 c100 c101 c110 c111 f90 f91 f100 f101 f110 f111 z9 z10 z11
      refine (imake_any false _ lw _ (hwk1.below BB) (by omega)).mono ?_
      have hz11 := hr11.lt
      rintro e x1 ⟨v14, rfl, hv14, hb⟩
      replace hr9 := hr9.keep hb
      replace hv9 := hv9.below hb
      replace hr10 := hr10.keep hb
      replace hv10 := hv10.below hb
      replace hr11 := hr11.keep hb
      replace hv11 := hv11.below hb
      replace hr4 := hr4.keep hb
      replace hr5 := hr5.keep hb
      replace hr6 := hr6.keep hb
      replace BB : Below w.heap.size w x1 := BB.trans (hb.mono BB.size)
      clear hb
      rw [HLW.out] at hv14
      have hv14 := hv14.mono (L' := L) hlw
      replace hv14 := hv14.base (b' := G + 3) (by omega)
      have hv14' := hv14
      obtain ⟨m14, e14, hm14, _⟩ := hv14'
      subst e14
      obtain ⟨A14, k14, c14, rfl⟩ := hm14.lim1.choose_spec.1.show_
      clear hm14
      clear hz11
      obtain ⟨g14, hg14⟩ : ∃ g, x1.heap.size = g := ⟨_, rfl⟩
      have hr14 : Row (x1.alloc (.cells #[.bool (decide (((y : Nat) : Int) < 0)), .slice A14 k14 c14] 26)) g14 26 [.bool (decide (((y : Nat) : Int) < 0)), .slice A14 k14 c14] := row_at hg14
      have hl := lit_below x1 (.cells #[.bool (decide (((y : Nat) : Int) < 0)), .slice A14 k14 c14] 26)
      have o9_14 : G < g14 := by have := hr9.lt; omega
      have o10_14 : G + 1 < g14 := by have := hr10.lt; omega
      have o11_14 : G + 1 + 1 < g14 := by have := hr11.lt; omega
      have ob_14 : w.heap.size ≤ g14 := by have := BB.size; omega
      have c90 : x1.cell? ⟨G, 0, none⟩ = some (.bool (decide (t0 < 0))) := hr9.cell 0
      have c91 : x1.cell? ⟨G, 1, none⟩ = some (.slice X0 K0 C0) := hr9.cell 1
      have c100 : x1.cell? ⟨G + 1, 0, none⟩ = some (.bool (decide (t1 < 0))) := hr10.cell 0
      have c101 : x1.cell? ⟨G + 1, 1, none⟩ = some (.slice X1 K1 C1) := hr10.cell 1
      have c110 : x1.cell? ⟨G + 1 + 1, 0, none⟩ = some (.bool (decide (t2 < 0))) := hr11.cell 0
      have c111 : x1.cell? ⟨G + 1 + 1, 1, none⟩ = some (.slice X2 K2 C2) := hr11.cell 1
      have f90 : x1.frozen? ⟨G, 0, none⟩ = false := hr9.frozen 0
      have f91 : x1.frozen? ⟨G, 1, none⟩ = false := hr9.frozen 1
      have f100 : x1.frozen? ⟨G + 1, 0, none⟩ = false := hr10.frozen 0
      have f101 : x1.frozen? ⟨G + 1, 1, none⟩ = false := hr10.frozen 1
      have f110 : x1.frozen? ⟨G + 1 + 1, 0, none⟩ = false := hr11.frozen 0
      have f111 : x1.frozen? ⟨G + 1 + 1, 1, none⟩ = false := hr11.frozen 1
      have d90 : (x1.alloc (.cells #[.bool (decide (((y : Nat) : Int) < 0)), .slice A14 k14 c14] 26)).cell? ⟨G, 0, none⟩ = some (.bool (decide (t0 < 0))) := (hr9.alloc _).cell 0
      have d91 : (x1.alloc (.cells #[.bool (decide (((y : Nat) : Int) < 0)), .slice A14 k14 c14] 26)).cell? ⟨G, 1, none⟩ = some (.slice X0 K0 C0) := (hr9.alloc _).cell 1
      have d100 : (x1.alloc (.cells #[.bool (decide (((y : Nat) : Int) < 0)), .slice A14 k14 c14] 26)).cell? ⟨G + 1, 0, none⟩ = some (.bool (decide (t1 < 0))) := (hr10.alloc _).cell 0
      have d101 : (x1.alloc (.cells #[.bool (decide (((y : Nat) : Int) < 0)), .slice A14 k14 c14] 26)).cell? ⟨G + 1, 1, none⟩ = some (.slice X1 K1 C1) := (hr10.alloc _).cell 1
      have d110 : (x1.alloc (.cells #[.bool (decide (((y : Nat) : Int) < 0)), .slice A14 k14 c14] 26)).cell? ⟨G + 1 + 1, 0, none⟩ = some (.bool (decide (t2 < 0))) := (hr11.alloc _).cell 0
      have d111 : (x1.alloc (.cells #[.bool (decide (((y : Nat) : Int) < 0)), .slice A14 k14 c14] 26)).cell? ⟨G + 1 + 1, 1, none⟩ = some (.slice X2 K2 C2) := (hr11.alloc _).cell 1
      have h90 : (x1.alloc (.cells #[.bool (decide (((y : Nat) : Int) < 0)), .slice A14 k14 c14] 26)).frozen? ⟨G, 0, none⟩ = false := (hr9.alloc _).frozen 0
      have h91 : (x1.alloc (.cells #[.bool (decide (((y : Nat) : Int) < 0)), .slice A14 k14 c14] 26)).frozen? ⟨G, 1, none⟩ = false := (hr9.alloc _).frozen 1
      have h100 : (x1.alloc (.cells #[.bool (decide (((y : Nat) : Int) < 0)), .slice A14 k14 c14] 26)).frozen? ⟨G + 1, 0, none⟩ = false := (hr10.alloc _).frozen 0
      have h101 : (x1.alloc (.cells #[.bool (decide (((y : Nat) : Int) < 0)), .slice A14 k14 c14] 26)).frozen? ⟨G + 1, 1, none⟩ = false := (hr10.alloc _).frozen 1
      have h110 : (x1.alloc (.cells #[.bool (decide (((y : Nat) : Int) < 0)), .slice A14 k14 c14] 26)).frozen? ⟨G + 1 + 1, 0, none⟩ = false := (hr11.alloc _).frozen 0
      have h111 : (x1.alloc (.cells #[.bool (decide (((y : Nat) : Int) < 0)), .slice A14 k14 c14] 26)).frozen? ⟨G + 1 + 1, 1, none⟩ = false := (hr11.alloc _).frozen 1
      have e0 : (x1.alloc (.cells #[.bool (decide (((y : Nat) : Int) < 0)), .slice A14 k14 c14] 26)).cell? ⟨g14, 0, none⟩ = some (.bool (decide (((y : Nat) : Int) < 0))) := hr14.cell 0
      have e1 : (x1.alloc (.cells #[.bool (decide (((y : Nat) : Int) < 0)), .slice A14 k14 c14] 26)).cell? ⟨g14, 1, none⟩ = some (.slice A14 k14 c14) := hr14.cell 1
      go_wp2_with fail
      clear c90 c91 c100 c101 c110 c111 f90 f91 f100 f101 f110 f111 d90 d91 d100 d101 d110 d111 h90 h91 h100 h101 h110 h111 e0 e1
      clear hg14
      generalize (x1.alloc (.cells #[.bool (decide (((y : Nat) : Int) < 0)), .slice A14 k14 c14] 26)) = x2 at *
      replace hr9 := hr9.keep hl
      replace hv9 := hv9.below hl
      replace hr10 := hr10.keep hl
      replace hv10 := hv10.below hl
      replace hr11 := hr11.keep hl
      replace hv11 := hv11.below hl
      replace hr4 := hr4.keep hl
      replace hr5 := hr5.keep hl
      replace hr6 := hr6.keep hl
      replace hv14 := hv14.below hl
      replace BB : Below w.heap.size w x2 := BB.trans (hl.mono BB.size)
      clear hl
      have c90 : x2.cell? ⟨G, 0, none⟩ = some (.bool (decide (t0 < 0))) := hr9.cell 0
      have c91 : x2.cell? ⟨G, 1, none⟩ = some (.slice X0 K0 C0) := hr9.cell 1
      have c100 : x2.cell? ⟨G + 1, 0, none⟩ = some (.bool (decide (t1 < 0))) := hr10.cell 0
      have c101 : x2.cell? ⟨G + 1, 1, none⟩ = some (.slice X1 K1 C1) := hr10.cell 1
      have c110 : x2.cell? ⟨G + 1 + 1, 0, none⟩ = some (.bool (decide (t2 < 0))) := hr11.cell 0
      have c111 : x2.cell? ⟨G + 1 + 1, 1, none⟩ = some (.slice X2 K2 C2) := hr11.cell 1
      have c140 : x2.cell? ⟨g14, 0, none⟩ = some (.bool (decide (((y : Nat) : Int) < 0))) := hr14.cell 0
      have c141 : x2.cell? ⟨g14, 1, none⟩ = some (.slice A14 k14 c14) := hr14.cell 1
      have f90 : x2.frozen? ⟨G, 0, none⟩ = false := hr9.frozen 0
      have f91 : x2.frozen? ⟨G, 1, none⟩ = false := hr9.frozen 1
      have f100 : x2.frozen? ⟨G + 1, 0, none⟩ = false := hr10.frozen 0
      have f101 : x2.frozen? ⟨G + 1, 1, none⟩ = false := hr10.frozen 1
      have f110 : x2.frozen? ⟨G + 1 + 1, 0, none⟩ = false := hr11.frozen 0
      have f111 : x2.frozen? ⟨G + 1 + 1, 1, none⟩ = false := hr11.frozen 1
      have z9 := hr9.lt
      have z10 := hr10.lt
      have z11 := hr11.lt
      have z14 := hr14.lt
      go_wp2_with fail
      clear c90 c91 c100 c101 c110 c111 c140 c141 f90 f91 f100 f101 f110 f111 z9 z10 z11 z14
      refine (iof_any x _ (by omega) (by omega)).mono ?_
      have hz11 := hr11.lt
      rintro e x3 ⟨v15, rfl, hv15, hb⟩
      replace hr9 := hr9.keep hb
      replace hv9 := hv9.below hb
      replace hr10 := hr10.keep hb
      replace hv10 := hv10.below hb
      replace hr11 := hr11.keep hb
      replace hv11 := hv11.below hb
      replace hr4 := hr4.keep hb
      replace hr5 := hr5.keep hb
      replace hr6 := hr6.keep hb
      replace hv14 := hv14.below hb
      replace hr14 := hr14.keep hb
      replace BB : Below w.heap.size w x3 := BB.trans (hb.mono BB.size)
      clear hb
      replace hv15 := hv15.base (b' := G + 3) (by omega)
      have hv15' := hv15
      obtain ⟨m15, e15, hm15, _⟩ := hv15'
      subst e15
      obtain ⟨A15, k15, c15, rfl⟩ := hm15.lim1.choose_spec.1.show_
      clear hm15
      clear hz11
      obtain ⟨g15, hg15⟩ : ∃ g, x3.heap.size = g := ⟨_, rfl⟩
      have hr15 : Row (x3.alloc (.cells #[.bool (decide (x < 0)), .slice A15 k15 c15] 26)) g15 26 [.bool (decide (x < 0)), .slice A15 k15 c15] := row_at hg15
      have hl := lit_below x3 (.cells #[.bool (decide (x < 0)), .slice A15 k15 c15] 26)
      have o9_15 : G < g15 := by have := hr9.lt; omega
      have o10_15 : G + 1 < g15 := by have := hr10.lt; omega
      have o11_15 : G + 1 + 1 < g15 := by have := hr11.lt; omega
      have o14_15 : g14 < g15 := by have := hr14.lt; omega
      have ob_15 : w.heap.size ≤ g15 := by have := BB.size; omega
      have c90 : x3.cell? ⟨G, 0, none⟩ = some (.bool (decide (t0 < 0))) := hr9.cell 0
      have c91 : x3.cell? ⟨G, 1, none⟩ = some (.slice X0 K0 C0) := hr9.cell 1
      have c100 : x3.cell? ⟨G + 1, 0, none⟩ = some (.bool (decide (t1 < 0))) := hr10.cell 0
      have c101 : x3.cell? ⟨G + 1, 1, none⟩ = some (.slice X1 K1 C1) := hr10.cell 1
      have c110 : x3.cell? ⟨G + 1 + 1, 0, none⟩ = some (.bool (decide (t2 < 0))) := hr11.cell 0
      have c111 : x3.cell? ⟨G + 1 + 1, 1, none⟩ = some (.slice X2 K2 C2) := hr11.cell 1
      have c140 : x3.cell? ⟨g14, 0, none⟩ = some (.bool (decide (((y : Nat) : Int) < 0))) := hr14.cell 0
      have c141 : x3.cell? ⟨g14, 1, none⟩ = some (.slice A14 k14 c14) := hr14.cell 1
      have f90 : x3.frozen? ⟨G, 0, none⟩ = false := hr9.frozen 0
      have f91 : x3.frozen? ⟨G, 1, none⟩ = false := hr9.frozen 1
      have f100 : x3.frozen? ⟨G + 1, 0, none⟩ = false := hr10.frozen 0
      have f101 : x3.frozen? ⟨G + 1, 1, none⟩ = false := hr10.frozen 1
      have f110 : x3.frozen? ⟨G + 1 + 1, 0, none⟩ = false := hr11.frozen 0
      have f111 : x3.frozen? ⟨G + 1 + 1, 1, none⟩ = false := hr11.frozen 1
      have d90 : (x3.alloc (.cells #[.bool (decide (x < 0)), .slice A15 k15 c15] 26)).cell? ⟨G, 0, none⟩ = some (.bool (decide (t0 < 0))) := (hr9.alloc _).cell 0
      have d91 : (x3.alloc (.cells #[.bool (decide (x < 0)), .slice A15 k15 c15] 26)).cell? ⟨G, 1, none⟩ = some (.slice X0 K0 C0) := (hr9.alloc _).cell 1
      have d100 : (x3.alloc (.cells #[.bool (decide (x < 0)), .slice A15 k15 c15] 26)).cell? ⟨G + 1, 0, none⟩ = some (.bool (decide (t1 < 0))) := (hr10.alloc _).cell 0
      have d101 : (x3.alloc (.cells #[.bool (decide (x < 0)), .slice A15 k15 c15] 26)).cell? ⟨G + 1, 1, none⟩ = some (.slice X1 K1 C1) := (hr10.alloc _).cell 1
      have d110 : (x3.alloc (.cells #[.bool (decide (x < 0)), .slice A15 k15 c15] 26)).cell? ⟨G + 1 + 1, 0, none⟩ = some (.bool (decide (t2 < 0))) := (hr11.alloc _).cell 0
      have d111 : (x3.alloc (.cells #[.bool (decide (x < 0)), .slice A15 k15 c15] 26)).cell? ⟨G + 1 + 1, 1, none⟩ = some (.slice X2 K2 C2) := (hr11.alloc _).cell 1
      have d140 : (x3.alloc (.cells #[.bool (decide (x < 0)), .slice A15 k15 c15] 26)).cell? ⟨g14, 0, none⟩ = some (.bool (decide (((y : Nat) : Int) < 0))) := (hr14.alloc _).cell 0
      have d141 : (x3.alloc (.cells #[.bool (decide (x < 0)), .slice A15 k15 c15] 26)).cell? ⟨g14, 1, none⟩ = some (.slice A14 k14 c14) := (hr14.alloc _).cell 1
      have h90 : (x3.alloc (.cells #[.bool (decide (x < 0)), .slice A15 k15 c15] 26)).frozen? ⟨G, 0, none⟩ = false := (hr9.alloc _).frozen 0
      have h91 : (x3.alloc (.cells #[.bool (decide (x < 0)), .slice A15 k15 c15] 26)).frozen? ⟨G, 1, none⟩ = false := (hr9.alloc _).frozen 1
      have h100 : (x3.alloc (.cells #[.bool (decide (x < 0)), .slice A15 k15 c15] 26)).frozen? ⟨G + 1, 0, none⟩ = false := (hr10.alloc _).frozen 0
      have h101 : (x3.alloc (.cells #[.bool (decide (x < 0)), .slice A15 k15 c15] 26)).frozen? ⟨G + 1, 1, none⟩ = false := (hr10.alloc _).frozen 1
      have h110 : (x3.alloc (.cells #[.bool (decide (x < 0)), .slice A15 k15 c15] 26)).frozen? ⟨G + 1 + 1, 0, none⟩ = false := (hr11.alloc _).frozen 0
      have h111 : (x3.alloc (.cells #[.bool (decide (x < 0)), .slice A15 k15 c15] 26)).frozen? ⟨G + 1 + 1, 1, none⟩ = false := (hr11.alloc _).frozen 1
      have e0 : (x3.alloc (.cells #[.bool (decide (x < 0)), .slice A15 k15 c15] 26)).cell? ⟨g15, 0, none⟩ = some (.bool (decide (x < 0))) := hr15.cell 0
      have e1 : (x3.alloc (.cells #[.bool (decide (x < 0)), .slice A15 k15 c15] 26)).cell? ⟨g15, 1, none⟩ = some (.slice A15 k15 c15) := hr15.cell 1
      go_wp2_with fail
      clear c90 c91 c100 c101 c110 c111 c140 c141 f90 f91 f100 f101 f110 f111 d90 d91 d100 d101 d110 d111 d140 d141 h90 h91 h100 h101 h110 h111 e0 e1
      clear hg15
      generalize (x3.alloc (.cells #[.bool (decide (x < 0)), .slice A15 k15 c15] 26)) = x4 at *
      replace hr9 := hr9.keep hl
      replace hv9 := hv9.below hl
      replace hr10 := hr10.keep hl
      replace hv10 := hv10.below hl
      replace hr11 := hr11.keep hl
      replace hv11 := hv11.below hl
      replace hr4 := hr4.keep hl
      replace hr5 := hr5.keep hl
      replace hr6 := hr6.keep hl
      replace hv14 := hv14.below hl
      replace hr14 := hr14.keep hl
      replace hv15 := hv15.below hl
      replace BB : Below w.heap.size w x4 := BB.trans (hl.mono BB.size)
      clear hl
      have c90 : x4.cell? ⟨G, 0, none⟩ = some (.bool (decide (t0 < 0))) := hr9.cell 0
      have c91 : x4.cell? ⟨G, 1, none⟩ = some (.slice X0 K0 C0) := hr9.cell 1
      have c100 : x4.cell? ⟨G + 1, 0, none⟩ = some (.bool (decide (t1 < 0))) := hr10.cell 0
      have c101 : x4.cell? ⟨G + 1, 1, none⟩ = some (.slice X1 K1 C1) := hr10.cell 1
      have c110 : x4.cell? ⟨G + 1 + 1, 0, none⟩ = some (.bool (decide (t2 < 0))) := hr11.cell 0
      have c111 : x4.cell? ⟨G + 1 + 1, 1, none⟩ = some (.slice X2 K2 C2) := hr11.cell 1
      have c140 : x4.cell? ⟨g14, 0, none⟩ = some (.bool (decide (((y : Nat) : Int) < 0))) := hr14.cell 0
      have c141 : x4.cell? ⟨g14, 1, none⟩ = some (.slice A14 k14 c14) := hr14.cell 1
      have c150 : x4.cell? ⟨g15, 0, none⟩ = some (.bool (decide (x < 0))) := hr15.cell 0
      have c151 : x4.cell? ⟨g15, 1, none⟩ = some (.slice A15 k15 c15) := hr15.cell 1
      have f90 : x4.frozen? ⟨G, 0, none⟩ = false := hr9.frozen 0
      have f91 : x4.frozen? ⟨G, 1, none⟩ = false := hr9.frozen 1
      have f100 : x4.frozen? ⟨G + 1, 0, none⟩ = false := hr10.frozen 0
      have f101 : x4.frozen? ⟨G + 1, 1, none⟩ = false := hr10.frozen 1
      have f110 : x4.frozen? ⟨G + 1 + 1, 0, none⟩ = false := hr11.frozen 0
      have f111 : x4.frozen? ⟨G + 1 + 1, 1, none⟩ = false := hr11.frozen 1
      have z9 := hr9.lt
      have z10 := hr10.lt
      have z11 := hr11.lt
      have z14 := hr14.lt
      have z15 := hr15.lt
      go_wp2_with fail
      clear c90 c91 c100 c101 c110 c111 c140 c141 c150 c151 f90 f91 f100 f101 f110 f111 z9 z10 z11 z14 z15
      refine (imul_any _ _ ((y : Nat) : Int) x L 2 _ hv14.intA hv15.intA (by omega) (by omega)).mono ?_
      have hz11 := hr11.lt
      rintro e x5 ⟨v16, rfl, hv16, hb⟩
      replace hr9 := hr9.keep hb
      replace hv9 := hv9.below hb
      replace hr10 := hr10.keep hb
      replace hv10 := hv10.below hb
      replace hr11 := hr11.keep hb
      replace hv11 := hv11.below hb
      replace hr4 := hr4.keep hb
      replace hr5 := hr5.keep hb
      replace hr6 := hr6.keep hb
      replace hv14 := hv14.below hb
      replace hr14 := hr14.keep hb
      replace hv15 := hv15.below hb
      replace hr15 := hr15.keep hb
      replace BB : Below w.heap.size w x5 := BB.trans (hb.mono BB.size)
      clear hb
      replace hv16 := hv16.base (b' := G + 3) (by omega)
      have hv16' := hv16
      obtain ⟨m16, e16, hm16, _⟩ := hv16'
      subst e16
      obtain ⟨A16, k16, c16, rfl⟩ := hm16.lim1.choose_spec.1.show_
      clear hm16
      clear hz11
      obtain ⟨g16, hg16⟩ : ∃ g, x5.heap.size = g := ⟨_, rfl⟩
      have hr16 : Row (x5.alloc (.cells #[.bool (decide (((y : Nat) : Int) * x < 0)), .slice A16 k16 c16] 26)) g16 26 [.bool (decide (((y : Nat) : Int) * x < 0)), .slice A16 k16 c16] := row_at hg16
      have hl := lit_below x5 (.cells #[.bool (decide (((y : Nat) : Int) * x < 0)), .slice A16 k16 c16] 26)
      have o9_16 : G < g16 := by have := hr9.lt; omega
      have o10_16 : G + 1 < g16 := by have := hr10.lt; omega
      have o11_16 : G + 1 + 1 < g16 := by have := hr11.lt; omega
      have o14_16 : g14 < g16 := by have := hr14.lt; omega
      have o15_16 : g15 < g16 := by have := hr15.lt; omega
      have ob_16 : w.heap.size ≤ g16 := by have := BB.size; omega
      have c90 : x5.cell? ⟨G, 0, none⟩ = some (.bool (decide (t0 < 0))) := hr9.cell 0
      have c91 : x5.cell? ⟨G, 1, none⟩ = some (.slice X0 K0 C0) := hr9.cell 1
      have c100 : x5.cell? ⟨G + 1, 0, none⟩ = some (.bool (decide (t1 < 0))) := hr10.cell 0
      have c101 : x5.cell? ⟨G + 1, 1, none⟩ = some (.slice X1 K1 C1) := hr10.cell 1
      have c110 : x5.cell? ⟨G + 1 + 1, 0, none⟩ = some (.bool (decide (t2 < 0))) := hr11.cell 0
      have c111 : x5.cell? ⟨G + 1 + 1, 1, none⟩ = some (.slice X2 K2 C2) := hr11.cell 1
      have c140 : x5.cell? ⟨g14, 0, none⟩ = some (.bool (decide (((y : Nat) : Int) < 0))) := hr14.cell 0
      have c141 : x5.cell? ⟨g14, 1, none⟩ = some (.slice A14 k14 c14) := hr14.cell 1
      have c150 : x5.cell? ⟨g15, 0, none⟩ = some (.bool (decide (x < 0))) := hr15.cell 0
      have c151 : x5.cell? ⟨g15, 1, none⟩ = some (.slice A15 k15 c15) := hr15.cell 1
      have f90 : x5.frozen? ⟨G, 0, none⟩ = false := hr9.frozen 0
      have f91 : x5.frozen? ⟨G, 1, none⟩ = false := hr9.frozen 1
      have f100 : x5.frozen? ⟨G + 1, 0, none⟩ = false := hr10.frozen 0
      have f101 : x5.frozen? ⟨G + 1, 1, none⟩ = false := hr10.frozen 1
      have f110 : x5.frozen? ⟨G + 1 + 1, 0, none⟩ = false := hr11.frozen 0
      have f111 : x5.frozen? ⟨G + 1 + 1, 1, none⟩ = false := hr11.frozen 1
      have d90 : (x5.alloc (.cells #[.bool (decide (((y : Nat) : Int) * x < 0)), .slice A16 k16 c16] 26)).cell? ⟨G, 0, none⟩ = some (.bool (decide (t0 < 0))) := (hr9.alloc _).cell 0
      have d91 : (x5.alloc (.cells #[.bool (decide (((y : Nat) : Int) * x < 0)), .slice A16 k16 c16] 26)).cell? ⟨G, 1, none⟩ = some (.slice X0 K0 C0) := (hr9.alloc _).cell 1
      have d100 : (x5.alloc (.cells #[.bool (decide (((y : Nat) : Int) * x < 0)), .slice A16 k16 c16] 26)).cell? ⟨G + 1, 0, none⟩ = some (.bool (decide (t1 < 0))) := (hr10.alloc _).cell 0
      have d101 : (x5.alloc (.cells #[.bool (decide (((y : Nat) : Int) * x < 0)), .slice A16 k16 c16] 26)).cell? ⟨G + 1, 1, none⟩ = some (.slice X1 K1 C1) := (hr10.alloc _).cell 1
      have d110 : (x5.alloc (.cells #[.bool (decide (((y : Nat) : Int) * x < 0)), .slice A16 k16 c16] 26)).cell? ⟨G + 1 + 1, 0, none⟩ = some (.bool (decide (t2 < 0))) := (hr11.alloc _).cell 0
      have d111 : (x5.alloc (.cells #[.bool (decide (((y : Nat) : Int) * x < 0)), .slice A16 k16 c16] 26)).cell? ⟨G + 1 + 1, 1, none⟩ = some (.slice X2 K2 C2) := (hr11.alloc _).cell 1
      have d140 : (x5.alloc (.cells #[.bool (decide (((y : Nat) : Int) * x < 0)), .slice A16 k16 c16] 26)).cell? ⟨g14, 0, none⟩ = some (.bool (decide (((y : Nat) : Int) < 0))) := (hr14.alloc _).cell 0
      have d141 : (x5.alloc (.cells #[.bool (decide (((y : Nat) : Int) * x < 0)), .slice A16 k16 c16] 26)).cell? ⟨g14, 1, none⟩ = some (.slice A14 k14 c14) := (hr14.alloc _).cell 1
      have d150 : (x5.alloc (.cells #[.bool (decide (((y : Nat) : Int) * x < 0)), .slice A16 k16 c16] 26)).cell? ⟨g15, 0, none⟩ = some (.bool (decide (x < 0))) := (hr15.alloc _).cell 0
      have d151 : (x5.alloc (.cells #[.bool (decide (((y : Nat) : Int) * x < 0)), .slice A16 k16 c16] 26)).cell? ⟨g15, 1, none⟩ = some (.slice A15 k15 c15) := (hr15.alloc _).cell 1
      have h90 : (x5.alloc (.cells #[.bool (decide (((y : Nat) : Int) * x < 0)), .slice A16 k16 c16] 26)).frozen? ⟨G, 0, none⟩ = false := (hr9.alloc _).frozen 0
      have h91 : (x5.alloc (.cells #[.bool (decide (((y : Nat) : Int) * x < 0)), .slice A16 k16 c16] 26)).frozen? ⟨G, 1, none⟩ = false := (hr9.alloc _).frozen 1
      have h100 : (x5.alloc (.cells #[.bool (decide (((y : Nat) : Int) * x < 0)), .slice A16 k16 c16] 26)).frozen? ⟨G + 1, 0, none⟩ = false := (hr10.alloc _).frozen 0
      have h101 : (x5.alloc (.cells #[.bool (decide (((y : Nat) : Int) * x < 0)), .slice A16 k16 c16] 26)).frozen? ⟨G + 1, 1, none⟩ = false := (hr10.alloc _).frozen 1
      have h110 : (x5.alloc (.cells #[.bool (decide (((y : Nat) : Int) * x < 0)), .slice A16 k16 c16] 26)).frozen? ⟨G + 1 + 1, 0, none⟩ = false := (hr11.alloc _).frozen 0
      have h111 : (x5.alloc (.cells #[.bool (decide (((y : Nat) : Int) * x < 0)), .slice A16 k16 c16] 26)).frozen? ⟨G + 1 + 1, 1, none⟩ = false := (hr11.alloc _).frozen 1
      have e0 : (x5.alloc (.cells #[.bool (decide (((y : Nat) : Int) * x < 0)), .slice A16 k16 c16] 26)).cell? ⟨g16, 0, none⟩ = some (.bool (decide (((y : Nat) : Int) * x < 0))) := hr16.cell 0
      have e1 : (x5.alloc (.cells #[.bool (decide (((y : Nat) : Int) * x < 0)), .slice A16 k16 c16] 26)).cell? ⟨g16, 1, none⟩ = some (.slice A16 k16 c16) := hr16.cell 1
      go_wp2_with fail
      clear c90 c91 c100 c101 c110 c111 c140 c141 c150 c151 f90 f91 f100 f101 f110 f111 d90 d91 d100 d101 d110 d111 d140 d141 d150 d151 h90 h91 h100 h101 h110 h111 e0 e1
      clear hg16
      generalize (x5.alloc (.cells #[.bool (decide (((y : Nat) : Int) * x < 0)), .slice A16 k16 c16] 26)) = x6 at *
      replace hr9 := hr9.keep hl
      replace hv9 := hv9.below hl
      replace hr10 := hr10.keep hl
      replace hv10 := hv10.below hl
      replace hr11 := hr11.keep hl
      replace hv11 := hv11.below hl
      replace hr4 := hr4.keep hl
      replace hr5 := hr5.keep hl
      replace hr6 := hr6.keep hl
      replace hv14 := hv14.below hl
      replace hr14 := hr14.keep hl
      replace hv15 := hv15.below hl
      replace hr15 := hr15.keep hl
      replace hv16 := hv16.below hl
      replace BB : Below w.heap.size w x6 := BB.trans (hl.mono BB.size)
      clear hl
      have c90 : x6.cell? ⟨G, 0, none⟩ = some (.bool (decide (t0 < 0))) := hr9.cell 0
      have c91 : x6.cell? ⟨G, 1, none⟩ = some (.slice X0 K0 C0) := hr9.cell 1
      have c100 : x6.cell? ⟨G + 1, 0, none⟩ = some (.bool (decide (t1 < 0))) := hr10.cell 0
      have c101 : x6.cell? ⟨G + 1, 1, none⟩ = some (.slice X1 K1 C1) := hr10.cell 1
      have c110 : x6.cell? ⟨G + 1 + 1, 0, none⟩ = some (.bool (decide (t2 < 0))) := hr11.cell 0
      have c111 : x6.cell? ⟨G + 1 + 1, 1, none⟩ = some (.slice X2 K2 C2) := hr11.cell 1
      have c140 : x6.cell? ⟨g14, 0, none⟩ = some (.bool (decide (((y : Nat) : Int) < 0))) := hr14.cell 0
      have c141 : x6.cell? ⟨g14, 1, none⟩ = some (.slice A14 k14 c14) := hr14.cell 1
      have c150 : x6.cell? ⟨g15, 0, none⟩ = some (.bool (decide (x < 0))) := hr15.cell 0
      have c151 : x6.cell? ⟨g15, 1, none⟩ = some (.slice A15 k15 c15) := hr15.cell 1
      have c160 : x6.cell? ⟨g16, 0, none⟩ = some (.bool (decide (((y : Nat) : Int) * x < 0))) := hr16.cell 0
      have c161 : x6.cell? ⟨g16, 1, none⟩ = some (.slice A16 k16 c16) := hr16.cell 1
      have f90 : x6.frozen? ⟨G, 0, none⟩ = false := hr9.frozen 0
      have f91 : x6.frozen? ⟨G, 1, none⟩ = false := hr9.frozen 1
      have f100 : x6.frozen? ⟨G + 1, 0, none⟩ = false := hr10.frozen 0
      have f101 : x6.frozen? ⟨G + 1, 1, none⟩ = false := hr10.frozen 1
      have f110 : x6.frozen? ⟨G + 1 + 1, 0, none⟩ = false := hr11.frozen 0
      have f111 : x6.frozen? ⟨G + 1 + 1, 1, none⟩ = false := hr11.frozen 1
      have z9 := hr9.lt
      have z10 := hr10.lt
      have z11 := hr11.lt
      have z14 := hr14.lt
      have z15 := hr15.lt
      have z16 := hr16.lt
      go_wp2_with fail
      clear c90 c91 c100 c101 c110 c111 c140 c141 c150 c151 c160 c161 f90 f91 f100 f101 f110 f111 z9 z10 z11 z14 z15 z16
      refine (iadd_any _ _ t0 ((y : Nat) : Int) (L + 1) L _ hv9.intA hv14.intA b0 (by omega)).mono ?_
      have hz11 := hr11.lt
      rintro e x7 ⟨v17, rfl, hv17, hb⟩
      replace hr9 := hr9.keep hb
      replace hv9 := hv9.below hb
      replace hr10 := hr10.keep hb
      replace hv10 := hv10.below hb
      replace hr11 := hr11.keep hb
      replace hv11 := hv11.below hb
      replace hr4 := hr4.keep hb
      replace hr5 := hr5.keep hb
      replace hr6 := hr6.keep hb
      replace hv14 := hv14.below hb
      replace hr14 := hr14.keep hb
      replace hv15 := hv15.below hb
      replace hr15 := hr15.keep hb
      replace hv16 := hv16.below hb
      replace hr16 := hr16.keep hb
      replace BB : Below w.heap.size w x7 := BB.trans (hb.mono BB.size)
      clear hb
      replace hv17 := hv17.base (b' := G + 3) (by omega)
      have hv17' := hv17
      obtain ⟨m17, e17, hm17, _⟩ := hv17'
      subst e17
      obtain ⟨A17, k17, c17, rfl⟩ := hm17.lim1.choose_spec.1.show_
      clear hm17
      clear hz11
      have c90 : x7.cell? ⟨G, 0, none⟩ = some (.bool (decide (t0 < 0))) := hr9.cell 0
      have c91 : x7.cell? ⟨G, 1, none⟩ = some (.slice X0 K0 C0) := hr9.cell 1
      have c100 : x7.cell? ⟨G + 1, 0, none⟩ = some (.bool (decide (t1 < 0))) := hr10.cell 0
      have c101 : x7.cell? ⟨G + 1, 1, none⟩ = some (.slice X1 K1 C1) := hr10.cell 1
      have c110 : x7.cell? ⟨G + 1 + 1, 0, none⟩ = some (.bool (decide (t2 < 0))) := hr11.cell 0
      have c111 : x7.cell? ⟨G + 1 + 1, 1, none⟩ = some (.slice X2 K2 C2) := hr11.cell 1
      have c140 : x7.cell? ⟨g14, 0, none⟩ = some (.bool (decide (((y : Nat) : Int) < 0))) := hr14.cell 0
      have c141 : x7.cell? ⟨g14, 1, none⟩ = some (.slice A14 k14 c14) := hr14.cell 1
      have c150 : x7.cell? ⟨g15, 0, none⟩ = some (.bool (decide (x < 0))) := hr15.cell 0
      have c151 : x7.cell? ⟨g15, 1, none⟩ = some (.slice A15 k15 c15) := hr15.cell 1
      have c160 : x7.cell? ⟨g16, 0, none⟩ = some (.bool (decide (((y : Nat) : Int) * x < 0))) := hr16.cell 0
      have c161 : x7.cell? ⟨g16, 1, none⟩ = some (.slice A16 k16 c16) := hr16.cell 1
      have f90 : x7.frozen? ⟨G, 0, none⟩ = false := hr9.frozen 0
      have f91 : x7.frozen? ⟨G, 1, none⟩ = false := hr9.frozen 1
      have f100 : x7.frozen? ⟨G + 1, 0, none⟩ = false := hr10.frozen 0
      have f101 : x7.frozen? ⟨G + 1, 1, none⟩ = false := hr10.frozen 1
      have f110 : x7.frozen? ⟨G + 1 + 1, 0, none⟩ = false := hr11.frozen 0
      have f111 : x7.frozen? ⟨G + 1 + 1, 1, none⟩ = false := hr11.frozen 1
      have z9 := hr9.lt
      have z10 := hr10.lt
      have z11 := hr11.lt
      have z14 := hr14.lt
      have z15 := hr15.lt
      have z16 := hr16.lt
      have nhr9 : Row ((x7.setCell ⟨G, 0, none⟩ (.bool (decide (t0 + ((y : Nat) : Int) < 0)))).setCell ⟨G, 1, none⟩ (.slice A17 k17 c17)) (G) 26 [.bool (decide (t0 + ((y : Nat) : Int) < 0)), .slice A17 k17 c17] := ((hr9.set_ 0 (.bool (decide (t0 + ((y : Nat) : Int) < 0)))).set_ 1 (.slice A17 k17 c17))
      have nhr10 : Row ((x7.setCell ⟨G, 0, none⟩ (.bool (decide (t0 + ((y : Nat) : Int) < 0)))).setCell ⟨G, 1, none⟩ (.slice A17 k17 c17)) (G + 1) 26 [.bool (decide (t1 < 0)), .slice X1 K1 C1] := ((hr10.far (by show G + 1 ≠ G; omega) _).far (by show G + 1 ≠ G; omega) _)
      have nhr11 : Row ((x7.setCell ⟨G, 0, none⟩ (.bool (decide (t0 + ((y : Nat) : Int) < 0)))).setCell ⟨G, 1, none⟩ (.slice A17 k17 c17)) (G + 1 + 1) 26 [.bool (decide (t2 < 0)), .slice X2 K2 C2] := ((hr11.far (by show G + 1 + 1 ≠ G; omega) _).far (by show G + 1 + 1 ≠ G; omega) _)
      have nhr14 : Row ((x7.setCell ⟨G, 0, none⟩ (.bool (decide (t0 + ((y : Nat) : Int) < 0)))).setCell ⟨G, 1, none⟩ (.slice A17 k17 c17)) (g14) 26 [.bool (decide (((y : Nat) : Int) < 0)), .slice A14 k14 c14] := ((hr14.far (by show g14 ≠ G; omega) _).far (by show g14 ≠ G; omega) _)
      have nhr15 : Row ((x7.setCell ⟨G, 0, none⟩ (.bool (decide (t0 + ((y : Nat) : Int) < 0)))).setCell ⟨G, 1, none⟩ (.slice A17 k17 c17)) (g15) 26 [.bool (decide (x < 0)), .slice A15 k15 c15] := ((hr15.far (by show g15 ≠ G; omega) _).far (by show g15 ≠ G; omega) _)
      have nhr16 : Row ((x7.setCell ⟨G, 0, none⟩ (.bool (decide (t0 + ((y : Nat) : Int) < 0)))).setCell ⟨G, 1, none⟩ (.slice A17 k17 c17)) (g16) 26 [.bool (decide (((y : Nat) : Int) * x < 0)), .slice A16 k16 c16] := ((hr16.far (by show g16 ≠ G; omega) _).far (by show g16 ≠ G; omega) _)
      have nhr4 : Row ((x7.setCell ⟨G, 0, none⟩ (.bool (decide (t0 + ((y : Nat) : Int) < 0)))).setCell ⟨G, 1, none⟩ (.slice A17 k17 c17)) (w.heap.size + 1) 26 [.bool false, .slice none 0 0] := ((hr4.far (by show w.heap.size + 1 ≠ G; omega) _).far (by show w.heap.size + 1 ≠ G; omega) _)
      have nhr5 : Row ((x7.setCell ⟨G, 0, none⟩ (.bool (decide (t0 + ((y : Nat) : Int) < 0)))).setCell ⟨G, 1, none⟩ (.slice A17 k17 c17)) (w.heap.size + 2) 26 [.bool false, .slice none 0 0] := ((hr5.far (by show w.heap.size + 2 ≠ G; omega) _).far (by show w.heap.size + 2 ≠ G; omega) _)
      have nhr6 : Row ((x7.setCell ⟨G, 0, none⟩ (.bool (decide (t0 + ((y : Nat) : Int) < 0)))).setCell ⟨G, 1, none⟩ (.slice A17 k17 c17)) (w.heap.size + 3) 26 [.bool false, .slice none 0 0] := ((hr6.far (by show w.heap.size + 3 ≠ G; omega) _).far (by show w.heap.size + 3 ≠ G; omega) _)
      have nBB : Below w.heap.size w ((x7.setCell ⟨G, 0, none⟩ (.bool (decide (t0 + ((y : Nat) : Int) < 0)))).setCell ⟨G, 1, none⟩ (.slice A17 k17 c17)) := ((BB.setCell (by show w.heap.size ≤ G; omega) _).setCell (by show w.heap.size ≤ G; omega) _)
      have nhv9 := ((hv9.set_ (q := ⟨G, 0, none⟩) (by show G < _; omega) (.bool (decide (t0 + ((y : Nat) : Int) < 0)))).set_ (q := ⟨G, 1, none⟩) (by show G < _; omega) (.slice A17 k17 c17))
      have nhv10 := ((hv10.set_ (q := ⟨G, 0, none⟩) (by show G < _; omega) (.bool (decide (t0 + ((y : Nat) : Int) < 0)))).set_ (q := ⟨G, 1, none⟩) (by show G < _; omega) (.slice A17 k17 c17))
      have nhv11 := ((hv11.set_ (q := ⟨G, 0, none⟩) (by show G < _; omega) (.bool (decide (t0 + ((y : Nat) : Int) < 0)))).set_ (q := ⟨G, 1, none⟩) (by show G < _; omega) (.slice A17 k17 c17))
      have nhv14 := ((hv14.set_ (q := ⟨G, 0, none⟩) (by show G < _; omega) (.bool (decide (t0 + ((y : Nat) : Int) < 0)))).set_ (q := ⟨G, 1, none⟩) (by show G < _; omega) (.slice A17 k17 c17))
      have nhv15 := ((hv15.set_ (q := ⟨G, 0, none⟩) (by show G < _; omega) (.bool (decide (t0 + ((y : Nat) : Int) < 0)))).set_ (q := ⟨G, 1, none⟩) (by show G < _; omega) (.slice A17 k17 c17))
      have nhv16 := ((hv16.set_ (q := ⟨G, 0, none⟩) (by show G < _; omega) (.bool (decide (t0 + ((y : Nat) : Int) < 0)))).set_ (q := ⟨G, 1, none⟩) (by show G < _; omega) (.slice A17 k17 c17))
      have nhv17 := ((hv17.set_ (q := ⟨G, 0, none⟩) (by show G < _; omega) (.bool (decide (t0 + ((y : Nat) : Int) < 0)))).set_ (q := ⟨G, 1, none⟩) (by show G < _; omega) (.slice A17 k17 c17))
      have d90 : ((x7.setCell ⟨G, 0, none⟩ (.bool (decide (t0 + ((y : Nat) : Int) < 0)))).setCell ⟨G, 1, none⟩ (.slice A17 k17 c17)).cell? ⟨G, 0, none⟩ = some (.bool (decide (t0 + ((y : Nat) : Int) < 0))) := nhr9.cell 0
      have d91 : ((x7.setCell ⟨G, 0, none⟩ (.bool (decide (t0 + ((y : Nat) : Int) < 0)))).setCell ⟨G, 1, none⟩ (.slice A17 k17 c17)).cell? ⟨G, 1, none⟩ = some (.slice A17 k17 c17) := nhr9.cell 1
      have d100 : ((x7.setCell ⟨G, 0, none⟩ (.bool (decide (t0 + ((y : Nat) : Int) < 0)))).setCell ⟨G, 1, none⟩ (.slice A17 k17 c17)).cell? ⟨G + 1, 0, none⟩ = some (.bool (decide (t1 < 0))) := nhr10.cell 0
      have d101 : ((x7.setCell ⟨G, 0, none⟩ (.bool (decide (t0 + ((y : Nat) : Int) < 0)))).setCell ⟨G, 1, none⟩ (.slice A17 k17 c17)).cell? ⟨G + 1, 1, none⟩ = some (.slice X1 K1 C1) := nhr10.cell 1
      have d110 : ((x7.setCell ⟨G, 0, none⟩ (.bool (decide (t0 + ((y : Nat) : Int) < 0)))).setCell ⟨G, 1, none⟩ (.slice A17 k17 c17)).cell? ⟨G + 1 + 1, 0, none⟩ = some (.bool (decide (t2 < 0))) := nhr11.cell 0
      have d111 : ((x7.setCell ⟨G, 0, none⟩ (.bool (decide (t0 + ((y : Nat) : Int) < 0)))).setCell ⟨G, 1, none⟩ (.slice A17 k17 c17)).cell? ⟨G + 1 + 1, 1, none⟩ = some (.slice X2 K2 C2) := nhr11.cell 1
      have d140 : ((x7.setCell ⟨G, 0, none⟩ (.bool (decide (t0 + ((y : Nat) : Int) < 0)))).setCell ⟨G, 1, none⟩ (.slice A17 k17 c17)).cell? ⟨g14, 0, none⟩ = some (.bool (decide (((y : Nat) : Int) < 0))) := nhr14.cell 0
      have d141 : ((x7.setCell ⟨G, 0, none⟩ (.bool (decide (t0 + ((y : Nat) : Int) < 0)))).setCell ⟨G, 1, none⟩ (.slice A17 k17 c17)).cell? ⟨g14, 1, none⟩ = some (.slice A14 k14 c14) := nhr14.cell 1
      have d150 : ((x7.setCell ⟨G, 0, none⟩ (.bool (decide (t0 + ((y : Nat) : Int) < 0)))).setCell ⟨G, 1, none⟩ (.slice A17 k17 c17)).cell? ⟨g15, 0, none⟩ = some (.bool (decide (x < 0))) := nhr15.cell 0
      have d151 : ((x7.setCell ⟨G, 0, none⟩ (.bool (decide (t0 + ((y : Nat) : Int) < 0)))).setCell ⟨G, 1, none⟩ (.slice A17 k17 c17)).cell? ⟨g15, 1, none⟩ = some (.slice A15 k15 c15) := nhr15.cell 1
      have d160 : ((x7.setCell ⟨G, 0, none⟩ (.bool (decide (t0 + ((y : Nat) : Int) < 0)))).setCell ⟨G, 1, none⟩ (.slice A17 k17 c17)).cell? ⟨g16, 0, none⟩ = some (.bool (decide (((y : Nat) : Int) * x < 0))) := nhr16.cell 0
      have d161 : ((x7.setCell ⟨G, 0, none⟩ (.bool (decide (t0 + ((y : Nat) : Int) < 0)))).setCell ⟨G, 1, none⟩ (.slice A17 k17 c17)).cell? ⟨g16, 1, none⟩ = some (.slice A16 k16 c16) := nhr16.cell 1
      have h90 : ((x7.setCell ⟨G, 0, none⟩ (.bool (decide (t0 + ((y : Nat) : Int) < 0)))).setCell ⟨G, 1, none⟩ (.slice A17 k17 c17)).frozen? ⟨G, 0, none⟩ = false := nhr9.frozen 0
      have h91 : ((x7.setCell ⟨G, 0, none⟩ (.bool (decide (t0 + ((y : Nat) : Int) < 0)))).setCell ⟨G, 1, none⟩ (.slice A17 k17 c17)).frozen? ⟨G, 1, none⟩ = false := nhr9.frozen 1
      have h100 : ((x7.setCell ⟨G, 0, none⟩ (.bool (decide (t0 + ((y : Nat) : Int) < 0)))).setCell ⟨G, 1, none⟩ (.slice A17 k17 c17)).frozen? ⟨G + 1, 0, none⟩ = false := nhr10.frozen 0
      have h101 : ((x7.setCell ⟨G, 0, none⟩ (.bool (decide (t0 + ((y : Nat) : Int) < 0)))).setCell ⟨G, 1, none⟩ (.slice A17 k17 c17)).frozen? ⟨G + 1, 1, none⟩ = false := nhr10.frozen 1
      have h110 : ((x7.setCell ⟨G, 0, none⟩ (.bool (decide (t0 + ((y : Nat) : Int) < 0)))).setCell ⟨G, 1, none⟩ (.slice A17 k17 c17)).frozen? ⟨G + 1 + 1, 0, none⟩ = false := nhr11.frozen 0
      have h111 : ((x7.setCell ⟨G, 0, none⟩ (.bool (decide (t0 + ((y : Nat) : Int) < 0)))).setCell ⟨G, 1, none⟩ (.slice A17 k17 c17)).frozen? ⟨G + 1 + 1, 1, none⟩ = false := nhr11.frozen 1
      go_wp2_with fail
      clear d90 d91 d100 d101 d110 d111 d140 d141 d150 d151 d160 d161 h90 h91 h100 h101 h110 h111 c90 c91 c100 c101 c110 c111 c140 c141 c150 c151 c160 c161 f90 f91 f100 f101 f110 f111 z9 z10 z11 z14 z15 z16
      replace hr9 := nhr9
      clear nhr9
      replace hv9 := nhv9
      clear nhv9
      replace hr10 := nhr10
      clear nhr10
      replace hv10 := nhv10
      clear nhv10
      replace hr11 := nhr11
      clear nhr11
      replace hv11 := nhv11
      clear nhv11
      replace hr4 := nhr4
      clear nhr4
      replace hr5 := nhr5
      clear nhr5
      replace hr6 := nhr6
      clear nhr6
      replace hv14 := nhv14
      clear nhv14
      replace hr14 := nhr14
      clear nhr14
      replace hv15 := nhv15
      clear nhv15
      replace hr15 := nhr15
      clear nhr15
      replace hv16 := nhv16
      clear nhv16
      replace hr16 := nhr16
      clear nhr16
      replace hv17 := nhv17
      clear nhv17
      replace BB := nBB
      clear nBB
      generalize ((x7.setCell ⟨G, 0, none⟩ (.bool (decide (t0 + ((y : Nat) : Int) < 0)))).setCell ⟨G, 1, none⟩ (.slice A17 k17 c17)) = x8 at *
      refine (iadd_any _ _ t1 (((y : Nat) : Int) * x) (L + 3) (L + 2) _ hv10.intA hv16.intA b1' (by omega)).mono ?_
      have hz11 := hr11.lt
      rintro e x9 ⟨v18, rfl, hv18, hb⟩
      replace hr9 := hr9.keep hb
      replace hv9 := hv9.below hb
      replace hr10 := hr10.keep hb
      replace hv10 := hv10.below hb
      replace hr11 := hr11.keep hb
      replace hv11 := hv11.below hb
      replace hr4 := hr4.keep hb
      replace hr5 := hr5.keep hb
      replace hr6 := hr6.keep hb
      replace hv14 := hv14.below hb
      replace hr14 := hr14.keep hb
      replace hv15 := hv15.below hb
      replace hr15 := hr15.keep hb
      replace hv16 := hv16.below hb
      replace hr16 := hr16.keep hb
      replace hv17 := hv17.below hb
      replace BB : Below w.heap.size w x9 := BB.trans (hb.mono BB.size)
      clear hb
      replace hv18 := hv18.base (b' := G + 3) (by omega)
      have hv18' := hv18
      obtain ⟨m18, e18, hm18, _⟩ := hv18'
      subst e18
      obtain ⟨A18, k18, c18, rfl⟩ := hm18.lim1.choose_spec.1.show_
      clear hm18
      clear hz11
      have c90 : x9.cell? ⟨G, 0, none⟩ = some (.bool (decide (t0 + ((y : Nat) : Int) < 0))) := hr9.cell 0
      have c91 : x9.cell? ⟨G, 1, none⟩ = some (.slice A17 k17 c17) := hr9.cell 1
      have c100 : x9.cell? ⟨G + 1, 0, none⟩ = some (.bool (decide (t1 < 0))) := hr10.cell 0
      have c101 : x9.cell? ⟨G + 1, 1, none⟩ = some (.slice X1 K1 C1) := hr10.cell 1
      have c110 : x9.cell? ⟨G + 1 + 1, 0, none⟩ = some (.bool (decide (t2 < 0))) := hr11.cell 0
      have c111 : x9.cell? ⟨G + 1 + 1, 1, none⟩ = some (.slice X2 K2 C2) := hr11.cell 1
      have c140 : x9.cell? ⟨g14, 0, none⟩ = some (.bool (decide (((y : Nat) : Int) < 0))) := hr14.cell 0
      have c141 : x9.cell? ⟨g14, 1, none⟩ = some (.slice A14 k14 c14) := hr14.cell 1
      have c150 : x9.cell? ⟨g15, 0, none⟩ = some (.bool (decide (x < 0))) := hr15.cell 0
      have c151 : x9.cell? ⟨g15, 1, none⟩ = some (.slice A15 k15 c15) := hr15.cell 1
      have c160 : x9.cell? ⟨g16, 0, none⟩ = some (.bool (decide (((y : Nat) : Int) * x < 0))) := hr16.cell 0
      have c161 : x9.cell? ⟨g16, 1, none⟩ = some (.slice A16 k16 c16) := hr16.cell 1
      have f90 : x9.frozen? ⟨G, 0, none⟩ = false := hr9.frozen 0
      have f91 : x9.frozen? ⟨G, 1, none⟩ = false := hr9.frozen 1
      have f100 : x9.frozen? ⟨G + 1, 0, none⟩ = false := hr10.frozen 0
      have f101 : x9.frozen? ⟨G + 1, 1, none⟩ = false := hr10.frozen 1
      have f110 : x9.frozen? ⟨G + 1 + 1, 0, none⟩ = false := hr11.frozen 0
      have f111 : x9.frozen? ⟨G + 1 + 1, 1, none⟩ = false := hr11.frozen 1
      have z9 := hr9.lt
      have z10 := hr10.lt
      have z11 := hr11.lt
      have z14 := hr14.lt
      have z15 := hr15.lt
      have z16 := hr16.lt
      have nhr9 : Row ((x9.setCell ⟨G + 1, 0, none⟩ (.bool (decide (t1 + ((y : Nat) : Int) * x < 0)))).setCell ⟨G + 1, 1, none⟩ (.slice A18 k18 c18)) (G) 26 [.bool (decide (t0 + ((y : Nat) : Int) < 0)), .slice A17 k17 c17] := ((hr9.far (by show G ≠ G + 1; omega) _).far (by show G ≠ G + 1; omega) _)
      have nhr10 : Row ((x9.setCell ⟨G + 1, 0, none⟩ (.bool (decide (t1 + ((y : Nat) : Int) * x < 0)))).setCell ⟨G + 1, 1, none⟩ (.slice A18 k18 c18)) (G + 1) 26 [.bool (decide (t1 + ((y : Nat) : Int) * x < 0)), .slice A18 k18 c18] := ((hr10.set_ 0 (.bool (decide (t1 + ((y : Nat) : Int) * x < 0)))).set_ 1 (.slice A18 k18 c18))
      have nhr11 : Row ((x9.setCell ⟨G + 1, 0, none⟩ (.bool (decide (t1 + ((y : Nat) : Int) * x < 0)))).setCell ⟨G + 1, 1, none⟩ (.slice A18 k18 c18)) (G + 1 + 1) 26 [.bool (decide (t2 < 0)), .slice X2 K2 C2] := ((hr11.far (by show G + 1 + 1 ≠ G + 1; omega) _).far (by show G + 1 + 1 ≠ G + 1; omega) _)
      have nhr14 : Row ((x9.setCell ⟨G + 1, 0, none⟩ (.bool (decide (t1 + ((y : Nat) : Int) * x < 0)))).setCell ⟨G + 1, 1, none⟩ (.slice A18 k18 c18)) (g14) 26 [.bool (decide (((y : Nat) : Int) < 0)), .slice A14 k14 c14] := ((hr14.far (by show g14 ≠ G + 1; omega) _).far (by show g14 ≠ G + 1; omega) _)
      have nhr15 : Row ((x9.setCell ⟨G + 1, 0, none⟩ (.bool (decide (t1 + ((y : Nat) : Int) * x < 0)))).setCell ⟨G + 1, 1, none⟩ (.slice A18 k18 c18)) (g15) 26 [.bool (decide (x < 0)), .slice A15 k15 c15] := ((hr15.far (by show g15 ≠ G + 1; omega) _).far (by show g15 ≠ G + 1; omega) _)
      have nhr16 : Row ((x9.setCell ⟨G + 1, 0, none⟩ (.bool (decide (t1 + ((y : Nat) : Int) * x < 0)))).setCell ⟨G + 1, 1, none⟩ (.slice A18 k18 c18)) (g16) 26 [.bool (decide (((y : Nat) : Int) * x < 0)), .slice A16 k16 c16] := ((hr16.far (by show g16 ≠ G + 1; omega) _).far (by show g16 ≠ G + 1; omega) _)
      have nhr4 : Row ((x9.setCell ⟨G + 1, 0, none⟩ (.bool (decide (t1 + ((y : Nat) : Int) * x < 0)))).setCell ⟨G + 1, 1, none⟩ (.slice A18 k18 c18)) (w.heap.size + 1) 26 [.bool false, .slice none 0 0] := ((hr4.far (by show w.heap.size + 1 ≠ G + 1; omega) _).far (by show w.heap.size + 1 ≠ G + 1; omega) _)
      have nhr5 : Row ((x9.setCell ⟨G + 1, 0, none⟩ (.bool (decide (t1 + ((y : Nat) : Int) * x < 0)))).setCell ⟨G + 1, 1, none⟩ (.slice A18 k18 c18)) (w.heap.size + 2) 26 [.bool false, .slice none 0 0] := ((hr5.far (by show w.heap.size + 2 ≠ G + 1; omega) _).far (by show w.heap.size + 2 ≠ G + 1; omega) _)
      have nhr6 : Row ((x9.setCell ⟨G + 1, 0, none⟩ (.bool (decide (t1 + ((y : Nat) : Int) * x < 0)))).setCell ⟨G + 1, 1, none⟩ (.slice A18 k18 c18)) (w.heap.size + 3) 26 [.bool false, .slice none 0 0] := ((hr6.far (by show w.heap.size + 3 ≠ G + 1; omega) _).far (by show w.heap.size + 3 ≠ G + 1; omega) _)
      have nBB : Below w.heap.size w ((x9.setCell ⟨G + 1, 0, none⟩ (.bool (decide (t1 + ((y : Nat) : Int) * x < 0)))).setCell ⟨G + 1, 1, none⟩ (.slice A18 k18 c18)) := ((BB.setCell (by show w.heap.size ≤ G + 1; omega) _).setCell (by show w.heap.size ≤ G + 1; omega) _)
      have nhv9 := ((hv9.set_ (q := ⟨G + 1, 0, none⟩) (by show G + 1 < _; omega) (.bool (decide (t1 + ((y : Nat) : Int) * x < 0)))).set_ (q := ⟨G + 1, 1, none⟩) (by show G + 1 < _; omega) (.slice A18 k18 c18))
      have nhv10 := ((hv10.set_ (q := ⟨G + 1, 0, none⟩) (by show G + 1 < _; omega) (.bool (decide (t1 + ((y : Nat) : Int) * x < 0)))).set_ (q := ⟨G + 1, 1, none⟩) (by show G + 1 < _; omega) (.slice A18 k18 c18))
      have nhv11 := ((hv11.set_ (q := ⟨G + 1, 0, none⟩) (by show G + 1 < _; omega) (.bool (decide (t1 + ((y : Nat) : Int) * x < 0)))).set_ (q := ⟨G + 1, 1, none⟩) (by show G + 1 < _; omega) (.slice A18 k18 c18))
      have nhv14 := ((hv14.set_ (q := ⟨G + 1, 0, none⟩) (by show G + 1 < _; omega) (.bool (decide (t1 + ((y : Nat) : Int) * x < 0)))).set_ (q := ⟨G + 1, 1, none⟩) (by show G + 1 < _; omega) (.slice A18 k18 c18))
      have nhv15 := ((hv15.set_ (q := ⟨G + 1, 0, none⟩) (by show G + 1 < _; omega) (.bool (decide (t1 + ((y : Nat) : Int) * x < 0)))).set_ (q := ⟨G + 1, 1, none⟩) (by show G + 1 < _; omega) (.slice A18 k18 c18))
      have nhv16 := ((hv16.set_ (q := ⟨G + 1, 0, none⟩) (by show G + 1 < _; omega) (.bool (decide (t1 + ((y : Nat) : Int) * x < 0)))).set_ (q := ⟨G + 1, 1, none⟩) (by show G + 1 < _; omega) (.slice A18 k18 c18))
      have nhv17 := ((hv17.set_ (q := ⟨G + 1, 0, none⟩) (by show G + 1 < _; omega) (.bool (decide (t1 + ((y : Nat) : Int) * x < 0)))).set_ (q := ⟨G + 1, 1, none⟩) (by show G + 1 < _; omega) (.slice A18 k18 c18))
      have nhv18 := ((hv18.set_ (q := ⟨G + 1, 0, none⟩) (by show G + 1 < _; omega) (.bool (decide (t1 + ((y : Nat) : Int) * x < 0)))).set_ (q := ⟨G + 1, 1, none⟩) (by show G + 1 < _; omega) (.slice A18 k18 c18))
      have d90 : ((x9.setCell ⟨G + 1, 0, none⟩ (.bool (decide (t1 + ((y : Nat) : Int) * x < 0)))).setCell ⟨G + 1, 1, none⟩ (.slice A18 k18 c18)).cell? ⟨G, 0, none⟩ = some (.bool (decide (t0 + ((y : Nat) : Int) < 0))) := nhr9.cell 0
      have d91 : ((x9.setCell ⟨G + 1, 0, none⟩ (.bool (decide (t1 + ((y : Nat) : Int) * x < 0)))).setCell ⟨G + 1, 1, none⟩ (.slice A18 k18 c18)).cell? ⟨G, 1, none⟩ = some (.slice A17 k17 c17) := nhr9.cell 1
      have d100 : ((x9.setCell ⟨G + 1, 0, none⟩ (.bool (decide (t1 + ((y : Nat) : Int) * x < 0)))).setCell ⟨G + 1, 1, none⟩ (.slice A18 k18 c18)).cell? ⟨G + 1, 0, none⟩ = some (.bool (decide (t1 + ((y : Nat) : Int) * x < 0))) := nhr10.cell 0
      have d101 : ((x9.setCell ⟨G + 1, 0, none⟩ (.bool (decide (t1 + ((y : Nat) : Int) * x < 0)))).setCell ⟨G + 1, 1, none⟩ (.slice A18 k18 c18)).cell? ⟨G + 1, 1, none⟩ = some (.slice A18 k18 c18) := nhr10.cell 1
      have d110 : ((x9.setCell ⟨G + 1, 0, none⟩ (.bool (decide (t1 + ((y : Nat) : Int) * x < 0)))).setCell ⟨G + 1, 1, none⟩ (.slice A18 k18 c18)).cell? ⟨G + 1 + 1, 0, none⟩ = some (.bool (decide (t2 < 0))) := nhr11.cell 0
      have d111 : ((x9.setCell ⟨G + 1, 0, none⟩ (.bool (decide (t1 + ((y : Nat) : Int) * x < 0)))).setCell ⟨G + 1, 1, none⟩ (.slice A18 k18 c18)).cell? ⟨G + 1 + 1, 1, none⟩ = some (.slice X2 K2 C2) := nhr11.cell 1
      have d140 : ((x9.setCell ⟨G + 1, 0, none⟩ (.bool (decide (t1 + ((y : Nat) : Int) * x < 0)))).setCell ⟨G + 1, 1, none⟩ (.slice A18 k18 c18)).cell? ⟨g14, 0, none⟩ = some (.bool (decide (((y : Nat) : Int) < 0))) := nhr14.cell 0
      have d141 : ((x9.setCell ⟨G + 1, 0, none⟩ (.bool (decide (t1 + ((y : Nat) : Int) * x < 0)))).setCell ⟨G + 1, 1, none⟩ (.slice A18 k18 c18)).cell? ⟨g14, 1, none⟩ = some (.slice A14 k14 c14) := nhr14.cell 1
      have d150 : ((x9.setCell ⟨G + 1, 0, none⟩ (.bool (decide (t1 + ((y : Nat) : Int) * x < 0)))).setCell ⟨G + 1, 1, none⟩ (.slice A18 k18 c18)).cell? ⟨g15, 0, none⟩ = some (.bool (decide (x < 0))) := nhr15.cell 0
      have d151 : ((x9.setCell ⟨G + 1, 0, none⟩ (.bool (decide (t1 + ((y : Nat) : Int) * x < 0)))).setCell ⟨G + 1, 1, none⟩ (.slice A18 k18 c18)).cell? ⟨g15, 1, none⟩ = some (.slice A15 k15 c15) := nhr15.cell 1
      have d160 : ((x9.setCell ⟨G + 1, 0, none⟩ (.bool (decide (t1 + ((y : Nat) : Int) * x < 0)))).setCell ⟨G + 1, 1, none⟩ (.slice A18 k18 c18)).cell? ⟨g16, 0, none⟩ = some (.bool (decide (((y : Nat) : Int) * x < 0))) := nhr16.cell 0
      have d161 : ((x9.setCell ⟨G + 1, 0, none⟩ (.bool (decide (t1 + ((y : Nat) : Int) * x < 0)))).setCell ⟨G + 1, 1, none⟩ (.slice A18 k18 c18)).cell? ⟨g16, 1, none⟩ = some (.slice A16 k16 c16) := nhr16.cell 1
      have h90 : ((x9.setCell ⟨G + 1, 0, none⟩ (.bool (decide (t1 + ((y : Nat) : Int) * x < 0)))).setCell ⟨G + 1, 1, none⟩ (.slice A18 k18 c18)).frozen? ⟨G, 0, none⟩ = false := nhr9.frozen 0
      have h91 : ((x9.setCell ⟨G + 1, 0, none⟩ (.bool (decide (t1 + ((y : Nat) : Int) * x < 0)))).setCell ⟨G + 1, 1, none⟩ (.slice A18 k18 c18)).frozen? ⟨G, 1, none⟩ = false := nhr9.frozen 1
      have h100 : ((x9.setCell ⟨G + 1, 0, none⟩ (.bool (decide (t1 + ((y : Nat) : Int) * x < 0)))).setCell ⟨G + 1, 1, none⟩ (.slice A18 k18 c18)).frozen? ⟨G + 1, 0, none⟩ = false := nhr10.frozen 0
      have h101 : ((x9.setCell ⟨G + 1, 0, none⟩ (.bool (decide (t1 + ((y : Nat) : Int) * x < 0)))).setCell ⟨G + 1, 1, none⟩ (.slice A18 k18 c18)).frozen? ⟨G + 1, 1, none⟩ = false := nhr10.frozen 1
      have h110 : ((x9.setCell ⟨G + 1, 0, none⟩ (.bool (decide (t1 + ((y : Nat) : Int) * x < 0)))).setCell ⟨G + 1, 1, none⟩ (.slice A18 k18 c18)).frozen? ⟨G + 1 + 1, 0, none⟩ = false := nhr11.frozen 0
      have h111 : ((x9.setCell ⟨G + 1, 0, none⟩ (.bool (decide (t1 + ((y : Nat) : Int) * x < 0)))).setCell ⟨G + 1, 1, none⟩ (.slice A18 k18 c18)).frozen? ⟨G + 1 + 1, 1, none⟩ = false := nhr11.frozen 1
      go_wp2_with fail
      clear d90 d91 d100 d101 d110 d111 d140 d141 d150 d151 d160 d161 h90 h91 h100 h101 h110 h111 c90 c91 c100 c101 c110 c111 c140 c141 c150 c151 c160 c161 f90 f91 f100 f101 f110 f111 z9 z10 z11 z14 z15 z16
      replace hr9 := nhr9
      clear nhr9
      replace hv9 := nhv9
      clear nhv9
      replace hr10 := nhr10
      clear nhr10
      replace hv10 := nhv10
      clear nhv10
      replace hr11 := nhr11
      clear nhr11
      replace hv11 := nhv11
      clear nhv11
      replace hr4 := nhr4
      clear nhr4
      replace hr5 := nhr5
      clear nhr5
      replace hr6 := nhr6
      clear nhr6
      replace hv14 := nhv14
      clear nhv14
      replace hr14 := nhr14
      clear nhr14
      replace hv15 := nhv15
      clear nhv15
      replace hr15 := nhr15
      clear nhr15
      replace hv16 := nhv16
      clear nhv16
      replace hr16 := nhr16
      clear nhr16
      replace hv17 := nhv17
      clear nhv17
      replace hv18 := nhv18
      clear nhv18
      replace BB := nBB
      clear nBB
      generalize ((x9.setCell ⟨G + 1, 0, none⟩ (.bool (decide (t1 + ((y : Nat) : Int) * x < 0)))).setCell ⟨G + 1, 1, none⟩ (.slice A18 k18 c18)) = x10 at *
      have s0 : x10.cell? ⟨G + 1 + 1, 0, none⟩ = some (.bool (decide (t2 < 0))) := hr11.cell 0
      have s1 : x10.cell? ⟨G + 1 + 1, 1, none⟩ = some (.slice X2 K2 C2) := hr11.cell 1
      have s2 : x10.cell? ⟨g16, 0, none⟩ = some (.bool (decide (((y : Nat) : Int) * x < 0))) := hr16.cell 0
      have s3 : x10.cell? ⟨g16, 1, none⟩ = some (.slice A16 k16 c16) := hr16.cell 1
      have s4 : x10.cell? ⟨g15, 0, none⟩ = some (.bool (decide (x < 0))) := hr15.cell 0
      have s5 : x10.cell? ⟨g15, 1, none⟩ = some (.slice A15 k15 c15) := hr15.cell 1
      have z11 := hr11.lt
      have z16 := hr16.lt
      have z15 := hr15.lt
      have j0 : x10.frozen? ⟨G + 1 + 1, 0, none⟩ = false := hr11.frozen 0
      have j1 : x10.frozen? ⟨G + 1 + 1, 1, none⟩ = false := hr11.frozen 1
      have b5 : L + 2 ≤ 35184372088820 := by omega
      have b6 : 2 ≤ 35184372088820 := by omega
      have b7 : L + 2 + 2 ≤ 70368744177600 := by omega
      have n16 : g16 ≠ G + 1 + 1 := by omega
      have n15 : g15 ≠ G + 1 + 1 := by omega
      go_region_law (first
          | (go_simp; go_at_call 33; ((with_reducible refine (imul_any _ _ (((y : Nat) : Int) * x) x (L + 2) 2 _ (hv16.intA.below ?_) (hv15.intA.below ?_) b5 b6).mono ?_); (repeat (first | with_reducible exact Below.refl _ _ | with_reducible refine bl_call h5 ?_ | with_reducible refine bl_call h6 ?_ | with_reducible refine bl_drew ?_)); (repeat (first | with_reducible exact Below.refl _ _ | with_reducible refine bl_call h5 ?_ | with_reducible refine bl_call h6 ?_ | with_reducible refine bl_drew ?_)); rintro e w5 ⟨v5, rfl, hI5, h5⟩; have B5 : Below x10.heap.size x10 w5 := bl_call h5 (bl_drew (Below.refl _ _)); have s50 := (B5.cell (p := ⟨G + 1 + 1, 0, none⟩) z11).trans s0; have s51 := (B5.cell (p := ⟨G + 1 + 1, 1, none⟩) z11).trans s1))
          | (go_simp; go_at_call 85; ((with_reducible refine (iadd_any _ _ t2 (((y : Nat) : Int) * x * x) (L + 5) (L + 2 + 2) _ (hv11.intA.below ?_) hI5.intA b2' b7).mono ?_); (repeat (first | with_reducible exact Below.refl _ _ | with_reducible refine bl_call h5 ?_ | with_reducible refine bl_call h6 ?_ | with_reducible refine bl_drew ?_)); rintro e w6 ⟨v6, rfl, hI6, h6⟩; have hI6' := hI6; obtain ⟨m6, e6, hm6, _⟩ := hI6'; subst e6; obtain ⟨A6, k6, c6, rfl⟩ := hm6.lim1.choose_spec.1.show_; have B6 : Below x10.heap.size x10 w6 := bl_call h6 (bl_call h5 (bl_drew (Below.refl _ _))); have r60 := (B6.cell (p := ⟨G + 1 + 1, 0, none⟩) z11).trans s0; have r61 := (B6.cell (p := ⟨G + 1 + 1, 1, none⟩) z11).trans s1; have f60 := (B6.frozen (p := ⟨G + 1 + 1, 0, none⟩) z11).trans j0; have f61 := (B6.frozen (p := ⟨G + 1 + 1, 1, none⟩) z11).trans j1)))
      all_goals
        have hI7 := hI6.base (b' := G + 3) (by have := (bl_call h5 (bl_drew (Below.refl _ _)) : Below x10.heap.size x10 w5).size; have := BB.size; omega)
        have q9 := hr9.keep B6
        have q10 := hr10.keep B6
        have q11 := hr11.keep B6
        have q4 := hr4.keep B6
        have q5 := hr5.keep B6
        have q6 := hr6.keep B6
        have u9 := hv17.below B6
        have u10 := hv18.below B6
        have BB6 := BB.trans (B6.mono BB.size)
        go_wp2_with fail
        go_roundw
        case rel =>
          have FB := HFB.out (k + 1) (by omega)
          rw [show wF0 ns (k + 1) = t0 + ((y : Nat) : Int) by rw [← HT0.out, ← HY.out]; rfl, show wF1 ns ps (k + 1) = t1 + ((y : Nat) : Int) * x by rw [← HT1.out, ← HY.out, ← HX.out]; rfl, show wF2 ns ps (k + 1) = t2 + ((y : Nat) : Int) * x * x by rw [← HT2.out, ← HY.out, ← HX.out]; rfl] at FB
          refine ⟨k + 1, A17, k17, c17, A18, k18, c18, A6, k6, c6, by omega, by go_num, ?_, ?_, ?_, ?_, ?_, ?_, (q4.far (by show w.heap.size + 1 ≠ G + 2; omega) _).far (by show w.heap.size + 1 ≠ G + 2; omega) _, (q5.far (by show w.heap.size + 2 ≠ G + 2; omega) _).far (by show w.heap.size + 2 ≠ G + 2; omega) _, (q6.far (by show w.heap.size + 3 ≠ G + 2; omega) _).far (by show w.heap.size + 3 ≠ G + 2; omega) _, (BB6.setCell (by show w.heap.size ≤ G + 2; omega) _).setCell (by show w.heap.size ≤ G + 2; omega) _⟩
          · rw [show wF0 ns (k + 1) = t0 + ((y : Nat) : Int) by rw [← HT0.out, ← HY.out]; rfl]
            exact (q9.far (by show G ≠ G + 2; omega) _).far (by show G ≠ G + 2; omega) _
          · rw [show wF0 ns (k + 1) = t0 + ((y : Nat) : Int) by rw [← HT0.out, ← HY.out]; rfl]
            exact (((u9.set_ (q := ⟨G + 2, 0, none⟩) (by show G + 2 < _; omega) _).set_ (q := ⟨G + 2, 1, none⟩) (by show G + 2 < _; omega) _).tight FB.1)
          · rw [show wF1 ns ps (k + 1) = t1 + ((y : Nat) : Int) * x by rw [← HT1.out, ← HY.out, ← HX.out]; rfl]
            exact (q10.far (by show G + 1 ≠ G + 2; omega) _).far (by show G + 1 ≠ G + 2; omega) _
          · rw [show wF1 ns ps (k + 1) = t1 + ((y : Nat) : Int) * x by rw [← HT1.out, ← HY.out, ← HX.out]; rfl]
            exact (((u10.set_ (q := ⟨G + 2, 0, none⟩) (by show G + 2 < _; omega) _).set_ (q := ⟨G + 2, 1, none⟩) (by show G + 2 < _; omega) _).tight FB.2.1)
          · rw [show wF2 ns ps (k + 1) = t2 + ((y : Nat) : Int) * x * x by rw [← HT2.out, ← HY.out, ← HX.out]; rfl]
            exact (q11.set_ 0 (.bool (decide (t2 + ((y : Nat) : Int) * x * x < 0)))).set_ 1 (.slice A6 k6 c6)
          · rw [show wF2 ns ps (k + 1) = t2 + ((y : Nat) : Int) * x * x by rw [← HT2.out, ← HY.out, ← HX.out]; rfl]
            exact (((hI7.set_ (q := ⟨G + 2, 0, none⟩) (by show G + 2 < _; omega) _).set_ (q := ⟨G + 2, 1, none⟩) (by show G + 2 < _; omega) _).tight FB.2.2)
        case measure => simp [intOf]; omega
    · obtain rfl : k = n := by omega
      have HS0 : Hid ((sgnZ (wF0 ns k) == 0) = true) := by
        unfold Hid; rw [HT.out]; rfl
      have c90 : wr.cell? ⟨G, 0, none⟩ = some (.bool (decide (wF0 ns k < 0))) := hr9.cell 0
      have c91 : wr.cell? ⟨G, 1, none⟩ = some (.slice X0 K0 C0) := hr9.cell 1
      go_wp2_with fail
      refine (isign_any _ _ _ _ hv9.intA).mono ?_
      rintro e wy ⟨rfl, hb⟩
      have hs0 := HS0.out
      have BBy := BB.trans (hb.mono BB.size)
      have q4 := hr4.keep hb
      have q5 := hr5.keep hb
      have q6 := hr6.keep hb
      have c40 : wy.cell? ⟨w.heap.size + 1, 0, none⟩ = some (.bool false) := q4.cell 0
      have f40 : wy.frozen? ⟨w.heap.size + 1, 0, none⟩ = false := q4.frozen 0
      have c41 : wy.cell? ⟨w.heap.size + 1, 1, none⟩ = some (.slice none 0 0) := q4.cell 1
      have f41 : wy.frozen? ⟨w.heap.size + 1, 1, none⟩ = false := q4.frozen 1
      have c50 : wy.cell? ⟨w.heap.size + 1 + 1, 0, none⟩ = some (.bool false) := q5.cell 0
      have f50 : wy.frozen? ⟨w.heap.size + 1 + 1, 0, none⟩ = false := q5.frozen 0
      have c51 : wy.cell? ⟨w.heap.size + 1 + 1, 1, none⟩ = some (.slice none 0 0) := q5.cell 1
      have f51 : wy.frozen? ⟨w.heap.size + 1 + 1, 1, none⟩ = false := q5.frozen 1
      have c60 : wy.cell? ⟨w.heap.size + 1 + 1 + 1, 0, none⟩ = some (.bool false) := q6.cell 0
      have f60 : wy.frozen? ⟨w.heap.size + 1 + 1 + 1, 0, none⟩ = false := q6.frozen 0
      have c61 : wy.cell? ⟨w.heap.size + 1 + 1 + 1, 1, none⟩ = some (.slice none 0 0) := q6.cell 1
      have f61 : wy.frozen? ⟨w.heap.size + 1 + 1 + 1, 1, none⟩ = false := q6.frozen 1
      clear c90 c91 hr9 hr10 hr11 hr4 hr5 hr6 hv9 hv10 hv11 BB hb q4 q5 q6
      go_wp2_with fail
      refine bodyPost_ret (v := .tuple #[.agg #[.bool false, .slice none 0 0], .agg #[.bool false, .slice none 0 0], .agg #[.bool false, .slice none 0 0], .int .i64 20]) (by simp [results, Tryz.results72, go_sem, c40, c41, c50, c51, c60, c61]) rfl ⟨rfl, ?_⟩
      exact ((((((BBy.setCell (by first | (simp; done) | (simp; omega)) _).setCell (by first | (simp; done) | (simp; omega)) _).setCell (by first | (simp; done) | (simp; omega)) _).setCell (by first | (simp; done) | (simp; omega)) _).setCell (by first | (simp; done) | (simp; omega)) _).setCell (by first | (simp; done) | (simp; omega)) _)


set_option maxHeartbeats 16000000 in
theorem gsums_len (pv rv wv : Value) (ps rs : List Int) (WA : Option Addr) (m wc : Nat) (w : World) (hp : Nums .i64 w pv ps) (hr : Nums .i64 w rv rs) (hm : m ≤ 9223372036854775807) (hE : gridE ps rs = 0) (hne : m ≠ ps.length) :
    Calls Tryz.prog 72 #[.agg #[pv, rv], .slice WA m wc] w fun e w' => e = .returned (.tuple #[.agg #[.bool false, .slice none 0 0], .agg #[.bool false, .slice none 0 0], .agg #[.bool false, .slice none 0 0], .int .i64 1]) ∧ Below w.heap.size w w' := by
  have HV := Lib.hid (fun (W : World) (h : Below w.heap.size w W) => gvalid_any pv rv ps rs W (hp.below h) (hr.below h))
  obtain ⟨PA, pc, rfl, hpc, hpm, hps⟩ := hp
  obtain ⟨QA, qc, rfl, hqc, hqm, hqs⟩ := hr
  unfold maxLen at hpm
  obtain ⟨W0, hW0⟩ : ∃ W0 : World, W0 = (((w.alloc (.cells #[.slice PA ps.length pc, .slice QA rs.length qc] 48)).alloc (.cells #[.bool false, .slice none 0 0] 26)).alloc (.cells #[.bool false, .slice none 0 0] 26)).alloc (.cells #[.bool false, .slice none 0 0] 26) := ⟨_, rfl⟩
  have r0 : Row W0 w.heap.size 48 [.slice PA ps.length pc, .slice QA rs.length qc] := by
    rw [hW0]
    have := Row.alloc (Row.alloc (Row.alloc (Row.new w 48 [.slice PA ps.length pc, .slice QA rs.length qc]) (.cells #[.bool false, .slice none 0 0] 26)) (.cells #[.bool false, .slice none 0 0] 26)) (.cells #[.bool false, .slice none 0 0] 26)
    simpa using this
  have r1 : Row W0 (w.heap.size + 1) 26 [.bool false, .slice none 0 0] := by
    rw [hW0]
    have := Row.alloc (Row.alloc (Row.new (w.alloc (.cells #[.slice PA ps.length pc, .slice QA rs.length qc] 48)) 26 [.bool false, .slice none 0 0]) (.cells #[.bool false, .slice none 0 0] 26)) (.cells #[.bool false, .slice none 0 0] 26)
    simpa using this
  have r2 : Row W0 (w.heap.size + 2) 26 [.bool false, .slice none 0 0] := by
    rw [hW0]
    have := Row.alloc (Row.new ((w.alloc (.cells #[.slice PA ps.length pc, .slice QA rs.length qc] 48)).alloc (.cells #[.bool false, .slice none 0 0] 26)) 26 [.bool false, .slice none 0 0]) (.cells #[.bool false, .slice none 0 0] 26)
    simpa using this
  have r3 : Row W0 (w.heap.size + 3) 26 [.bool false, .slice none 0 0] := by
    rw [hW0]
    have := Row.new (((w.alloc (.cells #[.slice PA ps.length pc, .slice QA rs.length qc] 48)).alloc (.cells #[.bool false, .slice none 0 0] 26)).alloc (.cells #[.bool false, .slice none 0 0] 26)) 26 [.bool false, .slice none 0 0]
    simpa using this
  have B0 : Below w.heap.size w W0 := by rw [hW0]; exact (((((Below.refl _ _).alloc (Nat.le_refl _) _).alloc (by simp) _).alloc (by simp; omega) _).alloc (by simp; omega) _)
  have a0 : W0.cell? ⟨w.heap.size, 0, none⟩ = some (.slice PA ps.length pc) := r0.cell 0
  have a1 : W0.cell? ⟨w.heap.size, 1, none⟩ = some (.slice QA rs.length qc) := r0.cell 1
  have HE := Lib.hid hne
  rw [hE] at HV
  clear hE hne
  go_enter Tryz.func72, Tryz.ntmps72
  go_wp2_with fail
  rw [← hW0]
  clear hW0
  go_wp2_with fail
  refine (HV.out _ B0).mono ?_
  rintro e w1 ⟨rfl, hb1⟩
  have B1 := B0.trans (hb1.mono B0.size)
  have q0 := r0.keep hb1
  have q4 := r1.keep hb1
  have q5 := r2.keep hb1
  have q6 := r3.keep hb1
  have z6 := q6.lt
  have a10 : w1.cell? ⟨w.heap.size, 0, none⟩ = some (.slice PA ps.length pc) := q0.cell 0
  have c40 : w1.cell? ⟨w.heap.size + 1, 0, none⟩ = some (.bool false) := q4.cell 0
  have f40 : w1.frozen? ⟨w.heap.size + 1, 0, none⟩ = false := q4.frozen 0
  have c41 : w1.cell? ⟨w.heap.size + 1, 1, none⟩ = some (.slice none 0 0) := q4.cell 1
  have f41 : w1.frozen? ⟨w.heap.size + 1, 1, none⟩ = false := q4.frozen 1
  have c50 : w1.cell? ⟨w.heap.size + 1 + 1, 0, none⟩ = some (.bool false) := q5.cell 0
  have f50 : w1.frozen? ⟨w.heap.size + 1 + 1, 0, none⟩ = false := q5.frozen 0
  have c51 : w1.cell? ⟨w.heap.size + 1 + 1, 1, none⟩ = some (.slice none 0 0) := q5.cell 1
  have f51 : w1.frozen? ⟨w.heap.size + 1 + 1, 1, none⟩ = false := q5.frozen 1
  have c60 : w1.cell? ⟨w.heap.size + 1 + 1 + 1, 0, none⟩ = some (.bool false) := q6.cell 0
  have f60 : w1.frozen? ⟨w.heap.size + 1 + 1 + 1, 0, none⟩ = false := q6.frozen 0
  have c61 : w1.cell? ⟨w.heap.size + 1 + 1 + 1, 1, none⟩ = some (.slice none 0 0) := q6.cell 1
  have f61 : w1.frozen? ⟨w.heap.size + 1 + 1 + 1, 1, none⟩ = false := q6.frozen 1
  clear HV r0 r1 r2 r3 q0 q4 q5 q6 a0 a1
  have hl : ((m : Int) != (ps.length : Int)) = true := by
    rw [bne_iff_ne]
    have := HE.out
    omega
  go_wp2_with fail
  refine bodyPost_ret (v := .tuple #[.agg #[.bool false, .slice none 0 0], .agg #[.bool false, .slice none 0 0], .agg #[.bool false, .slice none 0 0], .int .i64 1]) (by simp [results, Tryz.results72, go_sem, c40, c41, c50, c51, c60, c61]) rfl ⟨rfl, ?_⟩
  exact ((((((B1.setCell (by first | (simp; done) | (simp; omega)) _).setCell (by first | (simp; done) | (simp; omega)) _).setCell (by first | (simp; done) | (simp; omega)) _).setCell (by first | (simp; done) | (simp; omega)) _).setCell (by first | (simp; done) | (simp; omega)) _).setCell (by first | (simp; done) | (simp; omega)) _)

set_option maxHeartbeats 16000000 in
theorem gsums_bad (pv rv wv : Value) (ps rs : List Int) (WA : Option Addr) (m wc : Nat) (w : World) (hp : Nums .i64 w pv ps) (hr : Nums .i64 w rv rs) (hm : m ≤ 9223372036854775807) (hE : gridE ps rs ≠ 0) :
    Calls Tryz.prog 72 #[.agg #[pv, rv], .slice WA m wc] w fun e w' => e = .returned (.tuple #[.agg #[.bool false, .slice none 0 0], .agg #[.bool false, .slice none 0 0], .agg #[.bool false, .slice none 0 0], .int .i64 (gridE ps rs)]) ∧ Below w.heap.size w w' := by
  have HV := Lib.hid (fun (W : World) (h : Below w.heap.size w W) => gvalid_any pv rv ps rs W (hp.below h) (hr.below h))
  obtain ⟨PA, pc, rfl, hpc, hpm, hps⟩ := hp
  obtain ⟨QA, qc, rfl, hqc, hqm, hqs⟩ := hr
  unfold maxLen at hpm
  obtain ⟨W0, hW0⟩ : ∃ W0 : World, W0 = (((w.alloc (.cells #[.slice PA ps.length pc, .slice QA rs.length qc] 48)).alloc (.cells #[.bool false, .slice none 0 0] 26)).alloc (.cells #[.bool false, .slice none 0 0] 26)).alloc (.cells #[.bool false, .slice none 0 0] 26) := ⟨_, rfl⟩
  have r0 : Row W0 w.heap.size 48 [.slice PA ps.length pc, .slice QA rs.length qc] := by
    rw [hW0]
    have := Row.alloc (Row.alloc (Row.alloc (Row.new w 48 [.slice PA ps.length pc, .slice QA rs.length qc]) (.cells #[.bool false, .slice none 0 0] 26)) (.cells #[.bool false, .slice none 0 0] 26)) (.cells #[.bool false, .slice none 0 0] 26)
    simpa using this
  have r1 : Row W0 (w.heap.size + 1) 26 [.bool false, .slice none 0 0] := by
    rw [hW0]
    have := Row.alloc (Row.alloc (Row.new (w.alloc (.cells #[.slice PA ps.length pc, .slice QA rs.length qc] 48)) 26 [.bool false, .slice none 0 0]) (.cells #[.bool false, .slice none 0 0] 26)) (.cells #[.bool false, .slice none 0 0] 26)
    simpa using this
  have r2 : Row W0 (w.heap.size + 2) 26 [.bool false, .slice none 0 0] := by
    rw [hW0]
    have := Row.alloc (Row.new ((w.alloc (.cells #[.slice PA ps.length pc, .slice QA rs.length qc] 48)).alloc (.cells #[.bool false, .slice none 0 0] 26)) 26 [.bool false, .slice none 0 0]) (.cells #[.bool false, .slice none 0 0] 26)
    simpa using this
  have r3 : Row W0 (w.heap.size + 3) 26 [.bool false, .slice none 0 0] := by
    rw [hW0]
    have := Row.new (((w.alloc (.cells #[.slice PA ps.length pc, .slice QA rs.length qc] 48)).alloc (.cells #[.bool false, .slice none 0 0] 26)).alloc (.cells #[.bool false, .slice none 0 0] 26)) 26 [.bool false, .slice none 0 0]
    simpa using this
  have B0 : Below w.heap.size w W0 := by rw [hW0]; exact (((((Below.refl _ _).alloc (Nat.le_refl _) _).alloc (by simp) _).alloc (by simp; omega) _).alloc (by simp; omega) _)
  have a0 : W0.cell? ⟨w.heap.size, 0, none⟩ = some (.slice PA ps.length pc) := r0.cell 0
  have a1 : W0.cell? ⟨w.heap.size, 1, none⟩ = some (.slice QA rs.length qc) := r0.cell 1
  have hl : (gridE ps rs != 0) = true := by rw [bne_iff_ne]; exact hE
  generalize gridE ps rs = E at *
  clear hE
  go_enter Tryz.func72, Tryz.ntmps72
  go_wp2_with fail
  rw [← hW0]
  clear hW0
  go_wp2_with fail
  refine (HV.out _ B0).mono ?_
  rintro e w1 ⟨rfl, hb1⟩
  have B1 := B0.trans (hb1.mono B0.size)
  have q0 := r0.keep hb1
  have q4 := r1.keep hb1
  have q5 := r2.keep hb1
  have q6 := r3.keep hb1
  have z6 := q6.lt
  have a10 : w1.cell? ⟨w.heap.size, 0, none⟩ = some (.slice PA ps.length pc) := q0.cell 0
  have c40 : w1.cell? ⟨w.heap.size + 1, 0, none⟩ = some (.bool false) := q4.cell 0
  have f40 : w1.frozen? ⟨w.heap.size + 1, 0, none⟩ = false := q4.frozen 0
  have c41 : w1.cell? ⟨w.heap.size + 1, 1, none⟩ = some (.slice none 0 0) := q4.cell 1
  have f41 : w1.frozen? ⟨w.heap.size + 1, 1, none⟩ = false := q4.frozen 1
  have c50 : w1.cell? ⟨w.heap.size + 1 + 1, 0, none⟩ = some (.bool false) := q5.cell 0
  have f50 : w1.frozen? ⟨w.heap.size + 1 + 1, 0, none⟩ = false := q5.frozen 0
  have c51 : w1.cell? ⟨w.heap.size + 1 + 1, 1, none⟩ = some (.slice none 0 0) := q5.cell 1
  have f51 : w1.frozen? ⟨w.heap.size + 1 + 1, 1, none⟩ = false := q5.frozen 1
  have c60 : w1.cell? ⟨w.heap.size + 1 + 1 + 1, 0, none⟩ = some (.bool false) := q6.cell 0
  have f60 : w1.frozen? ⟨w.heap.size + 1 + 1 + 1, 0, none⟩ = false := q6.frozen 0
  have c61 : w1.cell? ⟨w.heap.size + 1 + 1 + 1, 1, none⟩ = some (.slice none 0 0) := q6.cell 1
  have f61 : w1.frozen? ⟨w.heap.size + 1 + 1 + 1, 1, none⟩ = false := q6.frozen 1
  clear HV r0 r1 r2 r3 q0 q4 q5 q6 a0 a1
  go_wp2_with fail
  refine bodyPost_ret (v := .tuple #[.agg #[.bool false, .slice none 0 0], .agg #[.bool false, .slice none 0 0], .agg #[.bool false, .slice none 0 0], .int .i64 E]) (by simp [results, Tryz.results72, go_sem, c40, c41, c50, c51, c60, c61]) rfl ⟨rfl, ?_⟩
  exact ((((((B1.setCell (by first | (simp; done) | (simp; omega)) _).setCell (by first | (simp; done) | (simp; omega)) _).setCell (by first | (simp; done) | (simp; omega)) _).setCell (by first | (simp; done) | (simp; omega)) _).setCell (by first | (simp; done) | (simp; omega)) _).setCell (by first | (simp; done) | (simp; omega)) _)
end Go.Proofs.YtfoleamcaflfeaaGreatDoor
