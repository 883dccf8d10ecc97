/- Lists of fractions in memory; ratio.Sum over fractions of one denominator. -/
import Derived.Test.YtompckomogmhiaaDoorRatG
import Derived.Test.YtompckomogmhiaaDoorLst
import Derived.Test.YtompckomogmhiaaDoorBx
namespace Go.Proofs.YtompckomogmhiaaDoor
open Go.RowKit
set_option linter.unusedVariables false

abbrev T3 := Value × Value × Value
/-- Three cells each. -/
def flat : List T3 → List Value
  | [] => []
  | u :: us => u.1 :: u.2.1 :: u.2.2 :: flat us
def z3 : T3 := (.bool false, .slice none 0 0, .slice none 0 0)
theorem flat_append : ∀ (a b : List T3), flat (a ++ b) = flat a ++ flat b
  | [], b => rfl
  | u :: a, b => by show _ :: _ :: _ :: flat (a ++ b) = _; rw [flat_append a b]; rfl
theorem flat_len : ∀ (us : List T3), (flat us).length = 3 * us.length
  | [] => rfl
  | u :: us => by show (flat us).length + 1 + 1 + 1 = 3 * (us.length + 1); rw [flat_len us]; omega
theorem flat_get : ∀ {us : List T3} {i : Nat} {u : T3}, us[i]? = some u → (flat us)[3 * i]? = some u.1 ∧ (flat us)[3 * i + 1]? = some u.2.1 ∧ (flat us)[3 * i + 2]? = some u.2.2
  | [], i, u, h => by simp at h
  | v :: us, 0, u, h => by
    simp at h
    subst h
    exact ⟨rfl, rfl, rfl⟩
  | v :: us, i + 1, u, h => by
    have h' : us[i]? = some u := by simpa using h
    obtain ⟨a, b, c⟩ := flat_get h'
    rw [show 3 * (i + 1) = 3 * i + 1 + 1 + 1 by omega]
    exact ⟨a, b, c⟩
theorem flat_set : ∀ (us : List T3) (i : Nat) (a b c : Value), i < us.length → (((flat us).set (3 * i) a).set (3 * i + 1) b).set (3 * i + 2) c = flat (us.set i (a, b, c))
  | [], i, a, b, c, h => by simp at h
  | v :: us, 0, a, b, c, h => rfl
  | v :: us, i + 1, a, b, c, h => by
    rw [show 3 * (i + 1) = 3 * i + 1 + 1 + 1 by omega]
    show v.1 :: v.2.1 :: v.2.2 :: (((flat us).set (3 * i) a).set (3 * i + 1) b).set (3 * i + 2) c = v.1 :: v.2.1 :: v.2.2 :: flat (us.set i (a, b, c))
    rw [flat_set us i a b c (by simpa using h)]
theorem made3 (n : Nat) : madeCells #[.bool false, .slice none 0 0, .slice none 0 0] (n * 3) = (flat (List.replicate n z3)).toArray := by
  apply Array.toList_inj.1
  apply List.ext_getElem?
  intro j
  by_cases hj : j < n * 3
  · have hi : (List.replicate n z3)[j / 3]? = some z3 := by rw [List.getElem?_replicate, if_pos (by omega)]
    obtain ⟨a, b, c⟩ := flat_get hi
    have hm : j % 3 = 0 ∨ j % 3 = 1 ∨ j % 3 = 2 := by omega
    rcases hm with h | h | h
    · have e : j = 3 * (j / 3) := by omega
      have hl : (madeCells #[.bool false, .slice none 0 0, .slice none 0 0] (n * 3)).toList[j]? = some (.bool false) := by simp [madeCells, hj, h]
      rw [hl]
      show _ = (flat (List.replicate n z3))[j]?
      rw [e, a]; rfl
    · have e : j = 3 * (j / 3) + 1 := by omega
      have hl : (madeCells #[.bool false, .slice none 0 0, .slice none 0 0] (n * 3)).toList[j]? = some (.slice none 0 0) := by simp [madeCells, hj, h]
      rw [hl]
      show _ = (flat (List.replicate n z3))[j]?
      rw [e, b]; rfl
    · have e : j = 3 * (j / 3) + 2 := by omega
      have hl : (madeCells #[.bool false, .slice none 0 0, .slice none 0 0] (n * 3)).toList[j]? = some (.slice none 0 0) := by simp [madeCells, hj, h]
      rw [hl]
      show _ = (flat (List.replicate n z3))[j]?
      rw [e, c]; rfl
  · have hl : (madeCells #[.bool false, .slice none 0 0, .slice none 0 0] (n * 3)).toList[j]? = none := by simp [madeCells]; omega
    rw [hl]
    show none = (flat (List.replicate n z3))[j]?
    rw [List.getElem?_eq_none (by rw [flat_len, List.length_replicate]; omega)]
def zrow3 (n : Nat) : Array Value := (flat (List.replicate n z3)).toArray
theorem infoRatio : (Tryd.prog.info? 31).map (fun i => (i.zero.map (·.cells), i.size, i.bytes)) = some (some #[.bool false, .slice none 0 0, .slice none 0 0], 3, 56) := by kernel_rfl
theorem run_mk3 {P : Program} {t e : TypeId} (ht : P.underlying t = some (.slice e)) (hinfo : (P.info? e).map (fun i => (i.zero.map (·.cells), i.size, i.bytes)) = some (some #[.bool false, .slice none 0 0, .slice none 0 0], 3, 56)) (_ : True = True)
    (n : Nat) (hb : 56 * n ≤ 281474976710656) (hm : n ≤ 9223372036854775807) (w : World) :
    (Instr.makeSlice t (.int .i64 (n : Int)) (.int .i64 (n : Int))).run P w = .ok (.slice (some ⟨w.heap.size, 0, none⟩) n n) (w.alloc (.cells (zrow3 n) e)) := by
  rcases hi : P.info? e with _ | i
  · rw [hi] at hinfo; simp at hinfo
  · rw [hi] at hinfo
    simp only [Option.map_some, Option.some.injEq, Prod.mk.injEq] at hinfo
    obtain ⟨h1, h2, h3⟩ := hinfo
    rcases hz : i.zero with _ | z
    · rw [hz] at h1; simp at h1
    · rw [hz] at h1
      simp only [Option.map_some, Option.some.injEq] at h1
      have hr := run_make (P := P) w t e i z ht hi hz .i64 .i64 n n (by omega) (Int.le_refl _) (by rw [h3]; omega) (by omega)
      simp only [Int.toNat_natCast, h2, h1] at hr
      rw [made3] at hr
      exact hr
theorem Row.newz3 (w : World) (t n : Nat) : Row (w.alloc (.cells (zrow3 n) t)) w.heap.size t (flat (List.replicate n z3)) := heap_alloc_new w _
theorem padt_set (l : List T3) (z : T3) (n k : Nat) (x : T3) (hl : l.length = k) (hk : k < n) : (l ++ List.replicate (n - k) z).set k x = (l ++ [x]) ++ List.replicate (n - (k + 1)) z := by
  subst hl
  rw [List.set_append_right _ _ (by omega), Nat.sub_self]
  obtain ⟨m, hm⟩ : ∃ m, n - l.length = m + 1 := ⟨n - l.length - 1, by omega⟩
  rw [hm, List.replicate_succ, List.set_cons_zero, show n - (l.length + 1) = m by omega]
  simp
theorem padt_get (l : List T3) (z : T3) (n k : Nat) (hl : l.length = k) (hk : k < n) : (l ++ List.replicate (n - k) z)[k]? = some z := by
  subst hl
  rw [List.getElem?_append_right (by omega), Nat.sub_self, List.getElem?_replicate, if_pos (by omega)]
/-- The first k of the ratios, each in three cells, in memory from base on. -/
def RatC (w : World) (us : List T3) (zs : List (Int × Nat)) (k L base : Nat) : Prop := us.length = k ∧ ∀ i u, us[i]? = some u → RatF base w (.agg #[u.1, u.2.1, u.2.2]) (zs.getD i (0, 1)).1 (zs.getD i (0, 1)).2 L
theorem RatC.zero (w : World) (zs : List (Int × Nat)) (L base : Nat) : RatC w [] zs 0 L base := ⟨rfl, fun i u h => by simp at h⟩
theorem RatC.below {w w' : World} {us : List T3} {zs : List (Int × Nat)} {k L base : Nat} (h : RatC w us zs k L base) (hb : Below w.heap.size w w') : RatC w' us zs k L base := ⟨h.1, fun i u hi => (h.2 i u hi).below hb⟩
theorem RatC.set3 {w : World} {us : List T3} {zs : List (Int × Nat)} {k L g : Nat} (h : RatC w us zs k L (g + 1)) (i : Nat) (a b c : Value) : RatC (((w.setCell ⟨g, i, none⟩ a).setCell ⟨g, i + 1, none⟩ b).setCell ⟨g, i + 2, none⟩ c) us zs k L (g + 1) :=
  ⟨h.1, fun j u hj => (((h.2 j u hj).set_ (a := ⟨g, i, none⟩) (Nat.lt_succ_self _) a).set_ (a := ⟨g, i + 1, none⟩) (Nat.lt_succ_self _) b).set_ (a := ⟨g, i + 2, none⟩) (Nat.lt_succ_self _) c⟩
theorem RatC.snoc {w : World} {us : List T3} {zs : List (Int × Nat)} {k L base b : Nat} {x y z : Value} (h : RatC w us zs k L base) (hx : RatF b w (.agg #[x, y, z]) (zs.getD k (0, 1)).1 (zs.getD k (0, 1)).2 L) (hb : base ≤ b) : RatC w (us ++ [(x, y, z)]) zs (k + 1) L base := by
  refine ⟨by rw [List.length_append, h.1]; rfl, fun i u hi => ?_⟩
  rcases Nat.lt_or_ge i us.length with hl | hl
  · rw [List.getElem?_append_left hl] at hi
    exact h.2 i u hi
  · rw [List.getElem?_append_right hl] at hi
    have : i - us.length = 0 := by
      rcases Nat.eq_zero_or_pos (i - us.length) with h0 | h0
      · exact h0
      · rw [List.getElem?_eq_none (by simp; omega)] at hi; cases hi
    rw [this] at hi
    simp at hi
    subst hi
    have : i = k := by have := h.1; omega
    subst this
    exact hx.base hb
theorem NatAny.mono {w : World} {v : Value} {n L M : Nat} (h : NatAny w v n L) (hL : L ≤ M) : NatAny w v n M := by
  obtain ⟨ls, h1, h2, h3⟩ := h
  exact ⟨ls, h1, h2, by omega⟩
theorem flipZ_posI {p s : Int} (h : 0 < s) : flipZ p s = p := if_neg (by omega)
theorem List.le_sum_of_memN {x : Nat} : ∀ {l : List Nat}, x ∈ l → x ≤ l.sum
  | [], h => by simp at h
  | y :: l, h => by
    rw [List.sum_cons]
    rcases List.mem_cons.1 h with h | h
    · omega
    · have := List.le_sum_of_memN h; omega
set_option maxRecDepth 100000 in
theorem gcd_posR {p : Int} {q : Nat} (h : 0 < q) : 0 < ((Nat.gcd p.natAbs q : Nat) : Int) := by
  have := Nat.gcd_pos_of_pos_right p.natAbs h
  omega
/-- A sum of two fractions over one denominator. -/
theorem add_red (a b : Int) (D : Nat) (hD : 0 < D) :
    redP (redP a D * (redQ b D : Int) + redP b D * (redQ a D : Int)) (redQ a D * redQ b D) = redP (a + b) D ∧ redQ (redP a D * (redQ b D : Int) + redP b D * (redQ a D : Int)) (redQ a D * redQ b D) = redQ (a + b) D := by
  have q1 := redQ_pos (p := a) hD
  have q2 := redQ_pos (p := b) hD
  refine red_cross (Nat.mul_pos q1 q2) hD ?_
  obtain ⟨a1, b1⟩ := red_mul a D
  obtain ⟨a2, b2⟩ := red_mul b D
  have g1 := gcd_posR (p := a) hD
  have g2 := gcd_posR (p := b) hD
  have b1' : (D : Int) = (redQ a D : Int) * ((Nat.gcd a.natAbs D : Nat) : Int) := by rw [← Int.natCast_mul, ← b1]
  have b2' : (D : Int) = (redQ b D : Int) * ((Nat.gcd b.natAbs D : Nat) : Int) := by rw [← Int.natCast_mul, ← b2]
  generalize redP a D = P1 at *
  generalize redP b D = P2 at *
  generalize (redQ a D) = Q1 at *
  generalize (redQ b D) = Q2 at *
  generalize ((Nat.gcd a.natAbs D : Nat) : Int) = h1 at *
  generalize ((Nat.gcd b.natAbs D : Nat) : Int) = h2 at *
  rw [Int.natCast_mul]
  have e1 : P1 * (Q2 : Int) * (D : Int) = a * ((Q1 : Int) * (Q2 : Int)) := by rw [a1]; rw [b1']; grind
  have e2 : P2 * (Q1 : Int) * (D : Int) = b * ((Q1 : Int) * (Q2 : Int)) := by rw [a2]; rw [b2']; grind
  grind
theorem red_nul {D : Nat} : (0 < D → redP 0 D = 0) ∧ (0 < D → redQ 0 D = 1) := by
  refine ⟨fun h => by unfold redP; simp, fun h => by unfold redQ; simp [Nat.div_self h]⟩
theorem redP_leS (p : Int) (q : Nat) : (redP p q).natAbs ≤ p.natAbs := by rw [redP_abs]; exact Nat.div_le_self _ _
theorem redQ_leS (p : Int) (q : Nat) : redQ p q ≤ q := by unfold redQ; exact Nat.div_le_self _ _
set_option maxRecDepth 100000 in
set_option maxHeartbeats 8000000 in
theorem qsum_any (g n D L : Nat) (us : List T3) (zs : List (Int × Nat)) (fa : Nat → Int) (w : World) (hr : Row w g 31 (flat us)) (hc : RatC w us zs n L 0) (hz : ∀ j, j < n → zs.getD j (0, 1) = (redP (fa j) D, redQ (fa j) D)) (hD : 0 < D) (hL2 : 2 ≤ L) (hM : L ≤ 35184372088700) (hb : ∀ j, j ≤ n → (redP (mom fa j) D).natAbs < bp L ∧ redQ (mom fa j) D < bp L) (hn : n ≤ 1000) :
    Calls Tryd.prog 41 #[.slice (some ⟨g, 0, none⟩) n n] w fun e w' => ∃ x, e = .returned x ∧ RatF w.heap.size w' x (redP (mom fa n) D) (redQ (mom fa n) D) L ∧ Below w.heap.size w w' := by
  have HR := Lib.hid (fun (q : Nat) => hr.cell q)
  have hgl : g < w.heap.size := hr.lt
  have HL := Lib.hid hc.1
  have HC := Lib.hid hc.2
  have HZ := Lib.hid hz
  have HB := Lib.hid hb
  clear hr hc hz hb
  obtain ⟨W0, hW0⟩ : ∃ W0 : World, W0 = w.alloc (.cells #[.bool false, .slice none 0 0, .slice none 0 0] 31) := ⟨_, rfl⟩
  have r0 : Row W0 w.heap.size 31 [.bool false, .slice none 0 0, .slice none 0 0] := by
    rw [hW0]
    have := Row.new w 31 [.bool false, .slice none 0 0, .slice none 0 0]
    simpa using this
  have B0 : Below w.heap.size w W0 := by rw [hW0]; exact ((Below.refl _ _).alloc (Nat.le_refl _) _)
  go_enter Tryd.func41, Tryd.ntmps41
  go_wp2_with fail
  rw [← hW0]
  clear hW0
  have BB := B0
  have hr2 := r0
  clear B0 r0
  refine (rzero_any _).mono ?_
  have yy2 : w.heap.size + 1 ≤ W0.heap.size := hr2.lt
  rintro e x1 ⟨x3, rfl, hv3, hb⟩
  replace hr2 := hr2.keep hb
  replace BB : Below w.heap.size w x1 := BB.trans (hb.mono BB.size)
  clear hb
  have h3' := hv3
  obtain ⟨m3, d3, e3, hm3, hd3, _, _⟩ := h3'
  subst e3
  obtain ⟨A3, k3, c3, rfl⟩ := hm3.lim1.choose_spec.1.show_
  obtain ⟨D3, l3, b3, rfl⟩ := hd3.lim1.choose_spec.1.show_
  clear hm3 hd3
  obtain ⟨g3, hg3⟩ : ∃ g, x1.heap.size = g := ⟨_, rfl⟩
  have hr3 : Row (x1.alloc (.cells #[.bool false, .slice A3 k3 c3, .slice D3 l3 b3] 31)) g3 31 [.bool false, .slice A3 k3 c3, .slice D3 l3 b3] := row_at hg3
  have hl := lit_below x1 (.cells #[.bool false, .slice A3 k3 c3, .slice D3 l3 b3] 31)
  have o2_3 : w.heap.size < g3 := by have := hr2.lt; omega
  have ob_3 : w.heap.size ≤ g3 := by have := BB.size; omega
  have c20 : x1.cell? ⟨w.heap.size, 0, none⟩ = some (.bool false) := hr2.cell 0
  have c21 : x1.cell? ⟨w.heap.size, 1, none⟩ = some (.slice none 0 0) := hr2.cell 1
  have c22 : x1.cell? ⟨w.heap.size, 2, none⟩ = some (.slice none 0 0) := hr2.cell 2
  have f20 : x1.frozen? ⟨w.heap.size, 0, none⟩ = false := hr2.frozen 0
  have f21 : x1.frozen? ⟨w.heap.size, 1, none⟩ = false := hr2.frozen 1
  have f22 : x1.frozen? ⟨w.heap.size, 2, none⟩ = false := hr2.frozen 2
  have d20 : (x1.alloc (.cells #[.bool false, .slice A3 k3 c3, .slice D3 l3 b3] 31)).cell? ⟨w.heap.size, 0, none⟩ = some (.bool false) := (hr2.alloc _).cell 0
  have d21 : (x1.alloc (.cells #[.bool false, .slice A3 k3 c3, .slice D3 l3 b3] 31)).cell? ⟨w.heap.size, 1, none⟩ = some (.slice none 0 0) := (hr2.alloc _).cell 1
  have d22 : (x1.alloc (.cells #[.bool false, .slice A3 k3 c3, .slice D3 l3 b3] 31)).cell? ⟨w.heap.size, 2, none⟩ = some (.slice none 0 0) := (hr2.alloc _).cell 2
  have h20 : (x1.alloc (.cells #[.bool false, .slice A3 k3 c3, .slice D3 l3 b3] 31)).frozen? ⟨w.heap.size, 0, none⟩ = false := (hr2.alloc _).frozen 0
  have h21 : (x1.alloc (.cells #[.bool false, .slice A3 k3 c3, .slice D3 l3 b3] 31)).frozen? ⟨w.heap.size, 1, none⟩ = false := (hr2.alloc _).frozen 1
  have h22 : (x1.alloc (.cells #[.bool false, .slice A3 k3 c3, .slice D3 l3 b3] 31)).frozen? ⟨w.heap.size, 2, none⟩ = false := (hr2.alloc _).frozen 2
  have e0 : (x1.alloc (.cells #[.bool false, .slice A3 k3 c3, .slice D3 l3 b3] 31)).cell? ⟨g3, 0, none⟩ = some (.bool false) := hr3.cell 0
  have e1 : (x1.alloc (.cells #[.bool false, .slice A3 k3 c3, .slice D3 l3 b3] 31)).cell? ⟨g3, 1, none⟩ = some (.slice A3 k3 c3) := hr3.cell 1
  have e2 : (x1.alloc (.cells #[.bool false, .slice A3 k3 c3, .slice D3 l3 b3] 31)).cell? ⟨g3, 2, none⟩ = some (.slice D3 l3 b3) := hr3.cell 2
  go_wp2_with fail
  clear c20 c21 c22 f20 f21 f22 d20 d21 d22 h20 h21 h22 e0 e1 e2
  clear hg3
  generalize (x1.alloc (.cells #[.bool false, .slice A3 k3 c3, .slice D3 l3 b3] 31)) = x2 at *
  replace hr2 := hr2.keep hl
  replace hv3 := hv3.below hl
  replace BB : Below w.heap.size w x2 := BB.trans (hl.mono BB.size)
  clear hl
  go_loopw [9] (fun iv wr => ∃ (j : Nat) (A : Option Addr) (k0 c : Nat) (B : Option Addr) (l0 b : Nat), j ≤ n ∧ iv = .int .i64 (j : Int) ∧ Row wr w.heap.size 31 [.bool false, .slice none 0 0, .slice none 0 0] ∧ Row wr g3 31 [.bool (decide ((redP (mom fa (j)) D) < 0)), .slice A k0 c, .slice B l0 b] ∧ RatF (w.heap.size + 1) wr (.agg #[.bool (decide ((redP (mom fa (j)) D) < 0)), .slice A k0 c, .slice B l0 b]) (redP (mom fa (j)) D) (redQ (mom fa (j)) D) L ∧ Below w.heap.size w wr) (fun iv _ => n - (intOf iv).toNat)
  case atStart =>
    refine ⟨0, A3, k3, c3, D3, l3, b3, by omega, rfl, hr2, ?_, ?_, BB⟩
    · rw [show redP (mom fa 0) D = 0 from red_nul.1 hD]
      exact hr3
    · rw [show redP (mom fa 0) D = 0 from red_nul.1 hD, show redQ (mom fa 0) D = 1 from red_nul.2 hD]
      exact (hv3.mono hL2).base yy2
  case round =>
    obtain ⟨j, A, k0, c, B, l0, b, hj, rfl, hr2, hr3, hv3, BB⟩ := hrel
    by_cases hlt : j < n
    · obtain ⟨u, hu⟩ : ∃ u, us[j]? = some u := ⟨us[j]'(by rw [HL.out]; exact hlt), List.getElem?_eq_getElem _⟩
      have hel := HC.out j u hu
      rw [HZ.out j hlt] at hel
      obtain ⟨e0, e1, e2⟩ := flat_get hu
      have q0 := (BB.cell (p := ⟨g, 3 * j, none⟩) hgl).trans ((HR.out (3 * j)).trans e0)
      have q1 := (BB.cell (p := ⟨g, 3 * j + 1, none⟩) hgl).trans ((HR.out (3 * j + 1)).trans e1)
      have q2 := (BB.cell (p := ⟨g, 3 * j + 2, none⟩) hgl).trans ((HR.out (3 * j + 2)).trans e2)
      obtain ⟨a0, a1, a2⟩ := u
      simp only at q0 q1 q2 hel
      obtain ⟨m5, d5, e5, hm5, hd5, _, _⟩ := id hel
      obtain ⟨rfl, rfl, rfl⟩ : a0 = .bool (decide (redP (fa j) D < 0)) ∧ a1 = m5 ∧ a2 = d5 := by simpa using e5
      obtain ⟨A5, k5, c5, rfl⟩ := hm5.lim1.choose_spec.1.show_
      obtain ⟨D5, l5, b5, rfl⟩ := hd5.lim1.choose_spec.1.show_
      clear e5 hm5 hd5
      clear e0 e1 e2 hu
      replace hel := hel.below BB
      have w0 : wr.cell? ⟨g, j * 3, none⟩ = some (.bool (decide (redP (fa j) D < 0))) := by rw [Nat.mul_comm]; exact q0
      have w1 : wr.cell? ⟨g, j * 3 + 1, none⟩ = some (.slice A5 k5 c5) := by rw [Nat.mul_comm]; exact q1
      have w2 : wr.cell? ⟨g, j * 3 + 2, none⟩ = some (.slice D5 l5 b5) := by rw [Nat.mul_comm]; exact q2
      have hjI : (j : Int) < (n : Int) := by omega
      obtain ⟨g5, hg5⟩ : ∃ g, wr.heap.size = g := ⟨_, rfl⟩
      have hr5 : Row (wr.alloc (.cells #[.bool (decide (redP (fa j) D < 0)), .slice A5 k5 c5, .slice D5 l5 b5] 31)) g5 31 [.bool (decide (redP (fa j) D < 0)), .slice A5 k5 c5, .slice D5 l5 b5] := row_at hg5
      have hl := lit_below wr (.cells #[.bool (decide (redP (fa j) D < 0)), .slice A5 k5 c5, .slice D5 l5 b5] 31)
      have o2_5 : w.heap.size < g5 := by have := hr2.lt; omega
      have o3_5 : g3 < g5 := by have := hr3.lt; omega
      have ob_5 : w.heap.size ≤ g5 := by have := BB.size; omega
      have c20 : wr.cell? ⟨w.heap.size, 0, none⟩ = some (.bool false) := hr2.cell 0
      have c21 : wr.cell? ⟨w.heap.size, 1, none⟩ = some (.slice none 0 0) := hr2.cell 1
      have c22 : wr.cell? ⟨w.heap.size, 2, none⟩ = some (.slice none 0 0) := hr2.cell 2
      have c30 : wr.cell? ⟨g3, 0, none⟩ = some (.bool (decide ((redP (mom fa (j)) D) < 0))) := hr3.cell 0
      have c31 : wr.cell? ⟨g3, 1, none⟩ = some (.slice A k0 c) := hr3.cell 1
      have c32 : wr.cell? ⟨g3, 2, none⟩ = some (.slice B l0 b) := hr3.cell 2
      have f30 : wr.frozen? ⟨g3, 0, none⟩ = false := hr3.frozen 0
      have f31 : wr.frozen? ⟨g3, 1, none⟩ = false := hr3.frozen 1
      have f32 : wr.frozen? ⟨g3, 2, none⟩ = false := hr3.frozen 2
      have d20 : (wr.alloc (.cells #[.bool (decide (redP (fa j) D < 0)), .slice A5 k5 c5, .slice D5 l5 b5] 31)).cell? ⟨w.heap.size, 0, none⟩ = some (.bool false) := (hr2.alloc _).cell 0
      have d21 : (wr.alloc (.cells #[.bool (decide (redP (fa j) D < 0)), .slice A5 k5 c5, .slice D5 l5 b5] 31)).cell? ⟨w.heap.size, 1, none⟩ = some (.slice none 0 0) := (hr2.alloc _).cell 1
      have d22 : (wr.alloc (.cells #[.bool (decide (redP (fa j) D < 0)), .slice A5 k5 c5, .slice D5 l5 b5] 31)).cell? ⟨w.heap.size, 2, none⟩ = some (.slice none 0 0) := (hr2.alloc _).cell 2
      have d30 : (wr.alloc (.cells #[.bool (decide (redP (fa j) D < 0)), .slice A5 k5 c5, .slice D5 l5 b5] 31)).cell? ⟨g3, 0, none⟩ = some (.bool (decide ((redP (mom fa (j)) D) < 0))) := (hr3.alloc _).cell 0
      have d31 : (wr.alloc (.cells #[.bool (decide (redP (fa j) D < 0)), .slice A5 k5 c5, .slice D5 l5 b5] 31)).cell? ⟨g3, 1, none⟩ = some (.slice A k0 c) := (hr3.alloc _).cell 1
      have d32 : (wr.alloc (.cells #[.bool (decide (redP (fa j) D < 0)), .slice A5 k5 c5, .slice D5 l5 b5] 31)).cell? ⟨g3, 2, none⟩ = some (.slice B l0 b) := (hr3.alloc _).cell 2
      have h30 : (wr.alloc (.cells #[.bool (decide (redP (fa j) D < 0)), .slice A5 k5 c5, .slice D5 l5 b5] 31)).frozen? ⟨g3, 0, none⟩ = false := (hr3.alloc _).frozen 0
      have h31 : (wr.alloc (.cells #[.bool (decide (redP (fa j) D < 0)), .slice A5 k5 c5, .slice D5 l5 b5] 31)).frozen? ⟨g3, 1, none⟩ = false := (hr3.alloc _).frozen 1
      have h32 : (wr.alloc (.cells #[.bool (decide (redP (fa j) D < 0)), .slice A5 k5 c5, .slice D5 l5 b5] 31)).frozen? ⟨g3, 2, none⟩ = false := (hr3.alloc _).frozen 2
      have e0 : (wr.alloc (.cells #[.bool (decide (redP (fa j) D < 0)), .slice A5 k5 c5, .slice D5 l5 b5] 31)).cell? ⟨g5, 0, none⟩ = some (.bool (decide (redP (fa j) D < 0))) := hr5.cell 0
      have e1 : (wr.alloc (.cells #[.bool (decide (redP (fa j) D < 0)), .slice A5 k5 c5, .slice D5 l5 b5] 31)).cell? ⟨g5, 1, none⟩ = some (.slice A5 k5 c5) := hr5.cell 1
      have e2 : (wr.alloc (.cells #[.bool (decide (redP (fa j) D < 0)), .slice A5 k5 c5, .slice D5 l5 b5] 31)).cell? ⟨g5, 2, none⟩ = some (.slice D5 l5 b5) := hr5.cell 2
      go_wp2_with fail
      clear c20 c21 c22 c30 c31 c32 f30 f31 f32 d20 d21 d22 d30 d31 d32 h30 h31 h32 e0 e1 e2
      clear hg5
      generalize (wr.alloc (.cells #[.bool (decide (redP (fa j) D < 0)), .slice A5 k5 c5, .slice D5 l5 b5] 31)) = x51 at *
      replace hr2 := hr2.keep hl
      replace hr3 := hr3.keep hl
      replace hv3 := hv3.below hl
      replace hel := hel.below hl
      replace BB : Below w.heap.size w x51 := BB.trans (hl.mono BB.size)
      clear hl
      clear q0 q1 q2 w0 w1 w2
      refine (qadd_wide _ _ (redP (mom fa (j)) D) (redP (fa j) D) (redQ (mom fa (j)) D) (redQ (fa j) D) L _ (hv3.ratA (redQ_pos hD)) (hel.ratA (redQ_pos hD)) hL2 hM).mono ?_
      have yy3 := hr3.lt
      have yy2 := hr2.lt
      rintro e x52 ⟨x6, rfl, hv6, hb⟩
      replace hr2 := hr2.keep hb
      replace hr3 := hr3.keep hb
      replace hv3 := hv3.below hb
      replace hel := hel.below hb
      replace hr5 := hr5.keep hb
      replace BB : Below w.heap.size w x52 := BB.trans (hb.mono BB.size)
      clear hb
      rw [(add_red (mom fa j) (fa j) D hD).1, (add_red (mom fa j) (fa j) D hD).2] at hv6
      replace hv6 := hv6.tight (HB.out (j + 1) (by omega)).1 (HB.out (j + 1) (by omega)).2
      have h6' := hv6
      obtain ⟨m6, d6, e6, hm6, hd6, _, _⟩ := h6'
      subst e6
      obtain ⟨A6, k6, c6, rfl⟩ := hm6.lim1.choose_spec.1.show_
      obtain ⟨D6, l6, b6, rfl⟩ := hd6.lim1.choose_spec.1.show_
      clear hm6 hd6
      clear hv3 hel
      have c20 : x52.cell? ⟨w.heap.size, 0, none⟩ = some (.bool false) := hr2.cell 0
      have c21 : x52.cell? ⟨w.heap.size, 1, none⟩ = some (.slice none 0 0) := hr2.cell 1
      have c22 : x52.cell? ⟨w.heap.size, 2, none⟩ = some (.slice none 0 0) := hr2.cell 2
      have c30 : x52.cell? ⟨g3, 0, none⟩ = some (.bool (decide ((redP (mom fa (j)) D) < 0))) := hr3.cell 0
      have c31 : x52.cell? ⟨g3, 1, none⟩ = some (.slice A k0 c) := hr3.cell 1
      have c32 : x52.cell? ⟨g3, 2, none⟩ = some (.slice B l0 b) := hr3.cell 2
      have c50 : x52.cell? ⟨g5, 0, none⟩ = some (.bool (decide (redP (fa j) D < 0))) := hr5.cell 0
      have c51 : x52.cell? ⟨g5, 1, none⟩ = some (.slice A5 k5 c5) := hr5.cell 1
      have c52 : x52.cell? ⟨g5, 2, none⟩ = some (.slice D5 l5 b5) := hr5.cell 2
      have f30 : x52.frozen? ⟨g3, 0, none⟩ = false := hr3.frozen 0
      have f31 : x52.frozen? ⟨g3, 1, none⟩ = false := hr3.frozen 1
      have f32 : x52.frozen? ⟨g3, 2, none⟩ = false := hr3.frozen 2
      have z2 := hr2.lt
      have z3 := hr3.lt
      have z5 := hr5.lt
      have nhr2 : Row (((x52.setCell ⟨g3, 0, none⟩ (.bool (decide (redP (mom fa j + fa j) D < 0)))).setCell ⟨g3, 1, none⟩ (.slice A6 k6 c6)).setCell ⟨g3, 2, none⟩ (.slice D6 l6 b6)) (w.heap.size) 31 [.bool false, .slice none 0 0, .slice none 0 0] := (((hr2.far (by show w.heap.size ≠ g3; omega) _).far (by show w.heap.size ≠ g3; omega) _).far (by show w.heap.size ≠ g3; omega) _)
      have nhr3 : Row (((x52.setCell ⟨g3, 0, none⟩ (.bool (decide (redP (mom fa j + fa j) D < 0)))).setCell ⟨g3, 1, none⟩ (.slice A6 k6 c6)).setCell ⟨g3, 2, none⟩ (.slice D6 l6 b6)) (g3) 31 [.bool (decide (redP (mom fa j + fa j) D < 0)), .slice A6 k6 c6, .slice D6 l6 b6] := (((hr3.set_ 0 (.bool (decide (redP (mom fa j + fa j) D < 0)))).set_ 1 (.slice A6 k6 c6)).set_ 2 (.slice D6 l6 b6))
      have nhr5 : Row (((x52.setCell ⟨g3, 0, none⟩ (.bool (decide (redP (mom fa j + fa j) D < 0)))).setCell ⟨g3, 1, none⟩ (.slice A6 k6 c6)).setCell ⟨g3, 2, none⟩ (.slice D6 l6 b6)) (g5) 31 [.bool (decide (redP (fa j) D < 0)), .slice A5 k5 c5, .slice D5 l5 b5] := (((hr5.far (by show g5 ≠ g3; omega) _).far (by show g5 ≠ g3; omega) _).far (by show g5 ≠ g3; omega) _)
      have nBB : Below w.heap.size w (((x52.setCell ⟨g3, 0, none⟩ (.bool (decide (redP (mom fa j + fa j) D < 0)))).setCell ⟨g3, 1, none⟩ (.slice A6 k6 c6)).setCell ⟨g3, 2, none⟩ (.slice D6 l6 b6)) := (((BB.setCell (by show w.heap.size ≤ g3; omega) _).setCell (by show w.heap.size ≤ g3; omega) _).setCell (by show w.heap.size ≤ g3; omega) _)
      have nhv6 := (((hv6.set_ (a := ⟨g3, 0, none⟩) (by show g3 < _; omega) (.bool (decide (redP (mom fa j + fa j) D < 0)))).set_ (a := ⟨g3, 1, none⟩) (by show g3 < _; omega) (.slice A6 k6 c6)).set_ (a := ⟨g3, 2, none⟩) (by show g3 < _; omega) (.slice D6 l6 b6))
      have d20 : (((x52.setCell ⟨g3, 0, none⟩ (.bool (decide (redP (mom fa j + fa j) D < 0)))).setCell ⟨g3, 1, none⟩ (.slice A6 k6 c6)).setCell ⟨g3, 2, none⟩ (.slice D6 l6 b6)).cell? ⟨w.heap.size, 0, none⟩ = some (.bool false) := nhr2.cell 0
      have d21 : (((x52.setCell ⟨g3, 0, none⟩ (.bool (decide (redP (mom fa j + fa j) D < 0)))).setCell ⟨g3, 1, none⟩ (.slice A6 k6 c6)).setCell ⟨g3, 2, none⟩ (.slice D6 l6 b6)).cell? ⟨w.heap.size, 1, none⟩ = some (.slice none 0 0) := nhr2.cell 1
      have d22 : (((x52.setCell ⟨g3, 0, none⟩ (.bool (decide (redP (mom fa j + fa j) D < 0)))).setCell ⟨g3, 1, none⟩ (.slice A6 k6 c6)).setCell ⟨g3, 2, none⟩ (.slice D6 l6 b6)).cell? ⟨w.heap.size, 2, none⟩ = some (.slice none 0 0) := nhr2.cell 2
      have d30 : (((x52.setCell ⟨g3, 0, none⟩ (.bool (decide (redP (mom fa j + fa j) D < 0)))).setCell ⟨g3, 1, none⟩ (.slice A6 k6 c6)).setCell ⟨g3, 2, none⟩ (.slice D6 l6 b6)).cell? ⟨g3, 0, none⟩ = some (.bool (decide (redP (mom fa j + fa j) D < 0))) := nhr3.cell 0
      have d31 : (((x52.setCell ⟨g3, 0, none⟩ (.bool (decide (redP (mom fa j + fa j) D < 0)))).setCell ⟨g3, 1, none⟩ (.slice A6 k6 c6)).setCell ⟨g3, 2, none⟩ (.slice D6 l6 b6)).cell? ⟨g3, 1, none⟩ = some (.slice A6 k6 c6) := nhr3.cell 1
      have d32 : (((x52.setCell ⟨g3, 0, none⟩ (.bool (decide (redP (mom fa j + fa j) D < 0)))).setCell ⟨g3, 1, none⟩ (.slice A6 k6 c6)).setCell ⟨g3, 2, none⟩ (.slice D6 l6 b6)).cell? ⟨g3, 2, none⟩ = some (.slice D6 l6 b6) := nhr3.cell 2
      have d50 : (((x52.setCell ⟨g3, 0, none⟩ (.bool (decide (redP (mom fa j + fa j) D < 0)))).setCell ⟨g3, 1, none⟩ (.slice A6 k6 c6)).setCell ⟨g3, 2, none⟩ (.slice D6 l6 b6)).cell? ⟨g5, 0, none⟩ = some (.bool (decide (redP (fa j) D < 0))) := nhr5.cell 0
      have d51 : (((x52.setCell ⟨g3, 0, none⟩ (.bool (decide (redP (mom fa j + fa j) D < 0)))).setCell ⟨g3, 1, none⟩ (.slice A6 k6 c6)).setCell ⟨g3, 2, none⟩ (.slice D6 l6 b6)).cell? ⟨g5, 1, none⟩ = some (.slice A5 k5 c5) := nhr5.cell 1
      have d52 : (((x52.setCell ⟨g3, 0, none⟩ (.bool (decide (redP (mom fa j + fa j) D < 0)))).setCell ⟨g3, 1, none⟩ (.slice A6 k6 c6)).setCell ⟨g3, 2, none⟩ (.slice D6 l6 b6)).cell? ⟨g5, 2, none⟩ = some (.slice D5 l5 b5) := nhr5.cell 2
      have h30 : (((x52.setCell ⟨g3, 0, none⟩ (.bool (decide (redP (mom fa j + fa j) D < 0)))).setCell ⟨g3, 1, none⟩ (.slice A6 k6 c6)).setCell ⟨g3, 2, none⟩ (.slice D6 l6 b6)).frozen? ⟨g3, 0, none⟩ = false := nhr3.frozen 0
      have h31 : (((x52.setCell ⟨g3, 0, none⟩ (.bool (decide (redP (mom fa j + fa j) D < 0)))).setCell ⟨g3, 1, none⟩ (.slice A6 k6 c6)).setCell ⟨g3, 2, none⟩ (.slice D6 l6 b6)).frozen? ⟨g3, 1, none⟩ = false := nhr3.frozen 1
      have h32 : (((x52.setCell ⟨g3, 0, none⟩ (.bool (decide (redP (mom fa j + fa j) D < 0)))).setCell ⟨g3, 1, none⟩ (.slice A6 k6 c6)).setCell ⟨g3, 2, none⟩ (.slice D6 l6 b6)).frozen? ⟨g3, 2, none⟩ = false := nhr3.frozen 2
      go_wp2_with fail
      clear d20 d21 d22 d30 d31 d32 d50 d51 d52 h30 h31 h32 c20 c21 c22 c30 c31 c32 c50 c51 c52 f30 f31 f32 z2 z3 z5
      replace hr2 := nhr2
      clear nhr2
      replace hr3 := nhr3
      clear nhr3
      replace hr5 := nhr5
      clear nhr5
      replace hv6 := nhv6
      clear nhv6
      replace BB := nBB
      clear nBB
      generalize (((x52.setCell ⟨g3, 0, none⟩ (.bool (decide (redP (mom fa j + fa j) D < 0)))).setCell ⟨g3, 1, none⟩ (.slice A6 k6 c6)).setCell ⟨g3, 2, none⟩ (.slice D6 l6 b6)) = x53 at *
      go_roundw
      case rel => exact ⟨j + 1, A6, k6, c6, D6, l6, b6, by omega, by go_num, hr2, hr3, hv6.base (by omega), BB⟩
      case measure => simp [intOf]; omega
    · obtain rfl : j = n := by omega
      have c20 : wr.cell? ⟨w.heap.size, 0, none⟩ = some (.bool false) := hr2.cell 0
      have c21 : wr.cell? ⟨w.heap.size, 1, none⟩ = some (.slice none 0 0) := hr2.cell 1
      have c22 : wr.cell? ⟨w.heap.size, 2, none⟩ = some (.slice none 0 0) := hr2.cell 2
      have c30 : wr.cell? ⟨g3, 0, none⟩ = some (.bool (decide ((redP (mom fa (j)) D) < 0))) := hr3.cell 0
      have c31 : wr.cell? ⟨g3, 1, none⟩ = some (.slice A k0 c) := hr3.cell 1
      have c32 : wr.cell? ⟨g3, 2, none⟩ = some (.slice B l0 b) := hr3.cell 2
      have f20 : wr.frozen? ⟨w.heap.size, 0, none⟩ = false := hr2.frozen 0
      have f21 : wr.frozen? ⟨w.heap.size, 1, none⟩ = false := hr2.frozen 1
      have f22 : wr.frozen? ⟨w.heap.size, 2, none⟩ = false := hr2.frozen 2
      have z2 := hr2.lt
      have z3 := hr3.lt
      go_wp2_with fail
      refine bodyPost_ret (v := .agg #[.bool (decide ((redP (mom fa (j)) D) < 0)), .slice A k0 c, .slice B l0 b]) (by simp [results, Tryd.results41, go_sem, c20, c21, c22]) rfl ⟨_, rfl, ?_, ((BB.setCell (by simp) _).setCell (by simp) _).setCell (by simp) _⟩
      exact (((hv3.set_ (a := ⟨w.heap.size, 0, none⟩) (by show w.heap.size < w.heap.size + 1; omega) _).set_ (a := ⟨w.heap.size, 1, none⟩) (by show w.heap.size < w.heap.size + 1; omega) _).set_ (a := ⟨w.heap.size, 2, none⟩) (by show w.heap.size < w.heap.size + 1; omega) _).base (by omega)
end Go.Proofs.YtompckomogmhiaaDoor
