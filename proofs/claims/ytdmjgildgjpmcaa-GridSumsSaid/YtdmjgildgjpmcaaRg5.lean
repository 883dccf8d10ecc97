/- The walks of Mean and Variance (package examboardref18). -/
import Derived.Test.YtdmjgildgjpmcaaRg4
import Derived.IntWalk
namespace Go.Proofs.Ytdmjgildgjpmcaa
open Go.RowKit
set_option linter.unusedVariables false
set_option maxRecDepth 100000

theorem mom_congrG {f g : Nat → Int} : ∀ {k : Nat}, (∀ i, i < k → f i = g i) → mom f k = mom g k
  | 0, _ => rfl
  | k + 1, h => by
    show mom f k + f k = mom g k + g k
    rw [mom_congrG fun i hi => h i (by omega), h k (by omega)]
theorem mZ_one (ps : List Int) (ns : List Nat) {k : Nat} (_ : k ≤ ps.length) : mZ ps ns k = wF1 ns ps k := by
  refine mom_congrG fun i _ => ?_
  show ps.getD i 0 * ((ns.getD i 0 : Nat) : Int) = ((ns.getD i 0 : Nat) : Int) * ps.getD i 0
  exact Int.mul_comm _ _
theorem sq_get {ps : List Int} {j : Nat} (h : j < ps.length) : (ps.map (fun p => p * p)).getD j 0 = ps.getD j 0 * ps.getD j 0 := by
  simp [List.getD, h]
theorem mZ_sq (ps : List Int) (ns : List Nat) {k : Nat} (hk : k ≤ ps.length) : mZ (ps.map (fun p => p * p)) ns k = wF2 ns ps k := by
  refine mom_congrG fun i hi => ?_
  show (ps.map (fun p => p * p)).getD i 0 * ((ns.getD i 0 : Nat) : Int) = ((ns.getD i 0 : Nat) : Int) * ps.getD i 0 * ps.getD i 0
  rw [sq_get (by omega), Int.mul_comm, Int.mul_assoc]
theorem off_own2 {w : World} {base e k : Nat} {gv v : Value} {xs : List Value} (h : w.ownsRow base e 2 gv k xs) (hf : Fresh w.heap.size v) : Off gv.ownBlock v := by
  rcases hg : gv.ownBlock with _ | q
  · exact Off.none_ _
  · exact Off.of_fresh hf ((h.lt q hg).2)
theorem own_slice {w : World} {base e size n : Nat} {v : Value} {xs : List Value} (h : w.ownsRow base e size v n xs) : ∃ A c, v = .slice A n c := by
  rcases h.2 with ⟨rfl, rfl⟩ | ⟨g, cap, cur, rfl, _⟩
  · exact ⟨none, 0, rfl⟩
  · exact ⟨_, _, rfl⟩
theorem keepZ3 {w : World} {g : Nat} {a b c : Value} {p1 p2 p3 : Addr} {x1 x2 x3 : Value} (l1 : p1.block ≠ g) (l2 : p2.block ≠ g) (l3 : p3.block ≠ g) (h : w.cell? p1 = some x1 ∧ w.cell? p2 = some x2 ∧ w.cell? p3 = some x3) :
    (((w.setCell ⟨g, 0, none⟩ a).setCell ⟨g, 1, none⟩ b).setCell ⟨g, 2, none⟩ c).cell? p1 = some x1 ∧ (((w.setCell ⟨g, 0, none⟩ a).setCell ⟨g, 1, none⟩ b).setCell ⟨g, 2, none⟩ c).cell? p2 = some x2 ∧ (((w.setCell ⟨g, 0, none⟩ a).setCell ⟨g, 1, none⟩ b).setCell ⟨g, 2, none⟩ c).cell? p3 = some x3 := by
  obtain ⟨h1, h2, h3⟩ := h
  exact ⟨far3 l1 h1, far3 l2 h2, far3 l3 h3⟩
theorem var_red (T W1 W2 : Int) (hT : 0 < T) :
    redP (redP W2 T.natAbs * ((redQ (redP W1 T.natAbs * redP W1 T.natAbs) (redQ W1 T.natAbs * redQ W1 T.natAbs) : Nat) : Int) - redP (redP W1 T.natAbs * redP W1 T.natAbs) (redQ W1 T.natAbs * redQ W1 T.natAbs) * ((redQ W2 T.natAbs : Nat) : Int)) (redQ W2 T.natAbs * redQ (redP W1 T.natAbs * redP W1 T.natAbs) (redQ W1 T.natAbs * redQ W1 T.natAbs)) = redP (T * W2 - W1 * W1) (T * T).natAbs
    ∧ redQ (redP W2 T.natAbs * ((redQ (redP W1 T.natAbs * redP W1 T.natAbs) (redQ W1 T.natAbs * redQ W1 T.natAbs) : Nat) : Int) - redP (redP W1 T.natAbs * redP W1 T.natAbs) (redQ W1 T.natAbs * redQ W1 T.natAbs) * ((redQ W2 T.natAbs : Nat) : Int)) (redQ W2 T.natAbs * redQ (redP W1 T.natAbs * redP W1 T.natAbs) (redQ W1 T.natAbs * redQ W1 T.natAbs)) = redQ (T * W2 - W1 * W1) (T * T).natAbs := by
  have hn : 0 < T.natAbs := by omega
  have q1 := redQ_pos (p := W1) hn
  have q2 := redQ_pos (p := W2) hn
  have q3 := redQ_pos (p := redP W1 T.natAbs * redP W1 T.natAbs) (Nat.mul_pos q1 q1)
  obtain ⟨a1, b1⟩ := red_mul W1 T.natAbs
  obtain ⟨a2, b2⟩ := red_mul W2 T.natAbs
  obtain ⟨a3, b3⟩ := red_mul (redP W1 T.natAbs * redP W1 T.natAbs) (redQ W1 T.natAbs * redQ W1 T.natAbs)
  have hTT : 0 < (T * T).natAbs := by rw [Int.natAbs_mul]; exact Nat.mul_pos hn hn
  refine red_cross (Nat.mul_pos q2 q3) hTT ?_
  have e0 : (((T * T).natAbs : Nat) : Int) = T * T := by have := Int.mul_pos hT hT; omega
  have eT : ((T.natAbs : Nat) : Int) = T := by omega
  rw [e0]
  generalize Nat.gcd W1.natAbs T.natAbs = g1 at *
  generalize Nat.gcd W2.natAbs T.natAbs = g2 at *
  generalize Nat.gcd (redP W1 T.natAbs * redP W1 T.natAbs).natAbs (redQ W1 T.natAbs * redQ W1 T.natAbs) = g3 at *
  generalize hP1 : redP (redP W1 T.natAbs * redP W1 T.natAbs) (redQ W1 T.natAbs * redQ W1 T.natAbs) = P1 at *
  generalize hQ1 : redQ (redP W1 T.natAbs * redP W1 T.natAbs) (redQ W1 T.natAbs * redQ W1 T.natAbs) = Q1 at *
  generalize redP W1 T.natAbs = p1 at *
  generalize redQ W1 T.natAbs = r1 at *
  generalize redP W2 T.natAbs = p2 at *
  generalize redQ W2 T.natAbs = r2 at *
  clear hP1 hQ1
  have c1 : T = (r1 : Int) * (g1 : Int) := by rw [← eT]; exact_mod_cast b1
  have c2 : T = (r2 : Int) * (g2 : Int) := by rw [← eT]; exact_mod_cast b2
  have c3 : (r1 : Int) * (r1 : Int) = (Q1 : Int) * (g3 : Int) := by exact_mod_cast b3
  rw [Int.natCast_mul]
  generalize (r1 : Int) = R1 at *
  generalize (r2 : Int) = R2 at *
  generalize (Q1 : Int) = S1 at *
  generalize (g1 : Int) = G1 at *
  generalize (g2 : Int) = G2 at *
  generalize (g3 : Int) = G3 at *
  clear b1 b2 b3 e0 eT q1 q2 q3 hTT hn hT
  have t1 : T * W2 * (R2 * S1) = p2 * S1 * (T * T) := by
    rw [a2]
    have : T * (p2 * G2) * (R2 * S1) = p2 * S1 * T * (R2 * G2) := by grind
    rw [this, ← c2]; grind
  have t2 : W1 * W1 * (R2 * S1) = P1 * R2 * (T * T) := by
    rw [a1]
    have : p1 * G1 * (p1 * G1) * (R2 * S1) = (p1 * p1) * (G1 * G1 * R2 * S1) := by grind
    rw [this, a3]
    have : P1 * G3 * (G1 * G1 * R2 * S1) = P1 * R2 * (G1 * G1) * (S1 * G3) := by grind
    rw [this, ← c3]
    have : P1 * R2 * (G1 * G1) * (R1 * R1) = P1 * R2 * ((R1 * G1) * (R1 * G1)) := by grind
    rw [this, ← c1]
  rw [Int.sub_mul, Int.sub_mul, t1, t2]

set_option maxHeartbeats 16000000 in
theorem rmean_no (pv rv wv : Value) (ps rs : List Int) (ns : List Nat) (L : Nat) (w : World) (hp : Nums .i64 w pv ps) (hr : Nums .i64 w rv rs) (hw : Wts w wv ns L) (hL : L ≤ 100000) (hE : sumE ps rs ns ≠ 0) :
    Calls Try.prog 20 #[.agg #[pv, rv], wv] w fun e w' => ∃ x, e = .returned (.tuple #[x, .int .i64 (sumE ps rs ns)]) ∧ RatF w.heap.size w' x 0 1 2 ∧ Below w.heap.size w w' := by
  have HC := Lib.hid (fun (W : World) (h : Below w.heap.size w W) => rcheck_any pv rv wv ps rs ns L W (hp.below h) (hr.below h) (hw.below h) (by omega))
  obtain ⟨PA, pc, rfl, hpc, hpm, hps⟩ := hp
  obtain ⟨QA, qc, rfl, hqc, hqm, hqs⟩ := hr
  obtain ⟨WA, wc, us, rfl, hwc, hwm, hws, hwu⟩ := hw
  have hne : (sumE ps rs ns != 0) = true := by rw [bne_iff_ne]; exact hE
  generalize sumE ps rs ns = E at *
  clear hE hwu
  obtain ⟨W0, hW0⟩ : ∃ W0 : World, W0 = (w.alloc (.cells #[.slice PA ps.length pc, .slice QA rs.length qc] 24)).alloc (.cells #[.bool false, .slice none 0 0, .slice none 0 0] 42) := ⟨_, rfl⟩
  have r0 : Row W0 w.heap.size 24 [.slice PA ps.length pc, .slice QA rs.length qc] := by
    rw [hW0]
    have := Row.alloc (Row.new w 24 [.slice PA ps.length pc, .slice QA rs.length qc]) (.cells #[.bool false, .slice none 0 0, .slice none 0 0] 42)
    simpa using this
  have r1 : Row W0 (w.heap.size + 1) 42 [.bool false, .slice none 0 0, .slice none 0 0] := by
    rw [hW0]
    have := Row.new (w.alloc (.cells #[.slice PA ps.length pc, .slice QA rs.length qc] 24)) 42 [.bool false, .slice none 0 0, .slice none 0 0]
    simpa using this
  have B0 : Below w.heap.size w W0 := by rw [hW0]; exact (((Below.refl _ _).alloc (Nat.le_refl _) _).alloc (by simp) _)
  go_enter Try.func20, Try.ntmps20
  go_wp2_with fail
  rw [← hW0]
  clear hW0
  have BB := B0
  have hr0 := r0
  have hr4 := r1
  clear B0 r0 r1
  have c00 : W0.cell? ⟨w.heap.size, 0, none⟩ = some (.slice PA ps.length pc) := hr0.cell 0
  have c01 : W0.cell? ⟨w.heap.size, 1, none⟩ = some (.slice QA rs.length qc) := hr0.cell 1
  have c40 : W0.cell? ⟨w.heap.size + 1, 0, none⟩ = some (.bool false) := hr4.cell 0
  have c41 : W0.cell? ⟨w.heap.size + 1, 1, none⟩ = some (.slice none 0 0) := hr4.cell 1
  have c42 : W0.cell? ⟨w.heap.size + 1, 2, none⟩ = some (.slice none 0 0) := hr4.cell 2
  have z0 := hr0.lt
  have z4 := hr4.lt
  go_wp2_with fail
  clear c00 c01 c40 c41 c42 z0 z4
  refine (HC.out _ BB).mono ?_
  rintro e x1 ⟨rfl, hb⟩
  replace hr0 := hr0.keep hb
  replace hr4 := hr4.keep hb
  replace BB : Below w.heap.size w x1 := BB.trans (hb.mono BB.size)
  clear hb
  have c00 : x1.cell? ⟨w.heap.size, 0, none⟩ = some (.slice PA ps.length pc) := hr0.cell 0
  have c01 : x1.cell? ⟨w.heap.size, 1, none⟩ = some (.slice QA rs.length qc) := hr0.cell 1
  have c40 : x1.cell? ⟨w.heap.size + 1, 0, none⟩ = some (.bool false) := hr4.cell 0
  have c41 : x1.cell? ⟨w.heap.size + 1, 1, none⟩ = some (.slice none 0 0) := hr4.cell 1
  have c42 : x1.cell? ⟨w.heap.size + 1, 2, none⟩ = some (.slice none 0 0) := hr4.cell 2
  have z0 := hr0.lt
  have z4 := hr4.lt
  go_wp2_with fail
  clear c00 c01 c40 c41 c42 z0 z4
  refine (rwhole_any 0 _ (by omega) (by omega)).mono ?_
  have yyr := hr4.lt
  rintro e x2 ⟨vz, rfl, hvz, hb⟩
  replace hr0 := hr0.keep hb
  replace hr4 := hr4.keep hb
  replace BB : Below w.heap.size w x2 := BB.trans (hb.mono BB.size)
  clear hb
  have hfz : decide ((0 : Int) < 0) = false := rfl
  have hz := hvz
  obtain ⟨mz, dz, ez, hmz, hdz, _, _⟩ := id hz
  subst ez
  obtain ⟨Az, kz, cz, rfl⟩ := hmz.lim1.choose_spec.1.show_
  obtain ⟨Dz, lz, bz, rfl⟩ := hdz.lim1.choose_spec.1.show_
  clear hmz hdz
  have c00 : x2.cell? ⟨w.heap.size, 0, none⟩ = some (.slice PA ps.length pc) := hr0.cell 0
  have c01 : x2.cell? ⟨w.heap.size, 1, none⟩ = some (.slice QA rs.length qc) := hr0.cell 1
  have c40 : x2.cell? ⟨w.heap.size + 1, 0, none⟩ = some (.bool false) := hr4.cell 0
  have c41 : x2.cell? ⟨w.heap.size + 1, 1, none⟩ = some (.slice none 0 0) := hr4.cell 1
  have c42 : x2.cell? ⟨w.heap.size + 1, 2, none⟩ = some (.slice none 0 0) := hr4.cell 2
  have f40 : x2.frozen? ⟨w.heap.size + 1, 0, none⟩ = false := hr4.frozen 0
  have f41 : x2.frozen? ⟨w.heap.size + 1, 1, none⟩ = false := hr4.frozen 1
  have f42 : x2.frozen? ⟨w.heap.size + 1, 2, none⟩ = false := hr4.frozen 2
  have z0 := hr0.lt
  have z4 := hr4.lt
  go_wp2_with fail
  refine bodyPost_ret (v := .tuple #[.agg #[.bool (decide ((0 : Int) < 0)), .slice Az kz cz, .slice Dz lz bz], .int .i64 E]) (by simp [results, Try.results20, go_sem, c40, c41, c42]) rfl ⟨_, rfl, ?_, (((BB).setCell (by simp <;> omega) _).setCell (by simp <;> omega) _).setCell (by simp <;> omega) _⟩
  exact (((hz.set_ (a := ⟨w.heap.size + 1, 0, none⟩) yyr _).set_ (a := ⟨w.heap.size + 1, 1, none⟩) yyr _).set_ (a := ⟨w.heap.size + 1, 2, none⟩) yyr _).base (by omega)

set_option maxHeartbeats 16000000 in
theorem rvar_no (pv rv wv : Value) (ps rs : List Int) (ns : List Nat) (L : Nat) (w : World) (hp : Nums .i64 w pv ps) (hr : Nums .i64 w rv rs) (hw : Wts w wv ns L) (hL : L ≤ 100000) (hE : sumE ps rs ns ≠ 0) :
    Calls Try.prog 23 #[.agg #[pv, rv], wv] w fun e w' => ∃ x, e = .returned (.tuple #[x, .int .i64 (sumE ps rs ns)]) ∧ RatF w.heap.size w' x 0 1 2 ∧ Below w.heap.size w w' := by
  have HC := Lib.hid (fun (W : World) (h : Below w.heap.size w W) => rmean_no pv rv wv ps rs ns L W (hp.below h) (hr.below h) (hw.below h) hL hE)
  obtain ⟨PA, pc, rfl, hpc, hpm, hps⟩ := hp
  obtain ⟨QA, qc, rfl, hqc, hqm, hqs⟩ := hr
  obtain ⟨WA, wc, us, rfl, hwc, hwm, hws, hwu⟩ := hw
  have hne : (sumE ps rs ns != 0) = true := by rw [bne_iff_ne]; exact hE
  generalize sumE ps rs ns = E at *
  clear hE hwu
  obtain ⟨W0, hW0⟩ : ∃ W0 : World, W0 = (w.alloc (.cells #[.slice PA ps.length pc, .slice QA rs.length qc] 24)).alloc (.cells #[.bool false, .slice none 0 0, .slice none 0 0] 42) := ⟨_, rfl⟩
  have r0 : Row W0 w.heap.size 24 [.slice PA ps.length pc, .slice QA rs.length qc] := by
    rw [hW0]
    have := Row.alloc (Row.new w 24 [.slice PA ps.length pc, .slice QA rs.length qc]) (.cells #[.bool false, .slice none 0 0, .slice none 0 0] 42)
    simpa using this
  have r1 : Row W0 (w.heap.size + 1) 42 [.bool false, .slice none 0 0, .slice none 0 0] := by
    rw [hW0]
    have := Row.new (w.alloc (.cells #[.slice PA ps.length pc, .slice QA rs.length qc] 24)) 42 [.bool false, .slice none 0 0, .slice none 0 0]
    simpa using this
  have B0 : Below w.heap.size w W0 := by rw [hW0]; exact (((Below.refl _ _).alloc (Nat.le_refl _) _).alloc (by simp) _)
  go_enter Try.func23, Try.ntmps23
  go_wp2_with fail
  rw [← hW0]
  clear hW0
  have BB := B0
  have hr0 := r0
  have hr4 := r1
  clear B0 r0 r1
  have c00 : W0.cell? ⟨w.heap.size, 0, none⟩ = some (.slice PA ps.length pc) := hr0.cell 0
  have c01 : W0.cell? ⟨w.heap.size, 1, none⟩ = some (.slice QA rs.length qc) := hr0.cell 1
  have c40 : W0.cell? ⟨w.heap.size + 1, 0, none⟩ = some (.bool false) := hr4.cell 0
  have c41 : W0.cell? ⟨w.heap.size + 1, 1, none⟩ = some (.slice none 0 0) := hr4.cell 1
  have c42 : W0.cell? ⟨w.heap.size + 1, 2, none⟩ = some (.slice none 0 0) := hr4.cell 2
  have z0 := hr0.lt
  have z4 := hr4.lt
  go_wp2_with fail
  clear c00 c01 c40 c41 c42 z0 z4
  refine (HC.out _ BB).mono ?_
  rintro e x1 ⟨v6, rfl, hv6, hb⟩
  replace hr0 := hr0.keep hb
  replace hr4 := hr4.keep hb
  replace BB : Below w.heap.size w x1 := BB.trans (hb.mono BB.size)
  clear hb
  obtain ⟨m6, d6, e6, hm6, hd6, _, _⟩ := id hv6
  rw [show decide ((0 : Int) < 0) = false from rfl] at e6
  subst e6
  obtain ⟨A6, k6, c6, rfl⟩ := hm6.lim1.choose_spec.1.show_
  obtain ⟨D6, l6, b6, rfl⟩ := hd6.lim1.choose_spec.1.show_
  clear hm6 hd6 hv6
  obtain ⟨g6, hg6⟩ : ∃ g, x1.heap.size = g := ⟨_, rfl⟩
  have hr6 : Row (x1.alloc (.cells #[.bool false, .slice A6 k6 c6, .slice D6 l6 b6] 42)) g6 42 [.bool false, .slice A6 k6 c6, .slice D6 l6 b6] := row_at hg6
  have hl := lit_below x1 (.cells #[.bool false, .slice A6 k6 c6, .slice D6 l6 b6] 42)
  have o0_6 : w.heap.size < g6 := by have := hr0.lt; omega
  have o4_6 : w.heap.size + 1 < g6 := by have := hr4.lt; omega
  have ob_6 : w.heap.size ≤ g6 := by have := BB.size; omega
  have c00 : x1.cell? ⟨w.heap.size, 0, none⟩ = some (.slice PA ps.length pc) := hr0.cell 0
  have c01 : x1.cell? ⟨w.heap.size, 1, none⟩ = some (.slice QA rs.length qc) := hr0.cell 1
  have c40 : x1.cell? ⟨w.heap.size + 1, 0, none⟩ = some (.bool false) := hr4.cell 0
  have c41 : x1.cell? ⟨w.heap.size + 1, 1, none⟩ = some (.slice none 0 0) := hr4.cell 1
  have c42 : x1.cell? ⟨w.heap.size + 1, 2, none⟩ = some (.slice none 0 0) := hr4.cell 2
  have d00 : (x1.alloc (.cells #[.bool false, .slice A6 k6 c6, .slice D6 l6 b6] 42)).cell? ⟨w.heap.size, 0, none⟩ = some (.slice PA ps.length pc) := (hr0.alloc _).cell 0
  have d01 : (x1.alloc (.cells #[.bool false, .slice A6 k6 c6, .slice D6 l6 b6] 42)).cell? ⟨w.heap.size, 1, none⟩ = some (.slice QA rs.length qc) := (hr0.alloc _).cell 1
  have d40 : (x1.alloc (.cells #[.bool false, .slice A6 k6 c6, .slice D6 l6 b6] 42)).cell? ⟨w.heap.size + 1, 0, none⟩ = some (.bool false) := (hr4.alloc _).cell 0
  have d41 : (x1.alloc (.cells #[.bool false, .slice A6 k6 c6, .slice D6 l6 b6] 42)).cell? ⟨w.heap.size + 1, 1, none⟩ = some (.slice none 0 0) := (hr4.alloc _).cell 1
  have d42 : (x1.alloc (.cells #[.bool false, .slice A6 k6 c6, .slice D6 l6 b6] 42)).cell? ⟨w.heap.size + 1, 2, none⟩ = some (.slice none 0 0) := (hr4.alloc _).cell 2
  have e0 : (x1.alloc (.cells #[.bool false, .slice A6 k6 c6, .slice D6 l6 b6] 42)).cell? ⟨g6, 0, none⟩ = some (.bool false) := hr6.cell 0
  have e1 : (x1.alloc (.cells #[.bool false, .slice A6 k6 c6, .slice D6 l6 b6] 42)).cell? ⟨g6, 1, none⟩ = some (.slice A6 k6 c6) := hr6.cell 1
  have e2 : (x1.alloc (.cells #[.bool false, .slice A6 k6 c6, .slice D6 l6 b6] 42)).cell? ⟨g6, 2, none⟩ = some (.slice D6 l6 b6) := hr6.cell 2
  go_wp2_with fail
  clear c00 c01 c40 c41 c42 d00 d01 d40 d41 d42 e0 e1 e2
  clear hg6
  generalize (x1.alloc (.cells #[.bool false, .slice A6 k6 c6, .slice D6 l6 b6] 42)) = x2 at *
  replace hr0 := hr0.keep hl
  replace hr4 := hr4.keep hl
  replace BB : Below w.heap.size w x2 := BB.trans (hl.mono BB.size)
  clear hl
  refine (rwhole_any 0 _ (by omega) (by omega)).mono ?_
  have yyr := hr4.lt
  rintro e x3 ⟨vz, rfl, hvz, hb⟩
  replace hr0 := hr0.keep hb
  replace hr4 := hr4.keep hb
  replace hr6 := hr6.keep hb
  replace BB : Below w.heap.size w x3 := BB.trans (hb.mono BB.size)
  clear hb
  have hfz : decide ((0 : Int) < 0) = false := rfl
  have hz := hvz
  obtain ⟨mz, dz, ez, hmz, hdz, _, _⟩ := id hz
  subst ez
  obtain ⟨Az, kz, cz, rfl⟩ := hmz.lim1.choose_spec.1.show_
  obtain ⟨Dz, lz, bz, rfl⟩ := hdz.lim1.choose_spec.1.show_
  clear hmz hdz
  have c00 : x3.cell? ⟨w.heap.size, 0, none⟩ = some (.slice PA ps.length pc) := hr0.cell 0
  have c01 : x3.cell? ⟨w.heap.size, 1, none⟩ = some (.slice QA rs.length qc) := hr0.cell 1
  have c40 : x3.cell? ⟨w.heap.size + 1, 0, none⟩ = some (.bool false) := hr4.cell 0
  have c41 : x3.cell? ⟨w.heap.size + 1, 1, none⟩ = some (.slice none 0 0) := hr4.cell 1
  have c42 : x3.cell? ⟨w.heap.size + 1, 2, none⟩ = some (.slice none 0 0) := hr4.cell 2
  have c60 : x3.cell? ⟨g6, 0, none⟩ = some (.bool false) := hr6.cell 0
  have c61 : x3.cell? ⟨g6, 1, none⟩ = some (.slice A6 k6 c6) := hr6.cell 1
  have c62 : x3.cell? ⟨g6, 2, none⟩ = some (.slice D6 l6 b6) := hr6.cell 2
  have f40 : x3.frozen? ⟨w.heap.size + 1, 0, none⟩ = false := hr4.frozen 0
  have f41 : x3.frozen? ⟨w.heap.size + 1, 1, none⟩ = false := hr4.frozen 1
  have f42 : x3.frozen? ⟨w.heap.size + 1, 2, none⟩ = false := hr4.frozen 2
  have z0 := hr0.lt
  have z4 := hr4.lt
  have z6 := hr6.lt
  go_wp2_with fail
  refine bodyPost_ret (v := .tuple #[.agg #[.bool (decide ((0 : Int) < 0)), .slice Az kz cz, .slice Dz lz bz], .int .i64 E]) (by simp [results, Try.results23, go_sem, c40, c41, c42]) rfl ⟨_, rfl, ?_, (((BB).setCell (by simp <;> omega) _).setCell (by simp <;> omega) _).setCell (by simp <;> omega) _⟩
  exact (((hz.set_ (a := ⟨w.heap.size + 1, 0, none⟩) yyr _).set_ (a := ⟨w.heap.size + 1, 1, none⟩) yyr _).set_ (a := ⟨w.heap.size + 1, 2, none⟩) yyr _).base (by omega)


set_option maxHeartbeats 16000000 in
theorem rmean_ok (pv rv wv : Value) (ps rs : List Int) (ns : List Nat) (L : Nat) (w : World) (hp : Nums .i64 w pv ps) (hr : Nums .i64 w rv rs) (hw : Wts w wv ns L) (hL : L ≤ 100000) (hE : sumE ps rs ns = 0) :
    Calls Try.prog 20 #[.agg #[pv, rv], wv] w fun e w' => ∃ x, e = .returned (.tuple #[x, .int .i64 0]) ∧ RatF w.heap.size w' x (redP (wF1 ns ps ps.length) (wF0 ns ps.length).natAbs) (redQ (wF1 ns ps ps.length) (wF0 ns ps.length).natAbs) (L + 3) ∧ Below w.heap.size w w' := by
  obtain ⟨s1, s2, s3⟩ := sumE_zero hE
  obtain ⟨z1, z2, z3, z4, _⟩ := gridE_zero s1
  have HC := Lib.hid (fun (W : World) (h : Below w.heap.size w W) => rcheck_any pv rv wv ps rs ns L W (hp.below h) (hr.below h) (hw.below h) (by omega))
  have hzl : ps.length = ps.length := by simp
  have hfb : ∀ k, k ≤ ps.length → (mZ ps ns k).natAbs < bp (L + 3) ∧ sN ns k < bp (L + 1) := by
    intro k hk
    obtain ⟨WA, wc, us, rfl, hwc, hwm, hws, hwu⟩ := hw
    have h := wF_tight hws.1 hwu (fun j hj => ⟨(z4 j hj).1, (z4 j hj).2.1⟩) z1 s2 rfl k (by omega)
    rw [mZ_one ps ns (by omega)]
    refine ⟨h.2.1, ?_⟩
    have h0 := h.1
    rw [sN_eq] at h0
    simpa using h0
  have hpos : 0 < sN ns ps.length := by
    rw [hzl]
    have := sN_eq ns ps.length
    omega
  have HSH := Lib.hid (fun (W : World) (lv : Value) (h : Below w.heap.size w W) (hl : IntLs W lv ps) => rshare_any lv wv ps ns L (L + 3) W hl (hw.below h) (by omega) (by omega) (by omega) (by omega) (by omega) hfb hpos)
  have HEQ1 := Lib.hid (mZ_one ps ns (Nat.le_refl ps.length))
  have HEQ0 := Lib.hid (sN_eq ns ps.length)
  have HPOS := Lib.hid hpos
  rw [hE] at HC
  obtain ⟨PA, pc, rfl, hpc, hpm, hps⟩ := hp
  obtain ⟨QA, qc, rfl, hqc, hqm, hqs⟩ := hr
  obtain ⟨WA, wc, us, rfl, hwc, hwm, hws, hwu⟩ := hw
  obtain ⟨pb, po, rfl, hpb, hcell⟩ := hps.num z2
  have HZ : Hid (∀ j, j < ps.length → -1000 ≤ ps.getD j 0 ∧ ps.getD j 0 ≤ 1000) := fun j hj => ⟨(z4 j hj).1, (z4 j hj).2.1⟩
  have HSQ : Hid (∀ j, j < ps.length → ps.getD j 0 = ps.getD j 0) := fun j hj => rfl
  have HCELL := Lib.hid hcell
  unfold maxLen at hpm hwm
  obtain ⟨n, hnn⟩ : ∃ n, ps.length = n := ⟨_, rfl⟩
  have hwn : ns.length = n := by omega
  rw [hzl] at HSH HPOS
  have HZL : Hid (ps.length = n) := hzl.trans hnn
  rw [hnn] at HC HSH HZ HSQ HCELL hpc z1 z2 HEQ1 HEQ0 HPOS
  rw [hwn] at hwc
  rw [hwn] at HC HSH
  rw [hnn, hwn]
  clear hE s1 s2 s3 z3 z4 hzl hfb hpos hwu hcell hps hws hnn hwn hqs
  have n0 : 0 < n := z2
  obtain ⟨W0, hW0⟩ : ∃ W0 : World, W0 = (w.alloc (.cells #[.slice (some ⟨pb, po, none⟩) n pc, .slice QA rs.length qc] 24)).alloc (.cells #[.bool false, .slice none 0 0, .slice none 0 0] 42) := ⟨_, rfl⟩
  have r0 : Row W0 w.heap.size 24 [.slice (some ⟨pb, po, none⟩) n pc, .slice QA rs.length qc] := by
    rw [hW0]
    have := Row.alloc (Row.new w 24 [.slice (some ⟨pb, po, none⟩) n pc, .slice QA rs.length qc]) (.cells #[.bool false, .slice none 0 0, .slice none 0 0] 42)
    simpa using this
  have r1 : Row W0 (w.heap.size + 1) 42 [.bool false, .slice none 0 0, .slice none 0 0] := by
    rw [hW0]
    have := Row.new (w.alloc (.cells #[.slice (some ⟨pb, po, none⟩) n pc, .slice QA rs.length qc] 24)) 42 [.bool false, .slice none 0 0, .slice none 0 0]
    simpa using this
  have B0 : Below w.heap.size w W0 := by rw [hW0]; exact (((Below.refl _ _).alloc (Nat.le_refl _) _).alloc (by simp) _)
  go_enter Try.func20, Try.ntmps20
  go_wp2_with fail
  rw [← hW0]
  clear hW0
  have BB := B0
  have hr0 := r0
  have hr4 := r1
  clear B0 r0 r1
  have c00 : W0.cell? ⟨w.heap.size, 0, none⟩ = some (.slice (some ⟨pb, po, none⟩) n pc) := hr0.cell 0
  have c01 : W0.cell? ⟨w.heap.size, 1, none⟩ = some (.slice QA rs.length qc) := hr0.cell 1
  have c40 : W0.cell? ⟨w.heap.size + 1, 0, none⟩ = some (.bool false) := hr4.cell 0
  have c41 : W0.cell? ⟨w.heap.size + 1, 1, none⟩ = some (.slice none 0 0) := hr4.cell 1
  have c42 : W0.cell? ⟨w.heap.size + 1, 2, none⟩ = some (.slice none 0 0) := hr4.cell 2
  have z0 := hr0.lt
  have z4 := hr4.lt
  go_wp2_with fail
  clear c00 c01 c40 c41 c42 z0 z4
  refine (HC.out _ BB).mono ?_
  rintro e x1 ⟨rfl, hb⟩
  replace hr0 := hr0.keep hb
  replace hr4 := hr4.keep hb
  replace BB : Below w.heap.size w x1 := BB.trans (hb.mono BB.size)
  clear hb
  have c00 : x1.cell? ⟨w.heap.size, 0, none⟩ = some (.slice (some ⟨pb, po, none⟩) n pc) := hr0.cell 0
  have c01 : x1.cell? ⟨w.heap.size, 1, none⟩ = some (.slice QA rs.length qc) := hr0.cell 1
  have c40 : x1.cell? ⟨w.heap.size + 1, 0, none⟩ = some (.bool false) := hr4.cell 0
  have c41 : x1.cell? ⟨w.heap.size + 1, 1, none⟩ = some (.slice none 0 0) := hr4.cell 1
  have c42 : x1.cell? ⟨w.heap.size + 1, 2, none⟩ = some (.slice none 0 0) := hr4.cell 2
  have z0 := hr0.lt
  have z4 := hr4.lt
  go_wp2_with fail
  clear c00 c01 c40 c41 c42 z0 z4
  obtain ⟨i0, iz0, hi0, hz0, hz1, hz2, hzc⟩ := info_parts2 infoInt2
  have hzs : iz0.cells.size = 2 := by rw [hzc]; rfl
  clear hzc
  go_loopw [7, 8] (fun lv iv wr => ∃ (j : Nat) (gx : Value) (vs : List T2), j ≤ n ∧ iv = .int .i64 (j : Int) ∧ lv = gx ∧ wr.ownsRow x1.heap.size 40 2 gx j (flat2 vs) ∧ IntO wr vs ps j gx.ownBlock ∧ Below x1.heap.size x1 wr) (fun _ iv _ => n - (intOf iv).toNat)
  case atStart => exact ⟨0, _, [], by omega, rfl, rfl, own_zero2 _ _ _, IntO.zero _ _ _, Below.refl _ _⟩
  case round =>
    obtain ⟨j, gx, vs, hj, rfl, rfl, hown, hco, BQ⟩ := hrel
    have BW := BB.trans (BQ.mono BB.size)
    by_cases hlt : j < n
    · obtain ⟨x, hx⟩ : ∃ x, ps.getD j 0 = x := ⟨_, rfl⟩
      have hxr := HZ.out j hlt
      have gp := (BW.cell (p := ⟨pb, po + j, none⟩) hpb).trans (HCELL.out j hlt)
      have HSJ : Hid (ps.getD j 0 = x) := hx
      rw [hx] at hxr gp
      clear hx
      have hjI : (j : Int) < (n : Int) := by omega
      have hj21 : j ≤ 21 := by omega
      have hm1 : j + 1 ≤ maxLen := by unfold maxLen; omega
      have hwz := BQ.size
      have hr0' := hr0.keep BQ
      have c00 : wr.cell? ⟨w.heap.size, 0, none⟩ = some (.slice (some ⟨pb, po, none⟩) n pc) := hr0'.cell 0
      have c01 : wr.cell? ⟨w.heap.size, 1, none⟩ = some (.slice QA rs.length qc) := hr0'.cell 1
      have z00 := hr0'.lt
      clear hr0'
      go_wp2_with fail
      refine (r2of_any x _ (by omega) (by omega)).mono ?_
      rintro e w5 ⟨v5, rfl, hv5, h5⟩
      have hv5' := hv5; obtain ⟨m5, e5, hm5, hf5⟩ := hv5'; subst e5; obtain ⟨A5, k5, c5, rfl⟩ := hm5.lim1.choose_spec.1.show_
      have B5 := h5
      have hown5 := own_keep hown B5
      have hs5 := B5.size
      go_wp2_with (at_builtin; refine wpList_append_lies _ rfl (.tmp 22) (.tmp 29) 63 (by rfl) x1.heap.size 40 i0 iz0 2 32 Try.underlying63 hi0 hz0 hz1 hz2 hzs (by omega) _ j _ (by rfl) (hown5.alloc _) ⟨w5.heap.size, 0, none⟩ 1 1 [.bool (decide (x < 0)), .slice A5 k5 c5] (by rfl) (by rfl) (World.news_of_block (cs := #[.bool (decide (x < 0)), .slice A5 k5 c5]) (t := 40) (fr := (0, 0)) (heap_alloc_new w5 _)) (by simp [Value.oneCell']) (by decide) hm1 (by omega) (by simp; omega) (w5.heap.size + 1) (by simp) ?_; intro gg cap w7 hown7 hgrow hat hlt7)
      have hfv : Fresh wr.heap.size (.slice A5 k5 c5) := hf5
      have hBl := B5.trans (((Below.refl w5.heap.size w5).alloc (Nat.le_refl _) (.cells #[.bool (decide (x < 0)), .slice A5 k5 c5] 40)).mono B5.size)
      have hnat7 := (hm5.below ((Below.refl w5.heap.size w5).alloc (Nat.le_refl _) (.cells #[.bool (decide (x < 0)), .slice A5 k5 c5] 40))).grown hgrow (off_own2 hown hfv)
      have hoff7 : Off (some gg) (.slice A5 k5 c5) := by
        rcases hat with hh | hh
        · rw [← hh]; exact off_own2 hown hfv
        · subst hh; exact hm5.off (by omega)
      have hcol7 := ((hco.below hBl).grown hgrow (row' := some gg) (by rcases hat with hh | hh; exact .inl hh.symm; exact .inr ⟨gg, rfl, by rw [hh]; simp⟩)).snoc (x := .bool (decide (x < 0))) (y := .slice A5 k5 c5) (by rw [HSJ.out]) (by rw [HSJ.out]; exact hnat7) hoff7
      have hB7 : Below x1.heap.size x1 w7 := (BQ.trans (hBl.mono BQ.size)).grown hgrow (Nat.le_trans BQ.size hBl.size) (fun q hq => (hown.lt q hq).1)
      go_wp2_with fail
      go_roundw
      case rel => exact ⟨j + 1, _, vs ++ [((Value.bool (decide (x < 0)), Value.slice A5 k5 c5) : T2)], by omega, by go_num, rfl, by rw [flat2_append]; exact hown7, hcol7, hB7⟩
      case measure => simp [intOf]; omega
    · obtain rfl : j = n := by omega
      have hls := hco.ls HZL.out n0 hown
      obtain ⟨VA, vc, rfl⟩ := own_slice hown
      replace hr0 := hr0.keep BQ
      replace hr4 := hr4.keep BQ
      replace BB := BW
      clear BW
      have c00 : wr.cell? ⟨w.heap.size, 0, none⟩ = some (.slice (some ⟨pb, po, none⟩) j pc) := hr0.cell 0
      have c01 : wr.cell? ⟨w.heap.size, 1, none⟩ = some (.slice QA rs.length qc) := hr0.cell 1
      have c40 : wr.cell? ⟨w.heap.size + 1, 0, none⟩ = some (.bool false) := hr4.cell 0
      have c41 : wr.cell? ⟨w.heap.size + 1, 1, none⟩ = some (.slice none 0 0) := hr4.cell 1
      have c42 : wr.cell? ⟨w.heap.size + 1, 2, none⟩ = some (.slice none 0 0) := hr4.cell 2
      have z0 := hr0.lt
      have z4 := hr4.lt
      go_wp2_with fail
      clear c00 c01 c40 c41 c42 z0 z4
      refine (HSH.out _ _ BB hls).mono ?_
      have yyr := hr4.lt
      rintro e x1 ⟨vz, rfl, hvz, hb⟩
      replace hr0 := hr0.keep hb
      replace hr4 := hr4.keep hb
      replace BB : Below w.heap.size w x1 := BB.trans (hb.mono BB.size)
      clear hb
      have hu1 := HEQ1.out
      have hu0 := HEQ0.out
      rw [hu1] at hvz
      rw [show sN ns j = (wF0 ns j).natAbs by rw [hu0]; simp] at hvz
      obtain ⟨f1, hf1⟩ : ∃ f, wF1 ns ps j = f := ⟨_, rfl⟩
      obtain ⟨f0, hf0⟩ : ∃ f, wF0 ns j = f := ⟨_, rfl⟩
      rw [hf1, hf0] at hvz
      have HF1 := Lib.hid hf1
      have HF0 := Lib.hid hf0
      clear hu1 hu0 hf1 hf0
      have hz := hvz
      obtain ⟨mz, dz, ez, hmz, hdz, _, _⟩ := id hz
      subst ez
      obtain ⟨Az, kz, cz, rfl⟩ := hmz.lim1.choose_spec.1.show_
      obtain ⟨Dz, lz, bz, rfl⟩ := hdz.lim1.choose_spec.1.show_
      clear hmz hdz
      have c00 : x1.cell? ⟨w.heap.size, 0, none⟩ = some (.slice (some ⟨pb, po, none⟩) j pc) := hr0.cell 0
      have c01 : x1.cell? ⟨w.heap.size, 1, none⟩ = some (.slice QA rs.length qc) := hr0.cell 1
      have c40 : x1.cell? ⟨w.heap.size + 1, 0, none⟩ = some (.bool false) := hr4.cell 0
      have c41 : x1.cell? ⟨w.heap.size + 1, 1, none⟩ = some (.slice none 0 0) := hr4.cell 1
      have c42 : x1.cell? ⟨w.heap.size + 1, 2, none⟩ = some (.slice none 0 0) := hr4.cell 2
      have f40 : x1.frozen? ⟨w.heap.size + 1, 0, none⟩ = false := hr4.frozen 0
      have f41 : x1.frozen? ⟨w.heap.size + 1, 1, none⟩ = false := hr4.frozen 1
      have f42 : x1.frozen? ⟨w.heap.size + 1, 2, none⟩ = false := hr4.frozen 2
      have z0 := hr0.lt
      have z4 := hr4.lt
      go_wp2_with fail
      refine bodyPost_ret (v := .tuple #[.agg #[.bool (decide (redP f1 f0.natAbs < 0)), .slice Az kz cz, .slice Dz lz bz], .int .i64 0]) (by simp [results, Try.results20, go_sem, c40, c41, c42]) rfl ⟨_, rfl, ?_, (((BB).setCell (by simp <;> omega) _).setCell (by simp <;> omega) _).setCell (by simp <;> omega) _⟩
      rw [HF1.out, HF0.out]
      exact (((hz.set_ (a := ⟨w.heap.size + 1, 0, none⟩) yyr _).set_ (a := ⟨w.heap.size + 1, 1, none⟩) yyr _).set_ (a := ⟨w.heap.size + 1, 2, none⟩) yyr _).base (by omega)

set_option maxHeartbeats 16000000 in
theorem rvar_ok (pv rv wv : Value) (ps rs : List Int) (ns : List Nat) (L : Nat) (w : World) (hp : Nums .i64 w pv ps) (hr : Nums .i64 w rv rs) (hw : Wts w wv ns L) (hL : L ≤ 100000) (hE : sumE ps rs ns = 0) :
    Calls Try.prog 23 #[.agg #[pv, rv], wv] w fun e w' => ∃ x, e = .returned (.tuple #[x, .int .i64 0]) ∧ RatF w.heap.size w' x (redP (wF0 ns ps.length * wF2 ns ps ps.length - wF1 ns ps ps.length * wF1 ns ps ps.length) (wF0 ns ps.length * wF0 ns ps.length).natAbs) (redQ (wF0 ns ps.length * wF2 ns ps ps.length - wF1 ns ps ps.length * wF1 ns ps ps.length) (wF0 ns ps.length * wF0 ns ps.length).natAbs) (L + 3 + (L + 3) + (L + 3 + (L + 3)) + (L + 3 + (L + 3) + (L + 3 + (L + 3))) + 1) ∧ Below w.heap.size w w' := by
  obtain ⟨s1, s2, s3⟩ := sumE_zero hE
  obtain ⟨z1, z2, z3, z4, _⟩ := gridE_zero s1
  have HC := Lib.hid (fun (W : World) (h : Below w.heap.size w W) => rmean_ok pv rv wv ps rs ns L W (hp.below h) (hr.below h) (hw.below h) hL hE)
  have hzl : (ps.map (fun p => p * p)).length = ps.length := by simp
  have hfb : ∀ k, k ≤ (ps.map (fun p => p * p)).length → (mZ (ps.map (fun p => p * p)) ns k).natAbs < bp (L + 5) ∧ sN ns k < bp (L + 1) := by
    intro k hk
    obtain ⟨WA, wc, us, rfl, hwc, hwm, hws, hwu⟩ := hw
    have h := wF_tight hws.1 hwu (fun j hj => ⟨(z4 j hj).1, (z4 j hj).2.1⟩) z1 s2 rfl k (by omega)
    rw [mZ_sq ps ns (by omega)]
    refine ⟨h.2.2, ?_⟩
    have h0 := h.1
    rw [sN_eq] at h0
    simpa using h0
  have hpos : 0 < sN ns (ps.map (fun p => p * p)).length := by
    rw [hzl]
    have := sN_eq ns ps.length
    omega
  have HSH := Lib.hid (fun (W : World) (lv : Value) (h : Below w.heap.size w W) (hl : IntLs W lv (ps.map (fun p => p * p))) => rshare_any lv wv (ps.map (fun p => p * p)) ns L (L + 5) W hl (hw.below h) (by omega) (by omega) (by omega) (by omega) (by omega) hfb hpos)
  have HEQ1 := Lib.hid (mZ_sq ps ns (Nat.le_refl ps.length))
  have HEQ0 := Lib.hid (sN_eq ns ps.length)
  have HPOS := Lib.hid hpos
  skip
  obtain ⟨PA, pc, rfl, hpc, hpm, hps⟩ := hp
  obtain ⟨QA, qc, rfl, hqc, hqm, hqs⟩ := hr
  obtain ⟨WA, wc, us, rfl, hwc, hwm, hws, hwu⟩ := hw
  obtain ⟨pb, po, rfl, hpb, hcell⟩ := hps.num z2
  have HZ : Hid (∀ j, j < ps.length → -1000 ≤ ps.getD j 0 ∧ ps.getD j 0 ≤ 1000) := fun j hj => ⟨(z4 j hj).1, (z4 j hj).2.1⟩
  have HSQ : Hid (∀ j, j < ps.length → (ps.map (fun p => p * p)).getD j 0 = ps.getD j 0 * ps.getD j 0) := fun j hj => sq_get hj
  have HCELL := Lib.hid hcell
  unfold maxLen at hpm hwm
  obtain ⟨n, hnn⟩ : ∃ n, ps.length = n := ⟨_, rfl⟩
  have hwn : ns.length = n := by omega
  rw [hzl] at HSH HPOS
  have HZL : Hid ((ps.map (fun p => p * p)).length = n) := hzl.trans hnn
  rw [hnn] at HC HSH HZ HSQ HCELL hpc z1 z2 HEQ1 HEQ0 HPOS
  rw [hwn] at hwc
  rw [hwn] at HC HSH
  rw [hnn, hwn]
  clear hE s1 s2 s3 z3 z4 hzl hfb hpos hwu hcell hps hws hnn hwn hqs
  have n0 : 0 < n := z2
  obtain ⟨S1, hf1⟩ : ∃ f, wF1 ns ps n = f := ⟨_, rfl⟩
  obtain ⟨S0, hf0⟩ : ∃ f, wF0 ns n = f := ⟨_, rfl⟩
  obtain ⟨S2, hf2⟩ : ∃ f, wF2 ns ps n = f := ⟨_, rfl⟩
  have he0 : sN ns n = S0.natAbs := by have := HEQ0.out; rw [hf0] at this; rw [this]; simp
  have hfp : 0 < S0 := by have := HEQ0.out; have h2 := HPOS.out; omega
  have hgp : 0 < S0.natAbs := by omega
  have he1 := HEQ1.out
  rw [hf2] at he1
  rw [he1, he0] at HSH
  rw [hf1, hf0] at HC
  rw [hf1, hf0, hf2]
  have HGP := Lib.hid hgp
  have HVR := Lib.hid (var_red S0 S1 S2 hfp)
  clear hf1 hf0 hf2 he0 he1 hfp hgp HEQ1 HEQ0 HPOS
  obtain ⟨W0, hW0⟩ : ∃ W0 : World, W0 = (w.alloc (.cells #[.slice (some ⟨pb, po, none⟩) n pc, .slice QA rs.length qc] 24)).alloc (.cells #[.bool false, .slice none 0 0, .slice none 0 0] 42) := ⟨_, rfl⟩
  have r0 : Row W0 w.heap.size 24 [.slice (some ⟨pb, po, none⟩) n pc, .slice QA rs.length qc] := by
    rw [hW0]
    have := Row.alloc (Row.new w 24 [.slice (some ⟨pb, po, none⟩) n pc, .slice QA rs.length qc]) (.cells #[.bool false, .slice none 0 0, .slice none 0 0] 42)
    simpa using this
  have r1 : Row W0 (w.heap.size + 1) 42 [.bool false, .slice none 0 0, .slice none 0 0] := by
    rw [hW0]
    have := Row.new (w.alloc (.cells #[.slice (some ⟨pb, po, none⟩) n pc, .slice QA rs.length qc] 24)) 42 [.bool false, .slice none 0 0, .slice none 0 0]
    simpa using this
  have B0 : Below w.heap.size w W0 := by rw [hW0]; exact (((Below.refl _ _).alloc (Nat.le_refl _) _).alloc (by simp) _)
  go_enter Try.func23, Try.ntmps23
  go_wp2_with fail
  rw [← hW0]
  clear hW0
  have BB := B0
  have hr0 := r0
  have hr4 := r1
  clear B0 r0 r1
  have c00 : W0.cell? ⟨w.heap.size, 0, none⟩ = some (.slice (some ⟨pb, po, none⟩) n pc) := hr0.cell 0
  have c01 : W0.cell? ⟨w.heap.size, 1, none⟩ = some (.slice QA rs.length qc) := hr0.cell 1
  have c40 : W0.cell? ⟨w.heap.size + 1, 0, none⟩ = some (.bool false) := hr4.cell 0
  have c41 : W0.cell? ⟨w.heap.size + 1, 1, none⟩ = some (.slice none 0 0) := hr4.cell 1
  have c42 : W0.cell? ⟨w.heap.size + 1, 2, none⟩ = some (.slice none 0 0) := hr4.cell 2
  have z0 := hr0.lt
  have z4 := hr4.lt
  go_wp2_with fail
  clear c00 c01 c40 c41 c42 z0 z4
  refine (HC.out _ BB).mono ?_
  rintro e x1 ⟨v6, rfl, hv6, hb⟩
  replace hr0 := hr0.keep hb
  replace hr4 := hr4.keep hb
  replace BB : Below w.heap.size w x1 := BB.trans (hb.mono BB.size)
  clear hb
  obtain ⟨m6, d6, e6, hm6, hd6, _, _⟩ := id hv6
  subst e6
  obtain ⟨A6, k6, c6, rfl⟩ := hm6.lim1.choose_spec.1.show_
  obtain ⟨D6, l6, b6, rfl⟩ := hd6.lim1.choose_spec.1.show_
  clear hm6 hd6
  obtain ⟨g6, hg6⟩ : ∃ g, x1.heap.size = g := ⟨_, rfl⟩
  have hr6 : Row (x1.alloc (.cells #[.bool (decide ((redP S1 S0.natAbs) < 0)), .slice A6 k6 c6, .slice D6 l6 b6] 42)) g6 42 [.bool (decide ((redP S1 S0.natAbs) < 0)), .slice A6 k6 c6, .slice D6 l6 b6] := row_at hg6
  have hl := lit_below x1 (.cells #[.bool (decide ((redP S1 S0.natAbs) < 0)), .slice A6 k6 c6, .slice D6 l6 b6] 42)
  have o0_6 : w.heap.size < g6 := by have := hr0.lt; omega
  have o4_6 : w.heap.size + 1 < g6 := by have := hr4.lt; omega
  have ob_6 : w.heap.size ≤ g6 := by have := BB.size; omega
  have c00 : x1.cell? ⟨w.heap.size, 0, none⟩ = some (.slice (some ⟨pb, po, none⟩) n pc) := hr0.cell 0
  have c01 : x1.cell? ⟨w.heap.size, 1, none⟩ = some (.slice QA rs.length qc) := hr0.cell 1
  have c40 : x1.cell? ⟨w.heap.size + 1, 0, none⟩ = some (.bool false) := hr4.cell 0
  have c41 : x1.cell? ⟨w.heap.size + 1, 1, none⟩ = some (.slice none 0 0) := hr4.cell 1
  have c42 : x1.cell? ⟨w.heap.size + 1, 2, none⟩ = some (.slice none 0 0) := hr4.cell 2
  have d00 : (x1.alloc (.cells #[.bool (decide ((redP S1 S0.natAbs) < 0)), .slice A6 k6 c6, .slice D6 l6 b6] 42)).cell? ⟨w.heap.size, 0, none⟩ = some (.slice (some ⟨pb, po, none⟩) n pc) := (hr0.alloc _).cell 0
  have d01 : (x1.alloc (.cells #[.bool (decide ((redP S1 S0.natAbs) < 0)), .slice A6 k6 c6, .slice D6 l6 b6] 42)).cell? ⟨w.heap.size, 1, none⟩ = some (.slice QA rs.length qc) := (hr0.alloc _).cell 1
  have d40 : (x1.alloc (.cells #[.bool (decide ((redP S1 S0.natAbs) < 0)), .slice A6 k6 c6, .slice D6 l6 b6] 42)).cell? ⟨w.heap.size + 1, 0, none⟩ = some (.bool false) := (hr4.alloc _).cell 0
  have d41 : (x1.alloc (.cells #[.bool (decide ((redP S1 S0.natAbs) < 0)), .slice A6 k6 c6, .slice D6 l6 b6] 42)).cell? ⟨w.heap.size + 1, 1, none⟩ = some (.slice none 0 0) := (hr4.alloc _).cell 1
  have d42 : (x1.alloc (.cells #[.bool (decide ((redP S1 S0.natAbs) < 0)), .slice A6 k6 c6, .slice D6 l6 b6] 42)).cell? ⟨w.heap.size + 1, 2, none⟩ = some (.slice none 0 0) := (hr4.alloc _).cell 2
  have e0 : (x1.alloc (.cells #[.bool (decide ((redP S1 S0.natAbs) < 0)), .slice A6 k6 c6, .slice D6 l6 b6] 42)).cell? ⟨g6, 0, none⟩ = some (.bool (decide ((redP S1 S0.natAbs) < 0))) := hr6.cell 0
  have e1 : (x1.alloc (.cells #[.bool (decide ((redP S1 S0.natAbs) < 0)), .slice A6 k6 c6, .slice D6 l6 b6] 42)).cell? ⟨g6, 1, none⟩ = some (.slice A6 k6 c6) := hr6.cell 1
  have e2 : (x1.alloc (.cells #[.bool (decide ((redP S1 S0.natAbs) < 0)), .slice A6 k6 c6, .slice D6 l6 b6] 42)).cell? ⟨g6, 2, none⟩ = some (.slice D6 l6 b6) := hr6.cell 2
  go_wp2_with fail
  clear c00 c01 c40 c41 c42 d00 d01 d40 d41 d42 e0 e1 e2
  clear hg6
  generalize (x1.alloc (.cells #[.bool (decide ((redP S1 S0.natAbs) < 0)), .slice A6 k6 c6, .slice D6 l6 b6] 42)) = x2 at *
  replace hr0 := hr0.keep hl
  replace hr4 := hr4.keep hl
  replace hv6 := hv6.below hl
  replace BB : Below w.heap.size w x2 := BB.trans (hl.mono BB.size)
  clear hl
  obtain ⟨i0, iz0, hi0, hz0, hz1, hz2, hzc⟩ := info_parts2 infoInt2
  have hzs : iz0.cells.size = 2 := by rw [hzc]; rfl
  clear hzc
  go_loopw [8, 9] (fun lv iv wr => ∃ (j : Nat) (gx : Value) (vs : List T2), j ≤ n ∧ iv = .int .i64 (j : Int) ∧ lv = gx ∧ wr.ownsRow x2.heap.size 40 2 gx j (flat2 vs) ∧ IntO wr vs (ps.map (fun p => p * p)) j gx.ownBlock ∧ Below x2.heap.size x2 wr) (fun _ iv _ => n - (intOf iv).toNat)
  case atStart => exact ⟨0, _, [], by omega, rfl, rfl, own_zero2 _ _ _, IntO.zero _ _ _, Below.refl _ _⟩
  case round =>
    obtain ⟨j, gx, vs, hj, rfl, rfl, hown, hco, BQ⟩ := hrel
    have BW := BB.trans (BQ.mono BB.size)
    by_cases hlt : j < n
    · obtain ⟨x, hx⟩ : ∃ x, ps.getD j 0 = x := ⟨_, rfl⟩
      have hxr := HZ.out j hlt
      have gp := (BW.cell (p := ⟨pb, po + j, none⟩) hpb).trans (HCELL.out j hlt)
      have HSJ : Hid ((ps.map (fun p => p * p)).getD j 0 = (x * x)) := (HSQ.out j hlt).trans (by rw [hx])
      rw [hx] at hxr gp
      clear hx
      have hjI : (j : Int) < (n : Int) := by omega
      have hj21 : j ≤ 21 := by omega
      have hm1 : j + 1 ≤ maxLen := by unfold maxLen; omega
      have hwz := BQ.size
      have hr0' := hr0.keep BQ
      have c00 : wr.cell? ⟨w.heap.size, 0, none⟩ = some (.slice (some ⟨pb, po, none⟩) n pc) := hr0'.cell 0
      have c01 : wr.cell? ⟨w.heap.size, 1, none⟩ = some (.slice QA rs.length qc) := hr0'.cell 1
      have z00 := hr0'.lt
      clear hr0'
      have hxx : x * x = ((x.natAbs * x.natAbs : Nat) : Int) := by rw [Int.natCast_mul]; exact (Int.natAbs_mul_self' x).symm
      have hxm : x.natAbs * x.natAbs ≤ 1000 * 1000 := Nat.mul_le_mul (by omega) (by omega)
      have hx1 : -9223372036854775808 ≤ x * x := by omega
      have hx2 : x * x ≤ 9223372036854775807 := by omega
      have hwr : IntKind.i64.wrap (x * x) = x * x := IntWalk.i64_in _ (by omega)
      clear hxx hxm
      go_wp2_with fail
      go_region_law (first
        | (go_simp; go_at_call 36; ((with_reducible refine (r2of_any (x * x) _ hx1 hx2).mono ?_); rintro e w5 ⟨v5, rfl, hv5, h5⟩; have hv5' := hv5; obtain ⟨m5, e5, hm5, hf5⟩ := hv5'; subst e5; obtain ⟨A5, k5, c5, rfl⟩ := hm5.lim1.choose_spec.1.show_; have B5 : Below wr.heap.size wr w5 := bl_call h5 (by (repeat (first | with_reducible exact Below.refl _ _ | with_reducible refine bl_drew ?_))); have hown5 := own_keep hown B5; have hs5 := B5.size))
        | (refine step_append_lies _ (by rfl) (.tmp 26) (.tmp 39) 63 (by rfl) x2.heap.size 40 i0 iz0 2 32 Try.underlying63 hi0 hz0 hz1 hz2 hzs (by omega) _ j _ (by rfl) (hown5.alloc _) ⟨w5.heap.size, 0, none⟩ 1 1 [.bool (decide ((x * x) < 0)), .slice A5 k5 c5] (by rfl) (by rfl) (World.news_of_block (cs := #[.bool (decide ((x * x) < 0)), .slice A5 k5 c5]) (t := 40) (fr := (0, 0)) (heap_alloc_new w5 _)) (by simp [Value.oneCell']) (by decide) hm1 (by omega) (by simp; omega) (w5.heap.size + 1) (by simp) ?_; intro gg cap w7 hown7 hgrow hat hlt7))
      all_goals
        have hfv : Fresh wr.heap.size (.slice A5 k5 c5) := hf5.mono (by first | exact Nat.le_refl _ | exact (bl_drew (Below.refl _ _) : Below wr.heap.size wr wr.drew).size)
        have hBl := B5.trans (((Below.refl w5.heap.size w5).alloc (Nat.le_refl _) (.cells #[.bool (decide ((x * x) < 0)), .slice A5 k5 c5] 40)).mono B5.size)
        have hnat7 := (hm5.below ((Below.refl w5.heap.size w5).alloc (Nat.le_refl _) (.cells #[.bool (decide ((x * x) < 0)), .slice A5 k5 c5] 40))).grown hgrow (off_own2 hown hfv)
        have hoff7 : Off (some gg) (.slice A5 k5 c5) := by
          rcases hat with hh | hh
          · rw [← hh]; exact off_own2 hown hfv
          · subst hh; exact hm5.off (by omega)
        have hcol7 := ((hco.below hBl).grown hgrow (row' := some gg) (by rcases hat with hh | hh; exact .inl hh.symm; exact .inr ⟨gg, rfl, by rw [hh]; simp⟩)).snoc (x := .bool (decide ((x * x) < 0))) (y := .slice A5 k5 c5) (by rw [HSJ.out]) (by rw [HSJ.out]; exact hnat7) hoff7
        have hB7 : Below x2.heap.size x2 w7 := (BQ.trans (hBl.mono BQ.size)).grown hgrow (Nat.le_trans BQ.size hBl.size) (fun q hq => (hown.lt q hq).1)
        go_wp2_with fail
        go_roundw
        case rel => exact ⟨j + 1, _, vs ++ [((Value.bool (decide ((x * x) < 0)), Value.slice A5 k5 c5) : T2)], by omega, by go_num, rfl, by rw [flat2_append]; exact hown7, hcol7, hB7⟩
        case measure => simp [intOf]; omega
    · obtain rfl : j = n := by omega
      have hls := hco.ls HZL.out n0 hown
      obtain ⟨VA, vc, rfl⟩ := own_slice hown
      replace hr0 := hr0.keep BQ
      replace hr4 := hr4.keep BQ
      replace hr6 := hr6.keep BQ
      replace hv6 := hv6.below BQ
      replace BB := BW
      clear BW
      have hq6 := hv6.ratA (redQ_pos HGP.out)
      have l46 : w.heap.size + 1 < g6 := by omega
      have hL2 : 2 ≤ L + 3 := by omega
      have hL3 : L + 3 ≤ 4398046511000 := by omega
      have hL4 : 2 ≤ L + 3 + (L + 3) := by omega
      have hL5 : L + 3 + (L + 3) ≤ 2199023255000 := by omega
      have hL6 : L + 5 ≤ L + 3 + (L + 3) := by omega
      have HQ1 : Hid (0 < redQ S2 S0.natAbs) := redQ_pos HGP.out
      have HQ2 : Hid (0 < redQ (redP S1 S0.natAbs * redP S1 S0.natAbs) (redQ S1 S0.natAbs * redQ S1 S0.natAbs)) := redQ_pos (Nat.mul_pos (redQ_pos HGP.out) (redQ_pos HGP.out))
      have c00 : wr.cell? ⟨w.heap.size, 0, none⟩ = some (.slice (some ⟨pb, po, none⟩) j pc) := hr0.cell 0
      have c01 : wr.cell? ⟨w.heap.size, 1, none⟩ = some (.slice QA rs.length qc) := hr0.cell 1
      have c40 : wr.cell? ⟨w.heap.size + 1, 0, none⟩ = some (.bool false) := hr4.cell 0
      have c41 : wr.cell? ⟨w.heap.size + 1, 1, none⟩ = some (.slice none 0 0) := hr4.cell 1
      have c42 : wr.cell? ⟨w.heap.size + 1, 2, none⟩ = some (.slice none 0 0) := hr4.cell 2
      have c60 : wr.cell? ⟨g6, 0, none⟩ = some (.bool (decide ((redP S1 S0.natAbs) < 0))) := hr6.cell 0
      have c61 : wr.cell? ⟨g6, 1, none⟩ = some (.slice A6 k6 c6) := hr6.cell 1
      have c62 : wr.cell? ⟨g6, 2, none⟩ = some (.slice D6 l6 b6) := hr6.cell 2
      have f40 : wr.frozen? ⟨w.heap.size + 1, 0, none⟩ = false := hr4.frozen 0
      have f41 : wr.frozen? ⟨w.heap.size + 1, 1, none⟩ = false := hr4.frozen 1
      have f42 : wr.frozen? ⟨w.heap.size + 1, 2, none⟩ = false := hr4.frozen 2
      have z0 := hr0.lt
      have z4 := hr4.lt
      have z6 := hr6.lt
      go_wp2_with fail
      have qs0 : wr.cell? ⟨g6, 0, none⟩ = some (.bool (decide ((redP S1 S0.natAbs) < 0))) := hr6.cell 0
      have zs0 := hr6.lt
      have ne0 : (⟨g6, 0, none⟩ : Addr).block ≠ w.heap.size + 1 := (by show g6 ≠ w.heap.size + 1; omega)
      have qs1 : wr.cell? ⟨g6, 1, none⟩ = some (.slice A6 k6 c6) := hr6.cell 1
      have zs1 := hr6.lt
      have ne1 : (⟨g6, 1, none⟩ : Addr).block ≠ w.heap.size + 1 := (by show g6 ≠ w.heap.size + 1; omega)
      have qs2 : wr.cell? ⟨g6, 2, none⟩ = some (.slice D6 l6 b6) := hr6.cell 2
      have zs2 := hr6.lt
      have ne2 : (⟨g6, 2, none⟩ : Addr).block ≠ w.heap.size + 1 := (by show g6 ≠ w.heap.size + 1; omega)
      have zr : w.heap.size + 1 < wr.heap.size := hr4.lt
      have HK : w.heap.size + 1 ≤ wr.heap.size := Nat.le_of_lt zr
      go_region_held3 (fun w' => w'.cell? ⟨g6, 0, none⟩ = some (.bool (decide ((redP S1 S0.natAbs) < 0))) ∧ w'.cell? ⟨g6, 1, none⟩ = some (.slice A6 k6 c6) ∧ w'.cell? ⟨g6, 2, none⟩ = some (.slice D6 l6 b6))
        (first | (refine keepR3 zs0 zs1 zs2 qs0 qs1 qs2 ?_; (repeat (first | with_reducible exact Below.refl _ _ | with_reducible refine bl_call h23 ?_ | with_reducible refine bl_call h22 ?_ | with_reducible refine bl_call h21 ?_ | with_reducible refine bl_alloc ?_ _ | with_reducible refine bl_drew ?_)); done) | (refine keepZ3 ne0 ne1 ne2 (keepR3 zs0 zs1 zs2 qs0 qs1 qs2 ?_); (repeat (first | with_reducible exact Below.refl _ _ | with_reducible refine bl_call h23 ?_ | with_reducible refine bl_call h22 ?_ | with_reducible refine bl_call h21 ?_ | with_reducible refine bl_alloc ?_ _ | with_reducible refine bl_drew ?_)); done))
        (first
          | (go_at_call 37; ((with_reducible refine (HSH.out _ _ (BB.trans ((?_ : Below wr.heap.size wr _).mono BB.size)) (hls.below ?_)).mono ?_); (repeat (first | with_reducible exact Below.refl _ _ | with_reducible refine bl_call h23 ?_ | with_reducible refine bl_call h22 ?_ | with_reducible refine bl_call h21 ?_ | with_reducible refine bl_alloc ?_ _ | with_reducible refine bl_drew ?_)); (repeat (first | with_reducible exact Below.refl _ _ | with_reducible refine bl_call h23 ?_ | with_reducible refine bl_call h22 ?_ | with_reducible refine bl_call h21 ?_ | with_reducible refine bl_alloc ?_ _ | with_reducible refine bl_drew ?_)); rintro e w21 ⟨v21, rfl, hv21, h21⟩))
          | (go_at_call 41; ((with_reducible refine (r3mul_any (.agg #[.bool (decide ((redP S1 S0.natAbs) < 0)), .slice A6 k6 c6, .slice D6 l6 b6]) (.agg #[.bool (decide ((redP S1 S0.natAbs) < 0)), .slice A6 k6 c6, .slice D6 l6 b6]) (redP S1 S0.natAbs) (redP S1 S0.natAbs) (redQ S1 S0.natAbs) (redQ S1 S0.natAbs) (L + 3) _ (hq6.below ?_) (hq6.below ?_) hL2 hL3).mono ?_); (repeat (first | with_reducible exact Below.refl _ _ | with_reducible refine bl_call h23 ?_ | with_reducible refine bl_call h22 ?_ | with_reducible refine bl_call h21 ?_ | with_reducible refine bl_alloc ?_ _ | with_reducible refine bl_drew ?_)); (repeat (first | with_reducible exact Below.refl _ _ | with_reducible refine bl_call h23 ?_ | with_reducible refine bl_call h22 ?_ | with_reducible refine bl_call h21 ?_ | with_reducible refine bl_alloc ?_ _ | with_reducible refine bl_drew ?_)); rintro e w22 ⟨v22, rfl, hv22, h22⟩))
          | (go_at_call 40; ((with_reducible refine (r3sub_any _ _ (redP S2 S0.natAbs) (redP (redP S1 S0.natAbs * redP S1 S0.natAbs) (redQ S1 S0.natAbs * redQ S1 S0.natAbs)) (redQ S2 S0.natAbs) (redQ (redP S1 S0.natAbs * redP S1 S0.natAbs) (redQ S1 S0.natAbs * redQ S1 S0.natAbs)) (L + 3 + (L + 3)) _ (((hv21.ratA HQ1.out).mono hL6).below ?_) ((hv22.ratA HQ2.out).below ?_) hL4 hL5).mono ?_); (repeat (first | with_reducible exact Below.refl _ _ | with_reducible refine bl_call h23 ?_ | with_reducible refine bl_call h22 ?_ | with_reducible refine bl_call h21 ?_ | with_reducible refine bl_alloc ?_ _ | with_reducible refine bl_drew ?_)); (repeat (first | with_reducible exact Below.refl _ _ | with_reducible refine bl_call h23 ?_ | with_reducible refine bl_call h22 ?_ | with_reducible refine bl_call h21 ?_ | with_reducible refine bl_alloc ?_ _ | with_reducible refine bl_drew ?_)); rintro e w23 ⟨vz, rfl, hz, h23⟩; rw [HVR.out.1, HVR.out.2] at hz; have hz' := hz; obtain ⟨mz, dz, ez, hmz, hdz, _, _⟩ := hz'; subst ez; obtain ⟨Az, kz, cz, rfl⟩ := hmz.lim1.choose_spec.1.show_; obtain ⟨Dz, lz, bz, rfl⟩ := hdz.lim1.choose_spec.1.show_; clear hmz hdz; have BL : Below wr.heap.size wr w23 := (by (repeat (first | with_reducible exact Below.refl _ _ | with_reducible refine bl_call h23 ?_ | with_reducible refine bl_call h22 ?_ | with_reducible refine bl_call h21 ?_ | with_reducible refine bl_alloc ?_ _ | with_reducible refine bl_drew ?_))); have RR := hr4.keep BL; have e0 := RR.cell 0; have e1 := RR.cell 1; have e2 := RR.cell 2; simp only [List.getElem?_cons_zero, List.getElem?_cons_succ] at e0 e1 e2; have f0 := RR.frozen 0; have f1 := RR.frozen 1; have f2 := RR.frozen 2; have zRR := RR.lt)))
      all_goals go_wp2_with fail
      all_goals
        refine bodyPost_ret (v := .tuple #[.agg #[.bool (decide ((redP (S0 * S2 - S1 * S1) (S0 * S0).natAbs) < 0)), .slice Az kz cz, .slice Dz lz bz], .int .i64 0]) (by simp [results, Try.results23, go_sem, e0, e1, e2]) rfl ⟨_, rfl, ?_, (((BB.trans (BL.mono BB.size)).setCell (by simp <;> omega) _).setCell (by simp <;> omega) _).setCell (by simp <;> omega) _⟩
        exact ((((hz.base (bl_szR (by (repeat (first | with_reducible exact Below.refl _ _ | with_reducible refine bl_call h23 ?_ | with_reducible refine bl_call h22 ?_ | with_reducible refine bl_call h21 ?_ | with_reducible refine bl_alloc ?_ _ | with_reducible refine bl_drew ?_))))).set_ (a := ⟨w.heap.size + 1, 0, none⟩) zr _).set_ (a := ⟨w.heap.size + 1, 1, none⟩) zr _).set_ (a := ⟨w.heap.size + 1, 2, none⟩) zr _).base (Nat.le_trans (by omega) (Nat.le_of_lt zr))
end Go.Proofs.Ytdmjgildgjpmcaa
