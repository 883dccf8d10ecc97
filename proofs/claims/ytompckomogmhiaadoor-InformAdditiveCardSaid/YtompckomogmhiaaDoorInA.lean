/- inform.information. -/
import Derived.Test.YtompckomogmhiaaDoorInP
import Derived.Test.YtompckomogmhiaaDoorLst
import Derived.Deep.CutRange
import Derived.Deep.DeepCutAuto
import Derived.Deep.Light
namespace Go.Proofs.YtompckomogmhiaaDoor
open Go.RowKit
set_option linter.unusedVariables false
set_option maxRecDepth 100000

theorem rows_mem {w : World} {mv : Value} {m : List (List Int)} {c : Nat} (h : IntsL w mv m) (h0 : 0 < m.length) (hc : 0 < c) (hl : ∀ i, i < m.length → (m.getD i []).length = c) :
    ∃ b o cp, mv = .slice (some ⟨b, o, none⟩) m.length cp ∧ b < w.heap.size ∧ ∀ i, i < m.length → ∃ b2 o2 c2, w.cell? ⟨b, o + i, none⟩ = some (.slice (some ⟨b2, o2, none⟩) c c2) ∧ b2 < w.heap.size ∧ ∀ k, k < c → w.cell? ⟨b2, o2 + k, none⟩ = some (.int .i64 ((m.getD i []).getD k 0)) := by
  obtain ⟨A, cp, us, rfl, _, _, hs, hu⟩ := h
  obtain ⟨b, o, u0, hA, hb, _, _⟩ := lst_at (R := Nums .i64) (d := []) (xs := m) hs hu h0
  subst hA
  refine ⟨b, o, cp, rfl, hb, fun i hi => ?_⟩
  obtain ⟨b1, o1, u, hA, _, h1, X, cX, rfl, _, _, x3⟩ := lst_at (R := Nums .i64) (d := []) (xs := m) hs hu hi
  obtain ⟨rfl, rfl⟩ : b = b1 ∧ o = o1 := by injection hA with h; injection h with h1 h2 h3; exact ⟨h1, h2⟩
  have hlen := hl i hi
  obtain ⟨b2, o2, rfl, hb2, hcell⟩ := x3.num (i := 0) (by omega)
  rw [hlen] at h1 hcell
  exact ⟨b2, o2, cX, h1, hb2, hcell⟩
set_option maxHeartbeats 32000000 in
theorem info_any (pv rv mv : Value) (ps rs : List Int) (m : List (List Int)) (q Z : Nat) (w : World) (hp : Nums .i64 w pv ps) (hr : Nums .i64 w rv rs) (hm : IntsL w mv m) (hE : gridE ps rs = 0) (hM : modE m (ps.length : Int) = 0) (hq : q < ps.length) (hZ : IsLam Z) :
    Calls Tryd.prog 26 #[.agg #[pv, rv], .agg #[mv], .int .i64 (q : Int)] w fun e w' => ∃ x, e = .returned x ∧ RatF w.heap.size w' x (redP (inF Z m ps.length q) (ifD Z ps q)) (redQ (inF Z m ps.length q) (ifD Z ps q)) 330 ∧ Below w.heap.size w w' := by
  obtain ⟨hml, n1, n21, k2, k6, hrows⟩ := in_rows hM
  obtain ⟨hA, hB, hAB, hAq⟩ := in_ab hq
  obtain ⟨dx0, dx1, dx2⟩ := in_x hE hq
  have HX0 := Lib.hid dx2
  obtain ⟨D0, D1⟩ := inD_bd hZ hE hq
  have HDP := Lib.hid D0
  have HS : Hid (∀ j, j ≤ catsOf m → (redP (mom (inT Z m ps.length q) j) (ifD Z ps q)).natAbs < bp 330 ∧ redQ (mom (inT Z m ps.length q) j) (ifD Z ps q) < bp 330) := fun j hj => by
    obtain ⟨s1, s2⟩ := inS_bd (Z := Z) hM hq hj
    exact red_bd hZ s1 (by omega) (by omega)
  have HADD := Lib.hid (fun j => add_red (mom (inT Z m ps.length q) j) (inT Z m ps.length q j) (ifD Z ps q) D0)
  have HT : Hid (inX ps q ≠ 0 → ∀ j, j < catsOf m → redP (inC m ps.length q j * inC m ps.length q j) (1000 * inX ps q * inX ps q * (m.getD q []).getD j 0).toNat = redP (inT Z m ps.length q j) (ifD Z ps q) ∧ redQ (inC m ps.length q j * inC m ps.length q j) (1000 * inX ps q * inX ps q * (m.getD q []).getD j 0).toNat = redQ (inT Z m ps.length q j) (ifD Z ps q)) := fun hx j hj => by
    unfold ifD
    rw [if_neg hx]
    have := (hrows q hq).2 j hj
    exact term_red hZ (by omega) this.1 this.2
  have HC : Hid (∀ j, j < catsOf m → -1000 ≤ inC m ps.length q j ∧ inC m ps.length q j ≤ 1000) := fun j hj => in_c hM hq hj
  have HCE : Hid (∀ j, (m.getD (inB ps.length q) []).getD j 0 - (m.getD (inA q) []).getD j 0 = inC m ps.length q j) := fun j => rfl
  have HXE : Hid (ps.getD (inB ps.length q) 0 - ps.getD (inA q) 0 = inX ps q) := rfl
  have HRW : Hid (∀ i, i < ps.length → (m.getD i []).length = catsOf m ∧ ∀ k, k < catsOf m → 1 ≤ (m.getD i []).getD k 0 ∧ (m.getD i []).getD k 0 ≤ 1000) := hrows
  have HZ0 : Hid (inA q = inB ps.length q → inF Z m ps.length q = mom (inT Z m ps.length q) 0) := fun h => inF_one h
  have HDZ : Hid (inA q = inB ps.length q → ifD Z ps q = ifD Z ps q) := fun _ => rfl
  have HF : Hid (inF Z m ps.length q = mom (inT Z m ps.length q) (catsOf m)) := rfl
  have HZ1 : Hid (redP 0 (1 : Int).toNat = redP (mom (inT Z m ps.length q) 0) (ifD Z ps q)) := by
    unfold Hid; rw [show mom (inT Z m ps.length q) 0 = 0 from rfl, red_nul.1 D0]; rfl
  have HZ2 : Hid (redQ 0 (1 : Int).toNat = redQ (mom (inT Z m ps.length q) 0) (ifD Z ps q)) := by
    unfold Hid; rw [show mom (inT Z m ps.length q) 0 = 0 from rfl, red_nul.2 D0]; rfl
  have HAD : Hid (max ((q : Int) - 1) 0 = ((inA q : Nat) : Int)) := by unfold Hid inA; omega
  have HBD : Hid (min ((q : Int) + 1) ((ps.length : Int) - 1) = ((inB ps.length q : Nat) : Int)) := by unfold Hid inB; omega
  obtain ⟨mb, mo, mc, rfl, hmb, hrm⟩ := rows_mem hm (by omega) (show 0 < catsOf m by omega) (fun i hi => (hrows i (by omega)).1)
  rw [hml] at hrm ⊢
  have HROWS := Lib.hid hrm
  clear hrows dx2 hE hM D0 D1 hAB hAq hrm hm hml
  obtain ⟨fT, hfT⟩ : ∃ f, inT Z m ps.length q = f := ⟨_, rfl⟩
  rw [hfT] at HS HADD HT HZ0 HF HZ1 HZ2
  clear hfT
  obtain ⟨a, hae⟩ : ∃ a, inA q = a := ⟨_, rfl⟩
  obtain ⟨b, hbe⟩ : ∃ b, inB ps.length q = b := ⟨_, rfl⟩
  obtain ⟨d, hde⟩ : ∃ d, inX ps q = d := ⟨_, rfl⟩
  obtain ⟨D, hDe⟩ : ∃ D, ifD Z ps q = D := ⟨_, rfl⟩
  obtain ⟨FF, hFe⟩ : ∃ D, inF Z m ps.length q = D := ⟨_, rfl⟩
  rw [hae] at hA HX0 HCE HXE HZ0 HDZ HAD
  rw [hbe] at hB HX0 HCE HXE HZ0 HDZ HBD
  rw [hde] at dx0 dx1 HX0 HXE HT
  rw [hDe] at HS HADD HT HDP HZ1 HZ2 HDZ ⊢
  rw [hFe] at HZ0 HF ⊢
  clear hae hbe hde hDe hFe
  obtain ⟨c, hce⟩ : ∃ c, catsOf m = c := ⟨_, rfl⟩
  rw [hce] at HS HT HC HRW HF HROWS k2 k6
  clear hce
  obtain ⟨PA, pc, rfl, _, _, hps⟩ := hp
  obtain ⟨pb, po, rfl, hpb, hcell⟩ := hps.num hA
  obtain ⟨RV, vc, rfl, _, _, _⟩ := hr
  obtain ⟨n, hnn⟩ : ∃ n, ps.length = n := ⟨_, rfl⟩
  rw [hnn] at hA hB hq n1 n21 HT HC HCE HRW HROWS hcell HBD ⊢
  clear hnn hps
  have u1 : IntKind.i64.wrap ((q : Int) - 1) = (q : Int) - 1 := by rw [IntKind.wrap_i64]; omega
  have u2 : IntKind.i64.wrap ((q : Int) + 1) = (q : Int) + 1 := by rw [IntKind.wrap_i64]; omega
  have u3 : IntKind.i64.wrap ((n : Int) - 1) = (n : Int) - 1 := by rw [IntKind.wrap_i64]; omega
  obtain ⟨W0, hW0⟩ : ∃ W0 : World, W0 = ((w.alloc (.cells #[.slice (some ⟨pb, po, none⟩) n pc, .slice RV rs.length vc] 24)).alloc (.cells #[.slice (some ⟨mb, mo, none⟩) n mc] 40)).alloc (.cells #[.bool false, .slice none 0 0, .slice none 0 0] 31) := ⟨_, rfl⟩
  have r0 : Row W0 w.heap.size 24 [.slice (some ⟨pb, po, none⟩) n pc, .slice RV rs.length vc] := by
    rw [hW0]
    have := Row.alloc (Row.alloc (Row.new w 24 [.slice (some ⟨pb, po, none⟩) n pc, .slice RV rs.length vc]) (.cells #[.slice (some ⟨mb, mo, none⟩) n mc] 40)) (.cells #[.bool false, .slice none 0 0, .slice none 0 0] 31)
    simpa using this
  have r1 : Row W0 (w.heap.size + 1) 40 [.slice (some ⟨mb, mo, none⟩) n mc] := by
    rw [hW0]
    have := Row.alloc (Row.new (w.alloc (.cells #[.slice (some ⟨pb, po, none⟩) n pc, .slice RV rs.length vc] 24)) 40 [.slice (some ⟨mb, mo, none⟩) n mc]) (.cells #[.bool false, .slice none 0 0, .slice none 0 0] 31)
    simpa using this
  have r2 : Row W0 (w.heap.size + 2) 31 [.bool false, .slice none 0 0, .slice none 0 0] := by
    rw [hW0]
    have := Row.new ((w.alloc (.cells #[.slice (some ⟨pb, po, none⟩) n pc, .slice RV rs.length vc] 24)).alloc (.cells #[.slice (some ⟨mb, mo, none⟩) n mc] 40)) 31 [.bool false, .slice none 0 0, .slice none 0 0]
    simpa using this
  have B0 : Below w.heap.size w W0 := by rw [hW0]; exact ((((Below.refl _ _).alloc (Nat.le_refl _) _).alloc (by simp) _).alloc (by simp; omega) _)
  go_enter Tryd.func26, Tryd.ntmps26
  go_wp2_with fail
  rw [← hW0]
  clear hW0
  have BB := B0
  have hr3 := r0
  have hr4 := r1
  have hr6 : Row W0 (w.heap.size + 1 + 1) 31 [.bool false, .slice none 0 0, .slice none 0 0] := r2
  clear B0 r0 r1 r2
  have c30 : W0.cell? ⟨w.heap.size, 0, none⟩ = some (.slice (some ⟨pb, po, none⟩) n pc) := hr3.cell 0
  have c31 : W0.cell? ⟨w.heap.size, 1, none⟩ = some (.slice RV rs.length vc) := hr3.cell 1
  have c40 : W0.cell? ⟨w.heap.size + 1, 0, none⟩ = some (.slice (some ⟨mb, mo, none⟩) n mc) := hr4.cell 0
  have c60 : W0.cell? ⟨w.heap.size + 1 + 1, 0, none⟩ = some (.bool false) := hr6.cell 0
  have c61 : W0.cell? ⟨w.heap.size + 1 + 1, 1, none⟩ = some (.slice none 0 0) := hr6.cell 1
  have c62 : W0.cell? ⟨w.heap.size + 1 + 1, 2, none⟩ = some (.slice none 0 0) := hr6.cell 2
  have z3 := hr3.lt
  have z4 := hr4.lt
  have z6 := hr6.lt
  go_wp2_with fail
  go_cut [7, 8] (fun s7 s8 wx => s7 = .int .i64 (a : Int) ∧ s8 = .int .i64 (b : Int) ∧ Below W0.heap.size W0 wx)
  case first =>
    go_region
    all_goals go_wp2_with fail
    all_goals go_meet
    all_goals go_light
    all_goals refine ⟨?_, ?_, ?_⟩
    all_goals first | (refine congrArg (Value.int IntKind.i64) ?_; first | exact HAD.out | exact HBD.out | (have h1 := HAD.out; have h2 := HBD.out; (try split) <;> omega)) | exact (Below.refl _ _).drew | exact Below.refl _ _ | skip
  case rest =>
    obtain ⟨rfl, rfl, hbc⟩ := hcut
    obtain ⟨y1, hy1⟩ : ∃ x, x = wc := ⟨_, rfl⟩
    rw [← hy1] at hbc ⊢
    clear hy1 c30 c31 c40 c60 c61 c62 z3 z4 z6 u1 u2 u3 HAD HBD
    replace hr3 := hr3.keep hbc
    replace hr4 := hr4.keep hbc
    replace hr6 := hr6.keep hbc
    replace BB : Below w.heap.size w y1 := BB.trans (hbc.mono BB.size)
    clear hbc
    by_cases hab : a = b
    · have hbb : ((a : Int) == (b : Int)) = true := by rw [beq_iff_eq]; omega
      have by6 := hr6.lt
      have byB := BB.size
      have c30 : y1.cell? ⟨w.heap.size, 0, none⟩ = some (.slice (some ⟨pb, po, none⟩) n pc) := hr3.cell 0
      have c31 : y1.cell? ⟨w.heap.size, 1, none⟩ = some (.slice RV rs.length vc) := hr3.cell 1
      have c40 : y1.cell? ⟨w.heap.size + 1, 0, none⟩ = some (.slice (some ⟨mb, mo, none⟩) n mc) := hr4.cell 0
      have c60 : y1.cell? ⟨w.heap.size + 1 + 1, 0, none⟩ = some (.bool false) := hr6.cell 0
      have c61 : y1.cell? ⟨w.heap.size + 1 + 1, 1, none⟩ = some (.slice none 0 0) := hr6.cell 1
      have c62 : y1.cell? ⟨w.heap.size + 1 + 1, 2, none⟩ = some (.slice none 0 0) := hr6.cell 2
      have f60 : y1.frozen? ⟨w.heap.size + 1 + 1, 0, none⟩ = false := hr6.frozen 0
      have f61 : y1.frozen? ⟨w.heap.size + 1 + 1, 1, none⟩ = false := hr6.frozen 1
      have f62 : y1.frozen? ⟨w.heap.size + 1 + 1, 2, none⟩ = false := hr6.frozen 2
      have z3 := hr3.lt
      have z4 := hr4.lt
      have z6 := hr6.lt
      go_wp2_with fail
      clear c30 c31 c40 c60 c61 c62 f60 f61 f62 z3 z4 z6
      refine (qof_any 0 1 _ (by omega) (by omega) (by omega) (by omega)).mono ?_
      rintro e x1 ⟨v9, rfl, hv9, hb⟩
      replace hr3 := hr3.keep hb
      replace hr4 := hr4.keep hb
      replace hr6 := hr6.keep hb
      replace BB : Below w.heap.size w x1 := BB.trans (hb.mono BB.size)
      clear hb
      rw [HZ1.out, HZ2.out] at hv9
      have h9' := hv9
      obtain ⟨m9, d9, e9, hm9, hd9, _, _⟩ := h9'
      subst e9
      obtain ⟨A9, k9, c9, rfl⟩ := hm9.lim1.choose_spec.1.show_
      obtain ⟨D9, l9, b9, rfl⟩ := hd9.lim1.choose_spec.1.show_
      clear hm9 hd9
      have hz6 := hr6.lt
      have BBs := BB.size
      have c60 : x1.cell? ⟨w.heap.size + 1 + 1, 0, none⟩ = some (.bool false) := hr6.cell 0
      have c61 : x1.cell? ⟨w.heap.size + 1 + 1, 1, none⟩ = some (.slice none 0 0) := hr6.cell 1
      have c62 : x1.cell? ⟨w.heap.size + 1 + 1, 2, none⟩ = some (.slice none 0 0) := hr6.cell 2
      have f60 : x1.frozen? ⟨w.heap.size + 1 + 1, 0, none⟩ = false := hr6.frozen 0
      have f61 : x1.frozen? ⟨w.heap.size + 1 + 1, 1, none⟩ = false := hr6.frozen 1
      have f62 : x1.frozen? ⟨w.heap.size + 1 + 1, 2, none⟩ = false := hr6.frozen 2
      go_wp2_with fail
      have r6x := (((hr6.set_ 0 (.bool (decide ((redP (mom fT 0) D) < 0)))).set_ 1 (.slice A9 k9 c9)).set_ 2 (.slice D9 l9 b9)).alloc (.cells #[.bool (decide ((redP (mom fT 0) D) < 0)), .slice A9 k9 c9, .slice D9 l9 b9] 31)
      have d60 := r6x.cell 0
      have d61 := r6x.cell 1
      have d62 := r6x.cell 2
      simp only [List.set_cons_zero, List.set_cons_succ, List.getElem?_cons_zero, List.getElem?_cons_succ] at d60 d61 d62
      refine bodyPost_ret (v := .agg #[.bool (decide ((redP (mom fT 0) D) < 0)), .slice A9 k9 c9, .slice D9 l9 b9]) (by simp [results, Tryd.results26, go_sem, d60, d61, d62]) rfl ⟨_, rfl, ?_, ?_⟩
      · rw [HZ0.out hab]
        exact (((((hv9.mono (by decide)).set_ (a := ⟨w.heap.size + 1 + 1, 0, none⟩) by6 _).set_ (a := ⟨w.heap.size + 1 + 1, 1, none⟩) by6 _).set_ (a := ⟨w.heap.size + 1 + 1, 2, none⟩) by6 _).below (lit_below _ _)).base (by omega)
      · have B3 := ((BB.setCell (p := ⟨w.heap.size + 1 + 1, 0, none⟩) (by show w.heap.size ≤ w.heap.size + 1 + 1; omega) (.bool (decide ((redP (mom fT 0) D) < 0)))).setCell (p := ⟨w.heap.size + 1 + 1, 1, none⟩) (by show w.heap.size ≤ w.heap.size + 1 + 1; omega) (.slice A9 k9 c9)).setCell (p := ⟨w.heap.size + 1 + 1, 2, none⟩) (by show w.heap.size ≤ w.heap.size + 1 + 1; omega) (.slice D9 l9 b9)
        exact B3.alloc B3.size _
    · have hbb : ((a : Int) == (b : Int)) = false := by rw [beq_eq_false_iff_ne]; omega
      have hd0 : d ≠ 0 := fun h => hab (HX0.out.1 h)
      have HT2 := Lib.hid (HT.out hd0)
      clear HT
      have by6 := hr6.lt
      have c30 : y1.cell? ⟨w.heap.size, 0, none⟩ = some (.slice (some ⟨pb, po, none⟩) n pc) := hr3.cell 0
      have c31 : y1.cell? ⟨w.heap.size, 1, none⟩ = some (.slice RV rs.length vc) := hr3.cell 1
      have c40 : y1.cell? ⟨w.heap.size + 1, 0, none⟩ = some (.slice (some ⟨mb, mo, none⟩) n mc) := hr4.cell 0
      have c60 : y1.cell? ⟨w.heap.size + 1 + 1, 0, none⟩ = some (.bool false) := hr6.cell 0
      have c61 : y1.cell? ⟨w.heap.size + 1 + 1, 1, none⟩ = some (.slice none 0 0) := hr6.cell 1
      have c62 : y1.cell? ⟨w.heap.size + 1 + 1, 2, none⟩ = some (.slice none 0 0) := hr6.cell 2
      have z3 := hr3.lt
      have z4 := hr4.lt
      have z6 := hr6.lt
      go_wp2_with fail
      clear c30 c31 c40 c60 c61 c62 z3 z4 z6
      refine (qof_any 0 1 _ (by omega) (by omega) (by omega) (by omega)).mono ?_
      rintro e x1 ⟨v9, rfl, hv9, hb⟩
      replace hr3 := hr3.keep hb
      replace hr4 := hr4.keep hb
      replace hr6 := hr6.keep hb
      replace BB : Below w.heap.size w x1 := BB.trans (hb.mono BB.size)
      clear hb
      rw [HZ1.out, HZ2.out] at hv9
      have h9' := hv9
      obtain ⟨m9, d9, e9, hm9, hd9, _, _⟩ := h9'
      subst e9
      obtain ⟨A9, k9, c9, rfl⟩ := hm9.lim1.choose_spec.1.show_
      obtain ⟨D9, l9, b9, rfl⟩ := hd9.lim1.choose_spec.1.show_
      clear hm9 hd9
      obtain ⟨g9, hg9⟩ : ∃ g, x1.heap.size = g := ⟨_, rfl⟩
      have hr9 : Row (x1.alloc (.cells #[.bool (decide ((redP (mom fT 0) D) < 0)), .slice A9 k9 c9, .slice D9 l9 b9] 31)) g9 31 [.bool (decide ((redP (mom fT 0) D) < 0)), .slice A9 k9 c9, .slice D9 l9 b9] := row_at hg9
      have hl := lit_below x1 (.cells #[.bool (decide ((redP (mom fT 0) D) < 0)), .slice A9 k9 c9, .slice D9 l9 b9] 31)
      have o3_9 : w.heap.size < g9 := by have := hr3.lt; omega
      have o4_9 : w.heap.size + 1 < g9 := by have := hr4.lt; omega
      have o6_9 : w.heap.size + 1 + 1 < g9 := by have := hr6.lt; omega
      have ob_9 : w.heap.size ≤ g9 := by have := BB.size; omega
      have c30 : x1.cell? ⟨w.heap.size, 0, none⟩ = some (.slice (some ⟨pb, po, none⟩) n pc) := hr3.cell 0
      have c31 : x1.cell? ⟨w.heap.size, 1, none⟩ = some (.slice RV rs.length vc) := hr3.cell 1
      have c40 : x1.cell? ⟨w.heap.size + 1, 0, none⟩ = some (.slice (some ⟨mb, mo, none⟩) n mc) := hr4.cell 0
      have c60 : x1.cell? ⟨w.heap.size + 1 + 1, 0, none⟩ = some (.bool false) := hr6.cell 0
      have c61 : x1.cell? ⟨w.heap.size + 1 + 1, 1, none⟩ = some (.slice none 0 0) := hr6.cell 1
      have c62 : x1.cell? ⟨w.heap.size + 1 + 1, 2, none⟩ = some (.slice none 0 0) := hr6.cell 2
      have d30 : (x1.alloc (.cells #[.bool (decide ((redP (mom fT 0) D) < 0)), .slice A9 k9 c9, .slice D9 l9 b9] 31)).cell? ⟨w.heap.size, 0, none⟩ = some (.slice (some ⟨pb, po, none⟩) n pc) := (hr3.alloc _).cell 0
      have d31 : (x1.alloc (.cells #[.bool (decide ((redP (mom fT 0) D) < 0)), .slice A9 k9 c9, .slice D9 l9 b9] 31)).cell? ⟨w.heap.size, 1, none⟩ = some (.slice RV rs.length vc) := (hr3.alloc _).cell 1
      have d40 : (x1.alloc (.cells #[.bool (decide ((redP (mom fT 0) D) < 0)), .slice A9 k9 c9, .slice D9 l9 b9] 31)).cell? ⟨w.heap.size + 1, 0, none⟩ = some (.slice (some ⟨mb, mo, none⟩) n mc) := (hr4.alloc _).cell 0
      have d60 : (x1.alloc (.cells #[.bool (decide ((redP (mom fT 0) D) < 0)), .slice A9 k9 c9, .slice D9 l9 b9] 31)).cell? ⟨w.heap.size + 1 + 1, 0, none⟩ = some (.bool false) := (hr6.alloc _).cell 0
      have d61 : (x1.alloc (.cells #[.bool (decide ((redP (mom fT 0) D) < 0)), .slice A9 k9 c9, .slice D9 l9 b9] 31)).cell? ⟨w.heap.size + 1 + 1, 1, none⟩ = some (.slice none 0 0) := (hr6.alloc _).cell 1
      have d62 : (x1.alloc (.cells #[.bool (decide ((redP (mom fT 0) D) < 0)), .slice A9 k9 c9, .slice D9 l9 b9] 31)).cell? ⟨w.heap.size + 1 + 1, 2, none⟩ = some (.slice none 0 0) := (hr6.alloc _).cell 2
      have e0 : (x1.alloc (.cells #[.bool (decide ((redP (mom fT 0) D) < 0)), .slice A9 k9 c9, .slice D9 l9 b9] 31)).cell? ⟨g9, 0, none⟩ = some (.bool (decide ((redP (mom fT 0) D) < 0))) := hr9.cell 0
      have e1 : (x1.alloc (.cells #[.bool (decide ((redP (mom fT 0) D) < 0)), .slice A9 k9 c9, .slice D9 l9 b9] 31)).cell? ⟨g9, 1, none⟩ = some (.slice A9 k9 c9) := hr9.cell 1
      have e2 : (x1.alloc (.cells #[.bool (decide ((redP (mom fT 0) D) < 0)), .slice A9 k9 c9, .slice D9 l9 b9] 31)).cell? ⟨g9, 2, none⟩ = some (.slice D9 l9 b9) := hr9.cell 2
      go_wp2_with fail
      clear c30 c31 c40 c60 c61 c62 d30 d31 d40 d60 d61 d62 e0 e1 e2
      clear hg9
      generalize (x1.alloc (.cells #[.bool (decide ((redP (mom fT 0) D) < 0)), .slice A9 k9 c9, .slice D9 l9 b9] 31)) = x2 at *
      replace hr3 := hr3.keep hl
      replace hr4 := hr4.keep hl
      replace hr6 := hr6.keep hl
      replace hv9 := hv9.below hl
      replace BB : Below w.heap.size w x2 := BB.trans (hl.mono BB.size)
      clear hl
      obtain ⟨za, hza⟩ : ∃ x, ps.getD a 0 = x := ⟨_, rfl⟩
      obtain ⟨zb, hzb⟩ : ∃ x, ps.getD b 0 = x := ⟨_, rfl⟩
      have pa := (BB.cell (p := ⟨pb, _, none⟩) hpb).trans (hcell a hA)
      have pz := (BB.cell (p := ⟨pb, _, none⟩) hpb).trans (hcell b hB)
      have hxe := HXE.out
      rw [hza] at pa hxe
      rw [hzb] at pz hxe
      clear hza hzb
      have haI : (a : Int) < (n : Int) := by omega
      have hbI : (b : Int) < (n : Int) := by omega
      have hqI : (q : Int) < (n : Int) := by omega
      have u4 : IntKind.i64.wrap (zb - za) = d := by rw [hxe, IntKind.wrap_i64]; omega
      have zpb := Nat.lt_of_lt_of_le hpb BB.size
      have c30 : x2.cell? ⟨w.heap.size, 0, none⟩ = some (.slice (some ⟨pb, po, none⟩) n pc) := hr3.cell 0
      have c31 : x2.cell? ⟨w.heap.size, 1, none⟩ = some (.slice RV rs.length vc) := hr3.cell 1
      have c40 : x2.cell? ⟨w.heap.size + 1, 0, none⟩ = some (.slice (some ⟨mb, mo, none⟩) n mc) := hr4.cell 0
      have c60 : x2.cell? ⟨w.heap.size + 1 + 1, 0, none⟩ = some (.bool false) := hr6.cell 0
      have c61 : x2.cell? ⟨w.heap.size + 1 + 1, 1, none⟩ = some (.slice none 0 0) := hr6.cell 1
      have c62 : x2.cell? ⟨w.heap.size + 1 + 1, 2, none⟩ = some (.slice none 0 0) := hr6.cell 2
      have c90 : x2.cell? ⟨g9, 0, none⟩ = some (.bool (decide ((redP (mom fT 0) D) < 0))) := hr9.cell 0
      have c91 : x2.cell? ⟨g9, 1, none⟩ = some (.slice A9 k9 c9) := hr9.cell 1
      have c92 : x2.cell? ⟨g9, 2, none⟩ = some (.slice D9 l9 b9) := hr9.cell 2
      have z3 := hr3.lt
      have z4 := hr4.lt
      have z6 := hr6.lt
      have z9 := hr9.lt
      go_wp2_with fail
      go_cut [11] (fun s11 wx => s11 = .int .i64 d ∧ Below x2.heap.size x2 wx)
      case first =>
        go_region
        all_goals go_wp2_with fail
        all_goals go_meet
        all_goals go_light
        all_goals refine ⟨?_, ?_⟩
        all_goals first | rfl | exact (Below.refl _ _).drew | exact Below.refl _ _ | (rw [u4]; done)
      case rest =>
        obtain ⟨rfl, hbc⟩ := hcut
        obtain ⟨y2, hy2⟩ : ∃ x, x = wc := ⟨_, rfl⟩
        rw [← hy2] at hbc ⊢
        clear hy2 pa pz u4 hxe zpb c30 c31 c40 c60 c61 c62 c90 c91 c92 z3 z4 z6 z9
        replace hr3 := hr3.keep hbc
        replace hr4 := hr4.keep hbc
        replace hr6 := hr6.keep hbc
        replace hv9 := hv9.below hbc
        replace hr9 := hr9.keep hbc
        replace BB : Below w.heap.size w y2 := BB.trans (hbc.mono BB.size)
        clear hbc
        obtain ⟨rb, ro, rc, rq1, rq2, rq3⟩ := HROWS.out q hq
        have gq := (BB.cell (p := ⟨mb, _, none⟩) hmb).trans rq1
        have c30 : y2.cell? ⟨w.heap.size, 0, none⟩ = some (.slice (some ⟨pb, po, none⟩) n pc) := hr3.cell 0
        have c31 : y2.cell? ⟨w.heap.size, 1, none⟩ = some (.slice RV rs.length vc) := hr3.cell 1
        have c40 : y2.cell? ⟨w.heap.size + 1, 0, none⟩ = some (.slice (some ⟨mb, mo, none⟩) n mc) := hr4.cell 0
        have c60 : y2.cell? ⟨w.heap.size + 1 + 1, 0, none⟩ = some (.bool false) := hr6.cell 0
        have c61 : y2.cell? ⟨w.heap.size + 1 + 1, 1, none⟩ = some (.slice none 0 0) := hr6.cell 1
        have c62 : y2.cell? ⟨w.heap.size + 1 + 1, 2, none⟩ = some (.slice none 0 0) := hr6.cell 2
        have c90 : y2.cell? ⟨g9, 0, none⟩ = some (.bool (decide ((redP (mom fT 0) D) < 0))) := hr9.cell 0
        have c91 : y2.cell? ⟨g9, 1, none⟩ = some (.slice A9 k9 c9) := hr9.cell 1
        have c92 : y2.cell? ⟨g9, 2, none⟩ = some (.slice D9 l9 b9) := hr9.cell 2
        have z3 := hr3.lt
        have z4 := hr4.lt
        have z6 := hr6.lt
        have z9 := hr9.lt
        go_wp2_with fail
        clear c30 c31 c40 c60 c61 c62 c90 c91 c92 z3 z4 z6 z9
        clear gq
        have hv9x : RatF (w.heap.size + 1 + 1 + 1) y2 (.agg #[.bool (decide ((redP (mom fT 0) D) < 0)), .slice A9 k9 c9, .slice D9 l9 b9]) (redP (mom fT 0) D) (redQ (mom fT 0) D) 330 := (hv9.mono (by decide)).base by6
        go_loopw [52] (fun iv wr => ∃ (k : Nat) (A9 : Option Addr) (k9 c9 : Nat) (D9 : Option Addr) (l9 b9 : Nat), k ≤ c ∧ iv = .int .i64 (k : Int) ∧ Row wr w.heap.size 24 [.slice (some ⟨pb, po, none⟩) n pc, .slice RV rs.length vc] ∧ Row wr (w.heap.size + 1) 40 [.slice (some ⟨mb, mo, none⟩) n mc] ∧ Row wr (w.heap.size + 1 + 1) 31 [.bool false, .slice none 0 0, .slice none 0 0] ∧ Row wr g9 31 [.bool (decide ((redP (mom fT k) D) < 0)), .slice A9 k9 c9, .slice D9 l9 b9] ∧ RatF (w.heap.size + 1 + 1 + 1) wr (.agg #[.bool (decide ((redP (mom fT k) D) < 0)), .slice A9 k9 c9, .slice D9 l9 b9]) (redP (mom fT k) D) (redQ (mom fT k) D) 330 ∧ Below w.heap.size w wr) (fun iv _ => c - (intOf iv).toNat)
        case atStart => exact ⟨0, A9, k9, c9, D9, l9, b9, by omega, rfl, hr3, hr4, hr6, hr9, hv9x, BB⟩
        case round =>
          clear hr3 hr4 hr6 hr9 BB hv9x
          obtain ⟨k, A9, k9, c9, D9, l9, b9, hk, rfl, hr3, hr4, hr6, hr9, hv9, BB⟩ := hrel
          by_cases hlt : k < c
          · have hkI : (k : Int) < (c : Int) := by omega
            obtain ⟨ab, ao, ac, ra1, ra2, ra3⟩ := HROWS.out a hA
            obtain ⟨bb, bo, bc, rb1, rb2, rb3⟩ := HROWS.out b hB
            obtain ⟨x, hxe⟩ : ∃ x, (m.getD q []).getD k 0 = x := ⟨_, rfl⟩
            obtain ⟨ya, hya⟩ : ∃ x, (m.getD a []).getD k 0 = x := ⟨_, rfl⟩
            obtain ⟨yb, hyb⟩ : ∃ x, (m.getD b []).getD k 0 = x := ⟨_, rfl⟩
            obtain ⟨ch, hch⟩ : ∃ x, inC m n q k = x := ⟨_, rfl⟩
            have hce := HCE.out k
            have hcb := HC.out k hlt
            have hxb := (HRW.out q hq).2 k hlt
            have hyab := (HRW.out a hA).2 k hlt
            have hybb := (HRW.out b hB).2 k hlt
            have ht2 := HT2.out k hlt
            rw [hxe] at hxb ht2
            rw [hya] at hyab hce
            rw [hyb] at hybb hce
            rw [hch] at hcb hce ht2
            have sqb := sq_le hcb.1 hcb.2
            have dd1 : 0 ≤ 1000 * d * d ∧ 1000 * d * d ≤ 4000000000 := by
              have h1 := Int.mul_nonneg dx0 dx0
              have h2 : d * d ≤ 2000 * 2000 := Int.mul_le_mul dx1 dx1 dx0 (by omega)
              have h3 : 1000 * d * d = 1000 * (d * d) := Int.mul_assoc _ _ _
              omega
            have ddx : 0 < 1000 * d * d * x ∧ 1000 * d * d * x ≤ 4000000000 * 1000 := ⟨Int.mul_pos (by have h1 := Int.mul_pos (show 0 < d by omega) (show 0 < d by omega); have h3 : 1000 * d * d = 1000 * (d * d) := Int.mul_assoc _ _ _; omega) (by omega), Int.mul_le_mul dd1.2 hxb.2 (by omega) (by omega)⟩
            have HT3 := Lib.hid ht2
            clear ht2
            have u1 : IntKind.i64.wrap (ch * ch) = ch * ch := by rw [IntKind.wrap_i64]; omega
            have u2 : IntKind.i64.wrap (1000 * d) = 1000 * d := by rw [IntKind.wrap_i64]; omega
            have u3 : IntKind.i64.wrap (1000 * d * d) = 1000 * d * d := by rw [IntKind.wrap_i64]; omega
            have u4 : IntKind.i64.wrap (1000 * d * d * x) = 1000 * d * d * x := by rw [IntKind.wrap_i64]; omega
            have u5 : IntKind.i64.wrap (yb - ya) = ch := by rw [hce, IntKind.wrap_i64]; omega
            have HQO := Lib.hid (fun W => qof_any (ch * ch) (1000 * d * d * x) W (by omega) (by omega) (by omega) (by omega))
            have gq := (BB.cell (p := ⟨rb, _, none⟩) rq2).trans (rq3 k hlt)
            have gA := (BB.cell (p := ⟨mb, _, none⟩) hmb).trans ra1
            have gB := (BB.cell (p := ⟨mb, _, none⟩) hmb).trans rb1
            have gA2 := (BB.cell (p := ⟨ab, _, none⟩) ra2).trans (ra3 k hlt)
            have gB2 := (BB.cell (p := ⟨bb, _, none⟩) rb2).trans (rb3 k hlt)
            rw [hxe] at gq
            rw [hya] at gA2
            rw [hyb] at gB2
            have zmb := Nat.lt_of_lt_of_le hmb BB.size
            have zab := Nat.lt_of_lt_of_le ra2 BB.size
            have zbb := Nat.lt_of_lt_of_le rb2 BB.size
            have haI : (a : Int) < (n : Int) := by omega
            have hbI : (b : Int) < (n : Int) := by omega
            clear hxe hya hyb hch sqb dd1 ddx hce hcb
            have c30 : wr.cell? ⟨w.heap.size, 0, none⟩ = some (.slice (some ⟨pb, po, none⟩) n pc) := hr3.cell 0
            have c31 : wr.cell? ⟨w.heap.size, 1, none⟩ = some (.slice RV rs.length vc) := hr3.cell 1
            have c40 : wr.cell? ⟨w.heap.size + 1, 0, none⟩ = some (.slice (some ⟨mb, mo, none⟩) n mc) := hr4.cell 0
            have c60 : wr.cell? ⟨w.heap.size + 1 + 1, 0, none⟩ = some (.bool false) := hr6.cell 0
            have c61 : wr.cell? ⟨w.heap.size + 1 + 1, 1, none⟩ = some (.slice none 0 0) := hr6.cell 1
            have c62 : wr.cell? ⟨w.heap.size + 1 + 1, 2, none⟩ = some (.slice none 0 0) := hr6.cell 2
            have c90 : wr.cell? ⟨g9, 0, none⟩ = some (.bool (decide ((redP (mom fT k) D) < 0))) := hr9.cell 0
            have c91 : wr.cell? ⟨g9, 1, none⟩ = some (.slice A9 k9 c9) := hr9.cell 1
            have c92 : wr.cell? ⟨g9, 2, none⟩ = some (.slice D9 l9 b9) := hr9.cell 2
            have z3 := hr3.lt
            have z4 := hr4.lt
            have z6 := hr6.lt
            have z9 := hr9.lt
            go_wp2_with fail
            go_cut [14] (fun s14 wx => s14 = .int .i64 ch ∧ Below wr.heap.size wr wx)
            case first =>
              go_region
              all_goals go_wp2_with fail
              all_goals go_meet
              all_goals go_light
              all_goals refine ⟨?_, ?_⟩
              all_goals first | rfl | exact (Below.refl _ _).drew | exact Below.refl _ _ | (rw [u5]; done)
            case rest =>
              obtain ⟨rfl, hbc⟩ := hcut
              obtain ⟨y3, hy3⟩ : ∃ x, x = wc := ⟨_, rfl⟩
              rw [← hy3] at hbc ⊢
              clear hy3 u5 gq gA gB gA2 gB2 zmb zab zbb haI hbI ra1 ra2 ra3 rb1 rb2 rb3 c30 c31 c40 c60 c61 c62 c90 c91 c92 z3 z4 z6 z9
              replace hr3 := hr3.keep hbc
              replace hr4 := hr4.keep hbc
              replace hr6 := hr6.keep hbc
              replace hr9 := hr9.keep hbc
              replace hv9 := hv9.below hbc
              replace BB : Below w.heap.size w y3 := BB.trans (hbc.mono BB.size)
              clear hbc
              have c30 : y3.cell? ⟨w.heap.size, 0, none⟩ = some (.slice (some ⟨pb, po, none⟩) n pc) := hr3.cell 0
              have c31 : y3.cell? ⟨w.heap.size, 1, none⟩ = some (.slice RV rs.length vc) := hr3.cell 1
              have c40 : y3.cell? ⟨w.heap.size + 1, 0, none⟩ = some (.slice (some ⟨mb, mo, none⟩) n mc) := hr4.cell 0
              have c60 : y3.cell? ⟨w.heap.size + 1 + 1, 0, none⟩ = some (.bool false) := hr6.cell 0
              have c61 : y3.cell? ⟨w.heap.size + 1 + 1, 1, none⟩ = some (.slice none 0 0) := hr6.cell 1
              have c62 : y3.cell? ⟨w.heap.size + 1 + 1, 2, none⟩ = some (.slice none 0 0) := hr6.cell 2
              have c90 : y3.cell? ⟨g9, 0, none⟩ = some (.bool (decide ((redP (mom fT k) D) < 0))) := hr9.cell 0
              have c91 : y3.cell? ⟨g9, 1, none⟩ = some (.slice A9 k9 c9) := hr9.cell 1
              have c92 : y3.cell? ⟨g9, 2, none⟩ = some (.slice D9 l9 b9) := hr9.cell 2
              have z3 := hr3.lt
              have z4 := hr4.lt
              have z6 := hr6.lt
              have z9 := hr9.lt
              go_wp2_with fail
              clear c30 c31 c40 c60 c61 c62 c90 c91 c92 z3 z4 z6 z9
              refine (HQO.out _).mono ?_
              rintro e x41 ⟨v15, rfl, hv15, hb⟩
              replace hr3 := hr3.keep hb
              replace hr4 := hr4.keep hb
              replace hr6 := hr6.keep hb
              replace hr9 := hr9.keep hb
              replace hv9 := hv9.below hb
              replace BB : Below w.heap.size w x41 := BB.trans (hb.mono BB.size)
              clear hb
              clear HQO u1 u2 u3 u4
              rw [HT3.out.1, HT3.out.2] at hv15
              have h15' := hv15
              obtain ⟨m15, d15, e15, hm15, hd15, _, _⟩ := h15'
              subst e15
              obtain ⟨A15, k15, c15, rfl⟩ := hm15.lim1.choose_spec.1.show_
              obtain ⟨D15, l15, b15, rfl⟩ := hd15.lim1.choose_spec.1.show_
              clear hm15 hd15
              obtain ⟨g15, hg15⟩ : ∃ g, x41.heap.size = g := ⟨_, rfl⟩
              have hr15 : Row (x41.alloc (.cells #[.bool (decide (redP (fT k) D < 0)), .slice A15 k15 c15, .slice D15 l15 b15] 31)) g15 31 [.bool (decide (redP (fT k) D < 0)), .slice A15 k15 c15, .slice D15 l15 b15] := row_at hg15
              have hl := lit_below x41 (.cells #[.bool (decide (redP (fT k) D < 0)), .slice A15 k15 c15, .slice D15 l15 b15] 31)
              have o3_15 : w.heap.size < g15 := by have := hr3.lt; omega
              have o4_15 : w.heap.size + 1 < g15 := by have := hr4.lt; omega
              have o6_15 : w.heap.size + 1 + 1 < g15 := by have := hr6.lt; omega
              have o9_15 : g9 < g15 := by have := hr9.lt; omega
              have ob_15 : w.heap.size ≤ g15 := by have := BB.size; omega
              have c30 : x41.cell? ⟨w.heap.size, 0, none⟩ = some (.slice (some ⟨pb, po, none⟩) n pc) := hr3.cell 0
              have c31 : x41.cell? ⟨w.heap.size, 1, none⟩ = some (.slice RV rs.length vc) := hr3.cell 1
              have c40 : x41.cell? ⟨w.heap.size + 1, 0, none⟩ = some (.slice (some ⟨mb, mo, none⟩) n mc) := hr4.cell 0
              have c60 : x41.cell? ⟨w.heap.size + 1 + 1, 0, none⟩ = some (.bool false) := hr6.cell 0
              have c61 : x41.cell? ⟨w.heap.size + 1 + 1, 1, none⟩ = some (.slice none 0 0) := hr6.cell 1
              have c62 : x41.cell? ⟨w.heap.size + 1 + 1, 2, none⟩ = some (.slice none 0 0) := hr6.cell 2
              have c90 : x41.cell? ⟨g9, 0, none⟩ = some (.bool (decide ((redP (mom fT k) D) < 0))) := hr9.cell 0
              have c91 : x41.cell? ⟨g9, 1, none⟩ = some (.slice A9 k9 c9) := hr9.cell 1
              have c92 : x41.cell? ⟨g9, 2, none⟩ = some (.slice D9 l9 b9) := hr9.cell 2
              have d30 : (x41.alloc (.cells #[.bool (decide (redP (fT k) D < 0)), .slice A15 k15 c15, .slice D15 l15 b15] 31)).cell? ⟨w.heap.size, 0, none⟩ = some (.slice (some ⟨pb, po, none⟩) n pc) := (hr3.alloc _).cell 0
              have d31 : (x41.alloc (.cells #[.bool (decide (redP (fT k) D < 0)), .slice A15 k15 c15, .slice D15 l15 b15] 31)).cell? ⟨w.heap.size, 1, none⟩ = some (.slice RV rs.length vc) := (hr3.alloc _).cell 1
              have d40 : (x41.alloc (.cells #[.bool (decide (redP (fT k) D < 0)), .slice A15 k15 c15, .slice D15 l15 b15] 31)).cell? ⟨w.heap.size + 1, 0, none⟩ = some (.slice (some ⟨mb, mo, none⟩) n mc) := (hr4.alloc _).cell 0
              have d60 : (x41.alloc (.cells #[.bool (decide (redP (fT k) D < 0)), .slice A15 k15 c15, .slice D15 l15 b15] 31)).cell? ⟨w.heap.size + 1 + 1, 0, none⟩ = some (.bool false) := (hr6.alloc _).cell 0
              have d61 : (x41.alloc (.cells #[.bool (decide (redP (fT k) D < 0)), .slice A15 k15 c15, .slice D15 l15 b15] 31)).cell? ⟨w.heap.size + 1 + 1, 1, none⟩ = some (.slice none 0 0) := (hr6.alloc _).cell 1
              have d62 : (x41.alloc (.cells #[.bool (decide (redP (fT k) D < 0)), .slice A15 k15 c15, .slice D15 l15 b15] 31)).cell? ⟨w.heap.size + 1 + 1, 2, none⟩ = some (.slice none 0 0) := (hr6.alloc _).cell 2
              have d90 : (x41.alloc (.cells #[.bool (decide (redP (fT k) D < 0)), .slice A15 k15 c15, .slice D15 l15 b15] 31)).cell? ⟨g9, 0, none⟩ = some (.bool (decide ((redP (mom fT k) D) < 0))) := (hr9.alloc _).cell 0
              have d91 : (x41.alloc (.cells #[.bool (decide (redP (fT k) D < 0)), .slice A15 k15 c15, .slice D15 l15 b15] 31)).cell? ⟨g9, 1, none⟩ = some (.slice A9 k9 c9) := (hr9.alloc _).cell 1
              have d92 : (x41.alloc (.cells #[.bool (decide (redP (fT k) D < 0)), .slice A15 k15 c15, .slice D15 l15 b15] 31)).cell? ⟨g9, 2, none⟩ = some (.slice D9 l9 b9) := (hr9.alloc _).cell 2
              have e0 : (x41.alloc (.cells #[.bool (decide (redP (fT k) D < 0)), .slice A15 k15 c15, .slice D15 l15 b15] 31)).cell? ⟨g15, 0, none⟩ = some (.bool (decide (redP (fT k) D < 0))) := hr15.cell 0
              have e1 : (x41.alloc (.cells #[.bool (decide (redP (fT k) D < 0)), .slice A15 k15 c15, .slice D15 l15 b15] 31)).cell? ⟨g15, 1, none⟩ = some (.slice A15 k15 c15) := hr15.cell 1
              have e2 : (x41.alloc (.cells #[.bool (decide (redP (fT k) D < 0)), .slice A15 k15 c15, .slice D15 l15 b15] 31)).cell? ⟨g15, 2, none⟩ = some (.slice D15 l15 b15) := hr15.cell 2
              go_wp2_with fail
              clear c30 c31 c40 c60 c61 c62 c90 c91 c92 d30 d31 d40 d60 d61 d62 d90 d91 d92 e0 e1 e2
              clear hg15
              generalize (x41.alloc (.cells #[.bool (decide (redP (fT k) D < 0)), .slice A15 k15 c15, .slice D15 l15 b15] 31)) = x42 at *
              replace hr3 := hr3.keep hl
              replace hr4 := hr4.keep hl
              replace hr6 := hr6.keep hl
              replace hr9 := hr9.keep hl
              replace hv9 := hv9.below hl
              replace hv15 := hv15.below hl
              replace BB : Below w.heap.size w x42 := BB.trans (hl.mono BB.size)
              clear hl
              refine (qadd_wide _ _ (redP (mom fT k) D) (redP (fT k) D) (redQ (mom fT k) D) (redQ (fT k) D) 330 _ (hv9.ratA (redQ_pos HDP.out)) ((hv15.ratA (redQ_pos HDP.out)).mono (by decide)) (by decide) (by decide)).mono ?_
              have o9y := hr9.lt
              have o6y := hr6.lt
              rintro e x43 ⟨v16, rfl, hv16, hb⟩
              replace hr3 := hr3.keep hb
              replace hr4 := hr4.keep hb
              replace hr6 := hr6.keep hb
              replace hr9 := hr9.keep hb
              replace hv9 := hv9.below hb
              replace hv15 := hv15.below hb
              replace hr15 := hr15.keep hb
              replace BB : Below w.heap.size w x43 := BB.trans (hb.mono BB.size)
              clear hb
              rw [(HADD.out k).1, (HADD.out k).2] at hv16
              replace hv16 := hv16.tight (HS.out (k + 1) hlt).1 (HS.out (k + 1) hlt).2
              clear hv9 hv15
              have h16' := hv16
              obtain ⟨m16, d16, e16, hm16, hd16, _, _⟩ := h16'
              subst e16
              obtain ⟨A16, k16, c16, rfl⟩ := hm16.lim1.choose_spec.1.show_
              obtain ⟨D16, l16, b16, rfl⟩ := hd16.lim1.choose_spec.1.show_
              clear hm16 hd16
              have o9x : g9 < x43.heap.size := hr9.lt
              have c30 : x43.cell? ⟨w.heap.size, 0, none⟩ = some (.slice (some ⟨pb, po, none⟩) n pc) := hr3.cell 0
              have c31 : x43.cell? ⟨w.heap.size, 1, none⟩ = some (.slice RV rs.length vc) := hr3.cell 1
              have c40 : x43.cell? ⟨w.heap.size + 1, 0, none⟩ = some (.slice (some ⟨mb, mo, none⟩) n mc) := hr4.cell 0
              have c60 : x43.cell? ⟨w.heap.size + 1 + 1, 0, none⟩ = some (.bool false) := hr6.cell 0
              have c61 : x43.cell? ⟨w.heap.size + 1 + 1, 1, none⟩ = some (.slice none 0 0) := hr6.cell 1
              have c62 : x43.cell? ⟨w.heap.size + 1 + 1, 2, none⟩ = some (.slice none 0 0) := hr6.cell 2
              have c90 : x43.cell? ⟨g9, 0, none⟩ = some (.bool (decide ((redP (mom fT k) D) < 0))) := hr9.cell 0
              have c91 : x43.cell? ⟨g9, 1, none⟩ = some (.slice A9 k9 c9) := hr9.cell 1
              have c92 : x43.cell? ⟨g9, 2, none⟩ = some (.slice D9 l9 b9) := hr9.cell 2
              have c150 : x43.cell? ⟨g15, 0, none⟩ = some (.bool (decide (redP (fT k) D < 0))) := hr15.cell 0
              have c151 : x43.cell? ⟨g15, 1, none⟩ = some (.slice A15 k15 c15) := hr15.cell 1
              have c152 : x43.cell? ⟨g15, 2, none⟩ = some (.slice D15 l15 b15) := hr15.cell 2
              have f90 : x43.frozen? ⟨g9, 0, none⟩ = false := hr9.frozen 0
              have f91 : x43.frozen? ⟨g9, 1, none⟩ = false := hr9.frozen 1
              have f92 : x43.frozen? ⟨g9, 2, none⟩ = false := hr9.frozen 2
              have z3 := hr3.lt
              have z4 := hr4.lt
              have z6 := hr6.lt
              have z9 := hr9.lt
              have z15 := hr15.lt
              have nhr3 : Row (((x43.setCell ⟨g9, 0, none⟩ (.bool (decide (redP (mom fT k + fT k) D < 0)))).setCell ⟨g9, 1, none⟩ (.slice A16 k16 c16)).setCell ⟨g9, 2, none⟩ (.slice D16 l16 b16)) (w.heap.size) 24 [.slice (some ⟨pb, po, none⟩) n pc, .slice RV rs.length vc] := (((hr3.far (by show w.heap.size ≠ g9; omega) _).far (by show w.heap.size ≠ g9; omega) _).far (by show w.heap.size ≠ g9; omega) _)
              have nhr4 : Row (((x43.setCell ⟨g9, 0, none⟩ (.bool (decide (redP (mom fT k + fT k) D < 0)))).setCell ⟨g9, 1, none⟩ (.slice A16 k16 c16)).setCell ⟨g9, 2, none⟩ (.slice D16 l16 b16)) (w.heap.size + 1) 40 [.slice (some ⟨mb, mo, none⟩) n mc] := (((hr4.far (by show w.heap.size + 1 ≠ g9; omega) _).far (by show w.heap.size + 1 ≠ g9; omega) _).far (by show w.heap.size + 1 ≠ g9; omega) _)
              have nhr6 : Row (((x43.setCell ⟨g9, 0, none⟩ (.bool (decide (redP (mom fT k + fT k) D < 0)))).setCell ⟨g9, 1, none⟩ (.slice A16 k16 c16)).setCell ⟨g9, 2, none⟩ (.slice D16 l16 b16)) (w.heap.size + 1 + 1) 31 [.bool false, .slice none 0 0, .slice none 0 0] := (((hr6.far (by show w.heap.size + 1 + 1 ≠ g9; omega) _).far (by show w.heap.size + 1 + 1 ≠ g9; omega) _).far (by show w.heap.size + 1 + 1 ≠ g9; omega) _)
              have nhr9 : Row (((x43.setCell ⟨g9, 0, none⟩ (.bool (decide (redP (mom fT k + fT k) D < 0)))).setCell ⟨g9, 1, none⟩ (.slice A16 k16 c16)).setCell ⟨g9, 2, none⟩ (.slice D16 l16 b16)) (g9) 31 [.bool (decide (redP (mom fT k + fT k) D < 0)), .slice A16 k16 c16, .slice D16 l16 b16] := (((hr9.set_ 0 (.bool (decide (redP (mom fT k + fT k) D < 0)))).set_ 1 (.slice A16 k16 c16)).set_ 2 (.slice D16 l16 b16))
              have nhr15 : Row (((x43.setCell ⟨g9, 0, none⟩ (.bool (decide (redP (mom fT k + fT k) D < 0)))).setCell ⟨g9, 1, none⟩ (.slice A16 k16 c16)).setCell ⟨g9, 2, none⟩ (.slice D16 l16 b16)) (g15) 31 [.bool (decide (redP (fT k) D < 0)), .slice A15 k15 c15, .slice D15 l15 b15] := (((hr15.far (by show g15 ≠ g9; omega) _).far (by show g15 ≠ g9; omega) _).far (by show g15 ≠ g9; omega) _)
              have nBB : Below w.heap.size w (((x43.setCell ⟨g9, 0, none⟩ (.bool (decide (redP (mom fT k + fT k) D < 0)))).setCell ⟨g9, 1, none⟩ (.slice A16 k16 c16)).setCell ⟨g9, 2, none⟩ (.slice D16 l16 b16)) := (((BB.setCell (by show w.heap.size ≤ g9; omega) _).setCell (by show w.heap.size ≤ g9; omega) _).setCell (by show w.heap.size ≤ g9; omega) _)
              have nhv16 := (((hv16.set_ (a := ⟨g9, 0, none⟩) (by show g9 < _; omega) (.bool (decide (redP (mom fT k + fT k) D < 0)))).set_ (a := ⟨g9, 1, none⟩) (by show g9 < _; omega) (.slice A16 k16 c16)).set_ (a := ⟨g9, 2, none⟩) (by show g9 < _; omega) (.slice D16 l16 b16))
              have d30 : (((x43.setCell ⟨g9, 0, none⟩ (.bool (decide (redP (mom fT k + fT k) D < 0)))).setCell ⟨g9, 1, none⟩ (.slice A16 k16 c16)).setCell ⟨g9, 2, none⟩ (.slice D16 l16 b16)).cell? ⟨w.heap.size, 0, none⟩ = some (.slice (some ⟨pb, po, none⟩) n pc) := nhr3.cell 0
              have d31 : (((x43.setCell ⟨g9, 0, none⟩ (.bool (decide (redP (mom fT k + fT k) D < 0)))).setCell ⟨g9, 1, none⟩ (.slice A16 k16 c16)).setCell ⟨g9, 2, none⟩ (.slice D16 l16 b16)).cell? ⟨w.heap.size, 1, none⟩ = some (.slice RV rs.length vc) := nhr3.cell 1
              have d40 : (((x43.setCell ⟨g9, 0, none⟩ (.bool (decide (redP (mom fT k + fT k) D < 0)))).setCell ⟨g9, 1, none⟩ (.slice A16 k16 c16)).setCell ⟨g9, 2, none⟩ (.slice D16 l16 b16)).cell? ⟨w.heap.size + 1, 0, none⟩ = some (.slice (some ⟨mb, mo, none⟩) n mc) := nhr4.cell 0
              have d60 : (((x43.setCell ⟨g9, 0, none⟩ (.bool (decide (redP (mom fT k + fT k) D < 0)))).setCell ⟨g9, 1, none⟩ (.slice A16 k16 c16)).setCell ⟨g9, 2, none⟩ (.slice D16 l16 b16)).cell? ⟨w.heap.size + 1 + 1, 0, none⟩ = some (.bool false) := nhr6.cell 0
              have d61 : (((x43.setCell ⟨g9, 0, none⟩ (.bool (decide (redP (mom fT k + fT k) D < 0)))).setCell ⟨g9, 1, none⟩ (.slice A16 k16 c16)).setCell ⟨g9, 2, none⟩ (.slice D16 l16 b16)).cell? ⟨w.heap.size + 1 + 1, 1, none⟩ = some (.slice none 0 0) := nhr6.cell 1
              have d62 : (((x43.setCell ⟨g9, 0, none⟩ (.bool (decide (redP (mom fT k + fT k) D < 0)))).setCell ⟨g9, 1, none⟩ (.slice A16 k16 c16)).setCell ⟨g9, 2, none⟩ (.slice D16 l16 b16)).cell? ⟨w.heap.size + 1 + 1, 2, none⟩ = some (.slice none 0 0) := nhr6.cell 2
              have d90 : (((x43.setCell ⟨g9, 0, none⟩ (.bool (decide (redP (mom fT k + fT k) D < 0)))).setCell ⟨g9, 1, none⟩ (.slice A16 k16 c16)).setCell ⟨g9, 2, none⟩ (.slice D16 l16 b16)).cell? ⟨g9, 0, none⟩ = some (.bool (decide (redP (mom fT k + fT k) D < 0))) := nhr9.cell 0
              have d91 : (((x43.setCell ⟨g9, 0, none⟩ (.bool (decide (redP (mom fT k + fT k) D < 0)))).setCell ⟨g9, 1, none⟩ (.slice A16 k16 c16)).setCell ⟨g9, 2, none⟩ (.slice D16 l16 b16)).cell? ⟨g9, 1, none⟩ = some (.slice A16 k16 c16) := nhr9.cell 1
              have d92 : (((x43.setCell ⟨g9, 0, none⟩ (.bool (decide (redP (mom fT k + fT k) D < 0)))).setCell ⟨g9, 1, none⟩ (.slice A16 k16 c16)).setCell ⟨g9, 2, none⟩ (.slice D16 l16 b16)).cell? ⟨g9, 2, none⟩ = some (.slice D16 l16 b16) := nhr9.cell 2
              have d150 : (((x43.setCell ⟨g9, 0, none⟩ (.bool (decide (redP (mom fT k + fT k) D < 0)))).setCell ⟨g9, 1, none⟩ (.slice A16 k16 c16)).setCell ⟨g9, 2, none⟩ (.slice D16 l16 b16)).cell? ⟨g15, 0, none⟩ = some (.bool (decide (redP (fT k) D < 0))) := nhr15.cell 0
              have d151 : (((x43.setCell ⟨g9, 0, none⟩ (.bool (decide (redP (mom fT k + fT k) D < 0)))).setCell ⟨g9, 1, none⟩ (.slice A16 k16 c16)).setCell ⟨g9, 2, none⟩ (.slice D16 l16 b16)).cell? ⟨g15, 1, none⟩ = some (.slice A15 k15 c15) := nhr15.cell 1
              have d152 : (((x43.setCell ⟨g9, 0, none⟩ (.bool (decide (redP (mom fT k + fT k) D < 0)))).setCell ⟨g9, 1, none⟩ (.slice A16 k16 c16)).setCell ⟨g9, 2, none⟩ (.slice D16 l16 b16)).cell? ⟨g15, 2, none⟩ = some (.slice D15 l15 b15) := nhr15.cell 2
              have h90 : (((x43.setCell ⟨g9, 0, none⟩ (.bool (decide (redP (mom fT k + fT k) D < 0)))).setCell ⟨g9, 1, none⟩ (.slice A16 k16 c16)).setCell ⟨g9, 2, none⟩ (.slice D16 l16 b16)).frozen? ⟨g9, 0, none⟩ = false := nhr9.frozen 0
              have h91 : (((x43.setCell ⟨g9, 0, none⟩ (.bool (decide (redP (mom fT k + fT k) D < 0)))).setCell ⟨g9, 1, none⟩ (.slice A16 k16 c16)).setCell ⟨g9, 2, none⟩ (.slice D16 l16 b16)).frozen? ⟨g9, 1, none⟩ = false := nhr9.frozen 1
              have h92 : (((x43.setCell ⟨g9, 0, none⟩ (.bool (decide (redP (mom fT k + fT k) D < 0)))).setCell ⟨g9, 1, none⟩ (.slice A16 k16 c16)).setCell ⟨g9, 2, none⟩ (.slice D16 l16 b16)).frozen? ⟨g9, 2, none⟩ = false := nhr9.frozen 2
              go_wp2_with fail
              clear d30 d31 d40 d60 d61 d62 d90 d91 d92 d150 d151 d152 h90 h91 h92 c30 c31 c40 c60 c61 c62 c90 c91 c92 c150 c151 c152 f90 f91 f92 z3 z4 z6 z9 z15
              replace hr3 := nhr3
              clear nhr3
              replace hr4 := nhr4
              clear nhr4
              replace hr6 := nhr6
              clear nhr6
              replace hr9 := nhr9
              clear nhr9
              replace hr15 := nhr15
              clear nhr15
              replace hv16 := nhv16
              clear nhv16
              replace BB := nBB
              clear nBB
              generalize (((x43.setCell ⟨g9, 0, none⟩ (.bool (decide (redP (mom fT k + fT k) D < 0)))).setCell ⟨g9, 1, none⟩ (.slice A16 k16 c16)).setCell ⟨g9, 2, none⟩ (.slice D16 l16 b16)) = x44 at *
              have hv16' := hv16.base (b' := w.heap.size + 1 + 1 + 1) o6y
              have c30 : x44.cell? ⟨w.heap.size, 0, none⟩ = some (.slice (some ⟨pb, po, none⟩) n pc) := hr3.cell 0
              have c31 : x44.cell? ⟨w.heap.size, 1, none⟩ = some (.slice RV rs.length vc) := hr3.cell 1
              have c40 : x44.cell? ⟨w.heap.size + 1, 0, none⟩ = some (.slice (some ⟨mb, mo, none⟩) n mc) := hr4.cell 0
              have c60 : x44.cell? ⟨w.heap.size + 1 + 1, 0, none⟩ = some (.bool false) := hr6.cell 0
              have c61 : x44.cell? ⟨w.heap.size + 1 + 1, 1, none⟩ = some (.slice none 0 0) := hr6.cell 1
              have c62 : x44.cell? ⟨w.heap.size + 1 + 1, 2, none⟩ = some (.slice none 0 0) := hr6.cell 2
              have c90 : x44.cell? ⟨g9, 0, none⟩ = some (.bool (decide (redP (mom fT k + fT k) D < 0))) := hr9.cell 0
              have c91 : x44.cell? ⟨g9, 1, none⟩ = some (.slice A16 k16 c16) := hr9.cell 1
              have c92 : x44.cell? ⟨g9, 2, none⟩ = some (.slice D16 l16 b16) := hr9.cell 2
              have c150 : x44.cell? ⟨g15, 0, none⟩ = some (.bool (decide (redP (fT k) D < 0))) := hr15.cell 0
              have c151 : x44.cell? ⟨g15, 1, none⟩ = some (.slice A15 k15 c15) := hr15.cell 1
              have c152 : x44.cell? ⟨g15, 2, none⟩ = some (.slice D15 l15 b15) := hr15.cell 2
              have z3 := hr3.lt
              have z4 := hr4.lt
              have z6 := hr6.lt
              have z9 := hr9.lt
              have z15 := hr15.lt
              go_wp2_with fail
              go_roundw
              case rel => exact ⟨k + 1, A16, k16, c16, D16, l16, b16, by omega, by go_num, hr3, hr4, hr6, hr9, hv16', BB⟩
              case measure => simp [intOf]; omega
          · obtain rfl : k = c := by omega
            have c30 : wr.cell? ⟨w.heap.size, 0, none⟩ = some (.slice (some ⟨pb, po, none⟩) n pc) := hr3.cell 0
            have c31 : wr.cell? ⟨w.heap.size, 1, none⟩ = some (.slice RV rs.length vc) := hr3.cell 1
            have c40 : wr.cell? ⟨w.heap.size + 1, 0, none⟩ = some (.slice (some ⟨mb, mo, none⟩) n mc) := hr4.cell 0
            have c60 : wr.cell? ⟨w.heap.size + 1 + 1, 0, none⟩ = some (.bool false) := hr6.cell 0
            have c61 : wr.cell? ⟨w.heap.size + 1 + 1, 1, none⟩ = some (.slice none 0 0) := hr6.cell 1
            have c62 : wr.cell? ⟨w.heap.size + 1 + 1, 2, none⟩ = some (.slice none 0 0) := hr6.cell 2
            have c90 : wr.cell? ⟨g9, 0, none⟩ = some (.bool (decide ((redP (mom fT k) D) < 0))) := hr9.cell 0
            have c91 : wr.cell? ⟨g9, 1, none⟩ = some (.slice A9 k9 c9) := hr9.cell 1
            have c92 : wr.cell? ⟨g9, 2, none⟩ = some (.slice D9 l9 b9) := hr9.cell 2
            have f60 : wr.frozen? ⟨w.heap.size + 1 + 1, 0, none⟩ = false := hr6.frozen 0
            have f61 : wr.frozen? ⟨w.heap.size + 1 + 1, 1, none⟩ = false := hr6.frozen 1
            have f62 : wr.frozen? ⟨w.heap.size + 1 + 1, 2, none⟩ = false := hr6.frozen 2
            have z3 := hr3.lt
            have z4 := hr4.lt
            have z6 := hr6.lt
            have z9 := hr9.lt
            go_wp2_with fail
            refine bodyPost_ret (v := .agg #[.bool (decide ((redP (mom fT k) D) < 0)), .slice A9 k9 c9, .slice D9 l9 b9]) (by simp [results, Tryd.results26, go_sem, c60, c61, c62]) rfl ⟨_, rfl, ?_, ((BB.setCell (by simp; omega) _).setCell (by simp; omega) _).setCell (by simp; omega) _⟩
            have hz6 := hr6.lt
            rw [HF.out]
            exact (((hv9.set_ (a := ⟨w.heap.size + 1 + 1, 0, none⟩) (by show w.heap.size + 1 + 1 < _; omega) _).set_ (a := ⟨w.heap.size + 1 + 1, 1, none⟩) (by show w.heap.size + 1 + 1 < _; omega) _).set_ (a := ⟨w.heap.size + 1 + 1, 2, none⟩) (by show w.heap.size + 1 + 1 < _; omega) _).base (by omega)
end Go.Proofs.YtompckomogmhiaaDoor
