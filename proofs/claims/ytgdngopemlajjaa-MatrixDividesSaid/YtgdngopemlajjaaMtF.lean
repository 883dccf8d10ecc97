/- The walks of table.cell and index. -/
import Derived.Test.YtgdngopemlajjaaMtC
import Derived.Test.YtgdngopemlajjaaColl
import Derived.Deep.RegionHeld3
namespace Go.Proofs.Ytgdngopemlajjaa
open Go.RowKit Go.Maps
set_option linter.unusedVariables false

theorem mcell_none1 {ps is : List Int} {cs : List (List Int)} {p i : Int} (h : fidx ps p = none) : mcell ps is cs p i = none := by unfold mcell; rw [h]
theorem mcell_none2 {ps is : List Int} {cs : List (List Int)} {p i : Int} (h : fidx is i = none) : mcell ps is cs p i = none := by
  unfold mcell; rw [h]; cases fidx ps p <;> rfl
theorem mcell_at {ps is : List Int} {cs : List (List Int)} {p i : Int} {a b : Nat} (h : fidx ps p = some a) (h2 : fidx is i = some b) : mcell ps is cs p i = some ((cs.getD a []).getD b 0) := by unfold mcell; rw [h, h2]
/-- A table in memory. -/
def Tab (w : World) (cv mp mi : Value) (ps is : List Int) (cs : List (List Int)) : Prop := IntsL w cv cs ∧ PlMap w mp ps ∧ PlMap w mi is
theorem Tab.below {w w' : World} {cv mp mi : Value} {ps is : List Int} {cs : List (List Int)} (h : Tab w cv mp mi ps is cs) (hb : Below w.heap.size w w') : Tab w' cv mp mi ps is cs := ⟨h.1.below hb, h.2.1.below hb, h.2.2.below hb⟩

set_option maxHeartbeats 2000000 in
theorem cell_any (cv mp mi : Value) (ps is : List Int) (cs : List (List Int)) (p i : Int) (w : World) (hT : Tab w cv mp mi ps is cs) (hsh : shp ps is cs = true) (wp : (Lit.int .i64 p).wf = true) (wi : (Lit.int .i64 i).wf = true) :
    Calls Try.prog 36 #[.agg #[cv, mp, mi], .int .i64 p, .int .i64 i] w fun e w' => e = .returned (.tuple #[.int .i64 ((mcell ps is cs p i).getD 0), .bool (mcell ps is cs p i).isSome]) ∧ Below w.heap.size w w' := by
  obtain ⟨hc, ⟨b1, D1, rfl, ho1, hp1⟩, ⟨b2, D2, rfl, ho2, hp2⟩⟩ := hT
  obtain ⟨Z, cZ, us, rfl, z1, z2, hs, hu⟩ := hc
  have HU := Lib.hid hu
  have HSH := Lib.hid (shp_at hsh)
  unfold maxLen at z2
  clear hu hsh
  have hbox : Below w.heap.size w (w.alloc (.cells #[.slice Z cs.length cZ, .map (some b1), .map (some b2)] 53)) := (Below.refl _ _).alloc (Nat.le_refl _) _
  have hk1 : keyOf Try.prog 3 (.int .i64 p) = some (.int .i64 p) := keyOf_int_mk Try.underlying3 wp
  have hk2 : keyOf Try.prog 3 (.int .i64 i) = some (.int .i64 i) := keyOf_int_mk Try.underlying3 wi
  have ho1' := ho1.alloc (.cells #[.slice Z cs.length cZ, .map (some b1), .map (some b2)] 53)
  have ho2' := ho2.alloc (.cells #[.slice Z cs.length cZ, .map (some b1), .map (some b2)] 53)
  have H1 := Lib.hid hp1
  have H2 := Lib.hid hp2
  clear hp1 hp2
  cases hf1 : fidx ps p with
  | none =>
    have hh : Maps.has D1 (.int .i64 p) = false := by rw [H1.out.1, hf1]; rfl
    have HR := Lib.hid (mcell_none1 (is := is) (cs := cs) (i := i) hf1)
    clear hf1
    generalize mcell ps is cs p i = R at *
    go_enter Try.func36, Try.ntmps36
    go_wp2_with (at_lookup; refine wpList_lookup_own_ok_int _ rfl (.tmp 13) (.tmp 14) 51 rfl 3 3 .i64 mlaw Try.underlying51 Try.underlying3 (mzero _) b1 _ _ rfl ho1' _ _ rfl hk1 ?_; intro c hat hwc; clear hat)
    go_ret2
    exact ⟨by rw [HR.out]; rfl, hbox⟩
  | some a =>
    have hh : Maps.has D1 (.int .i64 p) = true := by rw [H1.out.1, hf1]; rfl
    have HA1 := Lib.hid (H1.out.2 p a hf1)
    have hla := (fidx_lt hf1).1
    cases hf2 : fidx is i with
    | none =>
      have hh2 : Maps.has D2 (.int .i64 i) = false := by rw [H2.out.1, hf2]; rfl
      have HR := Lib.hid (mcell_none2 (ps := ps) (cs := cs) (p := p) hf2)
      clear hf1 hf2
      generalize mcell ps is cs p i = R at *
      go_enter Try.func36, Try.ntmps36
      go_wp2_with (first
        | (at_lookup; refine wpList_lookup_own_ok_int _ rfl (.tmp 13) (.tmp 14) 51 rfl 3 3 .i64 mlaw Try.underlying51 Try.underlying3 (mzero _) b1 _ _ rfl ho1' _ _ rfl hk1 ?_; intro c hat hwc; obtain rfl : c = (a : Int) := lit_inj (hat.symm.trans HA1.out); clear hat)
        | (at_lookup; refine wpList_lookup_own_ok_int _ rfl (.tmp 22) (.tmp 23) 51 rfl 3 3 .i64 mlaw Try.underlying51 Try.underlying3 (mzero _) b2 _ _ rfl ho2' _ _ rfl hk2 ?_; intro c2 hat hwc2; clear hat))
      go_ret2
      exact ⟨by rw [HR.out]; rfl, hbox⟩
    | some b =>
      have hh2 : Maps.has D2 (.int .i64 i) = true := by rw [H2.out.1, hf2]; rfl
      have HA2 := Lib.hid (H2.out.2 i b hf2)
      have hlb := (fidx_lt hf2).1
      have HR := Lib.hid (mcell_at (cs := cs) hf1 hf2)
      clear hf1 hf2
      generalize mcell ps is cs p i = R at *
      have hac : a < cs.length := by rw [HSH.out.1]; exact hla
      obtain ⟨b3, o3, u3, rfl, hb3, g1, hI⟩ := lst_at hs HU.out hac
      have hlen : Hid ((cs.getD a []).length = is.length) := HSH.out.2 a hac
      obtain ⟨R3, c3, rfl, r1, r2, r3⟩ := hI
      rw [hlen.out] at r1 r3
      unfold maxLen at r2
      obtain ⟨b4, o4, rfl, hb4, hc4⟩ := r3.num hlb
      have g3 : (w.alloc (.cells #[.slice (some ⟨b3, o3, none⟩) cs.length cZ, .map (some b1), .map (some b2)] 53)).cell? ⟨b3, o3 + a, none⟩ = some (.slice (some ⟨b4, o4, none⟩) is.length c3) := by
        rw [← hlen.out]; exact (hbox.cell (p := ⟨b3, o3 + a, none⟩) hb3).trans g1
      have g4 : (w.alloc (.cells #[.slice (some ⟨b3, o3, none⟩) cs.length cZ, .map (some b1), .map (some b2)] 53)).cell? ⟨b4, o4 + b, none⟩ = some (.int .i64 ((cs.getD a []).getD b 0)) := (hbox.cell (p := ⟨b4, o4 + b, none⟩) hb4).trans (hc4 b hlb)
      clear hc4 g1
      generalize (cs.getD a []).getD b 0 = z at *
      go_enter Try.func36, Try.ntmps36
      go_wp2_with (first
        | (at_lookup; refine wpList_lookup_own_ok_int _ rfl (.tmp 13) (.tmp 14) 51 rfl 3 3 .i64 mlaw Try.underlying51 Try.underlying3 (mzero _) b1 _ _ rfl ho1' _ _ rfl hk1 ?_; intro c hat hwc; obtain rfl : c = (a : Int) := lit_inj (hat.symm.trans HA1.out); clear hat)
        | (at_lookup; refine wpList_lookup_own_ok_int _ rfl (.tmp 22) (.tmp 23) 51 rfl 3 3 .i64 mlaw Try.underlying51 Try.underlying3 (mzero _) b2 _ _ rfl ho2' _ _ rfl hk2 ?_; intro c2 hat hwc2; obtain rfl : c2 = (b : Int) := lit_inj (hat.symm.trans HA2.out); clear hat))
      go_ret2
      exact ⟨by rw [HR.out]; rfl, hbox⟩

theorem keepS {W w' : World} {b : Nat} {x y z : Value} (h0 : W.cell? ⟨b, 0, none⟩ = some x) (h1 : W.cell? ⟨b, 1, none⟩ = some y) (h2 : W.cell? ⟨b, 2, none⟩ = some z) (hb : Below (b + 1) W w') :
    w'.cell? ⟨b, 0, none⟩ = some x ∧ w'.cell? ⟨b, 1, none⟩ = some y ∧ w'.cell? ⟨b, 2, none⟩ = some z ∧ Below (b + 1) W w' :=
  ⟨(hb.cell (p := ⟨b, 0, none⟩) (by simp)).trans h0, (hb.cell (p := ⟨b, 1, none⟩) (by simp)).trans h1, (hb.cell (p := ⟨b, 2, none⟩) (by simp)).trans h2, hb⟩
set_option maxHeartbeats 4000000 in
theorem index_any (pv iv cv : Value) (ps is : List Int) (cs : List (List Int)) (w : World) (hp : Nums .i64 w pv ps) (hi : Nums .i64 w iv is) (hc : IntsL w cv cs) (wp : I64 ps) (wi : I64 is) (l1 : ps.length * 8 ≤ 140737488351232) (l2 : is.length * 8 ≤ 140737488351232) :
    Calls Try.prog 35 #[.agg #[pv, iv, cv]] w fun e w' => ∃ mp mi, e = .returned (.agg #[cv, mp, mi]) ∧ Tab w' cv mp mi ps is cs ∧ Below w.heap.size w w' := by
  have hp0 := hp
  have hi0 := hi
  have hc0 := hc
  obtain ⟨X, cX, rfl, x1, x2, x3⟩ := hp
  obtain ⟨Y, cY, rfl, y1, y2, y3⟩ := hi
  obtain ⟨Z, cZ, us, rfl, z1, z2, hs, hu⟩ := hc
  clear hu hs x3 y3
  have hrb := (Row.new w 25 [.slice X ps.length cX, .slice Y is.length cY, .slice Z cs.length cZ]).alloc (.cells #[.slice none 0 0, .map none, .map none] 53)
  have hre := Row.new (w.alloc (.cells #[.slice X ps.length cX, .slice Y is.length cY, .slice Z cs.length cZ] 25)) 53 [.slice none 0 0, .map none, .map none]
  rw [show (w.alloc (.cells #[.slice X ps.length cX, .slice Y is.length cY, .slice Z cs.length cZ] 25)).heap.size = w.heap.size + 1 by simp] at hre
  have B0 : Below w.heap.size w ((w.alloc (.cells #[.slice X ps.length cX, .slice Y is.length cY, .slice Z cs.length cZ] 25)).alloc (.cells #[.slice none 0 0, .map none, .map none] 53)) := ((Below.refl _ _).alloc (Nat.le_refl _) _).alloc (by simp) _
  go_enter Try.func35, Try.ntmps35
  go_wp2_with fail
  generalize hW : (w.alloc (.cells #[.slice X ps.length cX, .slice Y is.length cY, .slice Z cs.length cZ] 25)).alloc (.cells #[.slice none 0 0, .map none, .map none] 53) = W0 at *
  clear hW
  have a0 : W0.cell? ⟨w.heap.size, 0, none⟩ = some (.slice X ps.length cX) := hrb.cell 0
  have a1 : W0.cell? ⟨w.heap.size, 1, none⟩ = some (.slice Y is.length cY) := hrb.cell 1
  have a2 : W0.cell? ⟨w.heap.size, 2, none⟩ = some (.slice Z cs.length cZ) := hrb.cell 2
  have l0 : w.heap.size + 1 ≤ W0.heap.size := by have := hre.lt; omega
  have hp1 := hp0.below B0
  have hi1 := hi0.below B0
  go_region_held3 (fun w' => w'.cell? ⟨w.heap.size, 0, none⟩ = some (.slice X ps.length cX) ∧ w'.cell? ⟨w.heap.size, 1, none⟩ = some (.slice Y is.length cY) ∧ w'.cell? ⟨w.heap.size, 2, none⟩ = some (.slice Z cs.length cZ) ∧ Below (w.heap.size + 1) W0 w')
    (first
      | exact ⟨a0, a1, a2, Below.refl _ _⟩
      | exact ⟨a0, a1, a2, (Below.refl _ _).drew⟩
      | exact keepS a0 a1 a2 (((((undrew1 h52).trans (h62.mono h52.size)).mono l0).setCell (by simp) _).setCell (by simp) _ |>.setCell (by simp) _)
      | exact keepS a0 a1 a2 (((undrew1 h52).trans (h62.mono h52.size)).mono l0)
      | exact keepS a0 a1 a2 ((undrew1 h52).mono l0))
    (first
      | (go_at_call 42; ((with_reducible refine (places_any (.slice X ps.length cX) ps _ ?_ wp l1).mono ?_); (exact hp1); rintro e w5 ⟨v5, rfl, ⟨b5, D5, rfl, h53, h54⟩, h52⟩))
      | (go_at_call 42; ((with_reducible refine (places_any (.slice Y is.length cY) is _ ?_ wi l2).mono ?_); (exact hi1.below (undrew1 h52)); rintro e w6 ⟨v6, rfl, ⟨b6, D6, rfl, h63, h64⟩, h62⟩; (have hr6 := (hre.keep (undrew1 h52)).keep h62); (have q0 : w6.cell? ⟨w.heap.size + 1, 0, none⟩ = some (.slice none 0 0) := hr6.cell 0); (have q1 : w6.cell? ⟨w.heap.size + 1, 1, none⟩ = some (.map none) := hr6.cell 1); (have q2 : w6.cell? ⟨w.heap.size + 1, 2, none⟩ = some (.map none) := hr6.cell 2); (have f0 : w6.frozen? ⟨w.heap.size + 1, 0, none⟩ = false := hr6.frozen 0); (have f1 : w6.frozen? ⟨w.heap.size + 1, 1, none⟩ = false := hr6.frozen 1); (have f2 : w6.frozen? ⟨w.heap.size + 1, 2, none⟩ = false := hr6.frozen 2))))
  go_wp2_with fail
  have B6 : Below w.heap.size w w6 := B0.trans (((undrew1 h52).trans (h62.mono h52.size)).mono B0.size)
  have n5 := h53.lt
  have m5 : b5 ≠ w.heap.size + 1 := fun e => by subst e; have := hre.keep (undrew1 h52); obtain ⟨es, ck, hh, _⟩ := h53; unfold Row at this; rw [this] at hh; cases hh
  have m6 : b6 ≠ w.heap.size + 1 := fun e => by subst e; obtain ⟨es, ck, hh, _⟩ := h63; have := hr6; unfold Row at this; rw [this] at hh; cases hh
  have ho5 := ownsMap_below h53 h62
  refine bodyPost_ret (v := .agg #[.slice Z cs.length cZ, .map (some b5), .map (some b6)]) (by simp [results, Try.results35, go_sem, q0, q1, q2]) rfl ⟨_, _, rfl, ⟨?_, ⟨b5, D5, rfl, ?_, h54⟩, ⟨b6, D6, rfl, ?_, h64⟩⟩, ?_⟩
  · exact hc0.below (((B6.setCell (by simp) _).setCell (by simp) _).setCell (by simp) _)
  · exact ((ho5.setCell (by simpa using m5) _).setCell (by simpa using m5) _).setCell (by simpa using m5) _
  · exact ((h63.setCell (by simpa using m6) _).setCell (by simpa using m6) _).setCell (by simpa using m6) _
  · exact ((B6.setCell (by simp) _).setCell (by simp) _).setCell (by simp) _
end Go.Proofs.Ytgdngopemlajjaa
