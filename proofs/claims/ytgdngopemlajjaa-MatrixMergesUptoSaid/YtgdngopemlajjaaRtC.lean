/- The walk of the reference's cell. -/
import Derived.Test.YtgdngopemlajjaaRtA
import Derived.Test.YtgdngopemlajjaaMtF
namespace Go.Proofs.Ytgdngopemlajjaa
open Go.RowKit
set_option linter.unusedVariables false

set_option maxHeartbeats 2000000 in
theorem rcell_any (pv iv cv : Value) (ps is : List Int) (cs : List (List Int)) (p i : Int) (w : World) (hM : Mat w pv iv cv ps is cs) (hsh : shp ps is cs = true) :
    Calls Try.prog 39 #[.agg #[pv, iv, cv], .int .i64 p, .int .i64 i] w fun e w' => e = .returned (.tuple #[.int .i64 ((mcell ps is cs p i).getD (-1)), .bool (mcell ps is cs p i).isSome]) ∧ Below w.heap.size w w' := by
  obtain ⟨hp, hi, hc⟩ := hM
  have hp0 := hp
  have hi0 := hi
  obtain ⟨X, cX, rfl, x1, x2, x3⟩ := hp
  obtain ⟨Y, cY, rfl, y1, y2, y3⟩ := hi
  obtain ⟨Z, cZ, us, rfl, z1, z2, hs, hu⟩ := hc
  have HU := Lib.hid hu
  have HSH := Lib.hid (shp_at hsh)
  unfold maxLen at x2 y2 z2
  clear hu hsh x3 y3
  have hbox : Below w.heap.size w (w.alloc (.cells #[.slice X ps.length cX, .slice Y is.length cY, .slice Z cs.length cZ] 25)) := (Below.refl _ _).alloc (Nat.le_refl _) _
  have hrb := Row.new w 25 [.slice X ps.length cX, .slice Y is.length cY, .slice Z cs.length cZ]
  have n1 := hp0.below hbox
  have n2 := hi0.below hbox
  clear hp0 hi0
  go_enter Try.func39, Try.ntmps39
  go_wp2_with fail
  generalize hW : w.alloc (.cells #[.slice X ps.length cX, .slice Y is.length cY, .slice Z cs.length cZ] 25) = W0 at *
  clear hW
  have a1 : W0.cell? ⟨w.heap.size, 1, none⟩ = some (.slice Y is.length cY) := hrb.cell 1
  have a2 : W0.cell? ⟨w.heap.size, 2, none⟩ = some (.slice Z cs.length cZ) := hrb.cell 2
  refine (find_any _ ps p _ n1).mono ?_
  rintro e w' ⟨rfl, rfl⟩
  cases hf1 : fidx ps p with
  | none =>
    have HF := Lib.hid (fi_neg hf1)
    have HR := Lib.hid (mcell_none1 (is := is) (cs := cs) (i := i) hf1)
    have d1 : decide ((-1 : Int) < 0) = true := by decide
    rw [HF.out]
    clear hf1
    go_wp2_with fail
    refine (find_any _ is i _ n2).mono ?_
    rintro e w' ⟨rfl, rfl⟩
    go_wp2_with fail
    go_ret2
    exact ⟨by rw [HR.out]; rfl, hbox⟩
  | some a =>
    have HF := Lib.hid (fi_pos hf1)
    have hla := (fidx_lt hf1).1
    have d1 : decide ((a : Int) < 0) = false := decide_eq_false (by omega)
    rw [HF.out]
    cases hf2 : fidx is i with
    | none =>
      have HF2 := Lib.hid (fi_neg hf2)
      have HR := Lib.hid (mcell_none2 (ps := ps) (cs := cs) (p := p) hf2)
      have d2 : decide ((-1 : Int) < 0) = true := by decide
      clear hf1 hf2
      go_wp2_with fail
      refine (find_any _ is i _ n2).mono ?_
      rw [HF2.out]
      rintro e w' ⟨rfl, rfl⟩
      go_wp2_with fail
      go_ret2
      exact ⟨by rw [HR.out]; rfl, hbox⟩
    | some b =>
      have HF2 := Lib.hid (fi_pos hf2)
      have hlb := (fidx_lt hf2).1
      have HR := Lib.hid (mcell_at (cs := cs) hf1 hf2)
      have d2 : decide ((b : Int) < 0) = false := decide_eq_false (by omega)
      clear hf1 hf2
      have hac : a < cs.length := by rw [HSH.out.1]; exact hla
      obtain ⟨b3, o3, u3, rfl, hb3, g1, hI⟩ := lst_at hs HU.out hac
      have hlen : Hid ((cs.getD a []).length = is.length) := HSH.out.2 a hac
      obtain ⟨R3, c3, rfl, r1, r2, r3⟩ := hI
      rw [hlen.out] at r1 r3
      unfold maxLen at r2
      obtain ⟨b4, o4, rfl, hb4, hc4⟩ := r3.num hlb
      have g3 : W0.cell? ⟨b3, o3 + a, none⟩ = some (.slice (some ⟨b4, o4, none⟩) is.length c3) := by
        rw [← hlen.out]; exact (hbox.cell (p := ⟨b3, o3 + a, none⟩) hb3).trans g1
      have g4 : W0.cell? ⟨b4, o4 + b, none⟩ = some (.int .i64 ((cs.getD a []).getD b 0)) := (hbox.cell (p := ⟨b4, o4 + b, none⟩) hb4).trans (hc4 b hlb)
      clear hc4 g1
      generalize (cs.getD a []).getD b 0 = z at *
      go_wp2_with fail
      refine (find_any _ is i _ n2).mono ?_
      rw [HF2.out]
      rintro e w' ⟨rfl, rfl⟩
      go_wp2_with fail
      go_ret2
      exact ⟨by rw [HR.out]; rfl, hbox⟩
end Go.Proofs.Ytgdngopemlajjaa
