/- The walks of whole, Near (package examboardref18). -/
import Derived.Test.YtdmjgildgjpmcaaRf9
namespace Go.Proofs.Ytdmjgildgjpmcaa
open Go.RowKit
set_option linter.unusedVariables false
set_option maxRecDepth 100000

set_option maxHeartbeats 8000000 in
theorem rwhole_any (x : Int) (w : World) (h1 : -9223372036854775808 ≤ x) (h2 : x ≤ 9223372036854775807) :
    Calls Try.prog 35 #[.int .i64 x] w fun e w' => ∃ v, e = .returned v ∧ RatF w.heap.size w' v x 1 2 ∧ Below w.heap.size w w' := by
  obtain ⟨W0, hW0⟩ : ∃ W0 : World, W0 = w.alloc (.cells #[.bool false, .slice none 0 0, .slice none 0 0] 42) := ⟨_, rfl⟩
  have r0 : Row W0 w.heap.size 42 [.bool false, .slice none 0 0, .slice none 0 0] := by
    rw [hW0]
    have := Row.new w 42 [.bool false, .slice none 0 0, .slice none 0 0]
    simpa using this
  have B0 : Below w.heap.size w W0 := by rw [hW0]; exact ((Below.refl _ _).alloc (Nat.le_refl _) _)
  go_enter Try.func35, Try.ntmps35
  go_wp2_with fail
  rw [← hW0]
  clear hW0
  have BB := B0
  have hr2 := r0
  clear B0 r0
  refine (r3of_any x 1 _ (by omega) (by omega) (by decide) (by decide)).mono ?_
  have yyr := hr2.lt
  rintro e x1 ⟨v3, rfl, hv3, hb⟩
  replace hr2 := hr2.keep hb
  replace BB : Below w.heap.size w x1 := BB.trans (hb.mono BB.size)
  clear hb
  rw [show (1 : Int).toNat = 1 from rfl, (redQ_one x).1, (redQ_one x).2] at hv3
  obtain ⟨m3, d3, e3, hm3, hd3, _, _⟩ := id hv3
  subst e3
  obtain ⟨A3, k3, c3, rfl⟩ := hm3.lim1.choose_spec.1.show_
  obtain ⟨D3, l3, b3, rfl⟩ := hd3.lim1.choose_spec.1.show_
  clear hm3 hd3
  have hl := lit_below x1 (.cells #[.bool (decide (x < 0)), .slice A3 k3 c3, .slice D3 l3 b3] 42)
  have q2 := hr2.keep hl
  have c20 : (x1.alloc (.cells #[.bool (decide (x < 0)), .slice A3 k3 c3, .slice D3 l3 b3] 42)).cell? ⟨w.heap.size, 0, none⟩ = some (.bool false) := q2.cell 0
  have f20 : (x1.alloc (.cells #[.bool (decide (x < 0)), .slice A3 k3 c3, .slice D3 l3 b3] 42)).frozen? ⟨w.heap.size, 0, none⟩ = false := q2.frozen 0
  have c21 : (x1.alloc (.cells #[.bool (decide (x < 0)), .slice A3 k3 c3, .slice D3 l3 b3] 42)).cell? ⟨w.heap.size, 1, none⟩ = some (.slice none 0 0) := q2.cell 1
  have f21 : (x1.alloc (.cells #[.bool (decide (x < 0)), .slice A3 k3 c3, .slice D3 l3 b3] 42)).frozen? ⟨w.heap.size, 1, none⟩ = false := q2.frozen 1
  have c22 : (x1.alloc (.cells #[.bool (decide (x < 0)), .slice A3 k3 c3, .slice D3 l3 b3] 42)).cell? ⟨w.heap.size, 2, none⟩ = some (.slice none 0 0) := q2.cell 2
  have f22 : (x1.alloc (.cells #[.bool (decide (x < 0)), .slice A3 k3 c3, .slice D3 l3 b3] 42)).frozen? ⟨w.heap.size, 2, none⟩ = false := q2.frozen 2
  have z2 := q2.lt
  clear q2
  replace BB := BB.trans (hl.mono BB.size)
  replace hv3 := hv3.below hl
  clear hl
  go_wp2_with fail
  refine bodyPost_ret (v := .agg #[.bool (decide (x < 0)), .slice A3 k3 c3, .slice D3 l3 b3]) (by simp [results, Try.results35, go_sem, c20, c21, c22]) rfl ⟨_, rfl, ?_, (((BB).setCell (by simp <;> omega) _).setCell (by simp <;> omega) _).setCell (by simp <;> omega) _⟩
  exact (((hv3.set_ (a := ⟨w.heap.size, 0, none⟩) yyr _).set_ (a := ⟨w.heap.size, 1, none⟩) yyr _).set_ (a := ⟨w.heap.size, 2, none⟩) yyr _).base (by omega)
end Go.Proofs.Ytdmjgildgjpmcaa
