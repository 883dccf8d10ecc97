/- Start and All, uniformly; PosteriorAll. -/
import Derived.Test.YtfoleamcaflfeaaDoorPoS
namespace Go.Proofs.YtfoleamcaflfeaaDoor
open Go.RowKit
set_option linter.unusedVariables false

/-- The weights that Start returns. -/
def stF (ps rs : List Int) : List Nat := if gridE ps rs = 0 then natsOf rs else []
/-- The weights that All returns. -/
def allW (ps rs : List Int) (ms : List Mdl) (ks : List Int) : List Nat := if postE ps rs ms ks = 0 then allF (natsOf rs) (ms.zip ks) else []
theorem start_u (pv rv : Value) (ps rs : List Int) (w : World) (hp : Nums .i64 w pv ps) (hr : Nums .i64 w rv rs) :
    Calls Tryd.prog 67 #[.agg #[pv, rv]] w fun e w' => ∃ A n c, e = .returned (.tuple #[.slice A n c, .int .i64 (gridE ps rs)]) ∧ CanL w' (.slice A n c) (stF ps rs) 2 ∧ Below w.heap.size w w' := by
  unfold stF
  by_cases h : gridE ps rs = 0
  · rw [if_pos h]
    refine (start_yes pv rv ps rs w hp hr h).mono fun e w' ⟨v, he, hv, hb⟩ => ?_
    obtain ⟨A, c, us, rfl, _⟩ := id hv
    exact ⟨_, _, _, by rw [he, h], hv, hb⟩
  · rw [if_neg h]
    exact (start_no pv rv ps rs w hp hr h).mono fun e w' ⟨he, hb⟩ => ⟨_, _, _, he, CanL.nil _ _, hb⟩
theorem all_u (pv rv mv kv : Value) (ps rs : List Int) (ms : List Mdl) (ks : List Int) (w : World) (hp : Nums .i64 w pv ps) (hr : Nums .i64 w rv rs) (hm : ModL w mv ms) (hk : Nums .i64 w kv ks) :
    Calls Tryd.prog 51 #[.agg #[pv, rv], mv, kv] w fun e w' => ∃ A n c, e = .returned (.tuple #[.slice A n c, .int .i64 (postE ps rs ms ks)]) ∧ CanL w' (.slice A n c) (allW ps rs ms ks) (2 + 2 * ms.length) ∧ Below w.heap.size w w' := by
  unfold allW
  refine (all_any pv rv mv kv ps rs ms ks w hp hr hm hk).mono fun e w' h => ?_
  rcases h with ⟨h, v, he, hv, hb⟩ | ⟨h, he, hb⟩
  · rw [if_pos h]
    obtain ⟨A, c, us, rfl, _⟩ := id hv
    exact ⟨_, _, _, by rw [he, h], hv, hb⟩
  · rw [if_neg h]
    exact ⟨_, _, _, he, CanL.nil _ _, hb⟩
theorem rstart_u (pv rv : Value) (ps rs : List Int) (w : World) (hp : Nums .i64 w pv ps) (hr : Nums .i64 w rv rs) :
    Calls Tryd.prog 69 #[.agg #[pv, rv]] w fun e w' => ∃ A n c, e = .returned (.tuple #[.slice A n c, .int .i64 (gridE ps rs)]) ∧ CanL w' (.slice A n c) (stF ps rs) 2 ∧ Below w.heap.size w w' := by
  unfold stF
  by_cases h : gridE ps rs = 0
  · rw [if_pos h]
    refine (rstart_yes pv rv ps rs w hp hr h).mono fun e w' ⟨v, he, hv, hb⟩ => ?_
    obtain ⟨A, c, us, rfl, _⟩ := id hv
    exact ⟨_, _, _, by rw [he, h], hv, hb⟩
  · rw [if_neg h]
    exact (rstart_no pv rv ps rs w hp hr h).mono fun e w' ⟨he, hb⟩ => ⟨_, _, _, he, CanL.nil _ _, hb⟩
theorem rall_u (pv rv mv kv : Value) (ps rs : List Int) (ms : List Mdl) (ks : List Int) (w : World) (hp : Nums .i64 w pv ps) (hr : Nums .i64 w rv rs) (hm : ModL w mv ms) (hk : Nums .i64 w kv ks) :
    Calls Tryd.prog 53 #[.agg #[pv, rv], mv, kv] w fun e w' => ∃ A n c, e = .returned (.tuple #[.slice A n c, .int .i64 (postE ps rs ms ks)]) ∧ CanL w' (.slice A n c) (allW ps rs ms ks) (2 + 2 * ms.length) ∧ Below w.heap.size w w' := by
  unfold allW
  refine (rall_any pv rv mv kv ps rs ms ks w hp hr hm hk).mono fun e w' h => ?_
  rcases h with ⟨h, v, he, hv, hb⟩ | ⟨h, he, hb⟩
  · rw [if_pos h]
    obtain ⟨A, c, us, rfl, _⟩ := id hv
    exact ⟨_, _, _, by rw [he, h], hv, hb⟩
  · rw [if_neg h]
    exact ⟨_, _, _, he, CanL.nil _ _, hb⟩

end Go.Proofs.YtfoleamcaflfeaaDoor
