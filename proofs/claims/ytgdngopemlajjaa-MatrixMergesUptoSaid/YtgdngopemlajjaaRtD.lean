/- The walk of the reference's union: the loop's first form (under way). -/
import Derived.Test.YtgdngopemlajjaaRtC
namespace Go.Proofs.Ytgdngopemlajjaa
open Go.RowKit
set_option linter.unusedVariables false

theorem drop_at {l : List Int} {i : Nat} (h : i < l.length) : l.drop i = l.getD i 0 :: l.drop (i + 1) := by
  rw [List.drop_eq_getElem_cons h, getD_get _ _ h]
theorem uni_a {A B : List Int} {i k : Nat} (h : i < A.length) (hk : k < B.length) (hlt : A.getD i 0 < B.getD k 0) : uni (A.drop i) (B.drop k) = A.getD i 0 :: uni (A.drop (i + 1)) (B.drop k) := by
  rw [drop_at h, drop_at hk, uni_lt _ _ hlt]
theorem uni_b {A B : List Int} {i k : Nat} (h : i < A.length) (hk : k < B.length) (hlt : B.getD k 0 < A.getD i 0) : uni (A.drop i) (B.drop k) = B.getD k 0 :: uni (A.drop i) (B.drop (k + 1)) := by
  rw [drop_at h, drop_at hk, uni_gt _ _ hlt]
theorem uni_ab {A B : List Int} {i k : Nat} (h : i < A.length) (hk : k < B.length) (he : A.getD i 0 = B.getD k 0) : uni (A.drop i) (B.drop k) = A.getD i 0 :: uni (A.drop (i + 1)) (B.drop (k + 1)) := by
  rw [drop_at h, drop_at hk, uni_eq _ _ he]
theorem uni_a0 {A B : List Int} {i k : Nat} (h : i < A.length) (hk : B.length ≤ k) : uni (A.drop i) (B.drop k) = A.getD i 0 :: uni (A.drop (i + 1)) (B.drop k) := by
  rw [drop_at h, List.drop_eq_nil_of_le hk, uni_nil_right, uni_nil_right]
theorem uni_b0 {A B : List Int} {i k : Nat} (h : A.length ≤ i) (hk : k < B.length) : uni (A.drop i) (B.drop k) = B.getD k 0 :: uni (A.drop i) (B.drop (k + 1)) := by
  rw [drop_at hk, List.drop_eq_nil_of_le h, uni_nil_left, uni_nil_left]
end Go.Proofs.Ytgdngopemlajjaa
