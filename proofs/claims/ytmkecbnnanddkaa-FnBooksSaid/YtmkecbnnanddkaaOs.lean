/- OrderSupplies. -/
import Derived.Test.YtmkecbnnanddkaaOs0
import Derived.Test.YtmkecbnnanddkaaOr
namespace Go.Proofs.Ytmkecbnnanddkaa
set_option linter.unusedVariables false
set_option linter.unusedSimpArgs false
open Go.RowKit
def osF : List Int → List Ord → List Int
  | acc, [] => acc
  | acc, x :: l => osF (addAt acc x.nd.toNat x.am) l
theorem osF_len : ∀ (l : List Ord) (acc : List Int), (osF acc l).length = acc.length
  | [], acc => rfl
  | x :: l, acc => by rw [osF, osF_len l, addAt_len]
noncomputable def osR (N : Net) (lo : List Ord) : List Int × Int :=
  if ordC N lo ≠ 0 then ([], ordC N lo) else if supB N.nodes.length (osF (List.replicate N.nodes.length 0) lo) = false then ([], 7) else (osF (List.replicate N.nodes.length 0) lo, 0)
theorem osR_len {N : Net} {lo : List Ord} : (osR N lo).1.length ≤ 1048576 := by
  unfold osR; split
  · simp
  · rename_i h
    have := (ord_of (by simpa using h)).1.n2
    split
    · simp
    · simp [osF_len]; omega
end Go.Proofs.Ytmkecbnnanddkaa
