/- impl.nodeIndex and its closure: the first node with a name. -/
import Derived.Test.YtinlaokblnhgoaaDoorNt1
namespace Go.Proofs.YtinlaokblnhgoaaDoor
set_option linter.unusedVariables false
set_option linter.unusedSimpArgs false
open Go.RowKit

theorem drop_cons {α : Type} {l : List α} {k : Nat} {x : α} (h : l[k]? = some x) : l.drop k = x :: l.drop (k + 1) := by
  obtain ⟨hk, rfl⟩ := List.getElem?_eq_some_iff.1 h
  exact List.drop_eq_getElem_cons hk
theorem drop_end {α : Type} {l : List α} {k : Nat} (h : ¬ k < l.length) : l.drop k = [] := List.drop_eq_nil_of_le (by omega)

def nIdxF (nm : ByteArray) : List Nd → Nat → Int
  | [], _ => -1
  | x :: l, k => if x.name.toList == nm.toList then (k : Int) else nIdxF nm l (k + 1)
theorem nIdxF_pos (nm : ByteArray) : ∀ (l : List Nd) (k : Nat), 0 ≤ nIdxF nm l k ↔ ∃ x ∈ l, x.name.toList = nm.toList
  | [], k => by simp [nIdxF]
  | x :: l, k => by
    have := nIdxF_pos nm l (k + 1)
    simp only [nIdxF]
    by_cases h : x.name.toList = nm.toList
    · simp [h]
    · have hb : (x.name.toList == nm.toList) = false := by simpa using h
      rw [hb]; simp [this, h]
theorem nIdxF_bd (nm : ByteArray) : ∀ (l : List Nd) (k : Nat), -1 ≤ nIdxF nm l k ∧ nIdxF nm l k < k + l.length ∨ nIdxF nm l k = -1
  | [], k => by simp [nIdxF]
  | x :: l, k => by
    have := nIdxF_bd nm l (k + 1)
    simp only [nIdxF, List.length_cons]
    split <;> omega

end Go.Proofs.YtinlaokblnhgoaaDoor
