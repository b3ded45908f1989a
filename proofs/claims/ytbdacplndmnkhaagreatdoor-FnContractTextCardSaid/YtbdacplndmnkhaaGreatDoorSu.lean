/- Sums and checks of lists of numbers. -/
import Derived.Test.YtbdacplndmnkhaaGreatDoorNt1
import Derived.Test.YtbdacplndmnkhaaGreatDoorLI
import Derived.Test.YtbdacplndmnkhaaGreatDoorAp
namespace Go.Proofs.YtbdacplndmnkhaaGreatDoor
set_option linter.unusedVariables false
set_option linter.unusedSimpArgs false
open Go.RowKit

theorem drop_consI {α : Type} {l : List α} {k : Nat} {x : α} (h : l[k]? = some x) : l.drop k = x :: l.drop (k + 1) := by
  obtain ⟨hk, rfl⟩ := List.getElem?_eq_some_iff.1 h
  exact List.drop_eq_getElem_cons hk
theorem drop_endI {α : Type} {l : List α} {k : Nat} (h : ¬ k < l.length) : l.drop k = [] := List.drop_eq_nil_of_le (by omega)
def sumF : List Int → Int
  | [] => 0
  | x :: l => x + sumF l
def Sml (l : List Int) : Prop := ∀ x ∈ l, -1000000000000 ≤ x ∧ x ≤ 1000000000000
def allB (lo hi : Int) : List Int → Bool
  | [] => true
  | x :: l => inB x lo hi && allB lo hi l
theorem allB_iff {lo hi : Int} : ∀ {l : List Int}, allB lo hi l = true ↔ ∀ x ∈ l, lo ≤ x ∧ x ≤ hi
  | [] => by simp [allB]
  | x :: l => by simp [allB, inB_iff, allB_iff (l := l)]
end Go.Proofs.YtbdacplndmnkhaaGreatDoor
