/- What functions that make lists hand back. -/
import Derived.Test.YtbkeijhlobdkeaaSp
namespace Go.Proofs.Ytbkeijhlobdkeaa
set_option linter.unusedVariables false
set_option linter.unusedSimpArgs false
open Go.RowKit
theorem MadeL.arr {w w' : World} {g n c : Nat} {l : List Int} (hl : l.length = n) (hnc : n ≤ c) (h : Arr w' g n (l.map iV)) (hg : w.heap.size ≤ g) (hb : Below w.heap.size w w') : MadeL w 1 n (l.map iV) (.returned (.slice (some ⟨g, 0, none⟩) n c)) w' := by
  subst hl
  exact ⟨_, c, rfl, hnc, by simpa using Wr.of_arr hg h, hb⟩
theorem MadeR.ofWr {w w' : World} {A : Option Addr} {n c : Nat} {l : List Int} {p : List Int × Int} (hp : p = (l, 0)) (hl : l.length = n) (hnc : n ≤ c) (h : Wr w.heap.size w' A (n * 1) (l.map iV)) (hb : Below w.heap.size w w') : MadeR w 1 p.1.length (p.1.map iV) p.2 (.returned (.tuple #[.slice A n c, .int .i64 0])) w' := by
  subst hp; subst hl
  exact ⟨_, c, rfl, hnc, h, hb⟩
end Go.Proofs.Ytbkeijhlobdkeaa
