/- An hour of the law. -/
import Derived.Test.YtijhadafmhbceaaHr
namespace Go.Proofs.Ytijhadafmhbceaa
set_option linter.unusedVariables false
set_option linter.unusedSimpArgs false
open Go.RowKit
structure HouAt (w : World) (A B : Option Addr) (la lb : List Int) : Prop where
  r1 : Rd w A (la.map iV)
  r2 : Rd w B (lb.map iV)
  s1 : la.length ≤ 1048576
  s2 : lb.length ≤ 1048576
theorem HouAt.below {w w' : World} {A B : Option Addr} {la lb : List Int} (h : HouAt w A B la lb) (hb : Below w.heap.size w w') : HouAt w' A B la lb := ⟨h.r1.below hb, h.r2.below hb, h.s1, h.s2⟩
theorem HouAt.hr {w : World} {A B : Option Addr} {c d : Nat} {la lb : List Int} (h : HouAt w A B la lb) : HrAt w ⟨A, B, c, d, la, lb⟩ := ⟨h.r1, h.r2, h.s1, h.s2⟩
end Go.Proofs.Ytijhadafmhbceaa
