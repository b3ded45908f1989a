/- Flow lists and supplies; limits of pipes. -/
import Derived.Test.YtkagnkecgkmpcaaCt1
import Derived.Test.YtkagnkecgkmpcaaSu
namespace Go.Proofs.Ytkagnkecgkmpcaa
set_option linter.unusedVariables false
set_option linter.unusedSimpArgs false
open Go.RowKit
def listB (m : Nat) (l : List Int) : Bool := decide (l.length = m) && allB (-30000) 30000 l
theorem listB_of {m : Nat} {l : List Int} (h : listB m l = true) : l.length = m ∧ ∀ x ∈ l, -30000 ≤ x ∧ x ≤ 30000 := by
  simp [listB] at h; exact ⟨h.1, allB_iff.1 h.2⟩
theorem lenB (a b : Nat) : ((a : Int) == (b : Int)) = decide (a = b) := by
  by_cases h : a = b
  · simp [h]
  · have : ¬ (a : Int) = b := by omega
    simp [h, this]
noncomputable def flowC (N : Net) (fl : List Int) : Int := if netB N = false then 1 else if listB N.pipes.length fl = false then 3 else 0
def KeepOk (ps : List Pp) (fl : List Int) : Prop := ∀ (i : Nat) (x : Int) (p : Pp), fl[i]? = some x → ps[i]? = some p → absI x ≤ p.lim
open Classical in
noncomputable def keepB (N : Net) (fl : List Int) : Bool := decide (flowC N fl = 0 ∧ KeepOk N.pipes fl)
theorem flow_of {N : Net} {fl : List Int} (h : flowC N fl = 0) : N.Ok ∧ fl.length = N.pipes.length ∧ ∀ x ∈ fl, -30000 ≤ x ∧ x ≤ 30000 := by
  unfold flowC at h
  by_cases h1 : netB N = false
  · simp [h1] at h
  · by_cases h2 : listB N.pipes.length fl = false
    · simp [h1, h2] at h
    · exact ⟨netB_ok (by simpa using h1), listB_of (by simpa using h2)⟩
end Go.Proofs.Ytkagnkecgkmpcaa
