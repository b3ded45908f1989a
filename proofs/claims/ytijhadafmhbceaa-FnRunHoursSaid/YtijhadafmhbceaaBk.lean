/- Books of contracts: their checks and codes. -/
import Derived.Test.YtijhadafmhbceaaCt2
namespace Go.Proofs.Ytijhadafmhbceaa
set_option linter.unusedVariables false
set_option linter.unusedSimpArgs false
open Go.RowKit

def ctrsB (n : Int) : List Ctr → Bool
  | [] => true
  | x :: l => ctrB x n && ctrsB n l
theorem ctrsB_all {n : Int} : ∀ {l : List Ctr}, ctrsB n l = true ↔ ∀ x ∈ l, ctrB x n = true
  | [] => by simp [ctrsB]
  | x :: l => by simp [ctrsB, ctrsB_all (l := l)]
def bookB (l : List Ctr) (n : Int) : Bool := decide (l.length ≤ 32) && ctrsB n l
noncomputable def bookC (N : Net) (l : List Ctr) : Int := if netB N = false then 1 else if bookB l N.nodes.length = false then 3 else 0
def cIdxF (n : Int) : List Ctr → Nat → Int
  | [], _ => -1
  | x :: l, k => if ctrB x n = true then cIdxF n l (k + 1) else (k : Int)
theorem cIdxF_neg (n : Int) : ∀ (l : List Ctr) (k : Nat), 0 ≤ cIdxF n l k ↔ ctrsB n l = false
  | [], k => by simp [cIdxF, ctrsB]
  | x :: l, k => by
    have := cIdxF_neg n l (k + 1)
    simp only [cIdxF, ctrsB]
    cases h : ctrB x n <;> simp [this]
theorem cIdxF_bd (n : Int) : ∀ (l : List Ctr) (k : Nat), -1 ≤ cIdxF n l k ∧ cIdxF n l k < k + l.length ∨ cIdxF n l k = -1
  | [], k => by simp [cIdxF]
  | x :: l, k => by
    have := cIdxF_bd n l (k + 1)
    simp only [cIdxF, List.length_cons]
    split <;> omega

end Go.Proofs.Ytijhadafmhbceaa
