/- Rents. -/
import Derived.Test.YtbdacplndmnkhaaGreatDoorBk
namespace Go.Proofs.YtbdacplndmnkhaaGreatDoor
set_option linter.unusedVariables false
set_option linter.unusedSimpArgs false
open Go.RowKit

theorem ctr_of {x : Ctr} {n : Int} (h : ctrB x n = true) : (0 ≤ x.sh ∧ x.sh ≤ 15) ∧ (0 ≤ x.en ∧ x.en ≤ n - 1) ∧ (0 ≤ x.ex ∧ x.ex ≤ n - 1) ∧ x.en ≠ x.ex ∧ (1 ≤ x.am ∧ x.am ≤ 30000) ∧ (0 ≤ x.cl ∧ x.cl ≤ 3) ∧ (0 ≤ x.fr ∧ x.fr ≤ x.to ∧ x.to < 48) ∧ (0 ≤ x.pr ∧ x.pr ≤ 1000000) := by
  simp [ctrB, inB] at h; omega
theorem book_of {N : Net} {l : List Ctr} (h : bookC N l = 0) : N.Ok ∧ l.length ≤ 32 ∧ ∀ x ∈ l, ctrB x N.nodes.length = true := by
  unfold bookC at h
  by_cases h1 : netB N = false
  · simp [h1] at h
  · by_cases h2 : bookB l N.nodes.length = false
    · simp [h1, h2] at h
    · have h1' : netB N = true := by simpa using h1
      have h2' : bookB l N.nodes.length = true := by simpa using h2
      simp [bookB] at h2'
      exact ⟨netB_ok h1', h2'.1, ctrsB_all.1 h2'.2⟩
theorem bookC_cases (N : Net) (l : List Ctr) : bookC N l = 0 ∨ bookC N l = 1 ∨ bookC N l = 3 := by
  unfold bookC; split <;> (try split) <;> simp
def rent1 (x : Ctr) : Int := x.am * x.pr * (x.to - x.fr + 1)
def rentF (sh : Int) : List Ctr → Int
  | [] => 0
  | x :: l => (if x.sh = sh then rent1 x else 0) + rentF sh l
noncomputable def rentR (N : Net) (l : List Ctr) (sh : Int) : Int × Int :=
  if bookC N l ≠ 0 then (0, bookC N l) else if inB sh 0 15 = false then (0, 2) else (rentF sh l, 0)
theorem rent1_bd {x : Ctr} {n : Int} (h : ctrB x n = true) : (0 ≤ x.am * x.pr ∧ x.am * x.pr ≤ 30000000000) ∧ (0 ≤ x.am * x.pr * (x.to - x.fr + 1) ∧ x.am * x.pr * (x.to - x.fr + 1) ≤ 1440000000000) := by
  have c := ctr_of h
  have h1 : 0 ≤ x.am * x.pr ∧ x.am * x.pr ≤ 30000 * 1000000 := ⟨Int.mul_nonneg (by omega) (by omega), Int.mul_le_mul (by omega) (by omega) (by omega) (by omega)⟩
  have h2 : 0 ≤ x.am * x.pr * (x.to - x.fr + 1) ∧ x.am * x.pr * (x.to - x.fr + 1) ≤ 30000000000 * 48 := ⟨Int.mul_nonneg (by omega) (by omega), Int.mul_le_mul (by omega) (by omega) (by omega) (by omega)⟩
  omega

end Go.Proofs.YtbdacplndmnkhaaGreatDoor
