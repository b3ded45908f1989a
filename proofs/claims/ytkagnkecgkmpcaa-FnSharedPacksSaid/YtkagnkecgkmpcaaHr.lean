/- Hours: their checks. -/
import Derived.Test.YtkagnkecgkmpcaaCp
import Derived.Test.YtkagnkecgkmpcaaBf
import Derived.Test.YtkagnkecgkmpcaaFl
namespace Go.Proofs.Ytkagnkecgkmpcaa
set_option linter.unusedVariables false
set_option linter.unusedSimpArgs false
open Go.RowKit
structure Hr where
  A : Option Addr
  B : Option Addr
  c : Nat
  d : Nat
  fl : List Int
  su : List Int
abbrev Hr.val (x : Hr) : Value := .agg #[.slice x.A x.fl.length x.c, .slice x.B x.su.length x.d]
def Hr.cells (x : Hr) : List Value := [.slice x.A x.fl.length x.c, .slice x.B x.su.length x.d]
theorem Hr.len (x : Hr) : x.cells.length = 2 := rfl
structure HrAt (w : World) (x : Hr) : Prop where
  r1 : Rd w x.A (x.fl.map iV)
  r2 : Rd w x.B (x.su.map iV)
  s1 : x.fl.length ≤ 1048576
  s2 : x.su.length ≤ 1048576
theorem HrAt.below {w w' : World} {x : Hr} (h : HrAt w x) (hb : Below w.heap.size w w') : HrAt w' x := ⟨h.r1.below hb, h.r2.below hb, h.s1, h.s2⟩
def hrB (m n : Nat) (x : Hr) : Bool := listB m x.fl && supB n x.su
def hrsF (m n : Nat) : List Hr → Bool
  | [] => true
  | x :: l => hrB m n x && hrsF m n l
theorem hrsF_all {m n : Nat} : ∀ {l : List Hr}, hrsF m n l = true ↔ ∀ x ∈ l, hrB m n x = true
  | [] => by simp [hrsF]
  | x :: l => by simp [hrsF, hrsF_all (l := l)]
theorem supB_of {n : Nat} {l : List Int} (h : supB n l = true) : l.length = n ∧ ∀ x ∈ l, -30000 ≤ x ∧ x ≤ 30000 := by
  simp [supB] at h; exact ⟨h.1, allB_iff.1 h.2⟩
theorem hrB_of {m n : Nat} {x : Hr} (h : hrB m n x = true) : (x.fl.length = m ∧ ∀ y ∈ x.fl, -30000 ≤ y ∧ y ≤ 30000) ∧ (x.su.length = n ∧ ∀ y ∈ x.su, -30000 ≤ y ∧ y ≤ 30000) := by
  simp only [hrB, Bool.and_eq_true] at h; exact ⟨listB_of h.1, supB_of h.2⟩
noncomputable def hrsC (N : Net) (ll lh ln : List Int) (hs : List Hr) : Int := if bufC N ll lh ln ≠ 0 then bufC N ll lh ln else if hrsF N.pipes.length N.nodes.length hs = false then 2 else 0
noncomputable def hrC (N : Net) (ll lh ln : List Int) (x : Hr) : Int := if bufC N ll lh ln ≠ 0 then bufC N ll lh ln else if hrB N.pipes.length N.nodes.length x = false then 2 else 0
theorem hrsC_one (N : Net) (ll lh ln : List Int) (x : Hr) : hrsC N ll lh ln [x] = hrC N ll lh ln x := by simp [hrsC, hrC, hrsF]
theorem hrC_of {N : Net} {ll lh ln : List Int} {x : Hr} (h : hrC N ll lh ln x = 0) : bufC N ll lh ln = 0 ∧ hrB N.pipes.length N.nodes.length x = true := by
  unfold hrC at h
  by_cases h1 : bufC N ll lh ln = 0
  · simp only [h1, ne_eq, not_true, if_false] at h
    cases h2 : hrB N.pipes.length N.nodes.length x
    · simp [h2] at h
    · exact ⟨h1, rfl⟩
  · simp [h1] at h
end Go.Proofs.Ytkagnkecgkmpcaa
