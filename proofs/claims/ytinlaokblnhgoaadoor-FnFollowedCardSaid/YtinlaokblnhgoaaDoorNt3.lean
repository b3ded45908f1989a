/- A network's check, in the program and in the reference. -/
import Derived.Test.YtinlaokblnhgoaaDoorNt2
namespace Go.Proofs.YtinlaokblnhgoaaDoor
set_option linter.unusedVariables false
set_option linter.unusedSimpArgs false
open Go.RowKit

def OkAt (l : List Nd) (i : Nat) : Prop := ∀ x, l[i]? = some x → nodeB x = true ∧ ∀ j y, j < i → l[j]? = some y → y.name.toList ≠ x.name.toList
structure Net.Ok (N : Net) : Prop where
  n1 : 1 ≤ N.nodes.length
  n2 : N.nodes.length ≤ 24
  p1 : N.pipes.length ≤ 40
  nodes : ∀ i, i < N.nodes.length → OkAt N.nodes i
  pipes : ∀ p ∈ N.pipes, pipeB p N.nodes.length = true
open Classical in
noncomputable def netB (N : Net) : Bool := decide N.Ok
theorem netB_t {N : Net} (h : N.Ok) : netB N = true := by simp [netB, h]
theorem netB_f {N : Net} (h : ¬ N.Ok) : netB N = false := by simp [netB, h]
theorem netB_ok {N : Net} (h : netB N = true) : N.Ok := by simpa [netB] using h

/-- a network in memory -/
structure NetAt (w : World) (A B : Option Addr) (N : Net) : Prop where
  nodes : Rd w A (N.nodes.flatMap Nd.cells)
  pipes : Rd w B (N.pipes.flatMap Pp.cells)
  ln : N.nodes.length ≤ 1048576
  lp : N.pipes.length ≤ 1048576
  nm : ∀ x ∈ N.nodes, x.name.size ≤ 9223372036854775807
theorem NetAt.below {w w' : World} {A B : Option Addr} {N : Net} (h : NetAt w A B N) (hb : Below w.heap.size w w') : NetAt w' A B N :=
  ⟨h.nodes.below hb, h.pipes.below hb, h.ln, h.lp, h.nm⟩

theorem mem_take {α : Type} {l : List α} {k : Nat} {y : α} : y ∈ l.take k ↔ ∃ j, j < k ∧ l[j]? = some y := by
  rw [List.mem_iff_getElem?]
  constructor
  · rintro ⟨j, hj⟩
    rw [List.getElem?_take] at hj
    split at hj
    · exact ⟨j, by assumption, hj⟩
    · cases hj
  · rintro ⟨j, hj, e⟩
    exact ⟨j, by rw [List.getElem?_take, if_pos hj]; exact e⟩

end Go.Proofs.YtinlaokblnhgoaaDoor
