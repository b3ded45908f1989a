import Derived.Below
import Derived.Laws.OwnMore
import Derived.Deep.Draws
import Derived.Laws.Rows
import Derived.Deep.AppendLies
import Derived.Handy
import Derived.Lib.Hide
namespace Go.Proofs.YtbdacplndmnkhaaGreatDoor
set_option linter.unusedVariables false
set_option linter.unusedSimpArgs false
open Go.RowKit

theorem Below.via {B C : Nat} {a W w1 : World} (h : Below B a W) (hb : Below C W w1) (hB : B ≤ C) : Below B a w1 := h.trans (hb.mono hB)
theorem Below.drewN' {B : Nat} {a w : World} (h : Below B a w) (n : Nat) : Below B a (w.drewN n) := ⟨h.os, h.tape, h.output, h.size, h.block⟩

def Blk (w : World) (g : Nat) (t : TypeId) (cs : Array Value) : Prop := w.heap[g]? = some (.cells cs t (0, 0))

section
variable {w w' : World} {g : Nat} {t : TypeId} {cs : Array Value}
theorem Blk.lt (h : Blk w g t cs) : g < w.heap.size := by
  rcases Nat.lt_or_ge g w.heap.size with hlt | hge
  · exact hlt
  · unfold Blk at h; rw [Array.getElem?_eq_none hge] at h; cases h
theorem Blk.cell (h : Blk w g t cs) (i : Nat) : w.cell? ⟨g, i, none⟩ = cs[i]? := cell_of_row w g i cs t (0, 0) h
theorem Blk.frozen (h : Blk w g t cs) (i : Nat) : w.frozen? ⟨g, i, none⟩ = false := by
  unfold Blk at h
  simp [World.frozen?, h]
theorem Blk.new (w : World) (t : TypeId) (cs : Array Value) : Blk (w.alloc (.cells cs t)) w.heap.size t cs := heap_alloc_new w _
theorem Blk.drew (h : Blk w g t cs) : Blk w.drew g t cs := h
theorem Blk.drewN (h : Blk w g t cs) (n : Nat) : Blk (w.drewN n) g t cs := h
theorem Blk.alloc (h : Blk w g t cs) (o : Obj) : Blk (w.alloc o) g t cs := (Below.heap_alloc w o g h.lt).trans h
theorem Blk.set_ (h : Blk w g t cs) (i : Nat) (u : Value) : Blk (w.setCell ⟨g, i, none⟩ u) g t (cs.setIfInBounds i u) := by
  unfold Blk at h ⊢
  simp [World.setCell, Array.getElem?_modify, h]
theorem Blk.set' {i : Nat} {u : Value} {cs' : Array Value} (h : Blk w g t cs) (he : cs' = cs.setIfInBounds i u) : Blk (w.setCell ⟨g, i, none⟩ u) g t cs' := he ▸ h.set_ i u
theorem Blk.far (h : Blk w g t cs) {p : Addr} (hp : g ≠ p.block) (u : Value) : Blk (w.setCell p u) g t cs := (Below.heap_setCell w p u g hp).trans h
theorem Blk.below {B : Nat} (h : Blk w g t cs) (hb : Below B w w') (hg : g < B) : Blk w' g t cs := (hb.block g hg).trans h
theorem Blk.grown {row : Option Nat} (h : Blk w g t cs) (hb : w.grownBy w' row) (hg : some g ≠ row) : Blk w' g t cs := (hb.block g h.lt hg).trans h
end

/-- a box of the call's own: its cells, none frozen -/
def Bx (w : World) (b : Nat) (cs : List Value) : Prop := b < w.heap.size ∧ ∀ k v, cs[k]? = some v → w.cell? ⟨b, k, none⟩ = some v ∧ w.frozen? ⟨b, k, none⟩ = false
theorem Bx.lt {w : World} {b : Nat} {cs : List Value} (h : Bx w b cs) : b < w.heap.size := h.1
theorem Bx.cell {w : World} {b : Nat} {cs : List Value} (h : Bx w b cs) (k : Nat) {v : Value} (e : cs[k]? = some v) : w.cell? ⟨b, k, none⟩ = some v := (h.2 k v e).1
theorem Bx.frozen {w : World} {b : Nat} {cs : List Value} (h : Bx w b cs) (k : Nat) {v : Value} (e : cs[k]? = some v) : w.frozen? ⟨b, k, none⟩ = false := (h.2 k v e).2
theorem Bx.nil {w : World} {b : Nat} (h : b < w.heap.size) : Bx w b [] := ⟨h, fun k v e => by simp at e⟩
theorem Bx.snoc {w : World} {b : Nat} {cs : List Value} (n : Nat) {v : Value} (h : Bx w b cs) (hn : cs.length = n) (hc : w.cell? ⟨b, n, none⟩ = some v) (hf : w.frozen? ⟨b, n, none⟩ = false) : Bx w b (cs ++ [v]) := by
  refine ⟨h.1, fun k u e => ?_⟩
  rcases Nat.lt_trichotomy k cs.length with hk | hk | hk
  · rw [List.getElem?_append_left hk] at e; exact h.2 k u e
  · subst hk; subst hn; simp at e; subst e; exact ⟨hc, hf⟩
  · rw [List.getElem?_eq_none (by simp; omega)] at e; cases e
theorem Bx.below {w w' : World} {b B : Nat} {cs : List Value} (h : Bx w b cs) (hb : Below B w w') (hB : b < B) : Bx w' b cs :=
  ⟨by have := h.1; have := hb.size; omega, fun k v e => ⟨(hb.cell (p := ⟨b, k, none⟩) hB).trans (h.2 k v e).1, (hb.frozen (p := ⟨b, k, none⟩) hB).trans (h.2 k v e).2⟩⟩
theorem bx1 {w : World} {b : Nat} {v0 : Value} (h : b < w.heap.size) (c0 : w.cell? ⟨b, 0, none⟩ = some v0) (f0 : w.frozen? ⟨b, 0, none⟩ = false) : Bx w b [v0] := (Bx.nil h).snoc 0 rfl c0 f0
theorem bx2 {w : World} {b : Nat} {v0 v1 : Value} (h : b < w.heap.size) (c0 : w.cell? ⟨b, 0, none⟩ = some v0) (f0 : w.frozen? ⟨b, 0, none⟩ = false) (c1 : w.cell? ⟨b, 1, none⟩ = some v1) (f1 : w.frozen? ⟨b, 1, none⟩ = false) : Bx w b [v0, v1] := (bx1 h c0 f0).snoc 1 rfl c1 f1
theorem bx3 {w : World} {b : Nat} {v0 v1 v2 : Value} (h : b < w.heap.size) (c0 : w.cell? ⟨b, 0, none⟩ = some v0) (f0 : w.frozen? ⟨b, 0, none⟩ = false) (c1 : w.cell? ⟨b, 1, none⟩ = some v1) (f1 : w.frozen? ⟨b, 1, none⟩ = false) (c2 : w.cell? ⟨b, 2, none⟩ = some v2) (f2 : w.frozen? ⟨b, 2, none⟩ = false) : Bx w b [v0, v1, v2] := (bx2 h c0 f0 c1 f1).snoc 2 rfl c2 f2
theorem bx4 {w : World} {b : Nat} {v0 v1 v2 v3 : Value} (h : b < w.heap.size) (c0 : w.cell? ⟨b, 0, none⟩ = some v0) (f0 : w.frozen? ⟨b, 0, none⟩ = false) (c1 : w.cell? ⟨b, 1, none⟩ = some v1) (f1 : w.frozen? ⟨b, 1, none⟩ = false) (c2 : w.cell? ⟨b, 2, none⟩ = some v2) (f2 : w.frozen? ⟨b, 2, none⟩ = false) (c3 : w.cell? ⟨b, 3, none⟩ = some v3) (f3 : w.frozen? ⟨b, 3, none⟩ = false) : Bx w b [v0, v1, v2, v3] := (bx3 h c0 f0 c1 f1 c2 f2).snoc 3 rfl c3 f3
theorem bx5 {w : World} {b : Nat} {v0 v1 v2 v3 v4 : Value} (h : b < w.heap.size) (c0 : w.cell? ⟨b, 0, none⟩ = some v0) (f0 : w.frozen? ⟨b, 0, none⟩ = false) (c1 : w.cell? ⟨b, 1, none⟩ = some v1) (f1 : w.frozen? ⟨b, 1, none⟩ = false) (c2 : w.cell? ⟨b, 2, none⟩ = some v2) (f2 : w.frozen? ⟨b, 2, none⟩ = false) (c3 : w.cell? ⟨b, 3, none⟩ = some v3) (f3 : w.frozen? ⟨b, 3, none⟩ = false) (c4 : w.cell? ⟨b, 4, none⟩ = some v4) (f4 : w.frozen? ⟨b, 4, none⟩ = false) : Bx w b [v0, v1, v2, v3, v4] := (bx4 h c0 f0 c1 f1 c2 f2 c3 f3).snoc 4 rfl c4 f4

theorem bcell {W w1 : World} (hb : Below W.heap.size W w1) : (∀ b o, b < W.heap.size → w1.cell? ⟨b, o, none⟩ = W.cell? ⟨b, o, none⟩) ∧ (∀ b o, b < W.heap.size → w1.frozen? ⟨b, o, none⟩ = W.frozen? ⟨b, o, none⟩) :=
  ⟨fun b o h => hb.cell (p := ⟨b, o, none⟩) h, fun b o h => hb.frozen (p := ⟨b, o, none⟩) h⟩

theorem rb {a b : Bool} (h : a = true ↔ b = true) : Ending.returned (.bool a) = .returned (.bool b) := by rw [Bool.eq_iff_iff.2 h]
theorem rbt {b : Bool} (h : b = true) : Ending.returned (.bool true) = .returned (.bool b) := by rw [h]
theorem rbf {b : Bool} (h : b = false) : Ending.returned (.bool false) = .returned (.bool b) := by rw [h]
theorem ri {a b : Int} (h : a = b) : Ending.returned (.int .i64 a) = .returned (.int .i64 b) := by rw [h]
theorem ri2 {a b c d : Int} (h : a = b) (h' : c = d) : Ending.returned (.tuple #[.int .i64 a, .int .i64 c]) = .returned (.tuple #[.int .i64 b, .int .i64 d]) := by rw [h, h']
theorem ri3 {a b c d e f : Int} (h : a = b) (h' : c = d) (h'' : e = f) : Ending.returned (.tuple #[.int .i64 a, .int .i64 c, .int .i64 e]) = .returned (.tuple #[.int .i64 b, .int .i64 d, .int .i64 f]) := by rw [h, h', h'']
end Go.Proofs.YtbdacplndmnkhaaGreatDoor
