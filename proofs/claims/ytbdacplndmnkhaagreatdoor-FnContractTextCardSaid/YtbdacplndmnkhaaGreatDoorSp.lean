/- Arrays of numbers of the call's own that are added to; checks of supplies. -/
import Derived.Test.YtbdacplndmnkhaaGreatDoorAc
namespace Go.Proofs.YtbdacplndmnkhaaGreatDoor
set_option linter.unusedVariables false
set_option linter.unusedSimpArgs false
open Go.RowKit
theorem bc {B : Nat} {w w' : World} (hb : Below B w w') {b o : Nat} {v : Value} (h : b < B) (e : w.cell? ⟨b, o, none⟩ = some v) : w'.cell? ⟨b, o, none⟩ = some v := (hb.cell (p := ⟨b, o, none⟩) h).trans e
theorem Arr.madeI (w : World) (n : Nat) (e : TypeId) : Arr (w.alloc (.cells (madeCells #[Value.int .i64 0] n) e)) w.heap.size n ((List.replicate n (0 : Int)).map iV) := by
  have hc : ∀ j, (w.alloc (.cells (madeCells #[Value.int .i64 0] n) e)).cell? ⟨w.heap.size, j, none⟩ = (List.replicate n (Value.int .i64 0))[j]? := fun j => by
    have : (w.alloc (.cells (madeCells #[Value.int .i64 0] n) e)).cell? ⟨w.heap.size, j, none⟩ = (madeCells #[Value.int .i64 0] n)[j]? := by simp
    rw [this, ← Array.getElem?_toList, toList_madeCells_one]
  refine ⟨by simp, fun j hj => ⟨⟨.int .i64 0, ?_⟩, by simp⟩, fun j v e => ?_⟩
  · rw [hc]; simp [hj]
  · rw [hc]; simpa using e
theorem make_i64 (n : Nat) (hn : n ≤ 2097152) (w : World) : (Instr.makeSlice 38 (.int .i64 (n : Int)) (.int .i64 (n : Int))).run Tryz.prog w = .ok (.slice (some ⟨w.heap.size, 0, none⟩) n n) (w.alloc (.cells (madeCells #[Value.int .i64 0] n) 2)) := by
  have := make_rule (P := Tryz.prog) info_i64 Tryz.underlying38 n hn (by omega) w
  simpa [Value.cells] using this
def addAt (l : List Int) (k : Nat) (x : Int) : List Int := match l[k]? with
  | some y => l.set k (y + x)
  | none => l
theorem addAt_len (l : List Int) (k : Nat) (x : Int) : (addAt l k x).length = l.length := by unfold addAt; split <;> simp
theorem addAt_eq {l : List Int} {k : Nat} {x y : Int} (h : l[k]? = some y) : addAt l k x = l.set k (y + x) := by simp [addAt, h]
theorem addAt_bd {l : List Int} {k : Nat} {x lo hi a b : Int} (h : ∀ y ∈ l, lo ≤ y ∧ y ≤ hi) (ha : a ≤ 0) (hb : 0 ≤ b) (h1 : a ≤ x) (h2 : x ≤ b) : ∀ y ∈ addAt l k x, lo + a ≤ y ∧ y ≤ hi + b := by
  intro y hy
  unfold addAt at hy
  split at hy
  · rename_i z hz
    have hzz := h z (List.mem_of_getElem? hz)
    rcases List.mem_or_eq_of_mem_set hy with hy | hy
    · have := h y hy; omega
    · omega
  · have := h y hy; omega
theorem Arr.addAt {w : World} {g N : Nat} {l : List Int} (h : Arr w g N (l.map iV)) {k : Nat} {x y : Int} (hk : l[k]? = some y) (hN : k < N) : Arr (w.setCell ⟨g, k, none⟩ (.int .i64 (y + x))) g N ((addAt l k x).map iV) := by
  rw [addAt_eq hk, map_set_iV]; exact h.setAt hN _
theorem MadeR.arr {w w' : World} {g n c : Nat} {l : List Int} {p : List Int × Int} (hp : p = (l, 0)) (hl : l.length = n) (hnc : n ≤ c) (h : Arr w' g n (l.map iV)) (hg : w.heap.size ≤ g) (hb : Below w.heap.size w w') : MadeR w 1 p.1.length (p.1.map iV) p.2 (.returned (.tuple #[.slice (some ⟨g, 0, none⟩) n c, .int .i64 0])) w' := by
  subst hp; subst hl
  exact ⟨_, c, rfl, hnc, by simpa using Wr.of_arr hg h, hb⟩
def supB (n : Nat) (l : List Int) : Bool := (l.length == n) && allB (-30000) 30000 l
/-- what a function that makes a list hands back -/
def MadeL (w : World) (s n : Nat) (xs : List Value) (en : Ending) (w' : World) : Prop :=
  ∃ A c, en = .returned (.slice A n c) ∧ n ≤ c ∧ Wr w.heap.size w' A (n * s) xs ∧ Below w.heap.size w w'
end Go.Proofs.YtbdacplndmnkhaaGreatDoor
