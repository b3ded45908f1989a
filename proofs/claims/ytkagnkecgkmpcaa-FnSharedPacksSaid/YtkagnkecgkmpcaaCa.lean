/- What the nodes hold after an hour: the walks. -/
import Derived.Test.YtkagnkecgkmpcaaOf
import Derived.Deep.RegionHeld3
namespace Go.Proofs.Ytkagnkecgkmpcaa
set_option linter.unusedVariables false
set_option linter.unusedSimpArgs false
open Go.RowKit
theorem cur_get {nx ln : List Int} {k : Nat} {a : Int} (hk : k ≤ nx.length) (h : ln[k]? = some a) : (nx.take k ++ ln.drop k)[k]? = some a := by
  rw [List.getElem?_append_right (by simp; omega)]
  simp only [List.length_take, List.getElem?_drop]
  rw [show k + (k - min k nx.length) = k by omega]; exact h
theorem cur_step {nx ln : List Int} {k : Nat} {b : Int} (hk : k < nx.length) (hl : nx.length = ln.length) (h : nx[k]? = some b) : (nx.take k ++ ln.drop k).set k b = nx.take (k + 1) ++ ln.drop (k + 1) := by
  obtain ⟨h1, rfl⟩ := List.getElem?_eq_some_iff.1 h
  rw [List.set_append_right _ _ (by simp; omega)]
  have e : k - (nx.take k).length = 0 := by simp; omega
  rw [e, List.drop_eq_getElem_cons (show k < ln.length by omega), List.set_cons_zero, List.take_succ_eq_append_getElem h1, List.append_assoc]; rfl
theorem buf_now {n : Nat} {ll lh ln : List Int} (h : BufOk n ll lh ln) : ∀ y ∈ ln, 0 ≤ y ∧ y ≤ 1000000000 := by
  intro y hy
  obtain ⟨i, hi⟩ := List.getElem?_of_mem hy
  have hlt := (List.getElem?_eq_some_iff.1 hi).1
  obtain ⟨a, ha⟩ := get_some (l := ll) (k := i) (by rw [h.l1, ← h.l3]; exact hlt)
  obtain ⟨b, hb⟩ := get_some (l := lh) (k := i) (by rw [h.l2, ← h.l3]; exact hlt)
  have := h.el i a b y ha hb hi
  omega
end Go.Proofs.Ytkagnkecgkmpcaa
