/- ActiveContracts: the contracts of a shipper that hold in an hour. -/
import Derived.Test.YtijhadafmhbceaaNm
import Derived.Test.YtijhadafmhbceaaMk
import Derived.Test.YtijhadafmhbceaaSu
namespace Go.Proofs.Ytijhadafmhbceaa
set_option linter.unusedVariables false
set_option linter.unusedSimpArgs false
open Go.RowKit
theorem Wr.lower {base base' : Nat} {w : World} {A : Option Addr} {N : Nat} {xs : List Value} (h : Wr base w A N xs) (hb : base' ≤ base) : Wr base' w A N xs :=
  ⟨h.1, fun hN => by obtain ⟨g, e, hg, ha⟩ := h.2.1 hN; exact ⟨g, e, by omega, ha⟩, fun b off e => ⟨by have := (h.2.2 b off e).1; omega, (h.2.2 b off e).2⟩⟩
theorem MadeR.nil {w w' : World} {code c : Int} {s : Nat} {p : List Int × Int} (hp : p = ([], c)) (hc : code = c) (hb : Below w.heap.size w w') : MadeR w s p.1.length (p.1.map iV) p.2 (.returned (.tuple #[.slice none 0 0, .int .i64 code])) w' := by
  subst hp; subst hc
  exact ⟨none, 0, rfl, Nat.le_refl _, by simpa using Wr.nil w.heap.size w', hb⟩
theorem MadeR.own {w w' : World} {e : TypeId} {base : Nat} {v : Value} {l : List Int} {p : List Int × Int} (hp : p = (l, 0)) (h : Own w' base e 1 v l.length (l.map iV)) (hb0 : w.heap.size ≤ base) (hb : Below w.heap.size w w') : MadeR w 1 p.1.length (p.1.map iV) p.2 (.returned (.tuple #[v, .int .i64 0])) w' := by
  subst hp
  obtain ⟨B, c, rfl, hnc, hw⟩ := h.lt_
  exact ⟨B, c, rfl, hnc, hw.lower hb0, hb⟩
theorem _root_.Go.Calls.made {P : Program} {f : FuncId} {args : Array Value} {w : World} {s : Nat} {p : List Int × Int} {RL : List Int} {RC : Int} (h : Calls P f args w (MadeR w s p.1.length (p.1.map iV) p.2)) (hp : p = (RL, RC)) : Calls P f args w (MadeR w s RL.length (RL.map iV) RC) := by subst hp; exact h
theorem Arr.setAt {w : World} {g N : Nat} {xs : List Value} (h : Arr w g N xs) {i : Nat} (hN : i < N) (v : Value) : Arr (w.setCell ⟨g, i, none⟩ v) g N (xs.set i v) := by
  obtain ⟨u, hu⟩ := h.some_ hN
  refine ⟨by rw [show (w.setCell ⟨g, i, none⟩ v).heap.size = w.heap.size by simp [World.setCell]]; exact h.1, fun j hj => ⟨?_, by simp [h.free hj]⟩, fun j x e => ?_⟩
  · by_cases hji : j = i
    · subst hji; exact ⟨v, World.cell?_setCell_same _ _ _ hu⟩
    · obtain ⟨y, hy⟩ := h.some_ hj
      exact ⟨y, (World.cell?_setCell_other _ _ _ _ (by intro e; injection e; omega)).trans hy⟩
  · by_cases hji : j = i
    · subst hji
      rw [List.getElem?_set_self'] at e
      cases hx : xs[j]? with
      | none => rw [hx] at e; cases e
      | some y => rw [hx] at e; simp at e; subst e; exact World.cell?_setCell_same _ _ _ hu
    · rw [List.getElem?_set_ne (by omega)] at e
      exact (World.cell?_setCell_other _ _ _ _ (by intro e; injection e; omega)).trans (h.cell e)
theorem map_set_iV (l : List Int) (i : Nat) (x : Int) : (l.set i x).map iV = (l.map iV).set i (iV x) := by rw [List.map_set]
theorem ints_cell {w : World} {g N : Nat} {l : List Int} (h : Arr w g N (l.map iV)) {k : Nat} {n : Int} (hk : l[k]? = some n) : w.cell? ⟨g, k, none⟩ = some (.int .i64 n) :=
  h.cell (by rw [List.getElem?_map, hk]; rfl)
def actF (sh hr : Int) : Nat → List Ctr → List Int
  | _, [] => []
  | k, x :: l => if ((x.sh == sh) && inB hr x.fr x.to) = true then (k : Int) :: actF sh hr (k + 1) l else actF sh hr (k + 1) l
theorem actF_len (sh hr : Int) : ∀ (l : List Ctr) (k : Nat), (actF sh hr k l).length ≤ l.length
  | [], k => by simp [actF]
  | x :: l, k => by
    have := actF_len sh hr l (k + 1)
    unfold actF; split <;> simp <;> omega
noncomputable def actR (N : Net) (lb : List Ctr) (sh hr : Int) : List Int × Int :=
  if bookC N lb ≠ 0 then ([], bookC N lb) else if inB sh 0 15 = false then ([], 2) else if inB hr 0 47 = false then ([], 2) else (actF sh hr 0 lb, 0)
theorem actR_len {N : Net} {lb : List Ctr} {sh hr : Int} : (actR N lb sh hr).1.length ≤ 1048576 := by
  have := actF_len sh hr lb 0
  unfold actR; split
  · simp
  · rename_i h
    have := (book_of (by simpa using h)).2.1
    split
    · simp
    · split
      · simp
      · simp; omega
end Go.Proofs.Ytijhadafmhbceaa
