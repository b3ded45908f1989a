/- NominatedFor. -/
import Derived.Test.YtbpaghlgdgegcaaAm
import Derived.Test.YtbpaghlgdgegcaaBw
namespace Go.Proofs.Ytbpaghlgdgegcaa
set_option linter.unusedVariables false
set_option linter.unusedSimpArgs false
open Go.RowKit
theorem hisF_append (con hr : Int) : ∀ (a b : List Nom), hisF con hr (a ++ b) = hisF con hr a ++ hisF con hr b
  | [], b => by simp [hisF]
  | x :: a, b => by
    rw [List.cons_append, hisF, hisF, hisF_append con hr a b]
    split <;> simp
theorem hisF_none {con hr : Int} : ∀ {l : List Nom}, (∀ x ∈ l, mtB con hr x = false) → hisF con hr l = []
  | [], _ => rfl
  | x :: l, h => by
    have h1 := h x (by simp)
    rw [hisF, hisF_none (fun y hy => h y (by simp [hy]))]
    simp only [mtB] at h1
    rw [h1]; rfl
theorem last_his {con hr : Int} {ls : List Nom} {r : Int} (h : LastP con hr ls r) : (r = -1 ∧ hisF con hr ls = []) ∨ ∃ (k : Nat) (x : Nom), r = k ∧ ls[k]? = some x ∧ ∃ pre, hisF con hr ls = pre ++ [x.am] := by
  rcases h with ⟨rfl, hn⟩ | ⟨k, x, rfl, hx, hm, hj⟩
  · exact .inl ⟨rfl, hisF_none hn⟩
  · refine .inr ⟨k, x, rfl, hx, hisF con hr (ls.take k), ?_⟩
    have e : ls = ls.take k ++ (x :: ls.drop (k + 1)) := by rw [← drop_consI hx, List.take_append_drop]
    have e2 : hisF con hr (ls.drop (k + 1)) = [] := hisF_none (fun y hy => by
      obtain ⟨i, hi⟩ := List.getElem?_of_mem hy
      rw [List.getElem?_drop] at hi
      exact hj (k + 1 + i) y (by omega) hi)
    conv => lhs; rw [e]
    rw [hisF_append, hisF, e2]
    simp only [mtB] at hm
    rw [hm]; rfl
noncomputable def nfR (N : Net) (lb : List Ctr) (ln : List Nom) (con hr : Int) : Int × Int :=
  if askC N lb ln con hr ≠ 0 then (0, askC N lb ln con hr) else match (hisF con hr ln).getLast? with
    | none => (0, 4)
    | some a => (a, 0)
theorem nfR_nil {N : Net} {lb : List Ctr} {ln : List Nom} {con hr : Int} (h : askC N lb ln con hr = 0) (hh : hisF con hr ln = []) : nfR N lb ln con hr = (0, 4) := by simp [nfR, h, hh]
theorem nfR_some {N : Net} {lb : List Ctr} {ln : List Nom} {con hr a : Int} {pre : List Int} (h : askC N lb ln con hr = 0) (hh : hisF con hr ln = pre ++ [a]) : nfR N lb ln con hr = (a, 0) := by simp [nfR, h, hh]
end Go.Proofs.Ytbpaghlgdgegcaa
