/- The law FnFollowed: plain. -/
import Derived.Test.YtinlaokblnhgoaaDoorFo
import Derived.Test.YtinlaokblnhgoaaDoorTbk
namespace Go.Proofs.YtinlaokblnhgoaaDoor
set_option linter.unusedVariables false
set_option linter.unusedSimpArgs false
open Go.RowKit
theorem absI_ge (x : Int) : x ≤ absI x ∧ -x ≤ absI x := by unfold absI; split <;> omega
theorem fol_law {lo hi i o : Int} : ∀ (l : List Int) (now left : Int), storeB lo hi now i o = true →
    storeB lo hi (folF lo hi i o l now left).1 i o = true ∧ left ≤ (folF lo hi i o l now left).2 ∧ -((folF lo hi i o l now left).2 - left) ≤ (folF lo hi i o l now left).1 - now - sumF l ∧ (folF lo hi i o l now left).1 - now - sumF l ≤ (folF lo hi i o l now left).2 - left
  | [], now, left, h => by
    simp only [folF, sumF]
    exact ⟨h, by omega, by omega, by omega⟩
  | a :: l, now, left, h => by
    obtain ⟨m1, m2, m3⟩ := mv_bd (a := a) h
    obtain ⟨q1, q2, q3, q4⟩ := fol_law l (now + mvF lo hi i o now a) (left + absI (a - mvF lo hi i o now a)) m3
    have hb := absI_ge (a - mvF lo hi i o now a)
    simp only [folF, sumF]
    exact ⟨q1, by omega, by omega, by omega⟩
theorem sumF_bd : ∀ (l : List Int), (∀ x ∈ l, -1000000 ≤ x ∧ x ≤ 1000000) → -(1000000 * (l.length : Int)) ≤ sumF l ∧ sumF l ≤ 1000000 * (l.length : Int)
  | [], _ => by simp [sumF]
  | a :: l, h => by
    obtain ⟨q1, q2⟩ := sumF_bd l (fun x hx => h x (List.mem_cons_of_mem _ hx))
    obtain ⟨a1, a2⟩ := h a List.mem_cons_self
    simp only [sumF, List.length_cons]
    omega
theorem folC_of {lo hi now i o : Int} {l : List Int} (h : folC lo hi now i o l = 0) : storeB lo hi now i o = true := by
  unfold folC at h
  cases hs : storeB lo hi now i o
  · rw [if_pos hs] at h; cases h
  · rfl
/-- what the law asks of a plan that was followed -/
theorem fol_zero {lo hi now i o x0 x1 x2 x3 x4 lf : Int} {l : List Int} (h : folR lo hi now i o l = ⟨x0, x1, x2, x3, x4, lf, 0⟩) : storeB x0 x1 x2 x3 x4 = true ∧ 0 ≤ lf ∧ -lf ≤ x2 - now - sumF l ∧ x2 - now - sumF l ≤ lf ∧ storeB lo hi now i o = true := by
  unfold folR at h
  by_cases hc : folC lo hi now i o l = 0
  · rw [if_pos hc] at h
    injection h with e0 e1 e2 e3 e4 e5 e6
    subst e0 e1 e2 e3 e4 e5
    obtain ⟨a, b, c, d⟩ := fol_law l now 0 (folC_of hc)
    exact ⟨a, by omega, by omega, by omega, folC_of hc⟩
  · rw [if_neg hc] at h
    injection h with e0 e1 e2 e3 e4 e5 e6
    exact absurd e6 hc
theorem st_back {lo hi now i o : Int} (h : storeB lo hi now i o = true) : rsL (mapO rdN (spl 47 (bl (stT (lo, hi, now, i, o))))) = some ⟨lo, hi, now, i, o⟩ := by
  have hs := store_of h
  rw [show stT (lo, hi, now, i, o) = joinN [lo, hi, now, i, o] sls by simp [stT, h], joinN_split (c := 47) rfl (fun n => itoa_47), mapO_itoa (fun x hx => by
    simp only [List.mem_cons, List.not_mem_nil, or_false] at hx
    rcases hx with rfl | rfl | rfl | rfl | rfl <;> omega)]
  exact rsL_yes h
theorem st_none : rsL (mapO rdN (spl 47 (bl ⟨#[]⟩))) = none := by
  have e : rdN [] = none := by unfold rdN; rfl
  show rsL (mapO rdN [[]]) = none
  rw [mapO_none e [[]] (by simp)]
  rfl
end Go.Proofs.YtinlaokblnhgoaaDoor
